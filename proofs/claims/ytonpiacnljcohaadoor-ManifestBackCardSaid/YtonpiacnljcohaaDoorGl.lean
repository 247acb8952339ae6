/- What the package variables hold (frame's table), kept below what a call makes. -/
import Derived.Test.YtonpiacnljcohaaDoorWWords
set_option linter.unusedVariables false
namespace Go.Proofs.YtonpiacnljcohaaDoor.PA
open Go Go.RowKit Go.Proofs.YtonpiacnljcohaaDoorW.PrintWords
def qtab : List Int := [0, 498536548, 997073096, 651767980, 1994146192, 1802195444, 1303535960, 1342533948, 3988292384, 4027552580, 3604390888, 3412177804, 2607071920, 2262029012, 2685067896, 3183342108]
structure Gl (w : World) : Prop where
  q : ∀ i : Nat, i < 16 → w.cell? ⟨0, i, none⟩ = some (.int .u32 (qtab.getD i 0))
theorem Gl.below {w w' : World} (h : Gl w) (hb : Below w.heap.size w w') : Gl w' := ⟨fun i hi => pw_cell_below hb (h.q i hi)⟩
theorem Gl.drewN {w : World} (h : Gl w) (n : Nat) : Gl (w.drewN n) := h.below (pw_below_drewN (Below.refl _ _) n)
end Go.Proofs.YtonpiacnljcohaaDoor.PA
