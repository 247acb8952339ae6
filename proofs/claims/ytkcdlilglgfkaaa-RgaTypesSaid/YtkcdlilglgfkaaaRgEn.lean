/- Rows of cells: what the laws' drawn regions hold. -/
import Derived.Test.YtkcdlilglgfkaaaRgMe
set_option linter.unusedVariables false
set_option linter.unusedSimpArgs false
namespace Go.Proofs.Ytkcdlilglgfkaaa.Rg
open Go Go.RowKit Go.Proofs.YtkcdlilglgfkaaaW.PrintWords Go.Proofs.YtkcdlilglgfkaaaW.PrintLast Go.Proofs.YtkcdlilglgfkaaaW.PrintMore Go.Proofs.Ytkcdlilglgfkaaa.PA Go.Proofs.Ytkcdlilglgfkaaa.Ar Go.Proofs.Ytkcdlilglgfkaaa.Sha
def SPr (g : Nat) (vr : Value) (ad : Addr) (j : Nat) (x : S46) (W : World) : Prop :=
  W.cell? ⟨g, 0, none⟩ = some vr ∧ ∀ (i : Nat) (y : Value), (pcells x)[i]? = some y → W.cell? ((ad.add (j * 8)).add i) = some y
/-- At the end. -/
structure En (g : Nat) (vr : Value) (gx gy : Nat) (K : List Value) (w : World) (gr gm n : Nat) (W : World) : Prop where
  pr : Pr w gr gm g n W
  bg : W.heap[g]? = some (.cells #[vr] TE (0, 0))
  bx : W.heap[gx]? = some (.cells K.toArray TI (0, 0))
  by' : W.heap[gy]? = some (.cells K.toArray TF (0, 0))
def SEn (g : Nat) (vr : Value) (gx gy : Nat) (K : List Value) (w : World) (gr gm n : Nat) (W : World) : Prop :=
  W.cell? ⟨g, 0, none⟩ = some vr ∧ W.rangeAt gx 0 K ∧ W.rangeAt gy 0 K ∧ Aside0 (En g vr gx gy K w gr gm n W)
section
variable {g gx gy gr gm n : Nat} {vr : Value} {K : List Value} {w w1 W : World}
theorem En.step (h : En g vr gx gy K w gr gm n W) (hb : Below W.heap.size W w1) : En g vr gx gy K w gr gm n w1 := ⟨h.pr.step hb, blk_below h.bg hb, blk_below h.bx hb, blk_below h.by' hb⟩
theorem sen_of (h : En g vr gx gy K w gr gm n W) : SEn g vr gx gy K w gr gm n W := ⟨(blk_cell h.bg 0).trans rfl, range_of0 h.bx, range_of0 h.by', ⟨h⟩⟩
end
end Go.Proofs.Ytkcdlilglgfkaaa.Rg
