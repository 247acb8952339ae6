/- Any kind and body make the frame that the document says. -/
import Derived.Test.YtonpiacnljcohaaDoorFrR
import Derived.Test.YtonpiacnljcohaaDoorPAx3
set_option linter.unusedVariables false
set_option linter.unusedSimpArgs false
namespace Go.Proofs.YtonpiacnljcohaaDoor.Pure
open Go Go.RowKit Go.Proofs.YtonpiacnljcohaaDoor.PA Go.Proofs.YtonpiacnljcohaaDoorW.PrintWords Go.Proofs.YtonpiacnljcohaaDoor.LebT Go.Proofs.YtonpiacnljcohaaDoor.LebP Go.Proofs.YtonpiacnljcohaaDoor.FrT
theorem FrameSeals (a0 : Int) (a1 : (List Int)) (q0 : (Lit.int .u8 a0).wf = true) (q1 : a1.length ≤ maxLen ∧ ∀ y22 ∈ a1, (Lit.int .u8 y22).wf = true) (b1 : a1.length * 1 ≤ 140737488351232) : ∃ k, PA.stemmalaw04_FrameSeals.f k a0 a1 = some true := by
  have ha := wf_u8 q0
  have hb := wf_bytes q1.2
  have hl : a1.length ≤ 140737488351232 := by omega
  clear q0 q1 b1
  refine ⟨11000000 + 10 * a1.length, ?_⟩
  unfold stemmalaw04_FrameSeals.f
  simp only [Option.bind_some, List.nil_append, List.length_nil]
  rw [if_pos (by omega), seal_f a0 a1 ha hb (by omega), rseal_f a0 a1 ha hb (by omega)]
  simp only [Option.bind_some, if_true]
  rw [crc_f a1 hb (by omega), rcrc_f a1 hb (by omega) (by omega)]
  simp only [Option.bind_some, if_true]
  rw [awake_f (by omega), Option.bind_some]
end Go.Proofs.YtonpiacnljcohaaDoor.Pure
