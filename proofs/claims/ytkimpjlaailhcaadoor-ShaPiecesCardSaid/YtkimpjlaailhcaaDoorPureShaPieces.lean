/- ShaPieces: however it is cut. -/
import Derived.Test.YtkimpjlaailhcaaDoorPAx5
set_option linter.unusedVariables false
namespace Go.Proofs.YtkimpjlaailhcaaDoor.Pure
open Go Go.Proofs.YtkimpjlaailhcaaDoor.Sha
theorem ShaPieces (a0 : (List Int)) (a1 : Int) (q0 : a0.length ≤ maxLen ∧ ∀ y22 ∈ a0, (Lit.int .u8 y22).wf = true) (b0 : a0.length * 1 ≤ 140737488351232) (q1 : (Lit.int .u16 a1).wf = true) : PA.stemmalaw01_ShaPieces.f a0 a1 = some true := by
  unfold PA.stemmalaw01_ShaPieces.f
  simp only [Lit.wf, IntKind.min, IntKind.max, IntKind.signed, IntKind.bits, Bool.and_eq_true] at q1
  simp at q1
  rw [if_pos ⟨by omega, by omega, by omega⟩]
end Go.Proofs.YtkimpjlaailhcaaDoor.Pure
