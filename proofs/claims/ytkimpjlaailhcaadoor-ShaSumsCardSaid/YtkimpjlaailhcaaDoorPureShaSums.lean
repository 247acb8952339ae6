/- ShaSums: both sums are one. -/
import Derived.Test.YtkimpjlaailhcaaDoorPAx3
set_option linter.unusedVariables false
namespace Go.Proofs.YtkimpjlaailhcaaDoor.Pure
open Go Go.Proofs.YtkimpjlaailhcaaDoor.Sha
theorem ShaSums (a0 : (List Int)) (q0 : a0.length ≤ maxLen ∧ ∀ y22 ∈ a0, (Lit.int .u8 y22).wf = true) (b0 : a0.length * 1 ≤ 140737488351232) : PA.stemmalaw01_ShaSums.f a0 = some true := by
  unfold PA.stemmalaw01_ShaSums.f
  rw [if_pos]
  refine ⟨fun x hx => ?_, by omega⟩
  have h := q0.2 x hx
  simp only [Lit.wf, IntKind.min, IntKind.max, IntKind.signed, IntKind.bits, Bool.and_eq_true] at h
  simp at h
  exact ⟨by omega, by omega⟩
end Go.Proofs.YtkimpjlaailhcaaDoor.Pure
