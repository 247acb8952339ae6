/- PostFull: what is left beside the walk: the number's range. -/
import Derived.Test.YtnjnljnhpihemaaPAx4
set_option linter.unusedVariables false
namespace Go.Proofs.Ytnjnljnhpihemaa.Pure
open Go
theorem PostFull (a0 : (List Int)) (a1 : Int) (q0 : a0.length ≤ maxLen ∧ ∀ y23 ∈ a0, (Lit.int .u8 y23).wf = true) (b0 : a0.length * 1 ≤ 140737488351232) (q1 : (Lit.int .u8 a1).wf = true) : PA.stemmalaw23_PostFull.f a0 a1 = some true := by
  unfold PA.stemmalaw23_PostFull.f
  have h := q1
  simp only [Lit.wf, IntKind.min, IntKind.max, IntKind.signed, IntKind.bits, Bool.and_eq_true] at h
  simp at h
  rw [if_pos ⟨by omega, by omega⟩]
end Go.Proofs.Ytnjnljnhpihemaa.Pure
