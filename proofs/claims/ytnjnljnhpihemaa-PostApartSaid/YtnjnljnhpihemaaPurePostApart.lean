/- PostApart: what is left beside the walk: the bytes' range. -/
import Derived.Test.YtnjnljnhpihemaaPAx3
set_option linter.unusedVariables false
namespace Go.Proofs.Ytnjnljnhpihemaa.Pure
open Go
theorem PostApart (a0 : (List (List Int))) (a1 : (List Int)) (q0 : a0.length ≤ maxLen ∧ ∀ y22 ∈ a0, y22.length ≤ maxLen ∧ ∀ y23 ∈ y22, (Lit.int .u8 y23).wf = true) (q1 : a1.length ≤ maxLen ∧ ∀ y23 ∈ a1, (Lit.int .u8 y23).wf = true) (b1 : a1.length * 1 ≤ 140737488351232) : PA.stemmalaw23_PostApart.f a0 a1 = some true := by
  unfold PA.stemmalaw23_PostApart.f
  rw [if_pos (fun x hx => ?_)]
  have h := q1.2 x hx
  simp only [Lit.wf, IntKind.min, IntKind.max, IntKind.signed, IntKind.bits, Bool.and_eq_true] at h
  simp at h
  exact ⟨by omega, by omega⟩
end Go.Proofs.Ytnjnljnhpihemaa.Pure
