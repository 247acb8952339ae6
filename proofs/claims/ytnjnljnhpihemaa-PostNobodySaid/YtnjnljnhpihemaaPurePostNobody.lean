/- PostNobody: nothing is left beside the walk. -/
import Derived.Test.YtnjnljnhpihemaaPAx6
set_option linter.unusedVariables false
namespace Go.Proofs.Ytnjnljnhpihemaa.Pure
open Go
theorem PostNobody (a0 : Int) (a1 : Int) (a2 : (List Int)) (q0 : (Lit.int .i64 a0).wf = true) (q1 : (Lit.int .i64 a1).wf = true) (q2 : a2.length ≤ maxLen ∧ ∀ y23 ∈ a2, (Lit.int .u8 y23).wf = true) (b2 : a2.length * 1 ≤ 140737488351232) : PA.stemmalaw23_PostNobody.f a0 a1 a2 = some true := rfl
end Go.Proofs.Ytnjnljnhpihemaa.Pure
