/- ShaNobody: a hasher that is not there has summed nothing: nothing is left to show beside the walk. -/
import Derived.Test.YtkimpjlaailhcaaDoorPAx6
set_option linter.unusedVariables false
namespace Go.Proofs.YtkimpjlaailhcaaDoor.Pure
open Go
theorem ShaNobody (a0 : (List Int)) (q0 : a0.length ≤ maxLen ∧ ∀ y22 ∈ a0, (Lit.int .u8 y22).wf = true) (b0 : a0.length * 1 ≤ 140737488351232) : PA.stemmalaw01_ShaNobody.f a0 = some true := rfl
end Go.Proofs.YtkimpjlaailhcaaDoor.Pure
