/- ShaLess: nothing is left to show beside the walk. -/
import Derived.Test.YtkimpjlaailhcaaDoorPAx7
set_option linter.unusedVariables false
namespace Go.Proofs.YtkimpjlaailhcaaDoor.Pure
open Go
theorem ShaLess (a0 a1 : (List Int)) : PA.stemmalaw01_ShaLess.f a0 a1 = some true := rfl
end Go.Proofs.YtkimpjlaailhcaaDoor.Pure
