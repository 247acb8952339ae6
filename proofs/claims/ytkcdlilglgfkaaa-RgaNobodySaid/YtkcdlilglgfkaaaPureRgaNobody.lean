/- RgaNobody: nothing is left beside the walk. -/
import Derived.Test.YtkcdlilglgfkaaaPAx10
set_option linter.unusedVariables false
namespace Go.Proofs.Ytkcdlilglgfkaaa.Pure
open Go
theorem RgaNobody (a0 : Int) (a1 : Int) (q0 : (Lit.int .i64 a0).wf = true) (q1 : (Lit.int .u8 a1).wf = true) : PA.stemmalaw11_RgaNobody.f a0 a1 = some true := rfl
end Go.Proofs.Ytkcdlilglgfkaaa.Pure
