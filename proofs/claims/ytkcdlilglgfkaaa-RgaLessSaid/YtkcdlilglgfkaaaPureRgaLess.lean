/- RgaLess: nothing is left beside the walk. -/
import Derived.Test.YtkcdlilglgfkaaaPAx3
set_option linter.unusedVariables false
namespace Go.Proofs.Ytkcdlilglgfkaaa.Pure
open Go
theorem RgaLess (a0 a1 : Int) (a2 : (List Int)) (q0 : (Lit.int .i64 a0).wf = true) (q1 : (Lit.int .i64 a1).wf = true) : PA.stemmalaw11_RgaLess.f a0 a1 a2 = some true := rfl
end Go.Proofs.Ytkcdlilglgfkaaa.Pure
