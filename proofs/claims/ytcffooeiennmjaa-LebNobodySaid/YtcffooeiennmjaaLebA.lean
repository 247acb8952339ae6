/- The closed case of leb's laws. -/
import Derived.Test.YtcffooeiennmjaaLebP
import Derived.Test.YtcffooeiennmjaaPAx16
set_option linter.unusedVariables false
set_option linter.unusedSimpArgs false
namespace Go.Proofs.Ytcffooeiennmjaa.LebP
open Go.RowKit Go.Proofs.Ytcffooeiennmjaa.PA Go.Proofs.YtcffooeiennmjaaW.PrintWords Go.Proofs.YtcffooeiennmjaaW.PrintLast Go.Proofs.YtcffooeiennmjaaW.PrintMore Go.Proofs.Ytcffooeiennmjaa.LebT
theorem awake02 {k : Nat} (hk : 30 ≤ k) : stemmalaw02_awake.f k = some true := by
  unfold stemmalaw02_awake.f
  rw [getU_f (by omega) (by intro x hx; simp at hx; unfold isByte; omega)]
  simp only [Option.bind_some]
  rw [int_f (by omega) (by omega) (by omega)]
  simp only [Option.bind_some]
  have e : putI (-65) = [191, 127] := by rw [putI_big (by omega), putI_small (by omega)]; rfl
  rw [e, if_pos (by decide +kernel), show gU 0 0 [128, 1, 9] = (128, 2, 0) by decide +kernel]
  rfl
end Go.Proofs.Ytcffooeiennmjaa.LebP
