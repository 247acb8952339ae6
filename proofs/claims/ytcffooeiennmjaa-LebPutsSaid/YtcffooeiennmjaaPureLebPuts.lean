/- Every number and every text is laid by the program as the bytes that the document says; no condition. -/
import Derived.Test.YtcffooeiennmjaaLebA
import Derived.Test.YtcffooeiennmjaaLebR
import Derived.Test.YtcffooeiennmjaaPAx4
set_option linter.unusedVariables false
set_option linter.unusedSimpArgs false
namespace Go.Proofs.Ytcffooeiennmjaa.Pure
open Go.RowKit Go.Proofs.Ytcffooeiennmjaa.PA Go.Proofs.YtcffooeiennmjaaW.PrintWords Go.Proofs.YtcffooeiennmjaaW.PrintLast Go.Proofs.YtcffooeiennmjaaW.PrintMore Go.Proofs.Ytcffooeiennmjaa.LebT Go.Proofs.Ytcffooeiennmjaa.LebP
theorem LebPuts : stemmalaw02_LebPuts.Pure := by
  intro a m s ha hm hs
  obtain ⟨a0, a1⟩ := wf_u64 ha
  obtain ⟨m0, m1⟩ := wf_i64 hm
  refine ⟨30, ?_⟩
  unfold stemmalaw02_LebPuts.f leb_Text.f stemmaref02_Text.f
  have hl : (putU s.size).length ≤ 10 := putU_len64 (by omega)
  rw [u64_size (by omega)]
  rw [uint_f (by omega) a0 a1, rUint_f (by omega) a0 a1, int_f (by omega) m0 m1, rInt_f (by omega) m0 m1, uint_f (by omega) (by omega) (by omega), rUint_f (by omega) (by omega) (by omega), awake02 (by omega)]
  simp only [Option.bind_some, Int.toNat_natCast, if_true]
  rw [if_pos (by omega)]
  simp only [Option.bind_some, if_true]
end Go.Proofs.Ytcffooeiennmjaa.Pure
