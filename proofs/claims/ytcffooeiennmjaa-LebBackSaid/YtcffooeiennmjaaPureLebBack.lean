/- Every number and every text that is laid is taken off as it was, whatever stands behind it; no condition. -/
import Derived.Test.YtcffooeiennmjaaLebA
import Derived.Test.YtcffooeiennmjaaPAx5
set_option linter.unusedVariables false
set_option linter.unusedSimpArgs false
namespace Go.Proofs.Ytcffooeiennmjaa.Pure
open Go.RowKit Go.Proofs.Ytcffooeiennmjaa.PA Go.Proofs.YtcffooeiennmjaaW.PrintWords Go.Proofs.YtcffooeiennmjaaW.PrintLast Go.Proofs.YtcffooeiennmjaaW.PrintMore Go.Proofs.Ytcffooeiennmjaa.LebT Go.Proofs.Ytcffooeiennmjaa.LebP
theorem LebBack : stemmalaw02_LebBack.Pure := by
  intro a m l ha hm _ hl1 hl2
  obtain ⟨a0, a1⟩ := wf_u64 ha
  obtain ⟨m0, m1⟩ := wf_i64 hm
  have hl : ∀ x ∈ l, isByte x := fun x hx => wf_u8 (hl2 x hx)
  refine ⟨40, ?_⟩
  have b1 := putU_bytes a.toNat
  have b2 := putI_bytes _ m rfl
  have b3 := putU_bytes l.length
  have n1 : (putU a.toNat).length ≤ 10 := putU_len64 (by omega)
  have n2 : (putI m).length ≤ 10 := putI_len64 m0 m1
  have n3 : (putU l.length).length ≤ 10 := putU_len64 (by omega)
  have T : leb_Text.f 40 (strOfNums l) = some (putU l.length ++ l) := by
    unfold leb_Text.f
    rw [strOfNums_size, u64_size (by omega), uint_f (by omega) (by omega) (by omega)]
    simp only [Option.bind_some, Int.toNat_natCast]
    rw [if_pos (by omega), bytesOf_str hl]
  have G1 := gU_put a.toNat 0 0 l (by omega) (by simp) (by omega)
  have G2 := gI_put m.natAbs m 0 0 false l rfl (by omega) (by simp) (by omega) (by simpa using m0) (by simpa using m1)
  unfold stemmalaw02_LebBack.f
  rw [uint_f (by omega) a0 a1, int_f (by omega) m0 m1, T, awake02 (by omega)]
  simp only [Option.bind_some, List.nil_append]
  rw [if_pos (by simp; omega), if_pos (by omega), getU_f (by omega) (append_byte b1 hl), G1]
  simp only [Option.bind_some]
  rw [if_pos (by simp; omega), if_pos (by omega), getI_f (by omega) (append_byte b2 hl), G2]
  simp only [Option.bind_some]
  rw [if_pos (by simp; omega), if_pos (by simp; omega), gText_put l _ hl b1 (by omega) (by omega) (by omega) _ (by omega) (by omega)]
  simp only [Option.bind_some, T, if_true]
  rw [if_pos (by omega), if_pos (by omega), if_pos (by simp), if_pos (by omega), if_pos (by simp)]
end Go.Proofs.Ytcffooeiennmjaa.Pure
