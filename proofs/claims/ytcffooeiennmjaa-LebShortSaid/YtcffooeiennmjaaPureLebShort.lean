/- Every number that is laid has one byte more each time it is as great as another group of seven bits holds; no condition. -/
import Derived.Test.YtcffooeiennmjaaLebA
import Derived.Test.YtcffooeiennmjaaPAx3
set_option linter.unusedVariables false
set_option linter.unusedSimpArgs false
namespace Go.Proofs.Ytcffooeiennmjaa.Pure
open Go.RowKit Go.Proofs.Ytcffooeiennmjaa.PA Go.Proofs.YtcffooeiennmjaaW.PrintWords Go.Proofs.YtcffooeiennmjaaW.PrintLast Go.Proofs.YtcffooeiennmjaaW.PrintMore Go.Proofs.Ytcffooeiennmjaa.LebT Go.Proofs.Ytcffooeiennmjaa.LebP
theorem LebShort : stemmalaw02_LebShort.Pure := by
  intro a ha
  obtain ⟨a0, a1⟩ := wf_u64 ha
  refine ⟨40, ?_⟩
  unfold stemmalaw02_LebShort.f
  rw [uint_f (by omega) a0 a1]
  simp only [Option.bind_some]
  obtain ⟨n, rfl⟩ := Int.eq_ofNat_of_zero_le a0
  simp only [Int.toNat_natCast]
  have h1 := putU_len_pos n
  have h2 : (putU n).length ≤ 10 := putU_len64 (by omega)
  have hi : ∀ d, (putU n).length ≤ d + 1 ↔ n < 128 ^ (d + 1) := fun d => putU_len_iff d n
  rw [if_neg (by omega), show (decide (((putU n).length : Int) > 10)) = false by simp; omega]
  generalize (putU n).length = l at h1 h2 hi ⊢
  rw [stemmalaw02_LebShort.j0.eq_2, if_neg (by decide), awake02 (by omega)]
  simp only [Option.bind_some]
  have hw : wrap64 ((l : Int) - 1) = ((l - 1 : Nat) : Int) := by unfold wrap64; omega
  have tail : (if (l : Int) ≥ 10 then some true else if 0 ≤ (IntKind.u64.wrap (wrap64 (7 * (l : Int)))) then (if (shr .u64 (n : Int) (IntKind.u64.wrap (wrap64 (7 * (l : Int))))) = 0 then some true else some false) else none) = some true := by
    by_cases c : (l : Int) ≥ 10
    · rw [if_pos c]
    · rw [if_neg c, count7 l (by omega), if_pos (by omega), if_pos]
      unfold shr
      rw [show min (((7 * l : Nat) : Int)).toNat IntKind.u64.bits = 7 * l by rw [Int.toNat_natCast]; exact Nat.min_eq_left (by show 7 * l ≤ 64; omega), ← pow7i, ← pow_cast]
      have hlt : n < 128 ^ l := by
        have := (hi (l - 1)).1 (by omega)
        rwa [show l - 1 + 1 = l by omega] at this
      exact Int.ediv_eq_zero_of_lt (by omega) (by exact_mod_cast hlt)
  by_cases c1 : (l : Int) > 1
  · rw [if_pos c1, hw, count7 (l - 1) (by omega), if_pos (by omega)]
    have hge : 128 ^ (l - 1) ≤ n := by
      have := hi (l - 2)
      rw [show l - 2 + 1 = l - 1 by omega] at this
      omega
    have e : shl .u64 1 ((7 * (l - 1) : Nat) : Int) = ((128 ^ (l - 1) : Nat) : Int) := by
      unfold shl
      rw [show min (((7 * (l - 1) : Nat) : Int)).toNat IntKind.u64.bits = 7 * (l - 1) by rw [Int.toNat_natCast]; exact Nat.min_eq_left (by show 7 * (l - 1) ≤ 64; omega), ← pow7i, ← pow_cast, Int.one_mul, IntKind.wrap_u64]
      generalize 128 ^ (l - 1) = p at hge ⊢
      omega
    rw [e, if_pos (by exact_mod_cast hge)]
    exact tail
  · rw [if_neg c1, if_pos (by omega)]
    exact tail
end Go.Proofs.Ytcffooeiennmjaa.Pure
