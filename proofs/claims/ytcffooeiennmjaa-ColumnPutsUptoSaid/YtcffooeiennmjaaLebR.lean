/- What the reference lays is what the plain theory says. -/
import Derived.Test.YtcffooeiennmjaaLebP
import Derived.Test.YtcffooeiennmjaaPAx17
import Derived.Test.YtcffooeiennmjaaPAx19
set_option linter.unusedVariables false
set_option linter.unusedSimpArgs false
namespace Go.Proofs.Ytcffooeiennmjaa.LebP
open Go.RowKit Go.Proofs.Ytcffooeiennmjaa.PA Go.Proofs.YtcffooeiennmjaaW.PrintWords Go.Proofs.YtcffooeiennmjaaW.PrintLast Go.Proofs.YtcffooeiennmjaaW.PrintMore Go.Proofs.Ytcffooeiennmjaa.LebT
theorem rUint_l0 (d : Nat) : ∀ (k : Nat) (x : Int) (acc : List Int), 0 ≤ x → x < 18446744073709551616 → x.toNat < 128 ^ (d + 1) → d < k → acc.length + d < 140737488355328 → stemmaref02_Uint.l0 k x acc = some (acc ++ putU x.toNat) := by
  induction d with
  | zero =>
    intro k x acc h0 h64 h1 hk ha
    obtain ⟨k, rfl⟩ : ∃ m, k = m + 1 := ⟨k - 1, by omega⟩
    simp only [stemmaref02_Uint.l0]
    rw [if_neg (by omega), if_pos (by omega), putU_small (by omega)]
    congr 3; omega
  | succ d ih =>
    intro k x acc h0 h64 h1 hk ha
    obtain ⟨k, rfl⟩ : ∃ m, k = m + 1 := ⟨k - 1, by omega⟩
    simp only [stemmaref02_Uint.l0]
    have e1 : IntKind.u64.wrap (Int.tdiv x 128) = x / 128 := by
      rw [IntKind.wrap_u64, Int.tdiv_eq_ediv_of_nonneg h0]; omega
    have e2 : Int.tmod x 128 = x % 128 := Int.tmod_eq_emod_of_nonneg h0
    rw [e1, e2]
    by_cases hs : x ≥ 128
    · rw [if_pos hs, if_pos (by omega), ih k (x / 128) _ (by omega) (by omega) (by
        rw [show (x / 128).toNat = x.toNat / 128 by omega, Nat.div_lt_iff_lt_mul (by omega), ← Nat.pow_succ]; exact h1) (by omega) (by simp; omega)]
      rw [putU_big (n := x.toNat) (by omega), List.append_assoc]
      congr 2
      simp only [List.cons_append, List.nil_append]
      congr 1
      · omega
      · congr 1; omega
    · rw [if_neg hs, if_pos (by omega), putU_small (by omega)]
      congr 3; omega
theorem rUint_f {k : Nat} (hk : 10 ≤ k) {a : Int} (h0 : 0 ≤ a) (h1 : a < 18446744073709551616) : stemmaref02_Uint.f k a = some (putU a.toNat) := by
  unfold stemmaref02_Uint.f
  rw [rUint_l0 9 k a [] h0 h1 (by omega) (by omega) (by simp)]
  simp
theorem rInt_l0 (d : Nat) : ∀ (k : Nat) (x : Int) (acc : List Int), -9223372036854775808 ≤ x → x < 9223372036854775808 → -(64 * 128 ^ d) ≤ x → x < 64 * 128 ^ d → d < k → acc.length + d < 140737488355328 → stemmaref02_Int.l0 k x acc = some (acc ++ putI x) := by
  induction d with
  | zero =>
    intro k x acc g0 g1 h0 h1 hk ha
    obtain ⟨k, rfl⟩ : ∃ m, k = m + 1 := ⟨k - 1, by omega⟩
    simp only [stemmaref02_Int.l0]
    rw [if_neg (by omega), if_neg (by omega), if_pos (by omega), putI_small (by omega), i64_and127 _ g0 g1]
    congr 3; omega
  | succ d ih =>
    intro k x acc g0 g1 h0 h1 hk ha
    obtain ⟨k, rfl⟩ : ∃ m, k = m + 1 := ⟨k - 1, by omega⟩
    simp only [stemmaref02_Int.l0]
    have e : (128 : Int) ^ (d + 1) = 128 ^ d * 128 := by rw [Int.pow_succ]
    rw [e] at h0 h1
    rw [i64_and127 _ g0 g1]
    have step : (63 < x ∨ x < -64) → stemmaref02_Int.l0 k (x / 128) (acc ++ [((x % 128) + 128) % 256]) = some (acc ++ putI x) := fun hs => by
      rw [ih k (x / 128) _ (by omega) (by omega) (by generalize (128 : Int) ^ d = p at *; omega) (by generalize (128 : Int) ^ d = p at *; omega) (by omega) (by simp; omega)]
      rw [putI_big hs, List.append_assoc]
      congr 2
      simp only [List.cons_append, List.nil_append]
      congr 1; omega
    by_cases hs : x < -64
    · rw [if_pos hs, if_pos (by omega), step (.inr hs)]
    · rw [if_neg hs]
      by_cases hs2 : x > 63
      · rw [if_pos hs2, if_pos (by omega), step (.inl hs2)]
      · rw [if_neg hs2, if_pos (by omega), putI_small (by omega)]
        congr 3; omega
theorem rInt_f {k : Nat} (hk : 10 ≤ k) {a : Int} (h0 : -9223372036854775808 ≤ a) (h1 : a < 9223372036854775808) : stemmaref02_Int.f k a = some (putI a) := by
  unfold stemmaref02_Int.f
  rw [rInt_l0 9 k a [] h0 h1 (by omega) (by omega) (by omega) (by simp)]
  simp
end Go.Proofs.Ytcffooeiennmjaa.LebP
