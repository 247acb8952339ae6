/- Own texts of this claim. -/
import Derived.Laws.BitsAllLaws
import Derived.Laws.Bits64
import Derived.Test.YtpnnjefhchppfaaCg0
import Derived.Test.YtpnnjefhchppfaaCg28
import Derived.Test.YtpnnjefhchppfaaCg29
set_option linter.unusedVariables false
set_option linter.unusedSimpArgs false
namespace Go.Proofs.Ytpnnjefhchppfaa.LebP
open Go.RowKit Go.Proofs.Ytpnnjefhchppfaa.PA Go.Proofs.YtpnnjefhchppfaaW.PrintWords Go.Proofs.YtpnnjefhchppfaaW.PrintLast Go.Proofs.YtpnnjefhchppfaaW.PrintMore Go.Proofs.Ytpnnjefhchppfaa.LebT
theorem nat_or128 : ∀ a : Fin 256, (a.val ||| 128) = a.val % 128 + 128 := by decide +kernel
theorem nat_and127 : ∀ a : Fin 256, (a.val &&& 127) = a.val % 128 := by decide +kernel
theorem nat_and64 : ∀ a : Fin 256, (a.val &&& 64) = if 64 ≤ a.val % 128 then 64 else 0 := by decide +kernel
theorem or128 (x : Int) (h0 : 0 ≤ x) (h1 : x < 256) : Go.bits .or .u8 x 128 = x % 128 + 128 := by
  rw [u8_or x 128 h0 h1 (by omega) (by omega)]
  have := nat_or128 ⟨x.toNat, by omega⟩
  simp only at this
  rw [show (128 : Int).toNat = 128 from rfl, this]; omega
theorem andNot128 (x : Int) (h0 : 0 ≤ x) (h1 : x < 256) : Go.bits .andNot .u8 x 128 = x % 128 := by
  rw [u8_andNot x 128 h0 h1 (by omega) (by omega)]
  have := nat_and127 ⟨x.toNat, by omega⟩
  simp only at this
  rw [show (255 - (128 : Int).toNat) = 127 from rfl, this]; omega
theorem and64 (x : Int) (h0 : 0 ≤ x) (h1 : x < 256) : Go.bits .and .u8 x 64 = if 64 ≤ x % 128 then 64 else 0 := by
  rw [u8_and x 64 h0 h1 (by omega) (by omega)]
  have := nat_and64 ⟨x.toNat, by omega⟩
  simp only at this
  rw [show (64 : Int).toNat = 64 from rfl, this]
  split <;> split <;> omega
theorem uint_l0 (d : Nat) : ∀ (k : Nat) (x : Int) (acc : List Int), 0 ≤ x → x.toNat < 128 ^ (d + 1) → d < k → acc.length + d < 140737488355328 → leb_Uint.l0 k x acc = some (acc ++ putU x.toNat) := by
  induction d with
  | zero =>
    intro k x acc h0 h1 hk ha
    obtain ⟨k, rfl⟩ : ∃ m, k = m + 1 := ⟨k - 1, by omega⟩
    simp only [leb_Uint.l0]
    rw [if_neg (by omega), if_pos (by omega), putU_small (by omega)]
    congr 3; omega
  | succ d ih =>
    intro k x acc h0 h1 hk ha
    obtain ⟨k, rfl⟩ : ∃ m, k = m + 1 := ⟨k - 1, by omega⟩
    simp only [leb_Uint.l0]
    by_cases hs : x ≥ 128
    · rw [if_pos hs, if_pos (by omega), ih k (x / 128) _ (by omega) (by
        rw [show (x / 128).toNat = x.toNat / 128 by omega, Nat.div_lt_iff_lt_mul (by omega), ← Nat.pow_succ]; exact h1) (by omega) (by simp; omega)]
      rw [putU_big (n := x.toNat) (by omega), or128 _ (by omega) (by omega), List.append_assoc]
      congr 2
      simp only [List.cons_append, List.nil_append]
      congr 1
      · omega
      · congr 1; omega
    · rw [if_neg hs, if_pos (by omega), putU_small (by omega)]
      congr 3; omega
theorem uint_f {k : Nat} (hk : 10 ≤ k) {a : Int} (h0 : 0 ≤ a) (h1 : a < 18446744073709551616) : leb_Uint.f k a = some (putU a.toNat) := by
  unfold leb_Uint.f
  rw [uint_l0 9 k a [] h0 (by omega) (by omega) (by simp)]
  simp
theorem pow7 (i : Nat) : 128 ^ i = 2 ^ (7 * i) := by rw [Nat.pow_mul]
theorem pow7i (i : Nat) : (128 : Int) ^ i = 2 ^ (7 * i) := by rw [Int.pow_mul]; rfl
theorem rd_drop (b : List Int) (i : Nat) (h : i < b.length) : b.drop i = rd b (i : Int) :: b.drop (i + 1) := by
  rw [List.drop_eq_getElem_cons h]
  simp [rd, List.getD_eq_getElem?_getD, List.getElem?_eq_getElem h]
theorem rd_mem (b : List Int) (i : Nat) (h : i < b.length) : rd b (i : Int) ∈ b := by
  simp [rd, List.getD_eq_getElem?_getD, List.getElem?_eq_getElem h]
theorem count7 (i : Nat) (h : i ≤ 1000) : IntKind.u64.wrap (wrap64 (7 * (i : Int))) = ((7 * i : Nat) : Int) := by
  rw [IntKind.wrap_u64]; unfold wrap64; omega
theorem join_u64 (i n c : Nat) (hn : n < 128 ^ i) (hc : c * 128 ^ i < 18446744073709551616) (hi : i ≤ 9) : Go.bits .or .u64 (n : Int) (shl .u64 (c : Int) ((7 * i : Nat) : Int)) = ((n + c * 128 ^ i : Nat) : Int) := by
  have e1 : shl .u64 (c : Int) ((7 * i : Nat) : Int) = ((c * 128 ^ i : Nat) : Int) := by
    unfold shl
    rw [show min (((7 * i : Nat) : Int)).toNat IntKind.u64.bits = 7 * i by rw [Int.toNat_natCast]; exact Nat.min_eq_left (by show 7 * i ≤ 64; omega), ← pow7i, ← pow_cast, ← Int.natCast_mul, IntKind.wrap_u64]
    omega
  rw [e1, u64_or_nat _ _ (by
    have : 128 ^ i ≤ 128 ^ 9 := Nat.pow_le_pow_right (by omega) hi
    omega) hc, Nat.or_comm, nat_join (7 * i) _ _ (by rw [pow7]; exact Nat.mul_mod_left _ _) (by rw [← pow7]; exact hn)]
  congr 1; omega
theorem getU_j1 (b : List Int) (L : Int) (i n : Nat) (x : Int) (hx : isByte x) (hi : i ≤ 9) (h9 : i = 9 → x ≤ 1) (hn : n < 128 ^ i) (k : Nat) :
    leb_GetUint.j1 (k + 1) (n : Int) (i : Int) x b L (i : Int) false = if x < 128 then some (((n + x.toNat * 128 ^ i : Nat) : Int), (i : Int) + 1, 0) else leb_GetUint.l0 k ((n + x.toNat % 128 * 128 ^ i : Nat) : Int) b L ((i : Int) + 1) := by
  unfold isByte at hx
  simp only [leb_GetUint.j1]
  rw [if_neg (by decide), count7 i (by omega), if_pos (by omega), andNot128 x hx.1 hx.2]
  have e1 : IntKind.u64.wrap (x % 128) = ((x.toNat % 128 : Nat) : Int) := by rw [IntKind.wrap_u64]; omega
  rw [e1, join_u64 i n (x.toNat % 128) hn (by
    by_cases h : i = 9
    · subst h
      have : x.toNat % 128 ≤ 1 := by have := h9 rfl; omega
      omega
    · have h8 : 128 ^ i ≤ 128 ^ 8 := Nat.pow_le_pow_right (by omega) (by omega)
      have h2 : x.toNat % 128 * 128 ^ i ≤ 127 * 128 ^ i := Nat.mul_le_mul_right _ (by omega)
      omega) hi]
  have e2 : wrap64 ((i : Int) + 1) = (i : Int) + 1 := by unfold wrap64; omega
  rw [e2]
  by_cases c : x < 128
  · rw [if_pos c, if_pos c, show x.toNat % 128 = x.toNat by omega]
  · rw [if_neg c, if_neg c]
theorem getU_j1t (b : List Int) (L : Int) (i n : Int) (x : Int) (k : Nat) (y : Int) : leb_GetUint.j1 (k + 1) n i x b L y true = some (0, 0, 4) := by
  simp only [leb_GetUint.j1]; rw [if_pos trivial]
theorem getU_l0 (b : List Int) (hb : ∀ x ∈ b, isByte x) (d : Nat) : ∀ (k i n : Nat), i + d = 9 → 2 * d + 2 ≤ k → n < 128 ^ i → leb_GetUint.l0 k (n : Int) b (b.length : Int) (i : Int) = some (gU i n (b.drop i)) := by
  induction d with
  | zero =>
    intro k i n hi hk hn
    obtain ⟨k, rfl⟩ : ∃ m, k = m + 1 + 1 := ⟨k - 2, by omega⟩
    rw [leb_GetUint.l0.eq_2]
    by_cases hl : i < b.length
    · have hx := hb _ (rd_mem b i hl)
      rw [if_pos (by omega), if_pos (by omega), if_pos (by omega), if_pos (by omega), rd_drop b i hl]
      simp only [gU]
      generalize rd b (i : Int) = y at hx ⊢
      have hx' := hx
      unfold isByte at hx'
      by_cases c : y > 1
      · rw [if_pos c, getU_j1t, if_pos (by omega)]
      · rw [if_neg c, if_pos (by omega)]
        by_cases c2 : y = 0
        · rw [show (y == 0) = true by simpa using c2, getU_j1t, if_pos (by omega)]
        · rw [show (y == 0) = false by simpa using c2, getU_j1 b _ i n _ hx (by omega) (by omega) hn, if_pos (by omega), if_neg (by omega), if_pos (by omega)]
    · rw [if_neg (by omega), List.drop_eq_nil_of_le (by omega)]; rfl
  | succ d ih =>
    intro k i n hi hk hn
    obtain ⟨k, rfl⟩ : ∃ m, k = m + 1 + 1 := ⟨k - 2, by omega⟩
    rw [leb_GetUint.l0.eq_2]
    by_cases hl : i < b.length
    · have hx := hb _ (rd_mem b i hl)
      rw [if_pos (by omega), if_pos (by omega), if_pos (by omega), if_neg (by omega), rd_drop b i hl]
      simp only [gU]
      generalize rd b (i : Int) = y at hx ⊢
      have hx' := hx
      unfold isByte at hx'
      have step : leb_GetUint.j1 (k + 1) (n : Int) (i : Int) y b (b.length : Int) (i : Int) false = some (if y < 128 then (((n + y.toNat * 128 ^ i : Nat) : Int), (i : Int) + 1, 0) else gU (i + 1) (n + y.toNat % 128 * 128 ^ i) (b.drop (i + 1))) := by
        rw [getU_j1 b _ i n _ hx (by omega) (by omega) hn]
        by_cases c : y < 128
        · rw [if_pos c, if_pos c]
        · rw [if_neg c, if_neg c, show ((i : Int) + 1) = ((i + 1 : Nat) : Int) by omega]
          refine ih k (i + 1) _ (by omega) (by omega) ?_
          have hp : 128 ^ (i + 1) = 128 ^ i * 128 := Nat.pow_succ ..
          have : y.toNat % 128 * 128 ^ i ≤ 127 * 128 ^ i := Nat.mul_le_mul_right _ (by omega)
          omega
      by_cases c0 : (i : Int) > 0
      · rw [if_pos c0]
        by_cases c2 : y = 0
        · rw [show (y == 0) = true by simpa using c2, getU_j1t, if_pos (by omega)]
        · rw [show (y == 0) = false by simpa using c2, step]
          congr 1
          rw [if_neg (show ¬ (i = 9 ∧ 1 < y ∨ 0 < i ∧ y = 0) by omega)]
      · rw [if_neg c0, step]
        congr 1
        rw [if_neg (show ¬ (i = 9 ∧ 1 < y ∨ 0 < i ∧ y = 0) by omega)]
    · rw [if_neg (by omega), List.drop_eq_nil_of_le (by omega)]; rfl
theorem getU_f {k : Nat} (hk : 20 ≤ k) {b : List Int} (hb : ∀ x ∈ b, isByte x) : leb_GetUint.f k b = some (gU 0 0 b) := by
  unfold leb_GetUint.f
  have := getU_l0 b hb 9 k 0 0 (by omega) (by omega) (by simp)
  simpa using this
theorem or_i64 (w : Nat) (hw : w ≤ 63) (n : Nat) (y : Int) (hn : n < 2 ^ w) (hy : y % 2 ^ w = 0) (h1 : -9223372036854775808 ≤ y) (h2 : (n : Int) + y < 9223372036854775808) : Go.bits .or .i64 (n : Int) y = (n : Int) + y := by
  have hw64 : (2 : Nat) ^ w ≤ 2 ^ 63 := Nat.pow_le_pow_right (by omega) hw
  have hdvd : (2 : Int) ^ w ∣ 18446744073709551616 := ⟨2 ^ (64 - w), by rw [← Int.pow_add, show w + (64 - w) = 64 by omega]; rfl⟩
  have e64 : ((2 ^ 64 : Nat) : Int) = 18446744073709551616 := by rfl
  show IntKind.i64.wrap ((BitVec.ofInt 64 (n : Int) ||| BitVec.ofInt 64 y).toNat : Int) = _
  rw [BitVec.toNat_or, ofInt_u64 n (by omega), BitVec.toNat_ofInt, e64]
  have e3 : ((y % 18446744073709551616).toNat : Int) = y % 18446744073709551616 := Int.toNat_of_nonneg (by omega)
  have hY : (y % 18446744073709551616).toNat % 2 ^ w = 0 := by
    have e : ((y % 18446744073709551616) % 2 ^ w) = 0 := by rw [Int.emod_emod_of_dvd _ hdvd]; exact hy
    have e2 : (((y % 18446744073709551616).toNat % 2 ^ w : Nat) : Int) = (y % 18446744073709551616) % 2 ^ w := by
      rw [Int.natCast_emod, e3, Int.natCast_pow]; rfl
    omega
  rw [Nat.or_comm, nat_join w _ _ hY hn, IntKind.wrap_i64, Int.natCast_add, e3]
  omega
def pay (i : Nat) (c : Int) : Int := if i = 9 ∧ c = 127 then -9223372036854775808 else c * 128 ^ i
theorem pow_le8 (i : Nat) (h : i ≤ 8) : (128 : Int) ^ i ≤ 72057594037927936 := by
  rw [← pow_cast]
  have : 128 ^ i ≤ 128 ^ 8 := Nat.pow_le_pow_right (by omega) h
  omega
theorem join_i64 (i n : Nat) (c : Int) (h0 : 0 ≤ c) (h1 : c < 128) (hi : i ≤ 9) (h9 : i = 9 → c = 0 ∨ c = 127) (hn : n < 128 ^ i) : Go.bits .or .i64 (n : Int) (shl .i64 (wrap64 c) ((7 * i : Nat) : Int)) = (n : Int) + pay i c := by
  have e0 : wrap64 c = c := by unfold wrap64; omega
  have e1 : shl .i64 (wrap64 c) ((7 * i : Nat) : Int) = pay i c := by
    unfold shl
    rw [e0, show min (((7 * i : Nat) : Int)).toNat IntKind.i64.bits = 7 * i by rw [Int.toNat_natCast]; exact Nat.min_eq_left (by show 7 * i ≤ 64; omega), ← pow7i, IntKind.wrap_i64]
    unfold pay
    by_cases h : i = 9
    · subst h
      rcases h9 rfl with rfl | rfl <;> decide
    · rw [if_neg (by omega)]
      have hp := pow_le8 i (by omega)
      have hp0 : 0 ≤ (128 : Int) ^ i := Int.pow_nonneg (by omega)
      have q : c * 128 ^ i ≤ 127 * 128 ^ i := Int.mul_le_mul_of_nonneg_right (by omega) hp0
      have q0 : 0 ≤ c * 128 ^ i := Int.mul_nonneg h0 hp0
      omega
  rw [e1]
  refine or_i64 (7 * i) (by omega) n _ (by rw [← pow7]; exact hn) ?_ ?_ ?_
  · unfold pay
    split
    · rename_i h; rw [h.1]; rfl
    · rw [← pow7i]; exact Int.mul_emod_left _ _
  · unfold pay
    split
    · omega
    · have : 0 ≤ c * 128 ^ i := Int.mul_nonneg h0 (Int.pow_nonneg (by omega))
      omega
  · unfold pay
    have hpc := pow_cast i
    split
    · rename_i h
      rw [h.1] at hn
      simp only [show 128 ^ 9 = 9223372036854775808 from rfl] at hn
      omega
    · rename_i h
      by_cases h' : i = 9
      · subst h'
        have : c = 0 := by have := h9 rfl; omega
        subst this
        simp only [show 128 ^ 9 = 9223372036854775808 from rfl] at hn
        omega
      · have hp := pow_le8 i (by omega)
        have q : c * 128 ^ i ≤ 127 * 128 ^ i := Int.mul_le_mul_of_nonneg_right (by omega) (Int.pow_nonneg (by omega))
        omega
theorem sign_i64 (i n : Nat) (hi : i ≤ 8) (c : Int) (h0 : 64 ≤ c) (h1 : c < 128) (hn : n < 128 ^ i) : Go.bits .or .i64 ((n : Int) + c * 128 ^ i) (shl .i64 (-1) ((7 * (i + 1) : Nat) : Int)) = (n : Int) + (c - 128) * 128 ^ i := by
  have hp := pow_le8 i hi
  have hpc := pow_cast i
  have hp1 : (128 : Int) ^ (i + 1) = 128 ^ i * 128 := Int.pow_succ ..
  have e1 : shl .i64 (-1) ((7 * (i + 1) : Nat) : Int) = -(128 ^ i * 128) := by
    unfold shl
    rw [show min (((7 * (i + 1) : Nat) : Int)).toNat IntKind.i64.bits = 7 * (i + 1) by rw [Int.toNat_natCast]; exact Nat.min_eq_left (by show 7 * (i + 1) ≤ 64; omega), ← pow7i, IntKind.wrap_i64, hp1]
    have : 0 ≤ (128 : Int) ^ i := Int.pow_nonneg (by omega)
    omega
  have e2 : (n : Int) + c * 128 ^ i = ((n + c.toNat * 128 ^ i : Nat) : Int) := by
    rw [Int.natCast_add, Int.natCast_mul, hpc, Int.toNat_of_nonneg (by omega)]
  have hpn : 128 ^ (i + 1) = 128 ^ i * 128 := Nat.pow_succ ..
  have q2 : c.toNat * 128 ^ i ≤ 127 * 128 ^ i := Nat.mul_le_mul_right _ (by omega)
  rw [e1, e2, or_i64 (7 * (i + 1)) (by omega) _ _ (by rw [← pow7, hpn]; omega) (by
    rw [← pow7i, hp1]; exact Int.emod_eq_zero_of_dvd (Int.dvd_neg.2 (Int.dvd_refl _))) (by
    have : 0 ≤ (128 : Int) ^ i := Int.pow_nonneg (by omega)
    omega) (by
    rw [← e2]
    have q : c * 128 ^ i ≤ 127 * 128 ^ i := Int.mul_le_mul_of_nonneg_right (by omega) (Int.pow_nonneg (by omega))
    omega), ← e2]
  rw [Int.sub_mul]
  have : (128 : Int) * 128 ^ i = 128 ^ i * 128 := Int.mul_comm ..
  omega
theorem getI_j3 (i n : Nat) (x : Int) (k : Nat) (h0 : 0 ≤ x) (h1 : x < 128) (hi : i ≤ 9) (h9 : i = 9 → x = 0 ∨ x = 127) (hn : n < 128 ^ i) :
    leb_GetInt.j3 (k + 1) ((n : Int) + pay i x) (i : Int) x false = some ((n : Int) + (if 64 ≤ x then x - 128 else x) * 128 ^ i, (i : Int) + 1, 0) := by
  simp only [leb_GetInt.j3]
  have e2 : wrap64 ((i : Int) + 1) = ((i + 1 : Nat) : Int) := by unfold wrap64; omega
  rw [if_neg (by decide), and64 x h0 (by omega), e2, count7 (i + 1) (by omega)]
  have hx : x % 128 = x := by omega
  rw [hx]
  by_cases c : 64 ≤ x
  · rw [if_pos c, if_neg (by omega), if_pos c]
    by_cases c9 : i = 9
    · subst c9
      have hx9 : x = 127 := by have := h9 rfl; omega
      subst hx9
      rw [if_neg (by omega)]
      simp [pay]
    · rw [if_pos (by omega), if_pos (by omega)]
      rw [show pay i x = x * 128 ^ i by unfold pay; rw [if_neg (by omega)], sign_i64 i n (by omega) x c h1 hn]
      simp
  · rw [if_neg c, if_pos (by rfl), if_neg c]
    rw [show pay i x = x * 128 ^ i by unfold pay; rw [if_neg (by omega)]]
    simp
theorem getI_j2 (i n : Nat) (x s : Int) (k : Nat) (h0 : 0 ≤ x) (h1 : x < 128) (hi : i ≤ 9) (h9 : i = 9 → x = 0 ∨ x = 127) (hn : n < 128 ^ i) :
    leb_GetInt.j2 (k + 1 + 1) ((n : Int) + pay i x) (i : Int) x s = some (if 0 < i ∧ ((x = 0 ∧ s = 0) ∨ (x = 127 ∧ s ≠ 0)) then (0, 0, 4) else ((n : Int) + (if 64 ≤ x then x - 128 else x) * 128 ^ i, (i : Int) + 1, 0)) := by
  have t : leb_GetInt.j3 (k + 1) ((n : Int) + pay i x) (i : Int) x true = some (0, 0, 4) := by simp only [leb_GetInt.j3]; rw [if_pos trivial]
  have f := getI_j3 i n x k h0 h1 hi h9 hn
  rw [leb_GetInt.j2.eq_2]
  generalize (n : Int) + (if 64 ≤ x then x - 128 else x) * 128 ^ i = V at f ⊢
  by_cases c0 : (i : Int) > 0
  · rw [if_pos c0]
    by_cases cx : x = 0
    · rw [if_pos cx]
      by_cases cs : s = 0
      · rw [if_pos cs, t, if_pos ⟨by omega, .inl ⟨cx, cs⟩⟩]
      · rw [if_neg cs, if_neg (by omega), f, if_neg (by omega)]
    · rw [if_neg cx]
      by_cases cx7 : x = 127
      · rw [if_pos cx7]
        by_cases cs : s = 0
        · rw [show (s != 0) = false by simpa using cs, f, if_neg (by omega)]
        · rw [show (s != 0) = true by simpa using cs, t, if_pos ⟨by omega, .inr ⟨cx7, cs⟩⟩]
      · rw [if_neg cx7, f, if_neg (by omega)]
  · rw [if_neg c0, f, if_neg (by omega)]
theorem getI_go (b : List Int) (hb : ∀ x ∈ b, isByte x) (d : Nat) (ih : d ≠ 0 → ∀ (k i n : Nat), i + (d - 1) = 9 → 2 * (d - 1) + 4 ≤ k → n < 128 ^ i →
    leb_GetInt.l0 k b (n : Int) b (b.length : Int) (i : Int) = some (gI i n (decide (0 < i ∧ 64 ≤ rd b ((i : Int) - 1) % 128)) (b.drop i))) :
    ∀ (k i n : Nat), i + d = 9 → 2 * d + 4 ≤ k → n < 128 ^ i → leb_GetInt.l0 k b (n : Int) b (b.length : Int) (i : Int) = some (gI i n (decide (0 < i ∧ 64 ≤ rd b ((i : Int) - 1) % 128)) (b.drop i)) := by
    intro k i n hi hk hn
    obtain ⟨k, rfl⟩ : ∃ m, k = m + 1 + 1 + 1 + 1 := ⟨k - 4, by omega⟩
    rw [leb_GetInt.l0.eq_2]
    by_cases hl : i < b.length
    · have hx := hb _ (rd_mem b i hl)
      rw [if_pos (by omega), if_pos (by omega), if_pos (by omega), rd_drop b i hl]
      simp only [gI]
      have hprev : 0 < i → isByte (rd b ((i : Int) - 1)) := fun h => by
        have := hb _ (rd_mem b (i - 1) (by omega))
        rwa [show (((i - 1 : Nat)) : Int) = (i : Int) - 1 by omega] at this
      have hs1 : rd b (((i + 1 : Nat) : Int) - 1) = rd b (i : Int) := by rw [show (((i + 1 : Nat) : Int) - 1) = (i : Int) by omega]
      generalize hy : rd b (i : Int) = y at hx hs1 ⊢
      have hx' := hx
      unfold isByte at hx'
      have T : leb_GetInt.j1 (k + 1 + 1 + 1) b (n : Int) (i : Int) y b (b.length : Int) (i : Int) true = some (0, 0, 4) := by rw [leb_GetInt.j1.eq_2, if_pos rfl]
      have Fl : (i = 9 → y = 0 ∨ y = 127) → leb_GetInt.j1 (k + 1 + 1 + 1) b (n : Int) (i : Int) y b (b.length : Int) (i : Int) false = some (if 128 ≤ y then gI (i + 1) (n + (y.toNat % 128) * 128 ^ i) (decide (64 ≤ y % 128)) (b.drop (i + 1))
    else if 0 < i ∧ ((y = 0 ∧ decide (0 < i ∧ 64 ≤ rd b ((i : Int) - 1) % 128) = false) ∨ (y = 127 ∧ decide (0 < i ∧ 64 ≤ rd b ((i : Int) - 1) % 128) = true)) then (0, 0, 4) else ((n : Int) + (if 64 ≤ y then y - 128 else y) * 128 ^ i, i + 1, 0)) := by
        intro h9
        rw [leb_GetInt.j1.eq_2, if_neg (by decide), count7 i (by omega), if_pos (by omega), andNot128 y hx'.1 hx'.2, join_i64 i n (y % 128) (by omega) (by omega) (by omega) (by intro h; have := h9 h; omega) hn]
        by_cases c : y ≥ 128
        · rw [if_pos c, if_pos (show 128 ≤ y from c)]
          have hi9 : i ≠ 9 := by intro h; have := h9 h; omega
          have e3 : (n : Int) + pay i (y % 128) = ((n + y.toNat % 128 * 128 ^ i : Nat) : Int) := by
            unfold pay
            rw [if_neg (by omega), Int.natCast_add, Int.natCast_mul, pow_cast, show ((y.toNat % 128 : Nat) : Int) = y % 128 by omega]
          have e2 : wrap64 ((i : Int) + 1) = ((i + 1 : Nat) : Int) := by unfold wrap64; omega
          rw [e3, e2]
          clear e3
          have hlt : n + y.toNat % 128 * 128 ^ i < 128 ^ (i + 1) := by
            have hp : 128 ^ (i + 1) = 128 ^ i * 128 := Nat.pow_succ ..
            have : y.toNat % 128 * 128 ^ i ≤ 127 * 128 ^ i := Nat.mul_le_mul_right _ (by omega)
            omega
          rw [ih (by omega) (k + 1 + 1) (i + 1) _ (by omega) (by omega) hlt, hs1]
          congr 3
          simp
        · rw [if_neg c, if_neg (show ¬ 128 ≤ y from c), show y % 128 = y by omega]
          by_cases c0 : (i : Int) > 0
          · have hp := hprev (by omega)
            unfold isByte at hp
            have e2 : wrap64 ((i : Int) - 1) = (i : Int) - 1 := by unfold wrap64; omega
            rw [if_pos c0, e2, if_pos (by omega), if_pos (by omega), getI_j2 i n y _ k hx'.1 (by omega) (by omega) h9 hn, and64 _ hp.1 hp.2]
            generalize (n : Int) + (if 64 ≤ y then y - 128 else y) * 128 ^ i = V
            congr 1
            by_cases c64 : 64 ≤ rd b ((i : Int) - 1) % 128
            · simp [c64, show 0 < i by omega]
            · simp [c64, show 0 < i by omega]
          · rw [if_neg c0, getI_j2 i n y 0 k hx'.1 (by omega) (by omega) h9 hn]
            generalize (n : Int) + (if 64 ≤ y then y - 128 else y) * 128 ^ i = V
            rw [if_neg (by omega), if_neg (by omega)]
      by_cases c9 : (i : Int) = 9
      · rw [if_pos c9]
        by_cases c0 : y = 0
        · rw [if_pos c0, Fl (by omega), if_neg (show ¬ (i = 9 ∧ y ≠ 0 ∧ y ≠ 127) by omega)]
        · rw [if_neg c0]
          by_cases c7 : y = 127
          · rw [show (y != 127) = false by simpa using c7, Fl (by omega), if_neg (show ¬ (i = 9 ∧ y ≠ 0 ∧ y ≠ 127) by omega)]
          · rw [show (y != 127) = true by simpa using c7, T, if_pos (show (i = 9 ∧ y ≠ 0 ∧ y ≠ 127) by omega)]
      · rw [if_neg c9, Fl (by omega), if_neg (show ¬ (i = 9 ∧ y ≠ 0 ∧ y ≠ 127) by omega)]
    · rw [if_neg (by omega), List.drop_eq_nil_of_le (by omega)]; rfl
theorem getI_l0 (b : List Int) (hb : ∀ x ∈ b, isByte x) (d : Nat) : ∀ (k i n : Nat), i + d = 9 → 2 * d + 4 ≤ k → n < 128 ^ i →
    leb_GetInt.l0 k b (n : Int) b (b.length : Int) (i : Int) = some (gI i n (decide (0 < i ∧ 64 ≤ rd b ((i : Int) - 1) % 128)) (b.drop i)) := by
  induction d with
  | zero => exact getI_go b hb 0 (fun h => absurd rfl h)
  | succ d ih => exact getI_go b hb (d + 1) (fun _ => by rw [Nat.add_sub_cancel]; exact ih)
theorem getI_f {k : Nat} (hk : 22 ≤ k) {b : List Int} (hb : ∀ x ∈ b, isByte x) : leb_GetInt.f k b = some (gI 0 0 false b) := by
  unfold leb_GetInt.f
  have := getI_l0 b hb 9 k 0 0 (by omega) (by omega) (by simp)
  simpa using this
theorem wf_i64 {a : Int} (h : (Lit.int .i64 a).wf = true) : -9223372036854775808 ≤ a ∧ a < 9223372036854775808 := by
  simp only [Lit.wf, IntKind.min, IntKind.max, IntKind.signed, IntKind.bits, Bool.and_eq_true] at h
  simp at h; omega
theorem wf_u8 {a : Int} (h : (Lit.int .u8 a).wf = true) : isByte a := by
  simp only [Lit.wf, IntKind.min, IntKind.max, IntKind.signed, IntKind.bits, Bool.and_eq_true] at h
  simp at h; unfold isByte; omega
theorem int_l0 (d : Nat) : ∀ (k : Nat) (x : Int) (acc : List Int), -(64 * 128 ^ d) ≤ x → x < 64 * 128 ^ d → d < k → acc.length + d < 140737488355328 → leb_Int.l0 k x acc = some (acc ++ putI x) := by
  induction d with
  | zero =>
    intro k x acc h0 h1 hk ha
    obtain ⟨k, rfl⟩ : ∃ m, k = m + 1 := ⟨k - 1, by omega⟩
    simp only [leb_Int.l0]
    rw [if_neg (by omega), if_neg (by omega), if_pos (by omega), putI_small (by omega), andNot128 _ (by omega) (by omega)]
    congr 3; omega
  | succ d ih =>
    intro k x acc h0 h1 hk ha
    obtain ⟨k, rfl⟩ : ∃ m, k = m + 1 := ⟨k - 1, by omega⟩
    simp only [leb_Int.l0]
    have e : (128 : Int) ^ (d + 1) = 128 ^ d * 128 := by rw [Int.pow_succ]
    rw [e] at h0 h1
    have step : (63 < x ∨ x < -64) → leb_Int.l0 k (x / 128) (acc ++ [Go.bits .or .u8 (x % 256) 128]) = some (acc ++ putI x) := fun hs => by
      rw [ih k (x / 128) _ (by generalize (128 : Int) ^ d = p at *; omega) (by generalize (128 : Int) ^ d = p at *; omega) (by omega) (by simp; omega)]
      rw [putI_big hs, or128 _ (by omega) (by omega), List.append_assoc]
      congr 2
      simp only [List.cons_append, List.nil_append]
      congr 1; omega
    by_cases hs : x > 63
    · rw [if_pos hs, if_pos (by omega), step (.inl hs)]
    · rw [if_neg hs]
      by_cases hs2 : x < -64
      · rw [if_pos hs2, if_pos (by omega), step (.inr hs2)]
      · rw [if_neg hs2, if_pos (by omega), putI_small (by omega), andNot128 _ (by omega) (by omega)]
        congr 3; omega
theorem int_f {k : Nat} (hk : 10 ≤ k) {a : Int} (h0 : -9223372036854775808 ≤ a) (h1 : a < 9223372036854775808) : leb_Int.f k a = some (putI a) := by
  unfold leb_Int.f
  rw [int_l0 9 k a [] (by omega) (by omega) (by omega) (by simp)]
  simp
theorem i64_and127 (x : Int) (_h0 : -9223372036854775808 ≤ x) (_h1 : x < 9223372036854775808) : Go.bits .and .i64 x 127 = x % 128 := by
  have e64 : ((2 ^ 64 : Nat) : Int) = 18446744073709551616 := by rfl
  show IntKind.i64.wrap ((BitVec.ofInt 64 x &&& BitVec.ofInt 64 ((127 : Nat) : Int)).toNat : Int) = _
  rw [BitVec.toNat_and, ofInt_u64 127 (by omega), BitVec.toNat_ofInt, e64, nat_mask7, IntKind.wrap_i64]
  omega
theorem u64_size {n : Nat} (h : n ≤ 140737488355328) : IntKind.u64.wrap ((n : Int)) = (n : Int) := by rw [IntKind.wrap_u64]; omega
theorem gText (b : List Int) (most : Int) (hm : 0 ≤ most) (hm2 : most ≤ 9223372036854775807) (hb : ∀ x ∈ b, isByte x) (hl : b.length ≤ 281474976710656) {k : Nat} (hk : 24 ≤ k) :
    leb_GetText.f k b most = some (if (gU 0 0 b).2.2 = 0 then (if (gU 0 0 b).1 > most then ((⟨#[]⟩ : ByteArray), 0, 5) else if (gU 0 0 b).1 > (b.length : Int) - (gU 0 0 b).2.1 then ((⟨#[]⟩ : ByteArray), 0, 3) else (strOfNums ((b.take ((gU 0 0 b).2.1 + (gU 0 0 b).1).toNat).drop (gU 0 0 b).2.1.toNat), (gU 0 0 b).2.1 + (gU 0 0 b).1, 0)) else ((⟨#[]⟩ : ByteArray), 0, (gU 0 0 b).2.2)) := by
  obtain ⟨k, rfl⟩ : ∃ m, k = m + 1 := ⟨k - 1, by omega⟩
  unfold leb_GetText.f
  rw [getU_f (by omega) hb]
  simp only [Option.bind_some]
  rcases gU_errs b 0 0 with h | h | h
  · obtain ⟨v, u, e⟩ : ∃ v u, gU 0 0 b = (v, u, 0) := ⟨(gU 0 0 b).1, (gU 0 0 b).2.1, by rw [← h]⟩
    obtain ⟨m, j, h1, h2, h3, h4, h5, h6, h7⟩ := gU_only b 0 0 v u hb (by omega) (by simp) e
    have hv : v = (m : Int) := by simpa using h1
    have hu : u = (j : Int) := by simpa using h2
    have h7' : m < 18446744073709551616 := by simpa using h7
    subst hv; subst hu
    rw [e]
    simp only [if_true]
    rw [if_neg (by omega), show IntKind.u64.wrap most = most by rw [IntKind.wrap_u64]; omega]
    by_cases c1 : (m : Int) > most
    · rw [if_pos c1, show decide ((m : Int) > most) = true by simpa using c1]
      simp only [leb_GetText.j0]; rw [if_pos trivial]
    · rw [if_neg c1, show decide ((m : Int) > most) = false by simpa using c1, leb_GetText.j0.eq_2, if_neg (by decide)]
      have e1 : IntKind.u64.wrap (wrap64 ((b.length : Int) - (j : Int))) = (b.length : Int) - j := by rw [IntKind.wrap_u64]; unfold wrap64; omega
      rw [e1]
      by_cases c2 : (m : Int) > (b.length : Int) - j
      · rw [if_pos c2, if_pos c2]
      · rw [if_neg c2, if_neg c2]
        have e2 : wrap64 ((j : Int) + wrap64 (m : Int)) = (j : Int) + m := by unfold wrap64; omega
        rw [e2, if_pos (by omega), if_pos (by omega), if_pos (by omega)]
  · rw [h]; simp
  · rw [h]; simp
theorem append_byte {a b : List Int} (ha : ∀ x ∈ a, isByte x) (hb : ∀ x ∈ b, isByte x) : ∀ x ∈ a ++ b, isByte x := fun x hx => (List.mem_append.1 hx).elim (ha x) (hb x)
end Go.Proofs.Ytpnnjefhchppfaa.LebP

set_option linter.unusedVariables false
set_option linter.unusedSimpArgs false
namespace Go.Proofs.Ytpnnjefhchppfaa.LebP
open Go.RowKit Go.Proofs.Ytpnnjefhchppfaa.PA Go.Proofs.YtpnnjefhchppfaaW.PrintWords Go.Proofs.YtpnnjefhchppfaaW.PrintLast Go.Proofs.YtpnnjefhchppfaaW.PrintMore Go.Proofs.Ytpnnjefhchppfaa.LebT
theorem rUint_l0 (d : Nat) : ∀ (k : Nat) (x : Int) (acc : List Int), 0 ≤ x → x < 18446744073709551616 → x.toNat < 128 ^ (d + 1) → d < k → acc.length + d < 140737488355328 → stemmaref02_Uint.l0 k x acc = some (acc ++ putU x.toNat) := by
  induction d with
  | zero =>
    intro k x acc h0 h64 h1 hk ha
    obtain ⟨k, rfl⟩ : ∃ m, k = m + 1 := ⟨k - 1, by omega⟩
    simp only [stemmaref02_Uint.l0]
    rw [if_neg (by omega), if_pos (by omega), putU_small (by omega)]
    congr 3; omega
  | succ d ih =>
    intro k x acc h0 h64 h1 hk ha
    obtain ⟨k, rfl⟩ : ∃ m, k = m + 1 := ⟨k - 1, by omega⟩
    simp only [stemmaref02_Uint.l0]
    have e1 : IntKind.u64.wrap (Int.tdiv x 128) = x / 128 := by
      rw [IntKind.wrap_u64, Int.tdiv_eq_ediv_of_nonneg h0]; omega
    have e2 : Int.tmod x 128 = x % 128 := Int.tmod_eq_emod_of_nonneg h0
    rw [e1, e2]
    by_cases hs : x ≥ 128
    · rw [if_pos hs, if_pos (by omega), ih k (x / 128) _ (by omega) (by omega) (by
        rw [show (x / 128).toNat = x.toNat / 128 by omega, Nat.div_lt_iff_lt_mul (by omega), ← Nat.pow_succ]; exact h1) (by omega) (by simp; omega)]
      rw [putU_big (n := x.toNat) (by omega), List.append_assoc]
      congr 2
      simp only [List.cons_append, List.nil_append]
      congr 1
      · omega
      · congr 1; omega
    · rw [if_neg hs, if_pos (by omega), putU_small (by omega)]
      congr 3; omega
theorem rUint_f {k : Nat} (hk : 10 ≤ k) {a : Int} (h0 : 0 ≤ a) (h1 : a < 18446744073709551616) : stemmaref02_Uint.f k a = some (putU a.toNat) := by
  unfold stemmaref02_Uint.f
  rw [rUint_l0 9 k a [] h0 h1 (by omega) (by omega) (by simp)]
  simp
theorem rInt_l0 (d : Nat) : ∀ (k : Nat) (x : Int) (acc : List Int), -9223372036854775808 ≤ x → x < 9223372036854775808 → -(64 * 128 ^ d) ≤ x → x < 64 * 128 ^ d → d < k → acc.length + d < 140737488355328 → stemmaref02_Int.l0 k x acc = some (acc ++ putI x) := by
  induction d with
  | zero =>
    intro k x acc g0 g1 h0 h1 hk ha
    obtain ⟨k, rfl⟩ : ∃ m, k = m + 1 := ⟨k - 1, by omega⟩
    simp only [stemmaref02_Int.l0]
    rw [if_neg (by omega), if_neg (by omega), if_pos (by omega), putI_small (by omega), i64_and127 _ g0 g1]
    congr 3; omega
  | succ d ih =>
    intro k x acc g0 g1 h0 h1 hk ha
    obtain ⟨k, rfl⟩ : ∃ m, k = m + 1 := ⟨k - 1, by omega⟩
    simp only [stemmaref02_Int.l0]
    have e : (128 : Int) ^ (d + 1) = 128 ^ d * 128 := by rw [Int.pow_succ]
    rw [e] at h0 h1
    rw [i64_and127 _ g0 g1]
    have step : (63 < x ∨ x < -64) → stemmaref02_Int.l0 k (x / 128) (acc ++ [((x % 128) + 128) % 256]) = some (acc ++ putI x) := fun hs => by
      rw [ih k (x / 128) _ (by omega) (by omega) (by generalize (128 : Int) ^ d = p at *; omega) (by generalize (128 : Int) ^ d = p at *; omega) (by omega) (by simp; omega)]
      rw [putI_big hs, List.append_assoc]
      congr 2
      simp only [List.cons_append, List.nil_append]
      congr 1; omega
    by_cases hs : x < -64
    · rw [if_pos hs, if_pos (by omega), step (.inr hs)]
    · rw [if_neg hs]
      by_cases hs2 : x > 63
      · rw [if_pos hs2, if_pos (by omega), step (.inl hs2)]
      · rw [if_neg hs2, if_pos (by omega), putI_small (by omega)]
        congr 3; omega
theorem rInt_f {k : Nat} (hk : 10 ≤ k) {a : Int} (h0 : -9223372036854775808 ≤ a) (h1 : a < 9223372036854775808) : stemmaref02_Int.f k a = some (putI a) := by
  unfold stemmaref02_Int.f
  rw [rInt_l0 9 k a [] h0 h1 (by omega) (by omega) (by omega) (by simp)]
  simp
end Go.Proofs.Ytpnnjefhchppfaa.LebP

