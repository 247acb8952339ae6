/- leb.Uint and leb.GetUint compute what the plain theory says. -/
import Derived.Test.YtonpiacnljcohaaDoorLeb
import Derived.Laws.BitsAllLaws
import Derived.Laws.Bits64
import Derived.Test.YtonpiacnljcohaaDoorPAx34
import Derived.Test.YtonpiacnljcohaaDoorPAx40
set_option linter.unusedVariables false
set_option linter.unusedSimpArgs false
namespace Go.Proofs.YtonpiacnljcohaaDoor.LebP
open Go.RowKit Go.Proofs.YtonpiacnljcohaaDoor.PA Go.Proofs.YtonpiacnljcohaaDoorW.PrintWords Go.Proofs.YtonpiacnljcohaaDoorW.PrintLast Go.Proofs.YtonpiacnljcohaaDoorW.PrintMore Go.Proofs.YtonpiacnljcohaaDoor.LebT
theorem nat_or128 : ∀ a : Fin 256, (a.val ||| 128) = a.val % 128 + 128 := by decide +kernel
theorem nat_and127 : ∀ a : Fin 256, (a.val &&& 127) = a.val % 128 := by decide +kernel
theorem nat_and64 : ∀ a : Fin 256, (a.val &&& 64) = if 64 ≤ a.val % 128 then 64 else 0 := by decide +kernel
theorem or128 (x : Int) (h0 : 0 ≤ x) (h1 : x < 256) : Go.bits .or .u8 x 128 = x % 128 + 128 := by
  rw [u8_or x 128 h0 h1 (by omega) (by omega)]
  have := nat_or128 ⟨x.toNat, by omega⟩
  simp only at this
  rw [show (128 : Int).toNat = 128 from rfl, this]; omega
theorem andNot128 (x : Int) (h0 : 0 ≤ x) (h1 : x < 256) : Go.bits .andNot .u8 x 128 = x % 128 := by
  rw [u8_andNot x 128 h0 h1 (by omega) (by omega)]
  have := nat_and127 ⟨x.toNat, by omega⟩
  simp only at this
  rw [show (255 - (128 : Int).toNat) = 127 from rfl, this]; omega
theorem and64 (x : Int) (h0 : 0 ≤ x) (h1 : x < 256) : Go.bits .and .u8 x 64 = if 64 ≤ x % 128 then 64 else 0 := by
  rw [u8_and x 64 h0 h1 (by omega) (by omega)]
  have := nat_and64 ⟨x.toNat, by omega⟩
  simp only at this
  rw [show (64 : Int).toNat = 64 from rfl, this]
  split <;> split <;> omega
theorem uint_l0 (d : Nat) : ∀ (k : Nat) (x : Int) (acc : List Int), 0 ≤ x → x.toNat < 128 ^ (d + 1) → d < k → acc.length + d < 140737488355328 → leb_Uint.l0 k x acc = some (acc ++ putU x.toNat) := by
  induction d with
  | zero =>
    intro k x acc h0 h1 hk ha
    obtain ⟨k, rfl⟩ : ∃ m, k = m + 1 := ⟨k - 1, by omega⟩
    simp only [leb_Uint.l0]
    rw [if_neg (by omega), if_pos (by omega), putU_small (by omega)]
    congr 3; omega
  | succ d ih =>
    intro k x acc h0 h1 hk ha
    obtain ⟨k, rfl⟩ : ∃ m, k = m + 1 := ⟨k - 1, by omega⟩
    simp only [leb_Uint.l0]
    by_cases hs : x ≥ 128
    · rw [if_pos hs, if_pos (by omega), ih k (x / 128) _ (by omega) (by
        rw [show (x / 128).toNat = x.toNat / 128 by omega, Nat.div_lt_iff_lt_mul (by omega), ← Nat.pow_succ]; exact h1) (by omega) (by simp; omega)]
      rw [putU_big (n := x.toNat) (by omega), or128 _ (by omega) (by omega), List.append_assoc]
      congr 2
      simp only [List.cons_append, List.nil_append]
      congr 1
      · omega
      · congr 1; omega
    · rw [if_neg hs, if_pos (by omega), putU_small (by omega)]
      congr 3; omega
theorem uint_f {k : Nat} (hk : 10 ≤ k) {a : Int} (h0 : 0 ≤ a) (h1 : a < 18446744073709551616) : leb_Uint.f k a = some (putU a.toNat) := by
  unfold leb_Uint.f
  rw [uint_l0 9 k a [] h0 (by omega) (by omega) (by simp)]
  simp
theorem pow7 (i : Nat) : 128 ^ i = 2 ^ (7 * i) := by rw [Nat.pow_mul]
theorem pow7i (i : Nat) : (128 : Int) ^ i = 2 ^ (7 * i) := by rw [Int.pow_mul]; rfl
theorem rd_drop (b : List Int) (i : Nat) (h : i < b.length) : b.drop i = rd b (i : Int) :: b.drop (i + 1) := by
  rw [List.drop_eq_getElem_cons h]
  simp [rd, List.getD_eq_getElem?_getD, List.getElem?_eq_getElem h]
theorem rd_mem (b : List Int) (i : Nat) (h : i < b.length) : rd b (i : Int) ∈ b := by
  simp [rd, List.getD_eq_getElem?_getD, List.getElem?_eq_getElem h]
theorem count7 (i : Nat) (h : i ≤ 1000) : IntKind.u64.wrap (wrap64 (7 * (i : Int))) = ((7 * i : Nat) : Int) := by
  rw [IntKind.wrap_u64]; unfold wrap64; omega
theorem join_u64 (i n c : Nat) (hn : n < 128 ^ i) (hc : c * 128 ^ i < 18446744073709551616) (hi : i ≤ 9) : Go.bits .or .u64 (n : Int) (shl .u64 (c : Int) ((7 * i : Nat) : Int)) = ((n + c * 128 ^ i : Nat) : Int) := by
  have e1 : shl .u64 (c : Int) ((7 * i : Nat) : Int) = ((c * 128 ^ i : Nat) : Int) := by
    unfold shl
    rw [show min (((7 * i : Nat) : Int)).toNat IntKind.u64.bits = 7 * i by rw [Int.toNat_natCast]; exact Nat.min_eq_left (by show 7 * i ≤ 64; omega), ← pow7i, ← pow_cast, ← Int.natCast_mul, IntKind.wrap_u64]
    omega
  rw [e1, u64_or_nat _ _ (by
    have : 128 ^ i ≤ 128 ^ 9 := Nat.pow_le_pow_right (by omega) hi
    omega) hc, Nat.or_comm, nat_join (7 * i) _ _ (by rw [pow7]; exact Nat.mul_mod_left _ _) (by rw [← pow7]; exact hn)]
  congr 1; omega
theorem getU_j1 (b : List Int) (L : Int) (i n : Nat) (x : Int) (hx : isByte x) (hi : i ≤ 9) (h9 : i = 9 → x ≤ 1) (hn : n < 128 ^ i) (k : Nat) :
    leb_GetUint.j1 (k + 1) (n : Int) (i : Int) x b L (i : Int) false = if x < 128 then some (((n + x.toNat * 128 ^ i : Nat) : Int), (i : Int) + 1, 0) else leb_GetUint.l0 k ((n + x.toNat % 128 * 128 ^ i : Nat) : Int) b L ((i : Int) + 1) := by
  unfold isByte at hx
  simp only [leb_GetUint.j1]
  rw [if_neg (by decide), count7 i (by omega), if_pos (by omega), andNot128 x hx.1 hx.2]
  have e1 : IntKind.u64.wrap (x % 128) = ((x.toNat % 128 : Nat) : Int) := by rw [IntKind.wrap_u64]; omega
  rw [e1, join_u64 i n (x.toNat % 128) hn (by
    by_cases h : i = 9
    · subst h
      have : x.toNat % 128 ≤ 1 := by have := h9 rfl; omega
      omega
    · have h8 : 128 ^ i ≤ 128 ^ 8 := Nat.pow_le_pow_right (by omega) (by omega)
      have h2 : x.toNat % 128 * 128 ^ i ≤ 127 * 128 ^ i := Nat.mul_le_mul_right _ (by omega)
      omega) hi]
  have e2 : wrap64 ((i : Int) + 1) = (i : Int) + 1 := by unfold wrap64; omega
  rw [e2]
  by_cases c : x < 128
  · rw [if_pos c, if_pos c, show x.toNat % 128 = x.toNat by omega]
  · rw [if_neg c, if_neg c]
theorem getU_j1t (b : List Int) (L : Int) (i n : Int) (x : Int) (k : Nat) (y : Int) : leb_GetUint.j1 (k + 1) n i x b L y true = some (0, 0, 4) := by
  simp only [leb_GetUint.j1]; rw [if_pos trivial]
theorem getU_l0 (b : List Int) (hb : ∀ x ∈ b, isByte x) (d : Nat) : ∀ (k i n : Nat), i + d = 9 → 2 * d + 2 ≤ k → n < 128 ^ i → leb_GetUint.l0 k (n : Int) b (b.length : Int) (i : Int) = some (gU i n (b.drop i)) := by
  induction d with
  | zero =>
    intro k i n hi hk hn
    obtain ⟨k, rfl⟩ : ∃ m, k = m + 1 + 1 := ⟨k - 2, by omega⟩
    rw [leb_GetUint.l0.eq_2]
    by_cases hl : i < b.length
    · have hx := hb _ (rd_mem b i hl)
      rw [if_pos (by omega), if_pos (by omega), if_pos (by omega), if_pos (by omega), rd_drop b i hl]
      simp only [gU]
      generalize rd b (i : Int) = y at hx ⊢
      have hx' := hx
      unfold isByte at hx'
      by_cases c : y > 1
      · rw [if_pos c, getU_j1t, if_pos (by omega)]
      · rw [if_neg c, if_pos (by omega)]
        by_cases c2 : y = 0
        · rw [show (y == 0) = true by simpa using c2, getU_j1t, if_pos (by omega)]
        · rw [show (y == 0) = false by simpa using c2, getU_j1 b _ i n _ hx (by omega) (by omega) hn, if_pos (by omega), if_neg (by omega), if_pos (by omega)]
    · rw [if_neg (by omega), List.drop_eq_nil_of_le (by omega)]; rfl
  | succ d ih =>
    intro k i n hi hk hn
    obtain ⟨k, rfl⟩ : ∃ m, k = m + 1 + 1 := ⟨k - 2, by omega⟩
    rw [leb_GetUint.l0.eq_2]
    by_cases hl : i < b.length
    · have hx := hb _ (rd_mem b i hl)
      rw [if_pos (by omega), if_pos (by omega), if_pos (by omega), if_neg (by omega), rd_drop b i hl]
      simp only [gU]
      generalize rd b (i : Int) = y at hx ⊢
      have hx' := hx
      unfold isByte at hx'
      have step : leb_GetUint.j1 (k + 1) (n : Int) (i : Int) y b (b.length : Int) (i : Int) false = some (if y < 128 then (((n + y.toNat * 128 ^ i : Nat) : Int), (i : Int) + 1, 0) else gU (i + 1) (n + y.toNat % 128 * 128 ^ i) (b.drop (i + 1))) := by
        rw [getU_j1 b _ i n _ hx (by omega) (by omega) hn]
        by_cases c : y < 128
        · rw [if_pos c, if_pos c]
        · rw [if_neg c, if_neg c, show ((i : Int) + 1) = ((i + 1 : Nat) : Int) by omega]
          refine ih k (i + 1) _ (by omega) (by omega) ?_
          have hp : 128 ^ (i + 1) = 128 ^ i * 128 := Nat.pow_succ ..
          have : y.toNat % 128 * 128 ^ i ≤ 127 * 128 ^ i := Nat.mul_le_mul_right _ (by omega)
          omega
      by_cases c0 : (i : Int) > 0
      · rw [if_pos c0]
        by_cases c2 : y = 0
        · rw [show (y == 0) = true by simpa using c2, getU_j1t, if_pos (by omega)]
        · rw [show (y == 0) = false by simpa using c2, step]
          congr 1
          rw [if_neg (show ¬ (i = 9 ∧ 1 < y ∨ 0 < i ∧ y = 0) by omega)]
      · rw [if_neg c0, step]
        congr 1
        rw [if_neg (show ¬ (i = 9 ∧ 1 < y ∨ 0 < i ∧ y = 0) by omega)]
    · rw [if_neg (by omega), List.drop_eq_nil_of_le (by omega)]; rfl
theorem getU_f {k : Nat} (hk : 20 ≤ k) {b : List Int} (hb : ∀ x ∈ b, isByte x) : leb_GetUint.f k b = some (gU 0 0 b) := by
  unfold leb_GetUint.f
  have := getU_l0 b hb 9 k 0 0 (by omega) (by omega) (by simp)
  simpa using this
theorem wf_u64 {a : Int} (h : (Lit.int .u64 a).wf = true) : 0 ≤ a ∧ a < 18446744073709551616 := by
  simp only [Lit.wf, IntKind.min, IntKind.max, IntKind.signed, IntKind.bits, Bool.and_eq_true] at h
  simp at h; omega
theorem wf_i64 {a : Int} (h : (Lit.int .i64 a).wf = true) : -9223372036854775808 ≤ a ∧ a < 9223372036854775808 := by
  simp only [Lit.wf, IntKind.min, IntKind.max, IntKind.signed, IntKind.bits, Bool.and_eq_true] at h
  simp at h; omega
theorem wf_u8 {a : Int} (h : (Lit.int .u8 a).wf = true) : isByte a := by
  simp only [Lit.wf, IntKind.min, IntKind.max, IntKind.signed, IntKind.bits, Bool.and_eq_true] at h
  simp at h; unfold isByte; omega
theorem i64_and127 (x : Int) (_h0 : -9223372036854775808 ≤ x) (_h1 : x < 9223372036854775808) : Go.bits .and .i64 x 127 = x % 128 := by
  have e64 : ((2 ^ 64 : Nat) : Int) = 18446744073709551616 := by rfl
  show IntKind.i64.wrap ((BitVec.ofInt 64 x &&& BitVec.ofInt 64 ((127 : Nat) : Int)).toNat : Int) = _
  rw [BitVec.toNat_and, ofInt_u64 127 (by omega), BitVec.toNat_ofInt, e64, nat_mask7, IntKind.wrap_i64]
  omega
theorem u64_size {n : Nat} (h : n ≤ 140737488355328) : IntKind.u64.wrap ((n : Int)) = (n : Int) := by rw [IntKind.wrap_u64]; omega
theorem bytesOf_str {l : List Int} (h : ∀ x ∈ l, isByte x) : bytesOf (strOfNums l) = l := by
  unfold bytesOf
  rw [strOfNums_data, List.map_map]
  conv => rhs; rw [← List.map_id l]
  refine List.map_congr_left (fun x hx => ?_)
  have := h x hx
  unfold isByte at this
  simp [UInt8.toNat_ofNat']
  omega
theorem w64a (a b : Nat) (h1 : a + b < 4611686018427387904) : wrap64 ((a : Int) + (b : Int)) = ((a + b : Nat) : Int) := by unfold wrap64; omega
end Go.Proofs.YtonpiacnljcohaaDoor.LebP
