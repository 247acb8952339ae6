/- Own texts of this claim. -/

set_option linter.unusedVariables false
set_option linter.unusedSimpArgs false
namespace Go.Proofs.Ytpnnjefhchppfaa.LebT
def putU (n : Nat) : List Int := if n < 128 then [(n : Int)] else ((n % 128 : Nat) + 128 : Int) :: putU (n / 128)
termination_by n
decreasing_by omega
def putI (x : Int) : List Int := if 63 < x ∨ x < -64 then (x % 128 + 128) :: putI (x / 128) else [x % 128]
termination_by x.natAbs
decreasing_by omega

theorem putU_small {n : Nat} (h : n < 128) : putU n = [(n : Int)] := by rw [putU, if_pos h]
theorem putU_big {n : Nat} (h : ¬ n < 128) : putU n = ((n % 128 : Nat) + 128 : Int) :: putU (n / 128) := by rw [putU, if_neg h]
theorem putI_small {x : Int} (h : ¬ (63 < x ∨ x < -64)) : putI x = [x % 128] := by rw [putI, if_neg h]
theorem putI_big {x : Int} (h : 63 < x ∨ x < -64) : putI x = (x % 128 + 128) :: putI (x / 128) := by rw [putI, if_pos h]
theorem putI_ne (x : Int) : putI x ≠ [] := by
  by_cases h : 63 < x ∨ x < -64
  · rw [putI_big h]; simp
  · rw [putI_small h]; simp
theorem putI_len_pos (x : Int) : 0 < (putI x).length := List.length_pos_iff.2 (putI_ne x)
theorem putU_len (d : Nat) : ∀ n, n < 128 ^ (d + 1) → (putU n).length ≤ d + 1 := by
  induction d with
  | zero => intro n h; rw [putU_small (by omega)]; simp
  | succ d ih =>
    intro n h
    by_cases hs : n < 128
    · rw [putU_small hs]; simp
    · rw [putU_big hs]
      have := ih (n / 128) (by rw [Nat.div_lt_iff_lt_mul (by omega)]; rw [Nat.pow_succ] at h; exact h)
      simp only [List.length_cons]; omega
theorem putU_len64 {n : Nat} (h : n < 18446744073709551616) : (putU n).length ≤ 10 := putU_len 9 n (by omega)
theorem putI_len (d : Nat) : ∀ x : Int, -(64 * 128 ^ d) ≤ x → x < 64 * 128 ^ d → (putI x).length ≤ d + 1 := by
  induction d with
  | zero => intro x h h1; rw [putI_small (by omega)]; simp
  | succ d ih =>
    intro x h h1
    by_cases hs : 63 < x ∨ x < -64
    · rw [putI_big hs]
      have e : (128 : Int) ^ (d + 1) = 128 ^ d * 128 := by rw [Int.pow_succ]
      rw [e] at h h1
      generalize (128 : Int) ^ d = p at *
      have := ih (x / 128) (by omega) (by omega)
      simp only [List.length_cons]; omega
    · rw [putI_small hs]; simp
theorem putI_len64 {x : Int} (h : -9223372036854775808 ≤ x) (h1 : x < 9223372036854775808) : (putI x).length ≤ 10 := putI_len 9 x (by omega) (by omega)
def isByte (x : Int) : Prop := 0 ≤ x ∧ x < 256
theorem putU_bytes (n : Nat) : ∀ x ∈ putU n, isByte x := by
  induction n using Nat.strongRecOn with
  | _ n ih =>
    by_cases hs : n < 128
    · rw [putU_small hs]; intro x hx; simp at hx; subst hx; unfold isByte; omega
    · rw [putU_big hs]
      intro x hx
      rcases List.mem_cons.1 hx with rfl | hx
      · unfold isByte; omega
      · exact ih (n / 128) (by omega) x hx
theorem putI_bytes (m : Nat) : ∀ y : Int, y.natAbs = m → ∀ x ∈ putI y, isByte x := by
  induction m using Nat.strongRecOn with
  | _ m ih =>
    intro y hy
    by_cases hs : 63 < y ∨ y < -64
    · rw [putI_big hs]
      intro x hx
      rcases List.mem_cons.1 hx with rfl | hx
      · unfold isByte; omega
      · exact ih (y / 128).natAbs (by omega) (y / 128) rfl x hx
    · rw [putI_small hs]; intro x hx; simp at hx; subst hx; unfold isByte; omega
def gU (i : Nat) (n : Nat) : List Int → Int × Int × Int
  | [] => (0, 0, 3)
  | x :: r => if (i = 9 ∧ 1 < x) ∨ (0 < i ∧ x = 0) then (0, 0, 4) else if x < 128 then (((n + x.toNat * 128 ^ i : Nat) : Int), i + 1, 0) else gU (i + 1) (n + (x.toNat % 128) * 128 ^ i) r
theorem gU_put (m : Nat) : ∀ (i n : Nat) (r : List Int), (0 < i → 0 < m) → n < 128 ^ i → n + m * 128 ^ i < 18446744073709551616 → gU i n (putU m ++ r) = (((n + m * 128 ^ i : Nat) : Int), ((i + (putU m).length : Nat) : Int), 0) := by
  induction m using Nat.strongRecOn with
  | _ m ih =>
    intro i n r hm hn h
    by_cases hs : m < 128
    · rw [putU_small hs]
      simp only [List.cons_append, List.nil_append, gU]
      rw [if_neg, if_pos (by omega)]
      · simp
      · rintro (⟨rfl, h1⟩ | ⟨h0, h1⟩)
        · omega
        · have := hm h0; omega
    · rw [putU_big hs]
      simp only [List.cons_append, gU]
      have hi : i ≠ 9 := by rintro rfl; omega
      rw [if_neg (by omega), if_neg (by omega)]
      have e1 : (((m % 128 : Nat) : Int) + 128).toNat % 128 = m % 128 := by omega
      rw [e1]
      have hp : 128 ^ (i + 1) = 128 ^ i * 128 := Nat.pow_succ ..
      have hdm : m % 128 + m / 128 * 128 = m := by omega
      have e2 : n + m % 128 * 128 ^ i + m / 128 * 128 ^ (i + 1) = n + m * 128 ^ i := by
        rw [hp]
        generalize 128 ^ i = p at *
        have : m / 128 * (p * 128) = m / 128 * 128 * p := by rw [Nat.mul_comm p, Nat.mul_assoc]
        rw [this, Nat.add_assoc, ← Nat.add_mul, hdm]
      rw [ih (m / 128) (by omega) (i + 1) _ r (by omega) (by
        rw [hp]
        have : m % 128 * 128 ^ i ≤ 127 * 128 ^ i := Nat.mul_le_mul_right _ (by omega)
        omega) (by rw [e2]; exact h)]
      rw [e2]
      simp only [List.length_cons]
      simp; omega

theorem gU_only : ∀ (b : List Int) (i n : Nat) (v k : Int), (∀ x ∈ b, isByte x) → i ≤ 9 → n < 128 ^ i → gU i n b = (v, k, 0) →
    ∃ (m j : Nat), v = ((n + m * 128 ^ i : Nat) : Int) ∧ k = ((i + j : Nat) : Int) ∧ 0 < j ∧ j ≤ b.length ∧ putU m = b.take j ∧ (0 < i → 0 < m) ∧ n + m * 128 ^ i < 18446744073709551616
  | [], i, n, v, k, _, _, _, h => by simp [gU] at h
  | x :: r, i, n, v, k, hb, hi, hn, h => by
    have hx := hb x List.mem_cons_self
    unfold isByte at hx
    simp only [gU] at h
    by_cases c1 : (i = 9 ∧ 1 < x) ∨ (0 < i ∧ x = 0)
    · rw [if_pos c1] at h; simp at h
    · rw [if_neg c1] at h
      by_cases c2 : x < 128
      · rw [if_pos c2] at h
        simp only [Prod.mk.injEq, and_true] at h
        refine ⟨x.toNat, 1, h.1.symm, by omega, by omega, by simp, ?_, by omega, ?_⟩
        · rw [putU_small (by omega)]; simp; omega
        · by_cases h9 : i = 9
          · subst h9; omega
          · have : 128 ^ i ≤ 128 ^ 8 := Nat.pow_le_pow_right (by omega) (by omega)
            have h2 : x.toNat * 128 ^ i ≤ 127 * 128 ^ i := Nat.mul_le_mul_right _ (by omega)
            omega
      · rw [if_neg c2] at h
        have h9 : i ≠ 9 := by omega
        have hp : 128 ^ (i + 1) = 128 ^ i * 128 := Nat.pow_succ ..
        have hm1 : x.toNat % 128 * 128 ^ i ≤ 127 * 128 ^ i := Nat.mul_le_mul_right _ (by omega)
        obtain ⟨m, j, h1, h2, h3, h4, h5, h6, h7⟩ := gU_only r (i + 1) _ v k (fun y hy => hb y (List.mem_cons_of_mem _ hy)) (by omega) (by rw [hp]; omega) h
        have e : n + x.toNat % 128 * 128 ^ i + m * 128 ^ (i + 1) = n + (x.toNat % 128 + m * 128) * 128 ^ i := by
          rw [hp, Nat.add_mul, Nat.add_assoc]
          congr 2
          rw [Nat.mul_comm (128 ^ i), Nat.mul_assoc]
        rw [e] at h1 h7
        have hm0 := h6 (by omega)
        refine ⟨x.toNat % 128 + m * 128, j + 1, h1, by omega, by omega, by simp; omega, ?_, fun _ => by omega, h7⟩
        rw [putU_big (by omega), List.take_succ_cons, ← h5]
        congr 1
        · omega
        · congr 1; omega
theorem gU_errs : ∀ (b : List Int) (i n : Nat), (gU i n b).2.2 = 0 ∨ gU i n b = (0, 0, 3) ∨ gU i n b = (0, 0, 4)
  | [], i, n => by simp [gU]
  | x :: r, i, n => by
    simp only [gU]
    split
    · simp
    · split
      · simp
      · exact gU_errs r _ _

def gI (i : Nat) (n : Nat) (s : Bool) : List Int → Int × Int × Int
  | [] => (0, 0, 3)
  | x :: r => if i = 9 ∧ x ≠ 0 ∧ x ≠ 127 then (0, 0, 4) else if 128 ≤ x then gI (i + 1) (n + (x.toNat % 128) * 128 ^ i) (decide (64 ≤ x % 128)) r
    else if 0 < i ∧ ((x = 0 ∧ s = false) ∨ (x = 127 ∧ s = true)) then (0, 0, 4) else ((n : Int) + (if 64 ≤ x then x - 128 else x) * 128 ^ i, i + 1, 0)
theorem pow_cast (i : Nat) : ((128 ^ i : Nat) : Int) = (128 : Int) ^ i := by push_cast; rfl
theorem gI_put (c : Nat) : ∀ (m : Int) (i n : Nat) (s : Bool) (r : List Int), m.natAbs = c → (0 < i → ¬ (m = 0 ∧ s = false) ∧ ¬ (m = -1 ∧ s = true)) → n < 128 ^ i → i ≤ 9 → -9223372036854775808 ≤ (n : Int) + m * 128 ^ i → (n : Int) + m * 128 ^ i < 9223372036854775808 →
    gI i n s (putI m ++ r) = ((n : Int) + m * 128 ^ i, ((i + (putI m).length : Nat) : Int), 0) := by
  induction c using Nat.strongRecOn with
  | _ c ih =>
    intro m i n s r hc hm hn hi h1 h2
    have h9 : i = 9 → m = 0 ∨ m = -1 := by
      rintro rfl
      simp only [show (128 : Int) ^ 9 = 9223372036854775808 from rfl] at h1 h2
      simp only [show 128 ^ 9 = 9223372036854775808 from rfl] at hn
      omega
    by_cases hs : 63 < m ∨ m < -64
    · rw [putI_big hs]
      simp only [List.cons_append, gI]
      have hi9 : i ≠ 9 := by intro e; have := h9 e; omega
      rw [if_neg (by omega), if_pos (by omega)]
      have e1 : (m % 128 + 128).toNat % 128 = (m % 128).toNat := by omega
      have e0 : (m % 128 + 128) % 128 = m % 128 := by omega
      rw [e1, e0]
      have hp : (128 : Int) ^ (i + 1) = 128 ^ i * 128 := Int.pow_succ ..
      have hpn : 128 ^ (i + 1) = 128 ^ i * 128 := Nat.pow_succ ..
      have e2 : ((n + (m % 128).toNat * 128 ^ i : Nat) : Int) + m / 128 * 128 ^ (i + 1) = (n : Int) + m * 128 ^ i := by
        rw [hp, Int.natCast_add, Int.natCast_mul, pow_cast, Int.toNat_of_nonneg (by omega)]
        generalize (128 : Int) ^ i = p at *
        have : m / 128 * (p * 128) = m / 128 * 128 * p := by rw [Int.mul_comm p, Int.mul_assoc]
        rw [this, Int.add_assoc, ← Int.add_mul]
        congr 2
        omega
      rw [ih (m / 128).natAbs (by omega) (m / 128) (i + 1) _ _ r rfl (by intro _; simp only [decide_eq_false_iff_not, decide_eq_true_eq]; omega) (by
        rw [hpn]
        have : (m % 128).toNat * 128 ^ i ≤ 127 * 128 ^ i := Nat.mul_le_mul_right _ (by omega)
        omega) (by omega) (by rw [e2]; exact h1) (by rw [e2]; exact h2)]
      rw [e2]
      simp only [List.length_cons]
      simp; omega
    · rw [putI_small hs]
      simp only [List.cons_append, List.nil_append, gI]
      rw [if_neg (by intro ⟨e, h3, h4⟩; have := h9 e; omega), if_neg (by omega)]
      have e3 : (if 64 ≤ m % 128 then m % 128 - 128 else m % 128) = m := by split <;> omega
      rw [if_neg, e3]
      · simp
      · rintro ⟨h0, h3⟩
        have := hm h0
        rcases h3 with ⟨h4, h5⟩ | ⟨h4, h5⟩
        · exact this.1 ⟨by omega, h5⟩
        · exact this.2 ⟨by omega, h5⟩
theorem gI_only : ∀ (b : List Int) (i n : Nat) (s : Bool) (v k : Int), (∀ x ∈ b, isByte x) → i ≤ 9 → n < 128 ^ i → gI i n s b = (v, k, 0) →
    ∃ (m : Int) (j : Nat), v = (n : Int) + m * 128 ^ i ∧ k = ((i + j : Nat) : Int) ∧ 0 < j ∧ j ≤ b.length ∧ putI m = b.take j ∧ (0 < i → ¬ (m = 0 ∧ s = false) ∧ ¬ (m = -1 ∧ s = true)) ∧ -9223372036854775808 ≤ v ∧ v < 9223372036854775808
  | [], i, n, s, v, k, _, _, _, h => by simp [gI] at h
  | x :: r, i, n, s, v, k, hb, hi, hn, h => by
    have hx := hb x List.mem_cons_self
    unfold isByte at hx
    simp only [gI] at h
    by_cases c1 : i = 9 ∧ x ≠ 0 ∧ x ≠ 127
    · rw [if_pos c1] at h; simp at h
    · rw [if_neg c1] at h
      have hpi := pow_cast i
      have hpp : 0 < 128 ^ i := Nat.pow_pos (by omega)
      by_cases c2 : 128 ≤ x
      · rw [if_pos c2] at h
        have h9 : i ≠ 9 := by omega
        have hpn : 128 ^ (i + 1) = 128 ^ i * 128 := Nat.pow_succ ..
        have hp : (128 : Int) ^ (i + 1) = 128 ^ i * 128 := Int.pow_succ ..
        have hm1 : x.toNat % 128 * 128 ^ i ≤ 127 * 128 ^ i := Nat.mul_le_mul_right _ (by omega)
        obtain ⟨m, j, h1, h2, h3, h4, h5, h6, h7⟩ := gI_only r (i + 1) _ _ v k (fun y hy => hb y (List.mem_cons_of_mem _ hy)) (by omega) (by rw [hpn]; omega) h
        have hm0 := h6 (by omega)
        simp only [decide_eq_false_iff_not, decide_eq_true_eq] at hm0
        refine ⟨x % 128 + m * 128, j + 1, ?_, by omega, by omega, by simp; omega, ?_, fun _ => by omega, h7⟩
        · rw [h1, hp, Int.natCast_add, Int.natCast_mul, pow_cast, Int.add_mul, Int.add_assoc]
          congr 2
          · congr 1; omega
          · rw [Int.mul_comm (128 ^ i), Int.mul_assoc]
        · rw [putI_big (by omega), List.take_succ_cons, ← h5]
          congr 1
          · omega
          · congr 1; omega
      · rw [if_neg c2] at h
        by_cases c3 : 0 < i ∧ ((x = 0 ∧ s = false) ∨ (x = 127 ∧ s = true))
        · rw [if_pos c3] at h; simp at h
        · rw [if_neg c3] at h
          simp only [Prod.mk.injEq, and_true] at h
          have hb1 : -9223372036854775808 ≤ v ∧ v < 9223372036854775808 := by
            rw [← h.1]
            by_cases h9 : i = 9
            · subst h9
              simp only [show (128 : Int) ^ 9 = 9223372036854775808 from rfl]
              simp only [show 128 ^ 9 = 9223372036854775808 from rfl] at hn
              split <;> omega
            · have h8 : 128 ^ i ≤ 128 ^ 8 := Nat.pow_le_pow_right (by omega) (by omega)
              rw [← hpi]
              generalize 128 ^ i = p at *
              have q1 : ∀ y : Int, -64 ≤ y → y < 64 → -(64 * (p : Int)) ≤ y * p ∧ y * p ≤ 63 * p := fun y ha hb => by
                have z1 : (-64) * (p : Int) ≤ y * p := Int.mul_le_mul_of_nonneg_right ha (by omega)
                have z2 : y * (p : Int) ≤ 63 * p := Int.mul_le_mul_of_nonneg_right (by omega) (by omega)
                omega
              have q2 := q1 (if 64 ≤ x then x - 128 else x) (by split <;> omega) (by split <;> omega)
              omega
          refine ⟨if 64 ≤ x then x - 128 else x, 1, h.1.symm, by omega, by omega, by simp, ?_, ?_, hb1⟩
          · rw [putI_small (by split <;> omega)]
            simp
            split <;> omega
          · intro h0
            refine ⟨fun hz => c3 ⟨h0, .inl ⟨?_, hz.2⟩⟩, fun hz => c3 ⟨h0, .inr ⟨?_, hz.2⟩⟩⟩
            · have := hz.1; split at this <;> omega
            · have := hz.1; split at this <;> omega
theorem gI_errs : ∀ (b : List Int) (i n : Nat) (s : Bool), (gI i n s b).2.2 = 0 ∨ gI i n s b = (0, 0, 3) ∨ gI i n s b = (0, 0, 4)
  | [], i, n, s => by simp [gI]
  | x :: r, i, n, s => by
    simp only [gI]
    split
    · simp
    · split
      · exact gI_errs r _ _ _
      · split <;> simp
end Go.Proofs.Ytpnnjefhchppfaa.LebT

