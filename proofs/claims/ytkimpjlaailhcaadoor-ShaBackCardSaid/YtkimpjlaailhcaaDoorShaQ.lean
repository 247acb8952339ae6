/- What Hex writes, Parse reads. -/
import Derived.Test.YtkimpjlaailhcaaDoorShaP
set_option linter.unusedVariables false
set_option linter.unusedSimpArgs false
namespace Go.Proofs.YtkimpjlaailhcaaDoor.Sha
open Go Go.RowKit Go.Proofs.YtkimpjlaailhcaaDoorW.PrintWords Go.Proofs.YtkimpjlaailhcaaDoorW.PrintLast Go.Proofs.YtkimpjlaailhcaaDoor.Ar Go.Proofs.YtkimpjlaailhcaaDoor.PA
theorem bt_str (xs : List Int) (hx : ∀ x ∈ xs, isB x) (n : Nat) (h : n < xs.length) : bt (strOfNums xs) (n : Int) = rd xs (n : Int) := by
  have hs := strOfNums_size xs
  have hm := hx _ (List.getElem_mem h)
  have e : (strOfNums xs)[n]'(by omega) = UInt8.ofNat (xs[n]).toNat := by
    show (strOfNums xs).data[n]'_ = _
    simp [strOfNums]
  rw [bt, dif_pos (by rw [Int.toNat_natCast]; omega)]
  simp only [Int.toNat_natCast, e, rd, List.getD_eq_getElem?_getD, List.getElem?_eq_getElem h, Option.getD_some]
  rw [UInt8.toNat_ofNat']
  have := hm.1
  have := hm.2
  omega
theorem dig_hexd : ∀ n : Fin 16, dig (rd hexd ((n : Nat) : Int)) = ((n : Nat) : Int) := by decide +kernel
theorem hexd_B : ∀ n : Fin 16, 0 ≤ rd hexd ((n : Nat) : Int) ∧ rd hexd ((n : Nat) : Int) < 256 := by decide +kernel
theorem nib {x : Int} (h : 0 ≤ x) (h2 : x < 16) : dig (rd hexd x) = x ∧ isB (rd hexd x) := by
  obtain ⟨n, rfl⟩ := Int.eq_ofNat_of_zero_le h
  exact ⟨dig_hexd ⟨n, by omega⟩, hexd_B ⟨n, by omega⟩⟩
theorem hexF_B (l : List Int) (h : ∀ x ∈ l, isB x) : ∀ y ∈ hexF l, isB y := by
  intro y hy
  obtain ⟨x, hx, hy⟩ := List.mem_flatMap.1 hy
  obtain ⟨h0, h1⟩ := h x hx
  simp only [hx1, List.mem_cons, List.not_mem_nil, or_false] at hy
  rcases hy with rfl | rfl
  · exact (nib (by omega) (by omega)).2
  · exact (nib (by omega) (by omega)).2
theorem hexF_at : ∀ (l : List Int) (k : Nat), k < l.length → rd (hexF l) ((2 * k : Nat) : Int) = rd hexd (rd l (k : Int) / 16) ∧ rd (hexF l) ((2 * k + 1 : Nat) : Int) = rd hexd (rd l (k : Int) % 16)
  | [], k, h => by simp at h
  | x :: l, 0, _ => by constructor <;> rfl
  | x :: l, k + 1, h => by
    have ih := hexF_at l k (by simpa using h)
    have e : hexF (x :: l) = rd hexd (x / 16) :: rd hexd (x % 16) :: hexF l := rfl
    have r : ∀ (z : Int) (m : List Int) (n : Nat), rd (z :: m) ((n + 1 : Nat) : Int) = rd m (n : Int) := fun z m n => by simp [rd]
    rw [e, show 2 * (k + 1) = 2 * k + 1 + 1 by omega, r, r, r, show 2 * k + 1 + 1 + 1 = (2 * k + 1 + 1) + 1 by omega, r, r]
    exact ih
theorem hiD_hex (a : List Int) (ha : a.length = 32) (hb : ∀ x ∈ a, isB x) (k : Nat) (hk : k < 32) : hiD (strOfNums (hexF a)) k = rd a (k : Int) / 16 ∧ loD (strOfNums (hexF a)) k = rd a (k : Int) % 16 := by
  have hl := hexF_len a
  have hx : isB (rd a (k : Int)) := by
    rw [rd, List.getD_eq_getElem?_getD, Int.toNat_natCast, List.getElem?_eq_getElem (by omega)]
    exact hb _ (List.getElem_mem _)
  obtain ⟨x0, x1⟩ := hx
  have h1 := bt_str _ (hexF_B a hb) (2 * k) (by omega)
  have h2 := bt_str _ (hexF_B a hb) (2 * k + 1) (by omega)
  obtain ⟨e1, e2⟩ := hexF_at a k (by omega)
  have c1 : ((2 * k : Nat) : Int) = 2 * (k : Int) := by omega
  have c2 : ((2 * k + 1 : Nat) : Int) = 2 * (k : Int) + 1 := by omega
  rw [c1] at h1 e1
  rw [c2] at h2 e2
  rw [hiD, loD, h1, h2, e1, e2]
  exact ⟨(nib (by omega) (by omega)).1, (nib (by omega) (by omega)).1⟩
theorem pout_succ (t : ByteArray) (k : Nat) : pout t (k + 1) = (pout t k).set k (16 * hiD t k + loD t k) := rfl
theorem pout_hex (a : List Int) (t : ByteArray) (hd : ∀ k, k < 32 → hiD t k = rd a (k : Int) / 16 ∧ loD t k = rd a (k : Int) % 16) (k : Nat) : k ≤ 32 → ∀ j, j < k → rd (pout t k) (j : Int) = rd a (j : Int) := by
  induction k with
  | zero => intro _ j h; omega
  | succ k ih =>
    intro hk j h
    have ih2 := ih (by omega)
    have hl := pout_len t k
    obtain ⟨e1, e2⟩ := hd k (by omega)
    rw [pout_succ, e1, e2]
    generalize pout t k = P at *
    by_cases hj : j = k
    · subst hj
      rw [rd_set_same _ _ _ (by omega)]; omega
    · rw [rd_set_ne _ _ _ _ (by omega)]
      exact ih2 j (by omega)
theorem parse_hex (a : List Int) (ha : a.length = 32) (hb : ∀ x ∈ a, isB x) : parseF (strOfNums (hexF a)) = (a, 0) := by
  have hs : (strOfNums (hexF a)).size = 64 := by rw [strOfNums_size, hexF_len, ha]
  have hpa : pout (strOfNums (hexF a)) 32 = a := by
    have hp := pout_hex a (strOfNums (hexF a)) (hiD_hex a ha hb) 32 (Nat.le_refl _)
    have hl := pout_len (strOfNums (hexF a)) 32
    generalize pout (strOfNums (hexF a)) 32 = P at *
    apply List.ext_getElem (by omega)
    intro i h1 h2
    have := hp i (by omega)
    simpa [rd, List.getD_eq_getElem?_getD, h1, h2] using this
  rw [bad_none (fun j hj => ?_) (by omega) (by omega)]
  · rw [hpa]
  · obtain ⟨e1, e2⟩ := hiD_hex a ha hb j hj
    have hx : isB (rd a (j : Int)) := by
      rw [rd, List.getD_eq_getElem?_getD, Int.toNat_natCast, List.getElem?_eq_getElem (by omega)]
      exact hb _ (List.getElem_mem _)
    obtain ⟨x0, x1⟩ := hx
    rw [badB, e1, e2, Bool.or_eq_false_iff]
    exact ⟨decide_eq_false (by omega), decide_eq_false (by omega)⟩
theorem hexd_dig : ∀ c : Fin 256, 0 ≤ dig ((c : Nat) : Int) → rd hexd (dig ((c : Nat) : Int)) = ((c : Nat) : Int) := by decide +kernel
theorem hexd_dig' (t : ByteArray) (i : Int) (h : 0 ≤ dig (bt t i)) : rd hexd (dig (bt t i)) = bt t i := by
  obtain ⟨h0, h1⟩ := bt_range t i
  generalize bt t i = c at *
  obtain ⟨n, rfl⟩ := Int.eq_ofNat_of_zero_le h0
  exact hexd_dig ⟨n, by omega⟩ h
theorem bytes_ext {a b : ByteArray} (hs : a.size = b.size) (h : ∀ n : Nat, n < a.size → bt a (n : Int) = bt b (n : Int)) : a = b := by
  apply ByteArray.ext
  apply Array.ext
  · exact hs
  · intro i h1 h2
    have e := h i h1
    rw [bt, bt, dif_pos (by rw [Int.toNat_natCast]; exact h1), dif_pos (by rw [Int.toNat_natCast]; exact h2)] at e
    simp only [Int.toNat_natCast] at e
    have e2 : (a[i]'h1).toNat = (b[i]'h2).toNat := by omega
    exact UInt8.toNat_inj.1 e2
theorem pout_at (t : ByteArray) (k : Nat) : k ≤ 32 → ∀ j, j < k → rd (pout t k) (j : Int) = 16 * hiD t j + loD t j := by
  induction k with
  | zero => intro _ j h; omega
  | succ k ih =>
    intro hk j h
    have ih2 := ih (by omega)
    have hl := pout_len t k
    rw [pout_succ]
    generalize pout t k = P at *
    by_cases hj : j = k
    · subst hj
      rw [rd_set_same _ _ _ (by omega)]
    · rw [rd_set_ne _ _ _ _ (by omega)]
      exact ih2 j (by omega)
theorem parse_ok {t : ByteArray} (h : (parseF t).2 = 0) : t.size = 64 ∧ (parseF t).1 = pout t 32 ∧ ∀ j, j < 32 → badB t j = false := by
  rw [parseF] at h ⊢
  generalize pout t 32 = P at *
  by_cases h1 : t.size < 64
  · rw [if_pos h1] at h; exact absurd h (by show ¬ (3 : Int) = 0; omega)
  · rw [if_neg h1] at h ⊢
    by_cases h2 : 64 < t.size
    · rw [if_pos h2] at h; exact absurd h (by show ¬ (7 : Int) = 0; omega)
    · rw [if_neg h2] at h ⊢
      by_cases h3 : (List.range 32).any (badB t) = true
      · rw [if_pos h3] at h; exact absurd h (by show ¬ (4 : Int) = 0; omega)
      · rw [if_neg h3]
        refine ⟨by omega, rfl, fun j hj => ?_⟩
        rw [Bool.not_eq_true] at h3
        cases hb : badB t j
        · rfl
        · exact absurd (List.any_eq_true.2 ⟨j, List.mem_range.2 hj, hb⟩) (by rw [h3]; simp)
theorem parse_bad {t : ByteArray} (h : (parseF t).2 ≠ 0) : (parseF t).1 = z32' := by
  rw [parseF] at h ⊢
  generalize pout t 32 = P at *
  by_cases h1 : t.size < 64
  · rw [if_pos h1]
  · rw [if_neg h1] at h ⊢
    by_cases h2 : 64 < t.size
    · rw [if_pos h2]
    · rw [if_neg h2] at h ⊢
      by_cases h3 : (List.range 32).any (badB t) = true
      · rw [if_pos h3]
      · rw [if_neg h3] at h; exact absurd rfl h
theorem hex_parse {t : ByteArray} (h : (parseF t).2 = 0) : strOfNums (hexF (parseF t).1) = t ∧ ∀ x ∈ (parseF t).1, isB x := by
  obtain ⟨hs, ho, hg⟩ := parse_ok h
  rw [ho]
  have hat := pout_at t 32 (Nat.le_refl _)
  have hl := pout_len t 32
  generalize pout t 32 = O at *
  have hd : ∀ j, j < 32 → 0 ≤ hiD t j ∧ hiD t j ≤ 15 ∧ 0 ≤ loD t j ∧ loD t j ≤ 15 := fun j hj => by
    have := hg j hj
    rw [badB, Bool.or_eq_false_iff] at this
    have h1 := of_decide_eq_false this.1
    have h2 := of_decide_eq_false this.2
    have r1 : hiD t j ≤ 15 := (dig_range _).2
    have r2 : loD t j ≤ 15 := (dig_range _).2
    exact ⟨by omega, r1, by omega, r2⟩
  have hOB : ∀ x ∈ O, isB x := fun x hx => by
    obtain ⟨j, hj, rfl⟩ := List.getElem_of_mem hx
    have e := hat j (by omega)
    have d := hd j (by omega)
    rw [rd, List.getD_eq_getElem?_getD, Int.toNat_natCast, List.getElem?_eq_getElem hj, Option.getD_some] at e
    rw [e]
    exact ⟨by omega, by omega⟩
  refine ⟨bytes_ext (by rw [strOfNums_size, hexF_len, hl, hs]) (fun n hn => ?_), hOB⟩
  rw [strOfNums_size] at hn
  have hL := hexF_len O
  rw [bt_str _ (hexF_B O hOB) n hn]
  have d := hd (n / 2) (by omega)
  have e := hat (n / 2) (by omega)
  obtain ⟨e1, e2⟩ := hexF_at O (n / 2) (by omega)
  have q1 := hexd_dig' t (2 * ((n / 2 : Nat) : Int)) d.1
  have q2 := hexd_dig' t (2 * ((n / 2 : Nat) : Int) + 1) d.2.2.1
  rcases Nat.mod_two_eq_zero_or_one n with p | p
  · have en : n = 2 * (n / 2) := by omega
    have ec : ((n : Nat) : Int) = 2 * ((n / 2 : Nat) : Int) := by omega
    rw [← en] at e1
    rw [e1, show rd O ((n / 2 : Nat) : Int) / 16 = hiD t (n / 2) by omega, hiD, q1, ← ec]
  · have en : n = 2 * (n / 2) + 1 := by omega
    have ec : ((n : Nat) : Int) = 2 * ((n / 2 : Nat) : Int) + 1 := by omega
    rw [← en] at e2
    rw [e2, show rd O ((n / 2 : Nat) : Int) % 16 = loD t (n / 2) by omega, loD, q2, ← ec]
def cU (n : Int) : UInt8 := UInt8.ofNat (rd hexd n).toNat
theorem cU_all : ∀ m n : Fin 16, decide (cU ((m : Nat) : Int) < cU ((n : Nat) : Int)) = decide (m < n) ∧ (cU ((m : Nat) : Int) == cU ((n : Nat) : Int)) = decide (m = n) := by decide +kernel
theorem cU_ord {m n : Int} (m0 : 0 ≤ m) (m1 : m < 16) (n0 : 0 ≤ n) (n1 : n < 16) : decide (cU m < cU n) = decide (m < n) ∧ (cU m == cU n) = decide (m = n) := by
  obtain ⟨a, rfl⟩ := Int.eq_ofNat_of_zero_le m0
  obtain ⟨b, rfl⟩ := Int.eq_ofNat_of_zero_le n0
  obtain ⟨h1, h2⟩ := cU_all ⟨a, by omega⟩ ⟨b, by omega⟩
  refine ⟨h1.trans ?_, h2.trans ?_⟩
  · rw [decide_eq_decide, Fin.lt_def]; show a < b ↔ _; omega
  · rw [decide_eq_decide, Fin.ext_iff]; show a = b ↔ _; omega
theorem hex_less : ∀ a b : List Int, a.length = b.length → (∀ x ∈ a, isB x) → (∀ x ∈ b, isB x) → Op.bytesLess ((hexF a).map fun n => UInt8.ofNat n.toNat) ((hexF b).map fun n => UInt8.ofNat n.toNat) = lessF a b
  | [], [], _, _, _ => rfl
  | [], _ :: _, h, _, _ => by simp at h
  | _ :: _, [], h, _, _ => by simp at h
  | x :: a, y :: b, h, ha, hb => by
    have ih := hex_less a b (by simpa using h) (fun z hz => ha z (List.mem_cons_of_mem _ hz)) (fun z hz => hb z (List.mem_cons_of_mem _ hz))
    obtain ⟨x0, x1⟩ := ha x (List.mem_cons_self ..)
    obtain ⟨y0, y1⟩ := hb y (List.mem_cons_self ..)
    obtain ⟨p1, p2⟩ := cU_ord (m := x / 16) (n := y / 16) (by omega) (by omega) (by omega) (by omega)
    obtain ⟨q1, q2⟩ := cU_ord (m := x % 16) (n := y % 16) (by omega) (by omega) (by omega) (by omega)
    have e : ∀ (z : Int) (l : List Int), (hexF (z :: l)).map (fun n => UInt8.ofNat n.toNat) = cU (z / 16) :: cU (z % 16) :: (hexF l).map (fun n => UInt8.ofNat n.toNat) := fun z l => rfl
    rw [e, e, Op.bytesLess, Op.bytesLess, ih, p1, p2, q1, q2, lessF]
    by_cases hxy : x = y
    · subst hxy
      simp
    · rw [if_neg hxy]
      rcases Int.lt_trichotomy (x / 16) (y / 16) with l | l | l
      · have : x < y := by omega
        simp [l, this]
      · have e1 : ¬ x % 16 = y % 16 := by omega
        have e2 : (x % 16 < y % 16) ↔ x < y := by omega
        simp [l, e1, e2]
      · have : ¬ x < y := by omega
        have l2 : ¬ x / 16 < y / 16 := by omega
        have l3 : ¬ x / 16 = y / 16 := by omega
        simp [l2, l3, this]
theorem less_hex (a b : List Int) (h : a.length = b.length) (ha : ∀ x ∈ a, isB x) (hb : ∀ x ∈ b, isB x) : Op.bytesLess (strOfNums (hexF a)).toList (strOfNums (hexF b)).toList = lessF a b := by
  rw [ByteArray.toList_eq, ByteArray.toList_eq, strOfNums_data, strOfNums_data]
  exact hex_less a b h ha hb
theorem less_none : ∀ a b : List Int, a.length = b.length → lessF a b = false → lessF b a = false → a = b
  | [], [], _, _, _ => rfl
  | [], _ :: _, h, _, _ => by simp at h
  | _ :: _, [], h, _, _ => by simp at h
  | x :: a, y :: b, h, h1, h2 => by
    rw [lessF] at h1 h2
    by_cases e : x = y
    · subst e
      rw [if_pos rfl] at h1 h2
      rw [less_none a b (by simpa using h) h1 h2]
    · rw [if_neg e] at h1
      rw [if_neg (fun e2 => e e2.symm)] at h2
      have h3 := of_decide_eq_false h1
      have h4 := of_decide_eq_false h2
      omega
theorem less_same (a b : List Int) (h : a.length = b.length) : (a == b) = (!lessF a b && !lessF b a) := by
  by_cases e : a = b
  · subst e; rw [lessF_same]; simp
  · rw [beq_eq_false_iff_ne.2 e]
    cases h1 : lessF a b <;> cases h2 : lessF b a <;> simp
    exact e (less_none a b h h1 h2)
end Go.Proofs.YtkimpjlaailhcaaDoor.Sha
