/- Posts: the reference's answers over the letters, and what is on its way: plain. -/
import Derived.Test.YtnjnljnhpihemaaPoQ
import Derived.Test.YtnjnljnhpihemaaPAx22
import Derived.Test.YtnjnljnhpihemaaPAx23
import Derived.Test.YtnjnljnhpihemaaPAx24
import Derived.Test.YtnjnljnhpihemaaPAx25
import Derived.Test.YtnjnljnhpihemaaPAx26
import Derived.Test.YtnjnljnhpihemaaPAx15
set_option linter.unusedVariables false
set_option linter.unusedSimpArgs false
namespace Go.Proofs.Ytnjnljnhpihemaa.Po
open Go Go.RowKit Go.Proofs.YtnjnljnhpihemaaW.PrintWords Go.Proofs.Ytnjnljnhpihemaa.PA
/-- The letters of a way. -/
def hit (a b : Int) (x : S68) : Bool := decide (x.f0 = a) && decide (x.f1 = b)
abbrev Lt := S68
def at_ (R : List Lt) (a b : Int) : List Lt := R.filter (hit a b)
def idx (i : Nat) : List Lt → Int → Int → List Int
  | [], _, _ => []
  | x :: r, a, b => if hit a b x = true then (i : Int) :: idx (i + 1) r a b else idx (i + 1) r a b
theorem idx_len (a b : Int) : ∀ (R : List Lt) (i : Nat), (idx i R a b).length = (at_ R a b).length
  | [], i => rfl
  | x :: r, i => by
    unfold idx at_
    rw [List.filter_cons]
    split
    · rw [List.length_cons, List.length_cons, idx_len a b r (i + 1)]; rfl
    · exact idx_len a b r (i + 1)
theorem idx_get (a b : Int) : ∀ (R : List Lt) (i j : Nat), j < (idx i R a b).length → ∃ m x, (idx i R a b)[j]? = some ((i + m : Nat) : Int) ∧ R[m]? = some x ∧ hit a b x = true ∧ (at_ R a b)[j]? = some x ∧ at_ (R.eraseIdx m) a b = (at_ R a b).eraseIdx j
  | [], i, j, h => by simp [idx] at h
  | x :: r, i, j, h => by
    by_cases hx : hit a b x = true
    · have he : idx i (x :: r) a b = (i : Int) :: idx (i + 1) r a b := by rw [idx, if_pos hx]
      have ha : at_ (x :: r) a b = x :: at_ r a b := by unfold at_; rw [List.filter_cons, if_pos hx]
      rw [he] at h ⊢
      rw [ha]
      cases j with
      | zero => exact ⟨0, x, rfl, rfl, hx, rfl, rfl⟩
      | succ j =>
        obtain ⟨m, y, h1, h2, h3, h4, h5⟩ := idx_get a b r (i + 1) j (by simpa using h)
        refine ⟨m + 1, y, ?_, h2, h3, h4, ?_⟩
        · rw [List.getElem?_cons_succ, h1, Nat.add_assoc, Nat.add_comm 1 m]
        · rw [List.eraseIdx_cons_succ, List.eraseIdx_cons_succ]
          unfold at_ at h5 ⊢
          rw [List.filter_cons, if_pos hx, h5]
    · have he : idx i (x :: r) a b = idx (i + 1) r a b := by rw [idx, if_neg hx]
      have ha : at_ (x :: r) a b = at_ r a b := by unfold at_; rw [List.filter_cons, if_neg hx]
      rw [he] at h ⊢
      rw [ha]
      obtain ⟨m, y, h1, h2, h3, h4, h5⟩ := idx_get a b r (i + 1) j h
      refine ⟨m + 1, y, ?_, h2, h3, h4, ?_⟩
      · rw [h1, Nat.add_assoc, Nat.add_comm 1 m]
      · rw [List.eraseIdx_cons_succ]
        unfold at_ at h5 ⊢
        rw [List.filter_cons, if_neg hx, h5]
theorem hit_iff {a b : Int} {x : Lt} : hit a b x = true ↔ x.f0 = a ∧ x.f1 = b := by simp [hit]
theorem at_erase_other {a b c d : Int} (hne : ¬ (c = a ∧ d = b)) : ∀ (R : List Lt) (m : Nat) (x : Lt), R[m]? = some x → hit a b x = true → at_ (R.eraseIdx m) c d = at_ R c d
  | [], m, x, h, _ => by simp at h
  | y :: r, 0, x, h, hx => by
    simp at h
    subst h
    have : ¬ hit c d y = true := fun hy => hne ⟨(hit_iff.1 hy).1.symm.trans (hit_iff.1 hx).1, (hit_iff.1 hy).2.symm.trans (hit_iff.1 hx).2⟩
    unfold at_
    rw [List.eraseIdx_cons_zero, List.filter_cons, if_neg this]
  | y :: r, m + 1, x, h, hx => by
    have ih := at_erase_other hne r m x (by simpa using h) hx
    unfold at_ at ih ⊢
    rw [List.eraseIdx_cons_succ, List.filter_cons, List.filter_cons, ih]
theorem rd_at {R : List Lt} {m : Nat} {x : Lt} (h : R[m]? = some x) : rd_T68 R (m : Int) = x := by
  unfold rd_T68
  rw [Int.toNat_natCast, List.getD_eq_getElem?_getD, h]
  rfl
theorem w1 {i : Nat} (h : i < 100000) : wrap64 ((i : Int) + 1) = ((i + 1 : Nat) : Int) := by unfold wrap64; omega
theorem places_l (a b z : Int) (R : List Lt) (hR : R.length < 5000) : ∀ (k i : Nat) (acc : List Int), R.length < k + i → i ≤ R.length → acc.length ≤ i →
    stemmaref23_Post_places.l0 k a b acc (i : Int) z R = some (acc ++ idx i (R.drop i) a b)
  | 0, i, acc, h, hi, _ => by omega
  | k + 1, i, acc, h, hi, ha => by
    unfold stemmaref23_Post_places.l0
    by_cases hlt : i < R.length
    · have hx : R[i]? = some R[i] := List.getElem?_eq_getElem hlt
      have hd : R.drop i = R[i] :: R.drop (i + 1) := List.drop_eq_getElem_cons hlt
      rw [if_pos (by omega), if_pos (by omega), rd_at hx, hd, idx, w1 (by omega)]
      generalize R[i] = x at *
      by_cases h1 : x.f0 = a
      · by_cases h2 : x.f1 = b
        · rw [if_pos h1, if_pos h2, if_pos (by omega), if_pos (hit_iff.2 ⟨h1, h2⟩), places_l a b z R hR k (i + 1) (acc ++ [(i : Int)]) (by omega) (by omega) (by simp; omega)]
          simp
        · rw [if_pos h1, if_neg h2, if_neg (fun h => h2 (hit_iff.1 h).2), places_l a b z R hR k (i + 1) acc (by omega) (by omega) (by omega)]
      · rw [if_neg h1, if_neg (fun h => h1 (hit_iff.1 h).1), places_l a b z R hR k (i + 1) acc (by omega) (by omega) (by omega)]
    · rw [if_neg (by omega), List.drop_eq_nil_of_le (by omega), idx, List.append_nil]
theorem places_eq (a b z : Int) (R : List Lt) (hR : R.length < 5000) : stemmaref23_Post_places.f 5001 z R a b = some (idx 0 R a b) := by
  unfold stemmaref23_Post_places.f
  have := places_l a b z R hR 5001 0 [] (by omega) (by omega) (by simp)
  rw [Int.natCast_zero] at this
  rw [this]
  rfl
theorem may_eq (n a b : Int) (R : List Lt) : stemmaref23_Post_may.f n R a b = some (decide (may n a b)) := by
  unfold stemmaref23_Post_may.f
  have hb : ∀ p : Bool, (p = true ↔ may n a b) → some p = some (decide (may n a b)) := fun p hp => by
    congr 1
    by_cases h : may n a b
    · rw [hp.2 h, decide_eq_true h]
    · rw [decide_eq_false h]; cases p
      · rfl
      · exact absurd (hp.1 rfl) h
  unfold may at hb ⊢
  repeat' split
  · exact hb _ ⟨fun h => ⟨by omega, by omega, by omega, by omega, by simpa using h⟩, fun h => by simpa using h.2.2.2.2⟩
  all_goals exact hb _ ⟨fun h => Bool.noConfusion h, fun h => by omega⟩
/-- The letters and the ways tell the same. -/
structure Sm (n : Int) (Q : Qt) (R : List Lt) : Prop where
  qs : Qs n Q
  sub : ∀ a b, (at_ R a b).map (·.f2) = (Q a b).map strOfNums
  way : ∀ x ∈ R, may n x.f0 x.f1
theorem map_erase {α β : Type} (f : α → β) : ∀ (R : List α) (j : Nat), (R.eraseIdx j).map f = (R.map f).eraseIdx j
  | [], _ => rfl
  | x :: r, 0 => rfl
  | x :: r, j + 1 => by rw [List.eraseIdx_cons_succ, List.map_cons, List.map_cons, List.eraseIdx_cons_succ, map_erase f r j]
theorem two_len {α : Type} (p : α → Bool) : ∀ R : List α, R.length = (R.filter p).length + (R.filter fun x => !p x).length
  | [] => rfl
  | x :: r => by
    have ih := two_len p r
    rw [List.filter_cons, List.filter_cons]
    cases hp : p x <;> simp <;> omega
theorem sub_len {α : Type} (p q : α → Bool) (h : ∀ x, p x = true → q x = true) : ∀ R : List α, (R.filter p).length ≤ (R.filter q).length
  | [] => Nat.le_refl _
  | x :: r => by
    have ih := sub_len p q h r
    rw [List.filter_cons, List.filter_cons]
    cases hp : p x
    · cases hq : q x <;> simp <;> omega
    · rw [h x hp]; simp; omega
theorem few_len {α : Type} (c : α → Nat) (t : Nat) : ∀ (m : Nat) (R : List α), (∀ x ∈ R, c x < m) → (∀ j, (R.filter fun x => decide (c x = j)).length ≤ t) → R.length ≤ m * t
  | 0, R, h, _ => by
    cases R with
    | nil => simp
    | cons x r => exact absurd (h x (by simp)) (by omega)
  | m + 1, R, h, h2 => by
    have h3 := few_len c t m (R.filter fun x => !decide (c x = m)) (fun x hx => by
      have := List.mem_filter.1 hx
      have h4 := h x this.1
      have h5 : c x ≠ m := by simpa using this.2
      omega) (fun j => by
      rw [List.filter_filter]
      refine Nat.le_trans ?_ (h2 j)
      exact sub_len _ _ (fun x hx => by simp at hx ⊢; exact hx.1) R)
    have h4 := two_len (fun x => decide (c x = m)) R
    have h5 := h2 m
    rw [Nat.succ_mul]
    omega
theorem Sm.len {n : Int} {Q : Qt} {R : List Lt} (h : Sm n Q R) : R.length < 5000 := by
  have h1 := h.qs.n8
  have hc : ∀ x ∈ R, (x.f0 * 8 + x.f1).toNat < 64 := fun x hx => by
    obtain ⟨a1, a2, a3, a4, _⟩ := h.way x hx
    omega
  have := few_len (fun x : Lt => (x.f0 * 8 + x.f1).toNat) 64 64 R hc (fun j => by
    have hs := congrArg List.length (h.sub ((j / 8 : Nat) : Int) ((j % 8 : Nat) : Int))
    rw [List.length_map, List.length_map] at hs
    have hf := h.qs.few ((j / 8 : Nat) : Int) ((j % 8 : Nat) : Int)
    rw [← hs] at hf
    refine Nat.le_trans ?_ hf
    unfold at_
    refine Nat.le_of_eq (congrArg List.length (List.filter_congr (fun x hx => ?_)))
    obtain ⟨a1, a2, a3, a4, _⟩ := h.way x hx
    have : ((x.f0 * 8 + x.f1).toNat = j) ↔ hit ((j / 8 : Nat) : Int) ((j % 8 : Nat) : Int) x = true := by
      rw [hit_iff]
      omega
    by_cases hj : (x.f0 * 8 + x.f1).toNat = j
    · rw [decide_eq_true hj, this.1 hj]
    · rw [decide_eq_false hj]
      cases hh : hit ((j / 8 : Nat) : Int) ((j % 8 : Nat) : Int) x
      · rfl
      · exact absurd (this.2 hh) hj)
  omega
section
variable {n : Int} {Q : Qt} {R : List Lt} {a b k : Int}
theorem Sm.count (h : Sm n Q R) (a b : Int) : (idx 0 R a b).length = (Q a b).length := by
  rw [idx_len]
  have hs := congrArg List.length (h.sub a b)
  rw [List.length_map, List.length_map] at hs
  exact hs
theorem Sm.get (h : Sm n Q R) (hi : inr Q a b k) : ∃ (m : Nat) (x : Lt) (l : List Int), rd (idx 0 R a b) k = (m : Int) ∧ R[m]? = some x ∧ hit a b x = true ∧ (Q a b)[k.toNat]? = some l ∧ x.f2 = strOfNums l ∧ at_ (R.eraseIdx m) a b = (at_ R a b).eraseIdx k.toNat := by
  have hc := h.count a b
  have h1 := hi.1
  have h2 := hi.2
  obtain ⟨m, x, e1, e2, e3, e4, e5⟩ := idx_get a b R 0 k.toNat (by omega)
  have hs := congrArg (·[k.toNat]?) (h.sub a b)
  simp only [List.getElem?_map, e4, Option.map_some] at hs
  obtain ⟨l, hl, hx⟩ := Option.map_eq_some_iff.1 hs.symm
  refine ⟨m, x, l, ?_, e2, e3, hl, hx.symm, e5⟩
  unfold rd
  rw [List.getD_eq_getElem?_getD, e1, Nat.zero_add]
  rfl
theorem find_eq (h : Sm n Q R) : stemmaref23_Post_find.f 5001 n R a b k = some (if may n a b then (if inr Q a b k then (rd (idx 0 R a b) k, 0) else (0, 22)) else (0, 2)) := by
  unfold stemmaref23_Post_find.f
  rw [may_eq, places_eq a b n R h.len]
  have hc := h.count a b
  simp only [Option.bind_some]
  by_cases hm : may n a b
  · rw [if_pos hm, if_pos (decide_eq_true hm)]
    by_cases hi : inr Q a b k
    · have h1 := hi.1
      have h2 := hi.2
      rw [if_pos hi, if_neg (by omega), if_neg (by omega), if_pos h1, if_pos (by omega)]
    · rw [if_neg hi]
      unfold inr at hi
      by_cases h1 : k < 0
      · rw [if_pos h1]
      · rw [if_neg h1, if_pos (by omega)]
  · rw [if_neg hm, if_neg (by rw [decide_eq_false hm]; decide)]
theorem str_nil : strOfNums [] = (⟨#[]⟩ : ByteArray) := rfl
theorem ref_look (h : Sm n Q R) : stemmaref23_Post_Look.f 5001 n R a b k = some (strOfNums (lookF n Q a b k).1, (lookF n Q a b k).2) := by
  unfold stemmaref23_Post_Look.f
  rw [find_eq h]
  simp only [Option.bind_some]
  unfold lookF
  by_cases hm : may n a b
  · rw [if_pos hm, if_pos hm]
    by_cases hi : inr Q a b k
    · rw [if_pos hi, if_pos hi]
      obtain ⟨m, x, l, e1, e2, e3, e4, e5, _⟩ := h.get hi
      have hlt := (List.getElem?_eq_some_iff.1 e2).1
      simp only
      rw [if_pos trivial, e1, if_pos (by omega), if_pos (by omega), rd_at e2, e5, List.getD_eq_getElem?_getD, e4]
      rfl
    · rw [if_neg hi, if_neg hi, if_neg (by decide)]
      rfl
  · rw [if_neg hm, if_neg hm, if_neg (by decide)]
    rfl
theorem Sm.self (h : Sm n Q R) (a b : Int) : Sm n (upd Q a b (Q a b)) R := by rw [upd_self]; exact h
theorem ref_take (h : Sm n Q R) : ∃ R', stemmaref23_Post_Take.f 5001 n R a b k = some (n, R', strOfNums (lookF n Q a b k).1, (lookF n Q a b k).2) ∧ Sm n (upd Q a b (takeQ n Q a b k)) R' := by
  unfold stemmaref23_Post_Take.f
  rw [find_eq h]
  simp only [Option.bind_some]
  by_cases hh : may n a b ∧ inr Q a b k
  · obtain ⟨hm, hi⟩ := hh
    obtain ⟨m, x, l, e1, e2, e3, e4, e5, e6⟩ := h.get hi
    have hlt := (List.getElem?_eq_some_iff.1 e2).1
    have hlen := h.len
    rw [if_pos hm, if_pos hi, e1]
    simp only
    rw [if_pos trivial, if_pos (by omega), if_pos (by omega), if_pos (by omega), w1 (by omega), Int.toNat_natCast, Int.toNat_natCast, rd_at e2, List.nil_append, if_pos (by rw [List.length_nil, List.length_take]; omega), if_pos (by omega), if_pos (by omega), if_pos (by rw [List.length_take, List.length_drop]; omega)]
    have hq := h.qs.take a b k
    rw [(look_is hm hi).2] at hq ⊢
    have hlk : (lookF n Q a b k).1 = l := by
      have := (look_yes (look_is hm hi).1).2.2
      rw [e4] at this
      exact (Option.some.inj this).symm
    refine ⟨R.take m ++ R.drop (m + 1), by rw [e5, hlk, (look_is hm hi).1], ?_⟩
    rw [← List.eraseIdx_eq_take_drop_succ]
    refine ⟨hq, fun c d => ?_, fun y hy => h.way y (List.mem_of_mem_eraseIdx hy)⟩
    by_cases hcd : c = a ∧ d = b
    · obtain ⟨rfl, rfl⟩ := hcd
      rw [upd_same, e6, map_erase, map_erase, h.sub]
    · rw [upd_other hcd, at_erase_other hcd R m x e2 e3]
      exact h.sub c d
  · obtain ⟨h1, h2, h3⟩ := look_no hh
    have hf : (if may n a b then (if inr Q a b k then (rd (idx 0 R a b) k, (0 : Int)) else (0, 22)) else (0, 2)) = (0, (lookF n Q a b k).2) := by
      unfold lookF
      by_cases hm : may n a b
      · have hi : ¬ inr Q a b k := fun hi => hh ⟨hm, hi⟩
        rw [if_pos hm, if_neg hi, if_pos hm, if_neg hi]
      · rw [if_neg hm, if_neg hm]
    rw [hf, h1, h3]
    simp only
    rw [if_neg (by omega)]
    exact ⟨R, rfl, h.self a b⟩
theorem at_app (c d : Int) (x : Lt) : at_ (R ++ [x]) c d = if hit c d x = true then at_ R c d ++ [x] else at_ R c d := by
  unfold at_
  rw [List.filter_append, List.filter_cons, List.filter_nil]
  split
  · rfl
  · rw [List.append_nil]
theorem ref_send (h : Sm n Q R) (l : List Int) (hl : ∀ x ∈ l, 0 ≤ x ∧ x < 256) : ∃ R', stemmaref23_Post_Send.f 5001 n R a b (strOfNums l) = some (n, R', (sendF n Q a b l).1) ∧ Sm n (upd Q a b (sendF n Q a b l).2) R' := by
  unfold stemmaref23_Post_Send.f
  rw [may_eq, places_eq a b n R h.len, strOfNums_size]
  have hc := h.count a b
  have hlen := h.len
  have hq := h.qs.send a b l hl
  simp only [Option.bind_some]
  unfold sendF at hq ⊢
  by_cases hm : may n a b
  · rw [if_pos hm] at hq ⊢
    rw [if_pos (decide_eq_true hm)]
    by_cases h1 : 1100000 < l.length
    · rw [if_pos h1, if_pos (by omega)]
      exact ⟨R, rfl, h.self a b⟩
    · rw [if_neg h1] at hq ⊢
      rw [if_neg (by omega)]
      by_cases h2 : 64 ≤ (Q a b).length
      · rw [if_pos h2, if_pos (by omega)]
        exact ⟨R, rfl, h.self a b⟩
      · rw [if_neg h2] at hq ⊢
        rw [if_neg (by omega), if_pos (by rw [List.length_nil]; omega), List.nil_append, if_pos (by omega)]
        refine ⟨_, rfl, hq, fun c d => ?_, fun x hx => ?_⟩
        · rw [at_app]
          by_cases hcd : c = a ∧ d = b
          · obtain ⟨rfl, rfl⟩ := hcd
            have hx : hit c d (⟨c, d, strOfNums l⟩ : Lt) = true := hit_iff.2 ⟨rfl, rfl⟩
            rw [if_pos hx, upd_same, List.map_append, List.map_append, h.sub]
            rfl
          · rw [if_neg (fun hx => hcd ⟨(hit_iff.1 hx).1.symm, (hit_iff.1 hx).2.symm⟩), upd_other hcd]
            exact h.sub c d
        · rcases List.mem_append.1 hx with hx | hx
          · exact h.way x hx
          · rw [List.mem_singleton.1 hx]; exact hm
  · rw [if_neg hm, if_neg (by rw [decide_eq_false hm]; decide)]
    exact ⟨R, rfl, h.self a b⟩
theorem ref_double (h : Sm n Q R) : ∃ R', stemmaref23_Post_Double.f 5001 n R a b k = some (n, R', (dblF n Q a b k).1) ∧ Sm n (upd Q a b (dblF n Q a b k).2) R' := by
  unfold stemmaref23_Post_Double.f
  rw [ref_look h]
  simp only [Option.bind_some]
  unfold dblF
  by_cases h0 : (lookF n Q a b k).2 = 0
  · rw [if_pos h0, if_pos h0]
    obtain ⟨R', e, hs⟩ := ref_send h (a := a) (b := b) (lookF n Q a b k).1 (h.qs.look a b k).2
    rw [e]
    exact ⟨R', rfl, hs⟩
  · rw [if_neg h0, if_neg h0]
    exact ⟨R, rfl, h.self a b⟩
theorem ref_len (h : Sm n Q R) : stemmaref23_Post_Len.f 5001 n R a b = some ((Q a b).length : Int) := by
  unfold stemmaref23_Post_Len.f
  rw [places_eq a b n R h.len]
  simp only [Option.bind_some, h.count a b]
end
end Go.Proofs.Ytnjnljnhpihemaa.Po
