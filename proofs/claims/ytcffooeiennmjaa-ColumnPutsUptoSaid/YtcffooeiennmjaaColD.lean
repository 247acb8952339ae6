/- What is laid by runs and by differences is taken off again: plainly. -/
import Derived.Test.YtcffooeiennmjaaColH
import Derived.Test.YtcffooeiennmjaaPAx40
set_option linter.unusedVariables false
set_option linter.unusedSimpArgs false
namespace Go.Proofs.Ytcffooeiennmjaa.ColT
open Go Go.RowKit Go.Proofs.Ytcffooeiennmjaa.PA Go.Proofs.YtcffooeiennmjaaW.PrintWords Go.Proofs.YtcffooeiennmjaaW.PrintLast Go.Proofs.YtcffooeiennmjaaW.PrintMore Go.Proofs.Ytcffooeiennmjaa.LebT Go.Proofs.Ytcffooeiennmjaa.LebP Go.Proofs.Ytcffooeiennmjaa.ColS
/-- Neighbours are unlike, none is empty. -/
def chain : Option Int → List (Int × Nat) → Prop
  | _, [] => True
  | last, (v, n) :: r => last ≠ some v ∧ 0 < n ∧ chain (some v) r
def expand (ps : List (Int × Nat)) : List Int := ps.flatMap (fun p => List.replicate p.2 p.1)
theorem expand_st : ∀ l : List Int, expand (st l) = l
  | [] => rfl
  | x :: xs => by
    have ih := expand_st xs
    rw [st]
    split
    · rename_i h; rw [h] at ih; simp only [expand, List.flatMap_nil] at ih; subst ih; simp [expand]
    · rename_i y n r h
      rw [h] at ih
      split
      · rename_i hxy
        subst hxy
        simp only [expand, List.flatMap_cons, List.replicate_succ, List.cons_append] at ih ⊢
        rw [ih]
      · simp only [expand, List.flatMap_cons, List.replicate_succ, List.replicate_zero, List.cons_append, List.nil_append] at ih ⊢
        rw [ih]
theorem st_chain : ∀ (l : List Int) (last : Option Int), (∀ x, l.head? = some x → last ≠ some x) → chain last (st l)
  | [], _, _ => by simp [st, chain]
  | x :: xs, last, h => by
    have ih := st_chain xs none (by simp)
    rw [st]
    split
    · exact ⟨h x rfl, by omega, trivial⟩
    · rename_i y n r hs
      rw [hs] at ih
      split
      · rename_i hxy
        subst hxy
        exact ⟨h x rfl, by omega, ih.2.2⟩
      · rename_i hxy
        exact ⟨h x rfl, by omega, by simpa using hxy, ih.2.1, ih.2.2⟩
theorem gU0 (m : Nat) (hm : m < 18446744073709551616) (r : List Int) : gU 0 0 (putU m ++ r) = ((m : Int), ((putU m).length : Int), 0) := by
  have := gU_put m 0 0 r (by omega) (by omega) (by omega)
  simpa using this
theorem gI0 (m : Int) (h1 : -9223372036854775808 ≤ m) (h2 : m < 9223372036854775808) (r : List Int) : gI 0 0 false (putI m ++ r) = (m, ((putI m).length : Int), 0) := by
  have := gI_put m.natAbs m 0 0 false r rfl (by omega) (by omega) (by omega) (by simpa using h1) (by simpa using h2)
  simpa using this
theorem getLast_rep (acc : List Int) (n : Nat) (v : Int) (h : 0 < n) : (acc ++ List.replicate n v).getLast? = some v := by
  rw [List.getLast?_append]
  simp [List.getLast?_replicate, Nat.ne_of_gt h]
theorem gR_put (most : Nat) (hmost : most ≤ 65536) (behind : List Int) : ∀ (ps : List (Int × Nat)) (acc : List Int) (used : Nat), (∀ p ∈ ps, -9223372036854775808 ≤ p.1 ∧ p.1 < 9223372036854775808) → chain acc.getLast? ps → acc.length + (expand ps).length ≤ most →
    gR most ps.length acc used (flat ps ++ behind) = (acc ++ expand ps, ((used + (flat ps).length : Nat) : Int), 0)
  | [], acc, used, _, _, _ => by simp [gR, expand, flat]
  | (v, n) :: r, acc, used, hw, hc, hl => by
    obtain ⟨hc1, hc2, hc3⟩ := hc
    have hv := hw (v, n) (by simp)
    have ef : flat ((v, n) :: r) = putU n ++ (putI v ++ flat r) := by simp [flat]
    have ee : expand ((v, n) :: r) = List.replicate n v ++ expand r := by simp [expand]
    rw [ee, List.length_append, List.length_replicate] at hl
    have h1 : gU 0 0 (putU n ++ (putI v ++ (flat r ++ behind))) = ((n : Int), ((putU n).length : Int), 0) := gU0 n (by omega) _
    have h2 : gI 0 0 false (putI v ++ (flat r ++ behind)) = (v, ((putI v).length : Int), 0) := gI0 v hv.1 hv.2 _
    have ih := gR_put most hmost behind r (acc ++ List.replicate n v) (used + (putU n).length + (putI v).length) (fun p hp => hw p (by simp [hp])) (by rw [getLast_rep _ _ _ hc2]; exact hc3) (by rw [List.length_append, List.length_replicate]; omega)
    have hn0 : ¬ ((n : Int) = 0) := by omega
    have hnm : ¬ ((n : Int) > ((most - acc.length : Nat) : Int)) := by omega
    rw [List.length_cons, ef, List.append_assoc, List.append_assoc, gR, h1]
    simp only [if_true, Int.toNat_natCast, List.drop_left, h2]
    rw [if_neg hn0, if_neg hnm, if_neg hc1, ← List.drop_drop, List.drop_left, List.drop_left, ih, ee]
    simp only [List.append_assoc, List.length_append]
    simp only [Nat.add_assoc]
theorem expand_len (l : List Int) : (expand (st l)).length = l.length := by rw [expand_st]
theorem getRuns_put (d : List Int) (hw : ∀ x ∈ d, -9223372036854775808 ≤ x ∧ x < 9223372036854775808) (most : Int) (hm : (d.length : Int) ≤ most) (hm2 : d.length ≤ 65536) (behind : List Int) :
    getRuns (runs d ++ behind) most = (d, ((runs d).length : Int), 0) := by
  have hst := st_length d
  have hmm : (d.length : Int) ≤ mx 0 (mn most 65536) ∧ mx 0 (mn most 65536) ≤ 65536 := by simp only [mx, mn]; omega
  obtain ⟨m, hm⟩ : ∃ m : Nat, mx 0 (mn most 65536) = (m : Int) := ⟨_, (Int.toNat_of_nonneg (by omega)).symm⟩
  have h1 : gU 0 0 (putU (st d).length ++ (flat (st d) ++ behind)) = (((st d).length : Int), ((putU (st d).length).length : Int), 0) := gU0 _ (by omega) _
  unfold getRuns
  rw [hm] at hmm ⊢
  rw [show runs d ++ behind = putU (st d).length ++ (flat (st d) ++ behind) by simp [runs], h1]
  simp only [if_true, Int.toNat_natCast, List.drop_left]
  rw [if_neg (by omega), gR_put m (by omega) behind (st d) [] _ (fun p hp => hw _ (st_mem d p hp).1) (st_chain d none (by simp)) (by rw [expand_len]; simp; omega), expand_st]
  simp [runs]
/-- Differences. -/
def dif : Int → List Int → List Int
  | _, [] => []
  | a, x :: r => wrap64 (x - a) :: dif x r
def dif0 : List Int → List Int
  | [] => []
  | x :: r => x :: dif x r
theorem dif_length : ∀ (a : Int) (l : List Int), (dif a l).length = l.length
  | _, [] => rfl
  | a, x :: r => by simp [dif, dif_length x r]
theorem dif0_length : ∀ (l : List Int), (dif0 l).length = l.length
  | [] => rfl
  | x :: r => by simp [dif0, dif_length]
theorem wrap_rng (x : Int) : -9223372036854775808 ≤ wrap64 x ∧ wrap64 x < 9223372036854775808 := by unfold wrap64; omega
theorem wrap_back (x a : Int) (h : -9223372036854775808 ≤ x ∧ x < 9223372036854775808) : wrap64 (wrap64 (x - a) + a) = x := by unfold wrap64; omega
theorem dif_rng : ∀ (a : Int) (l : List Int), ∀ x ∈ dif a l, -9223372036854775808 ≤ x ∧ x < 9223372036854775808
  | _, [], x, h => by simp [dif] at h
  | a, y :: r, x, h => by
    rcases List.mem_cons.1 h with rfl | h
    · exact wrap_rng _
    · exact dif_rng y r x h
theorem dif0_rng (l : List Int) (hl : ∀ x ∈ l, -9223372036854775808 ≤ x ∧ x < 9223372036854775808) : ∀ x ∈ dif0 l, -9223372036854775808 ≤ x ∧ x < 9223372036854775808 := by
  cases l with
  | nil => simp [dif0]
  | cons y r =>
    intro x h
    rcases List.mem_cons.1 h with rfl | h
    · exact hl x (by simp)
    · exact dif_rng y r x h
theorem sums_dif : ∀ (a : Int) (l : List Int), (∀ x ∈ l, -9223372036854775808 ≤ x ∧ x < 9223372036854775808) → sums a (dif a l) = l
  | _, [], _ => rfl
  | a, x :: r, h => by
    have hx := h x (by simp)
    rw [dif, sums, wrap_back x a hx, sums_dif x r (fun y hy => h y (by simp [hy]))]
theorem sums0_dif0 (l : List Int) (h : ∀ x ∈ l, -9223372036854775808 ≤ x ∧ x < 9223372036854775808) : sums0 (dif0 l) = l := by
  cases l with
  | nil => rfl
  | cons x r => rw [dif0, sums0, sums_dif x r (fun y hy => h y (by simp [hy]))]
end Go.Proofs.Ytcffooeiennmjaa.ColT
