/- Own texts of this claim, one behind the other (wip/tools/merge.py). -/
import Derived.Test.YtcffooeiennmjaaMF21
import Derived.Test.YtcffooeiennmjaaMF25
import Derived.Test.YtcffooeiennmjaaMF22
import Derived.Test.YtcffooeiennmjaaMF23
import Derived.Test.YtcffooeiennmjaaMF26
import Derived.Lib.Bytes
import Derived.Test.YtcffooeiennmjaaMF27
import Derived.Test.YtcffooeiennmjaaMF28
/- column.GetRuns: what it computes, plainly. -/
set_option linter.unusedVariables false
set_option linter.unusedSimpArgs false
namespace Go.Proofs.Ytcffooeiennmjaa.ColT
open Go Go.RowKit Go.Proofs.Ytcffooeiennmjaa.PA Go.Proofs.YtcffooeiennmjaaW.PrintWords Go.Proofs.YtcffooeiennmjaaW.PrintLast Go.Proofs.YtcffooeiennmjaaW.PrintMore Go.Proofs.Ytcffooeiennmjaa.LebT Go.Proofs.Ytcffooeiennmjaa.LebP

/-- n runs taken off b, at most `most` numbers, acc gathered so far, `used` bytes used so far. -/
def gR (most : Nat) : Nat → List Int → Nat → List Int → List Int × Int × Int
  | 0, acc, used, _ => (acc, (used : Int), 0)
  | n + 1, acc, used, b =>
    if (gU 0 0 b).2.2 = 0 then
      if (gU 0 0 b).1 = 0 then ([], 0, 4)
      else if (gU 0 0 b).1 > ((most - acc.length : Nat) : Int) then ([], 0, 5)
      else if (gI 0 0 false (b.drop (gU 0 0 b).2.1.toNat)).2.2 = 0 then
        if acc.getLast? = some (gI 0 0 false (b.drop (gU 0 0 b).2.1.toNat)).1 then ([], 0, 4)
        else gR most n (acc ++ List.replicate (gU 0 0 b).1.toNat (gI 0 0 false (b.drop (gU 0 0 b).2.1.toNat)).1) (used + (gU 0 0 b).2.1.toNat + (gI 0 0 false (b.drop (gU 0 0 b).2.1.toNat)).2.1.toNat) (b.drop ((gU 0 0 b).2.1.toNat + (gI 0 0 false (b.drop (gU 0 0 b).2.1.toNat)).2.1.toNat))
      else ([], 0, (gI 0 0 false (b.drop (gU 0 0 b).2.1.toNat)).2.2)
    else ([], 0, (gU 0 0 b).2.2)

/-- What gU takes off: within the bytes, within 64 bits. -/
theorem gU_rng {b : List Int} (hb : ∀ x ∈ b, isByte x) (h : (gU 0 0 b).2.2 = 0) : ∃ v k : Nat, gU 0 0 b = ((v : Int), (k : Int), 0) ∧ v < 18446744073709551616 ∧ 0 < k ∧ k ≤ b.length ∧ k ≤ 10 ∧ b = putU v ++ b.drop k ∧ (putU v).length = k := by
  obtain ⟨v, k, e, he⟩ : ∃ v k e, gU 0 0 b = (v, k, e) := ⟨_, _, _, rfl⟩
  rw [he] at h
  obtain rfl : e = 0 := h
  obtain ⟨m, j, rfl, rfl, h1, h2, h3, _, h4⟩ := gU_only b 0 0 v k hb (by omega) (by omega) he
  simp only [Nat.zero_add, Nat.pow_zero, Nat.mul_one] at *
  have hl : (putU m).length = j := by rw [h3, List.length_take]; omega
  refine ⟨m, j, he, h4, h1, h2, by rw [← hl]; exact putU_len64 h4, by rw [h3, List.take_append_drop], hl⟩
theorem gI_rng {b : List Int} (hb : ∀ x ∈ b, isByte x) (h : (gI 0 0 false b).2.2 = 0) : ∃ (v : Int) (k : Nat), gI 0 0 false b = (v, (k : Int), 0) ∧ -9223372036854775808 ≤ v ∧ v < 9223372036854775808 ∧ 0 < k ∧ k ≤ b.length ∧ k ≤ 10 ∧ b = putI v ++ b.drop k ∧ (putI v).length = k := by
  obtain ⟨v, k, e, he⟩ : ∃ v k e, gI 0 0 false b = (v, k, e) := ⟨_, _, _, rfl⟩
  rw [he] at h
  obtain rfl : e = 0 := h
  obtain ⟨m, j, hv, rfl, h1, h2, h3, _, h4, h5⟩ := gI_only b 0 0 false v k hb (by omega) (by omega) he
  simp only [Nat.zero_add, Int.pow_zero, Int.mul_one, Int.natCast_zero, Int.zero_add] at *
  have hv' : v = m := by simpa using hv
  subst hv'
  have hl : (putI v).length = j := by rw [h3, List.length_take]; omega
  refine ⟨v, j, he, h4, h5, h1, h2, by rw [← hl]; exact putI_len64 h4 h5, by rw [h3, List.take_append_drop], hl⟩
theorem w64 (n : Nat) (h : n < 4611686018427387904) : wrap64 (n : Int) = (n : Int) := by unfold wrap64; omega
theorem w64s (a b : Nat) (h : b ≤ a) (h1 : a < 4611686018427387904) : wrap64 ((a : Int) - (b : Int)) = ((a - b : Nat) : Int) := by unfold wrap64; omega
theorem w64a (a b : Nat) (h1 : a + b < 4611686018427387904) : wrap64 ((a : Int) + (b : Int)) = ((a + b : Nat) : Int) := by unfold wrap64; omega
theorem w64p (a : Nat) (h : 0 < a) (h1 : a < 4611686018427387904) : wrap64 ((a : Int) - 1) = ((a - 1 : Nat) : Int) := by unfold wrap64; omega
theorem u64n (n : Nat) (h : n < 18446744073709551616) : IntKind.u64.wrap (n : Int) = (n : Int) := by rw [IntKind.wrap_u64]; omega
theorem u64a (n : Nat) (h : n + 1 < 18446744073709551616) : IntKind.u64.wrap ((n : Int) + 1) = ((n + 1 : Nat) : Int) := by rw [IntKind.wrap_u64]; omega
theorem u64p (n : Nat) (h : n < 18446744073709551616) : IntKind.u64.wrap (((n + 1 : Nat) : Int) - 1) = (n : Int) := by rw [IntKind.wrap_u64]; omega
theorem drop_byte {b : List Int} (hb : ∀ x ∈ b, isByte x) (k : Nat) : ∀ x ∈ b.drop k, isByte x := fun x hx => hb x (List.mem_of_mem_drop hx)
theorem runs_l1 (x0 : List Int) (x1 x5 x6 x7 x9 v x12 : Int) (many : Nat) (hm : many ≤ 65536) (d : Nat) : ∀ (k i : Nat) (acc : List Int), i + d = many → acc.length + d ≤ 65536 →
    column_GetRuns.l1 (k + d + 1) x0 x1 acc x5 x6 x7 x9 v x12 (many : Int) (i : Int) = column_GetRuns.l0 k x0 x1 (acc ++ List.replicate d v) (wrap64 (x5 + (wrap64 (x9 + x12)))) x6 (IntKind.u64.wrap (x7 - 1)) := by
  induction d with
  | zero =>
    intro k i acc hi ha
    rw [column_GetRuns.l1, if_neg (by omega)]
    simp
  | succ d ih =>
    intro k i acc hi ha
    rw [column_GetRuns.l1, if_pos (by omega), if_pos (by omega)]
    rw [show IntKind.u64.wrap ((i : Int) + 1) = ((i + 1 : Nat) : Int) by rw [IntKind.wrap_u64]; omega]
    rw [show k + (d + 1) = k + d + 1 by omega, ih k (i + 1) (acc ++ [v]) (by omega) (by simp; omega)]
    rw [List.append_assoc, List.replicate_succ, List.singleton_append]
theorem runs_l0 (b : List Int) (hb : ∀ x ∈ b, isByte x) (hbl : b.length ≤ 140737488351232) (most : Nat) (hmost : most ≤ 65536) (n : Nat) : ∀ (k : Nat) (acc : List Int) (used : Nat), n ≤ 65536 → acc.length ≤ most → used ≤ b.length → 10 * n + (most - acc.length) + 40 ≤ k →
    column_GetRuns.l0 k b (most : Int) acc (used : Int) 0 (n : Int) = some (gR most n acc used (b.drop used)) := by
  induction n with
  | zero =>
    intro k acc used hn ha hu hk
    obtain ⟨k, rfl⟩ : ∃ k', k = k' + 2 := ⟨k - 2, by omega⟩
    rw [column_GetRuns.l0, if_pos rfl, column_GetRuns.j3]
    simp [gR]
  | succ n ih =>
    intro k acc used hn ha hu hk
    obtain ⟨k, rfl⟩ : ∃ k', k = k' + 5 := ⟨k - 5, by omega⟩
    have hbu := drop_byte hb used
    rw [column_GetRuns.l0, if_pos rfl, column_GetRuns.j3, if_pos (by simp), if_pos (by omega), if_pos (by omega), Int.toNat_natCast, getU_f (by omega) hbu, gR, w64s most acc.length ha (by omega), u64n (most - acc.length) (by omega)]
    simp only [Option.bind_some]
    by_cases hf : (gU 0 0 (b.drop used)).2.2 = 0
    · obtain ⟨v, c, hv, hv64, hc0, hcl, hc10, hbv, hpl⟩ := gU_rng hbu hf
      rw [List.length_drop] at hcl
      simp only [hv, Int.toNat_natCast, if_true, List.drop_drop]
      by_cases hv0 : (v : Int) = 0
      · rw [if_pos hv0, if_pos hv0]
      · rw [if_neg hv0, if_neg hv0]
        by_cases hvm : (v : Int) > ((most - acc.length : Nat) : Int)
        · rw [if_pos hvm, if_pos hvm]
        · rw [if_neg hvm, if_neg hvm]
          rw [w64a used c (by omega)]
          have hbc := drop_byte hb (used + c)
          have hq1 : (0 : Int) ≤ ((used + c : Nat) : Int) := Int.natCast_nonneg _
          have hq2 : ((used + c : Nat) : Int) ≤ (b.length : Int) := by omega
          have hgi : leb_GetInt.f (k + 3) (b.drop (used + c)) = some (gI 0 0 false (b.drop (used + c))) := getI_f (by omega) hbc
          rw [if_pos hq1, if_pos hq2, Int.toNat_natCast]
          rw [hgi]
          simp only [Option.bind_some]
          by_cases hg : (gI 0 0 false (b.drop (used + c))).2.2 = 0
          · obtain ⟨x, j, hx, hx1, hx2, hj0, hjl, hj10, hbx, hpx⟩ := gI_rng hbc hg
            rw [List.length_drop] at hjl
            simp only [hx, if_true, Int.toNat_natCast]
            have hfin : ∀ q : Bool, q = decide (acc.getLast? = some x) → column_GetRuns.j4 (k + 3) b (most : Int) acc (used : Int) 0 ((n + 1 : Nat) : Int) (v : Int) (c : Int) 0 x (j : Int) q = some (if acc.getLast? = some x then ([], 0, 4) else gR most n (acc ++ List.replicate v x) (used + c + j) (b.drop (used + (c + j)))) := by
              intro q hq
              subst hq
              rw [column_GetRuns.j4]
              by_cases hl : acc.getLast? = some x
              · rw [if_pos (by simpa using hl), column_GetRuns.j5, if_neg (by omega), if_pos hl]
              · rw [if_neg (by simpa using hl), column_GetRuns.j5, if_pos rfl, if_neg hl]
                obtain ⟨k2, rfl⟩ : ∃ k2, k = k2 + v := ⟨k - v, by omega⟩
                have h1 := runs_l1 b (most : Int) (used : Int) 0 ((n + 1 : Nat) : Int) (c : Int) x (j : Int) v (by omega) v k2 0 acc (by omega) (by omega)
                rw [show ((0 : Nat) : Int) = 0 from rfl] at h1
                rw [h1]
                clear h1
                rw [w64a c j (by omega), w64a used (c + j) (by omega), u64p n (by omega), ← Nat.add_assoc used c j]
                rw [ih k2 (acc ++ List.replicate v x) (used + c + j) (by omega) (by rw [List.length_append, List.length_replicate]; omega) (by omega) (by rw [List.length_append, List.length_replicate]; omega)]
            by_cases hal : (acc.length : Int) > 0
            · rw [if_pos hal, w64p acc.length (by omega) (by omega), if_pos (by omega), if_pos (by omega)]
              refine hfin _ ?_
              have hal' : acc.length - 1 < acc.length := by omega
              rw [List.getLast?_eq_getElem?, List.getElem?_eq_getElem hal']
              simp [rd, List.getD_eq_getElem?_getD, List.getElem?_eq_getElem hal']
              by_cases h : acc[acc.length - 1] = x <;> simp [h]
            · rw [if_neg hal]
              refine hfin _ ?_
              have : acc = [] := List.eq_nil_of_length_eq_zero (by omega)
              simp [this]
          · rw [if_neg hg, if_neg hg]
            obtain ⟨e, he⟩ : ∃ e, (gI 0 0 false (b.drop (used + c))).2.2 = e := ⟨_, rfl⟩
            rw [he] at hg ⊢
            rw [column_GetRuns.j4]
            simp only [Bool.false_eq_true, if_false]
            rw [column_GetRuns.j5, if_neg hg]
    · rw [if_neg hf, if_neg hf]
/-- column.GetRuns. -/
def getRuns (b : List Int) (most : Int) : List Int × Int × Int :=
  if (gU 0 0 b).2.2 = 0 then
    if (gU 0 0 b).1 > mx 0 (mn most 65536) then ([], 0, 5) else gR (mx 0 (mn most 65536)).toNat (gU 0 0 b).1.toNat [] (gU 0 0 b).2.1.toNat (b.drop (gU 0 0 b).2.1.toNat)
  else ([], 0, (gU 0 0 b).2.2)
theorem getRuns_f {k : Nat} (hk : 800000 ≤ k) {b : List Int} (hb : ∀ x ∈ b, isByte x) (hbl : b.length ≤ 140737488351232) (most : Int) : column_GetRuns.f k b most = some (getRuns b most) := by
  have hmm : 0 ≤ mx 0 (mn most 65536) ∧ mx 0 (mn most 65536) ≤ 65536 := by simp only [mx, mn]; omega
  obtain ⟨m, hm⟩ : ∃ m : Nat, mx 0 (mn most 65536) = (m : Int) := ⟨_, (Int.toNat_of_nonneg hmm.1).symm⟩
  unfold column_GetRuns.f column_bounded.f getRuns
  simp only [Option.bind_some, hm, Int.toNat_natCast]
  rw [hm] at hmm
  clear hm
  rw [getU_f (by omega) hb, show IntKind.u64.wrap ((m : Int)) = (m : Int) by rw [IntKind.wrap_u64]; omega]
  simp only [Option.bind_some]
  obtain ⟨k, rfl⟩ : ∃ k', k = k' + 4 := ⟨k - 4, by omega⟩
  by_cases hf : (gU 0 0 b).2.2 = 0
  · obtain ⟨v, c, hv, hv64, hc0, hcl, hc10, hbv, hpl⟩ := gU_rng hb hf
    simp only [hv, if_true, Int.toNat_natCast]
    rw [column_GetRuns.j0]
    by_cases hvm : (v : Int) > (m : Int)
    · rw [if_pos (by simpa using hvm), column_GetRuns.j1, column_GetRuns.l0, if_neg (by omega), column_GetRuns.j3, if_neg (by simp), if_neg (by omega), if_pos hvm]
    · rw [if_neg (by simpa using hvm), column_GetRuns.j1, if_neg hvm]
      exact runs_l0 b hb hbl m (by omega) v (k + 2) [] c (by omega) (by simp) (by omega) (by simp; omega)
  · rw [if_neg hf, if_neg hf, column_GetRuns.j0, if_neg (by simp), column_GetRuns.j1, column_GetRuns.l0, if_neg hf, column_GetRuns.j3, if_neg (by simp), if_neg hf]
end Go.Proofs.Ytcffooeiennmjaa.ColT
namespace Go.Proofs.Ytcffooeiennmjaa.ColT
open Go Go.RowKit Go.Proofs.Ytcffooeiennmjaa.PA Go.Proofs.YtcffooeiennmjaaW.PrintWords Go.Proofs.YtcffooeiennmjaaW.PrintLast Go.Proofs.YtcffooeiennmjaaW.PrintMore Go.Proofs.Ytcffooeiennmjaa.LebT Go.Proofs.Ytcffooeiennmjaa.LebP
/-- The running sums behind a. -/
def sums : Int → List Int → List Int
  | _, [] => []
  | a, x :: r => wrap64 (x + a) :: sums (wrap64 (x + a)) r
def sums0 : List Int → List Int
  | [] => []
  | x :: r => x :: sums x r
theorem deltas_l0 (u e : Int) (r : List Int) : ∀ (k : Nat) (pre : List Int) (a : Int), r.length < k → pre.length + r.length < 4611686018427387900 →
    column_GetDeltas.l0 k (pre ++ a :: r) u e ((pre.length + 1 : Nat) : Int) = some (pre ++ a :: sums a r, u, e) := by
  induction r with
  | nil =>
    intro k pre a hk hl
    obtain ⟨k, rfl⟩ : ∃ k', k = k' + 1 := ⟨k - 1, by simp at hk; omega⟩
    rw [column_GetDeltas.l0, if_neg (by simp)]
    simp [sums]
  | cons y t ih =>
    intro k pre a hk hl
    simp only [List.length_cons] at hk hl
    obtain ⟨k, rfl⟩ : ∃ k', k = k' + 1 := ⟨k - 1, by omega⟩
    have e1 : rd (pre ++ a :: y :: t) ((pre.length + 1 : Nat) : Int) = y := by simp [rd, List.getD_eq_getElem?_getD]
    have e2 : rd (pre ++ a :: y :: t) ((pre.length : Nat) : Int) = a := by simp [rd, List.getD_eq_getElem?_getD]
    have h1 : ((pre.length + 1 : Nat) : Int) < ((pre ++ a :: y :: t).length : Int) := by simp; omega
    have h2 : (0 : Int) ≤ ((pre.length + 1 : Nat) : Int) := Int.natCast_nonneg _
    have h3 : (0 : Int) ≤ ((pre.length : Nat) : Int) := Int.natCast_nonneg _
    have h4 : ((pre.length : Nat) : Int) < ((pre ++ a :: y :: t).length : Int) := by simp; omega
    have es : (pre ++ a :: y :: t).set (pre.length + 1) (wrap64 (y + a)) = (pre ++ [a]) ++ wrap64 (y + a) :: t := by
      rw [List.set_append_right _ _ (by omega)]
      simp
    have hi := ih k (pre ++ [a]) (wrap64 (y + a)) (by omega) (by simp; omega)
    rw [List.length_append, List.length_singleton] at hi
    rw [column_GetDeltas.l0, if_pos h1, if_pos h2, show wrap64 (((pre.length + 1 : Nat) : Int) - 1) = ((pre.length : Nat) : Int) from (w64p (pre.length + 1) (by omega) (by omega)), if_pos h3, if_pos h4, e1, e2, Int.toNat_natCast, es]
    rw [show wrap64 (((pre.length + 1 : Nat) : Int) + 1) = ((pre.length + 1 + 1 : Nat) : Int) from w64a (pre.length + 1) 1 (by omega), hi]
    simp [sums]
theorem deltas0 (u e : Int) (l : List Int) (k : Nat) (hk : l.length < k) (hl : l.length < 4611686018427387900) : column_GetDeltas.l0 k l u e 1 = some (sums0 l, u, e) := by
  cases l with
  | nil =>
    obtain ⟨k, rfl⟩ : ∃ k', k = k' + 1 := ⟨k - 1, by simp at hk; omega⟩
    rw [column_GetDeltas.l0, if_neg (by simp)]; rfl
  | cons a r => exact deltas_l0 u e r k [] a (by simp at hk; omega) (by simp at hl ⊢; omega)
theorem same_l0 (l : List Int) (hl : l.length < 4611686018427387900) (d : Nat) : ∀ (k i : Nat), i + d = l.length → d < k → stemmaref03_Same.l0 k l l (i : Int) = some true := by
  induction d with
  | zero =>
    intro k i hi hk
    obtain ⟨k, rfl⟩ : ∃ k', k = k' + 1 := ⟨k - 1, by omega⟩
    rw [stemmaref03_Same.l0, if_neg (by omega)]
  | succ d ih =>
    intro k i hi hk
    obtain ⟨k, rfl⟩ : ∃ k', k = k' + 1 := ⟨k - 1, by omega⟩
    have h1 : (i : Int) < (l.length : Int) := by omega
    have h2 : (0 : Int) ≤ (i : Int) := Int.natCast_nonneg _
    rw [stemmaref03_Same.l0, if_pos h1, if_pos h2, if_pos h1, if_pos rfl, show wrap64 ((i : Int) + 1) = ((i + 1 : Nat) : Int) from w64a i 1 (by omega)]
    exact ih k (i + 1) (by omega) (by omega)
theorem same_f {k : Nat} (l : List Int) (hk : l.length < k) (hl : l.length < 4611686018427387900) : stemmaref03_Same.f k l l = some true := by
  unfold stemmaref03_Same.f
  rw [if_pos rfl]
  exact same_l0 l hl l.length k 0 (by omega) hk
theorem gR_len (most : Nat) : ∀ (n : Nat) (acc : List Int) (used : Nat) (b : List Int), acc.length ≤ most → (gR most n acc used b).1.length ≤ most
  | 0, acc, used, b, h => h
  | n + 1, acc, used, b, h => by
    rw [gR]
    split
    · split
      · simp
      · split
        · simp
        · split
          · split
            · simp
            · rename_i h2 _ _
              exact gR_len most n _ _ _ (by rw [List.length_append, List.length_replicate]; omega)
          · simp
    · simp
theorem getRuns_len (b : List Int) (most : Int) : (getRuns b most).1.length ≤ 65536 := by
  unfold getRuns
  have hmm : 0 ≤ mx 0 (mn most 65536) ∧ mx 0 (mn most 65536) ≤ 65536 := by simp only [mx, mn]; omega
  split
  · split
    · simp
    · exact Nat.le_trans (gR_len _ _ _ _ _ (by simp)) (by omega)
  · simp
theorem getDeltas_f {k : Nat} (hk : 800000 ≤ k) {b : List Int} (hb : ∀ x ∈ b, isByte x) (hbl : b.length ≤ 140737488351232) (most : Int) : column_GetDeltas.f k b most = some (sums0 (getRuns b most).1, (getRuns b most).2.1, (getRuns b most).2.2) := by
  unfold column_GetDeltas.f
  rw [getRuns_f hk hb hbl]
  simp only [Option.bind_some]
  have := getRuns_len b most
  exact deltas0 _ _ _ k (by omega) (by omega)
theorem awake03 {k : Nat} (hk : 800000 ≤ k) : stemmalaw03_awake.f k = some true := by
  unfold stemmalaw03_awake.f
  rw [getDeltas_f hk (by intro x hx; simp at hx; unfold isByte; omega) (by simp)]
  have e1 : getRuns [1, 3, 1] 9 = ([1, 1, 1], 3, 0) := by decide +kernel
  have e2 : sums0 [1, 1, 1] = [1, 2, 3] := by decide +kernel
  have e3 : column_Runs.f [5, 5, 5, -1] = some [2, 3, 5, 1, 127] := by
    unfold column_Runs.f
    rw [if_pos (by decide +kernel)]
    simp [ColS.runs, ColS.st, ColS.flat, putU_small, putI_small]
  have e4 : column_Flags.f [true, true, false] = some [3, 0, 2, 1] := by
    unfold column_Flags.f
    rw [if_pos (by decide +kernel)]
    simp [ColS.flags, ColS.st, ColS.flatB, putU_small]
  rw [e3, e4]
  simp only [Option.bind_some, e1, e2]
  rw [if_pos (by decide +kernel), same_f _ (by simp; omega) (by simp)]
  simp only [Option.bind_some, if_true]
  rw [if_pos (by decide +kernel)]
end Go.Proofs.Ytcffooeiennmjaa.ColT

/- column.GetFlags, plainly. -/
set_option linter.unusedVariables false
set_option linter.unusedSimpArgs false
namespace Go.Proofs.Ytcffooeiennmjaa.ColT
open Go Go.RowKit Go.Proofs.Ytcffooeiennmjaa.PA Go.Proofs.YtcffooeiennmjaaW.PrintWords Go.Proofs.YtcffooeiennmjaaW.PrintLast Go.Proofs.YtcffooeiennmjaaW.PrintMore Go.Proofs.Ytcffooeiennmjaa.LebT Go.Proofs.Ytcffooeiennmjaa.LebP
/-- n stretches of truths taken off b, the i-th one next, N in all. -/
def gF (most N : Nat) : Nat → Nat → List Bool → Nat → List Int → List Bool × Int × Int
  | 0, _, acc, used, _ => (acc, (used : Int), 0)
  | n + 1, i, acc, used, b =>
    if (gU 0 0 b).2.2 = 0 then
      if (gU 0 0 b).1 = 0 ∧ (0 < i ∨ N = 1) then ([], 0, 4)
      else if (gU 0 0 b).1 > ((most - acc.length : Nat) : Int) then ([], 0, 5)
      else gF most N n (i + 1) (acc ++ List.replicate (gU 0 0 b).1.toNat (decide (i % 2 = 1))) (used + (gU 0 0 b).2.1.toNat) (b.drop (gU 0 0 b).2.1.toNat)
    else ([], 0, (gU 0 0 b).2.2)
theorem and1 (i : Nat) (h : i < 18446744073709551616) : (Go.bits .and .u64 (i : Int) 1 == 1) = decide (i % 2 = 1) := by
  have := u64_and_nat i 1 h (by omega)
  rw [show ((1 : Nat) : Int) = 1 from rfl] at this
  rw [this, Nat.and_one_is_mod]
  by_cases h2 : i % 2 = 1
  · simp [h2]
  · simp [show i % 2 = 0 by omega]
theorem flags_l1 (x0 : List Int) (x1 x5 x7 x10 x30 x31 : Int) (q : Nat) (hq : q < 18446744073709551616) (many : Nat) (hm : many ≤ 65536) (d : Nat) : ∀ (k i : Nat) (acc : List Bool), i + d = many → acc.length + d ≤ 65536 →
    column_GetFlags.l1 (k + d + 1) x0 x1 acc x5 x7 (q : Int) x10 x30 x31 (many : Int) (i : Int) = column_GetFlags.l0 k x0 x1 (acc ++ List.replicate d (decide (q % 2 = 1))) (wrap64 (x5 + x10)) x7 x30 (IntKind.u64.wrap (x31 + 1)) := by
  induction d with
  | zero =>
    intro k i acc hi ha
    rw [column_GetFlags.l1, if_neg (by omega)]
    simp
  | succ d ih =>
    intro k i acc hi ha
    rw [column_GetFlags.l1, if_pos (by omega), if_pos (by omega), and1 q hq]
    rw [show IntKind.u64.wrap ((i : Int) + 1) = ((i + 1 : Nat) : Int) from u64a i (by omega)]
    rw [show k + (d + 1) = k + d + 1 by omega, ih k (i + 1) _ (by omega) (by simp; omega)]
    rw [List.append_assoc, List.replicate_succ, List.singleton_append]
theorem flags_l0 (b : List Int) (hb : ∀ x ∈ b, isByte x) (hbl : b.length ≤ 140737488351232) (most : Nat) (hmost : most ≤ 65536) (N : Nat) (hN : N ≤ 65537) (n : Nat) : ∀ (k : Nat) (acc : List Bool) (used i : Nat), i + n = N → acc.length ≤ most → used ≤ b.length → 10 * n + (most - acc.length) + 50 ≤ k →
    column_GetFlags.l0 k b (most : Int) acc (used : Int) (N : Int) (N : Int) (i : Int) = some (gF most N n i acc used (b.drop used)) := by
  induction n with
  | zero =>
    intro k acc used i hn ha hu hk
    obtain ⟨k, rfl⟩ : ∃ k', k = k' + 1 := ⟨k - 1, by omega⟩
    rw [column_GetFlags.l0, if_neg (by omega)]
    simp [gF]
  | succ n ih =>
    intro k acc used i hn ha hu hk
    obtain ⟨k, rfl⟩ : ∃ k', k = k' + 3 := ⟨k - 3, by omega⟩
    have hbu := drop_byte hb used
    have hin : (i : Int) < (N : Int) := by omega
    have hu1 : (0 : Int) ≤ (used : Int) := Int.natCast_nonneg _
    have hu2 : (used : Int) ≤ (b.length : Int) := by omega
    rw [column_GetFlags.l0, if_pos hin, if_pos hu1, if_pos hu2, Int.toNat_natCast, getU_f (by omega) hbu, gF]
    simp only [Option.bind_some]
    by_cases hf : (gU 0 0 (b.drop used)).2.2 = 0
    · obtain ⟨v, c, hv, hv64, hc0, hcl, hc10, hbv, hpl⟩ := gU_rng hbu hf
      rw [List.length_drop] at hcl
      simp only [hv, Int.toNat_natCast, if_true, List.drop_drop]
      have hfin : ∀ q : Bool, q = decide ((v : Int) = 0 ∧ (0 < i ∨ N = 1)) → column_GetFlags.j1 (k + 2) b (most : Int) acc (used : Int) (N : Int) (i : Int) (v : Int) (c : Int) (N : Int) (i : Int) q = some (if (v : Int) = 0 ∧ (0 < i ∨ N = 1) then ([], 0, 4) else if (v : Int) > ((most - acc.length : Nat) : Int) then ([], 0, 5) else gF most N n (i + 1) (acc ++ List.replicate v (decide (i % 2 = 1))) (used + c) (b.drop (used + c))) := by
        intro q hq
        subst hq
        rw [column_GetFlags.j1, w64s most acc.length ha (by omega), u64n (most - acc.length) (by omega)]
        by_cases hz : (v : Int) = 0 ∧ (0 < i ∨ N = 1)
        · rw [if_pos (by simpa using hz), if_pos hz]
        · rw [if_neg (by simpa using hz), if_neg hz]
          by_cases hvm : (v : Int) > ((most - acc.length : Nat) : Int)
          · rw [if_pos hvm, if_pos hvm]
          · rw [if_neg hvm, if_neg hvm]
            obtain ⟨k2, rfl⟩ : ∃ k2, k = k2 + v := ⟨k - v, by omega⟩
            have h1 := flags_l1 b (most : Int) (used : Int) (N : Int) (c : Int) (N : Int) (i : Int) i (by omega) v (by omega) v k2 0 acc (by omega) (by omega)
            rw [show ((0 : Nat) : Int) = 0 from rfl] at h1
            have h2 := flags_l1 b (most : Int) (used : Int) (N : Int) (c : Int) (N : Int) (i : Int) i (by omega) v (by omega) v (k2 + 1) 0 acc (by omega) (by omega)
            rw [show ((0 : Nat) : Int) = 0 from rfl] at h2
            rw [show k2 + v + 1 = k2 + v + 1 from rfl, h1]
            clear h1 h2
            rw [w64a used c (by omega), u64a i (by omega)]
            rw [ih k2 _ (used + c) (i + 1) (by omega) (by rw [List.length_append, List.length_replicate]; omega) (by omega) (by rw [List.length_append, List.length_replicate]; omega)]
      by_cases hv0 : (v : Int) = 0
      · rw [if_pos hv0]
        by_cases hi0 : (i : Int) > 0
        · rw [if_pos hi0]
          exact hfin _ (by simp [hv0]; omega)
        · rw [if_neg hi0]
          refine hfin _ ?_
          have hii : i = 0 := by omega
          subst hii
          simp only [hv0, true_and]
          by_cases h1 : N = 1
          · subst h1; simp
          · have : ¬ ((N : Int) = 1) := by omega
            simp [h1, this]
      · rw [if_neg hv0]
        exact hfin _ (decide_eq_false (fun h => hv0 h.1)).symm
    · rw [if_neg hf, if_neg hf]
/-- GetFlags. -/
def getFlags (b : List Int) (most : Int) : List Bool × Int × Int :=
  if (gU 0 0 b).2.2 = 0 then
    if (gU 0 0 b).1 > mx 0 (mn most 65536) + 1 then ([], 0, 5) else gF (mx 0 (mn most 65536)).toNat (gU 0 0 b).1.toNat (gU 0 0 b).1.toNat 0 [] (gU 0 0 b).2.1.toNat (b.drop (gU 0 0 b).2.1.toNat)
  else ([], 0, (gU 0 0 b).2.2)
theorem getFlags_f {k : Nat} (hk : 800000 ≤ k) {b : List Int} (hb : ∀ x ∈ b, isByte x) (hbl : b.length ≤ 140737488351232) (most : Int) : column_GetFlags.f k b most = some (getFlags b most) := by
  have hmm : 0 ≤ mx 0 (mn most 65536) ∧ mx 0 (mn most 65536) ≤ 65536 := by simp only [mx, mn]; omega
  obtain ⟨m, hm⟩ : ∃ m : Nat, mx 0 (mn most 65536) = (m : Int) := ⟨_, (Int.toNat_of_nonneg hmm.1).symm⟩
  unfold column_GetFlags.f column_bounded.f getFlags
  simp only [Option.bind_some, hm, Int.toNat_natCast]
  rw [hm] at hmm
  clear hm
  rw [getU_f (by omega) hb, u64n m (by omega), u64a m (by omega)]
  simp only [Option.bind_some]
  by_cases hf : (gU 0 0 b).2.2 = 0
  · obtain ⟨v, c, hv, hv64, hc0, hcl, hc10, hbv, hpl⟩ := gU_rng hb hf
    simp only [hv, if_true, Int.toNat_natCast]
    by_cases hvm : (v : Int) > (m : Int) + 1
    · rw [if_pos (by omega), if_pos hvm]
    · rw [if_neg (by omega), if_neg hvm]
      have := flags_l0 b hb hbl m (by omega) v (by omega) v k [] c 0 (by omega) (by simp) (by omega) (by simp; omega)
      exact this
  · rw [if_neg hf, if_neg hf]
theorem gF_len (most N : Nat) : ∀ (n i : Nat) (acc : List Bool) (used : Nat) (b : List Int), acc.length ≤ most → (gF most N n i acc used b).1.length ≤ most
  | 0, i, acc, used, b, h => h
  | n + 1, i, acc, used, b, h => by
    rw [gF]
    split
    · split
      · simp
      · split
        · simp
        · exact gF_len most N n _ _ _ _ (by rw [List.length_append, List.length_replicate]; omega)
    · simp
theorem getFlags_len (b : List Int) (most : Int) : (getFlags b most).1.length ≤ 65536 := by
  unfold getFlags
  have hmm : 0 ≤ mx 0 (mn most 65536) ∧ mx 0 (mn most 65536) ≤ 65536 := by simp only [mx, mn]; omega
  split
  · split
    · simp
    · exact Nat.le_trans (gF_len _ _ _ _ _ _ _ (by simp)) (by omega)
  · simp
end Go.Proofs.Ytcffooeiennmjaa.ColT

/- What is laid by runs and by differences is taken off again: plainly. -/
set_option linter.unusedVariables false
set_option linter.unusedSimpArgs false
namespace Go.Proofs.Ytcffooeiennmjaa.ColT
open Go Go.RowKit Go.Proofs.Ytcffooeiennmjaa.PA Go.Proofs.YtcffooeiennmjaaW.PrintWords Go.Proofs.YtcffooeiennmjaaW.PrintLast Go.Proofs.YtcffooeiennmjaaW.PrintMore Go.Proofs.Ytcffooeiennmjaa.LebT Go.Proofs.Ytcffooeiennmjaa.LebP Go.Proofs.Ytcffooeiennmjaa.ColS
/-- Neighbours are unlike, none is empty. -/
def chain : Option Int → List (Int × Nat) → Prop
  | _, [] => True
  | last, (v, n) :: r => last ≠ some v ∧ 0 < n ∧ chain (some v) r
def expand (ps : List (Int × Nat)) : List Int := ps.flatMap (fun p => List.replicate p.2 p.1)
theorem expand_st : ∀ l : List Int, expand (st l) = l
  | [] => rfl
  | x :: xs => by
    have ih := expand_st xs
    rw [st]
    split
    · rename_i h; rw [h] at ih; simp only [expand, List.flatMap_nil] at ih; subst ih; simp [expand]
    · rename_i y n r h
      rw [h] at ih
      split
      · rename_i hxy
        subst hxy
        simp only [expand, List.flatMap_cons, List.replicate_succ, List.cons_append] at ih ⊢
        rw [ih]
      · simp only [expand, List.flatMap_cons, List.replicate_succ, List.replicate_zero, List.cons_append, List.nil_append] at ih ⊢
        rw [ih]
theorem st_chain : ∀ (l : List Int) (last : Option Int), (∀ x, l.head? = some x → last ≠ some x) → chain last (st l)
  | [], _, _ => by simp [st, chain]
  | x :: xs, last, h => by
    have ih := st_chain xs none (by simp)
    rw [st]
    split
    · exact ⟨h x rfl, by omega, trivial⟩
    · rename_i y n r hs
      rw [hs] at ih
      split
      · rename_i hxy
        subst hxy
        exact ⟨h x rfl, by omega, ih.2.2⟩
      · rename_i hxy
        exact ⟨h x rfl, by omega, by simpa using hxy, ih.2.1, ih.2.2⟩
theorem gU0 (m : Nat) (hm : m < 18446744073709551616) (r : List Int) : gU 0 0 (putU m ++ r) = ((m : Int), ((putU m).length : Int), 0) := by
  have := gU_put m 0 0 r (by omega) (by omega) (by omega)
  simpa using this
theorem gI0 (m : Int) (h1 : -9223372036854775808 ≤ m) (h2 : m < 9223372036854775808) (r : List Int) : gI 0 0 false (putI m ++ r) = (m, ((putI m).length : Int), 0) := by
  have := gI_put m.natAbs m 0 0 false r rfl (by omega) (by omega) (by omega) (by simpa using h1) (by simpa using h2)
  simpa using this
theorem getLast_rep (acc : List Int) (n : Nat) (v : Int) (h : 0 < n) : (acc ++ List.replicate n v).getLast? = some v := by
  rw [List.getLast?_append]
  simp [List.getLast?_replicate, Nat.ne_of_gt h]
theorem gR_put (most : Nat) (hmost : most ≤ 65536) (behind : List Int) : ∀ (ps : List (Int × Nat)) (acc : List Int) (used : Nat), (∀ p ∈ ps, -9223372036854775808 ≤ p.1 ∧ p.1 < 9223372036854775808) → chain acc.getLast? ps → acc.length + (expand ps).length ≤ most →
    gR most ps.length acc used (flat ps ++ behind) = (acc ++ expand ps, ((used + (flat ps).length : Nat) : Int), 0)
  | [], acc, used, _, _, _ => by simp [gR, expand, flat]
  | (v, n) :: r, acc, used, hw, hc, hl => by
    obtain ⟨hc1, hc2, hc3⟩ := hc
    have hv := hw (v, n) (by simp)
    have ef : flat ((v, n) :: r) = putU n ++ (putI v ++ flat r) := by simp [flat]
    have ee : expand ((v, n) :: r) = List.replicate n v ++ expand r := by simp [expand]
    rw [ee, List.length_append, List.length_replicate] at hl
    have h1 : gU 0 0 (putU n ++ (putI v ++ (flat r ++ behind))) = ((n : Int), ((putU n).length : Int), 0) := gU0 n (by omega) _
    have h2 : gI 0 0 false (putI v ++ (flat r ++ behind)) = (v, ((putI v).length : Int), 0) := gI0 v hv.1 hv.2 _
    have ih := gR_put most hmost behind r (acc ++ List.replicate n v) (used + (putU n).length + (putI v).length) (fun p hp => hw p (by simp [hp])) (by rw [getLast_rep _ _ _ hc2]; exact hc3) (by rw [List.length_append, List.length_replicate]; omega)
    have hn0 : ¬ ((n : Int) = 0) := by omega
    have hnm : ¬ ((n : Int) > ((most - acc.length : Nat) : Int)) := by omega
    rw [List.length_cons, ef, List.append_assoc, List.append_assoc, gR, h1]
    simp only [if_true, Int.toNat_natCast, List.drop_left, h2]
    rw [if_neg hn0, if_neg hnm, if_neg hc1, ← List.drop_drop, List.drop_left, List.drop_left, ih, ee]
    simp only [List.append_assoc, List.length_append]
    simp only [Nat.add_assoc]
theorem expand_len (l : List Int) : (expand (st l)).length = l.length := by rw [expand_st]
theorem getRuns_put (d : List Int) (hw : ∀ x ∈ d, -9223372036854775808 ≤ x ∧ x < 9223372036854775808) (most : Int) (hm : (d.length : Int) ≤ most) (hm2 : d.length ≤ 65536) (behind : List Int) :
    getRuns (runs d ++ behind) most = (d, ((runs d).length : Int), 0) := by
  have hst := st_length d
  have hmm : (d.length : Int) ≤ mx 0 (mn most 65536) ∧ mx 0 (mn most 65536) ≤ 65536 := by simp only [mx, mn]; omega
  obtain ⟨m, hm⟩ : ∃ m : Nat, mx 0 (mn most 65536) = (m : Int) := ⟨_, (Int.toNat_of_nonneg (by omega)).symm⟩
  have h1 : gU 0 0 (putU (st d).length ++ (flat (st d) ++ behind)) = (((st d).length : Int), ((putU (st d).length).length : Int), 0) := gU0 _ (by omega) _
  unfold getRuns
  rw [hm] at hmm ⊢
  rw [show runs d ++ behind = putU (st d).length ++ (flat (st d) ++ behind) by simp [runs], h1]
  simp only [if_true, Int.toNat_natCast, List.drop_left]
  rw [if_neg (by omega), gR_put m (by omega) behind (st d) [] _ (fun p hp => hw _ (st_mem d p hp).1) (st_chain d none (by simp)) (by rw [expand_len]; simp; omega), expand_st]
  simp [runs]
/-- Differences. -/
def dif : Int → List Int → List Int
  | _, [] => []
  | a, x :: r => wrap64 (x - a) :: dif x r
def dif0 : List Int → List Int
  | [] => []
  | x :: r => x :: dif x r
theorem dif_length : ∀ (a : Int) (l : List Int), (dif a l).length = l.length
  | _, [] => rfl
  | a, x :: r => by simp [dif, dif_length x r]
theorem dif0_length : ∀ (l : List Int), (dif0 l).length = l.length
  | [] => rfl
  | x :: r => by simp [dif0, dif_length]
theorem wrap_rng (x : Int) : -9223372036854775808 ≤ wrap64 x ∧ wrap64 x < 9223372036854775808 := by unfold wrap64; omega
theorem wrap_back (x a : Int) (h : -9223372036854775808 ≤ x ∧ x < 9223372036854775808) : wrap64 (wrap64 (x - a) + a) = x := by unfold wrap64; omega
theorem dif_rng : ∀ (a : Int) (l : List Int), ∀ x ∈ dif a l, -9223372036854775808 ≤ x ∧ x < 9223372036854775808
  | _, [], x, h => by simp [dif] at h
  | a, y :: r, x, h => by
    rcases List.mem_cons.1 h with rfl | h
    · exact wrap_rng _
    · exact dif_rng y r x h
theorem dif0_rng (l : List Int) (hl : ∀ x ∈ l, -9223372036854775808 ≤ x ∧ x < 9223372036854775808) : ∀ x ∈ dif0 l, -9223372036854775808 ≤ x ∧ x < 9223372036854775808 := by
  cases l with
  | nil => simp [dif0]
  | cons y r =>
    intro x h
    rcases List.mem_cons.1 h with rfl | h
    · exact hl x (by simp)
    · exact dif_rng y r x h
theorem sums_dif : ∀ (a : Int) (l : List Int), (∀ x ∈ l, -9223372036854775808 ≤ x ∧ x < 9223372036854775808) → sums a (dif a l) = l
  | _, [], _ => rfl
  | a, x :: r, h => by
    have hx := h x (by simp)
    rw [dif, sums, wrap_back x a hx, sums_dif x r (fun y hy => h y (by simp [hy]))]
theorem sums0_dif0 (l : List Int) (h : ∀ x ∈ l, -9223372036854775808 ≤ x ∧ x < 9223372036854775808) : sums0 (dif0 l) = l := by
  cases l with
  | nil => rfl
  | cons x r => rw [dif0, sums0, sums_dif x r (fun y hy => h y (by simp [hy]))]
end Go.Proofs.Ytcffooeiennmjaa.ColT

/- column.Deltas: what it computes, plainly. -/
set_option linter.unusedVariables false
set_option linter.unusedSimpArgs false
namespace Go.Proofs.Ytcffooeiennmjaa.ColT
open Go Go.RowKit Go.Proofs.Ytcffooeiennmjaa.PA Go.Proofs.YtcffooeiennmjaaW.PrintWords Go.Proofs.YtcffooeiennmjaaW.PrintLast Go.Proofs.YtcffooeiennmjaaW.PrintMore Go.Proofs.Ytcffooeiennmjaa.LebT Go.Proofs.Ytcffooeiennmjaa.LebP Go.Proofs.Ytcffooeiennmjaa.ColS
theorem put_l0 (r : List Int) : ∀ (k : Nat) (pre : List Int) (a : Int) (D : List Int), D.length = pre.length + 1 → r.length < k → pre.length + r.length < 4611686018427387900 →
    column_Deltas.l0 k (pre ++ a :: r) (D ++ List.replicate r.length 0) (pre ++ a :: r) ((pre ++ a :: r).length : Int) ((pre.length + 1 : Nat) : Int) = column_Runs.f (D ++ dif a r) := by
  induction r with
  | nil =>
    intro k pre a D hD hk hl
    obtain ⟨k, rfl⟩ : ∃ k', k = k' + 1 := ⟨k - 1, by simp at hk; omega⟩
    rw [column_Deltas.l0, if_neg (by simp)]
    simp [dif]
  | cons y t ih =>
    intro k pre a D hD hk hl
    simp only [List.length_cons] at hk hl
    obtain ⟨k, rfl⟩ : ∃ k', k = k' + 1 := ⟨k - 1, by omega⟩
    have e1 : rd (pre ++ a :: y :: t) ((pre.length + 1 : Nat) : Int) = y := by simp [rd, List.getD_eq_getElem?_getD]
    have e2 : rd (pre ++ a :: y :: t) ((pre.length : Nat) : Int) = a := by simp [rd, List.getD_eq_getElem?_getD]
    have h1 : ((pre.length + 1 : Nat) : Int) < ((pre ++ a :: y :: t).length : Int) := by simp; omega
    have h2 : (0 : Int) ≤ ((pre.length + 1 : Nat) : Int) := Int.natCast_nonneg _
    have h3 : (0 : Int) ≤ ((pre.length : Nat) : Int) := Int.natCast_nonneg _
    have h4 : ((pre.length : Nat) : Int) < ((pre ++ a :: y :: t).length : Int) := by simp; omega
    have h5 : ((pre.length + 1 : Nat) : Int) < ((D ++ List.replicate (y :: t).length 0).length : Int) := by simp [hD]; omega
    have h6 : ((pre.length + 1 : Nat) : Int) > 0 := by omega
    have s1 : (D ++ List.replicate (y :: t).length 0).set (pre.length + 1) y = D ++ y :: List.replicate t.length 0 := by
      rw [List.set_append_right _ _ (by omega), hD]
      simp [List.replicate_succ]
    have s2 : (D ++ y :: List.replicate t.length 0).set (pre.length + 1) (wrap64 (y - a)) = (D ++ [wrap64 (y - a)]) ++ List.replicate t.length 0 := by
      rw [List.set_append_right _ _ (by omega), hD]
      simp
    have e3 : rd (D ++ y :: List.replicate t.length 0) ((pre.length + 1 : Nat) : Int) = y := by
      simp only [rd, Int.toNat_natCast, List.getD_eq_getElem?_getD]
      rw [List.getElem?_append_right (by omega), hD]
      simp
    have hi := ih k (pre ++ [a]) y (D ++ [wrap64 (y - a)]) (by simp [hD]) (by omega) (by simp; omega)
    rw [show (pre ++ [a]) ++ y :: t = pre ++ a :: y :: t by simp, show (pre ++ [a]).length = pre.length + 1 by simp] at hi
    rw [column_Deltas.l0, if_pos h1, if_pos h2, if_pos h1, if_pos h5, e1, Int.toNat_natCast, s1]
    simp only [Option.bind_some]
    rw [if_pos h6, show wrap64 (((pre.length + 1 : Nat) : Int) - 1) = ((pre.length : Nat) : Int) from (w64p (pre.length + 1) (by omega) (by omega)), if_pos h3, if_pos h4, e3, e2, s2]
    rw [show wrap64 (((pre.length + 1 : Nat) : Int) + 1) = ((pre.length + 1 + 1 : Nat) : Int) from w64a (pre.length + 1) 1 (by omega), hi]
    simp [dif]
theorem putDeltas_f {k : Nat} (l : List Int) (hk : l.length + 1 < k) (hl : l.length ≤ 4398046511104) : column_Deltas.f k l = column_Runs.f (dif0 l) := by
  unfold column_Deltas.f
  rw [if_pos (Int.natCast_nonneg _), Int.toNat_natCast, if_pos (by omega)]
  cases l with
  | nil =>
    obtain ⟨k, rfl⟩ : ∃ k', k = k' + 1 := ⟨k - 1, by simp at hk; omega⟩
    rw [column_Deltas.l0, if_neg (by simp)]
    simp [dif0]
  | cons a r =>
    simp only [List.length_cons] at hk hl
    obtain ⟨k, rfl⟩ : ∃ k', k = k' + 1 := ⟨k - 1, by omega⟩
    have h1 : (0 : Int) < (((a :: r).length : Nat) : Int) := by rw [List.length_cons]; omega
    have h5 : (0 : Int) < ((List.replicate (a :: r).length (0 : Int)).length : Int) := by rw [List.length_replicate, List.length_cons]; omega
    have hi := put_l0 r k [] a [a] rfl (by omega) (by simp; omega)
    rw [column_Deltas.l0, if_pos h1, if_pos (Int.le_refl _), if_pos h1, if_pos h5]
    simp only [Option.bind_some]
    rw [if_neg (by omega)]
    have e : (List.replicate (a :: r).length (0 : Int)).set (0 : Int).toNat (rd (a :: r) 0) = [a] ++ List.replicate r.length 0 := by simp [rd, List.replicate_succ]
    rw [e, show wrap64 ((0 : Int) + 1) = ((([] : List Int).length + 1 : Nat) : Int) by decide +kernel]
    exact hi
theorem runs_some (l : List Int) (hl : l.length ≤ 4398046511104) (hw : ∀ x ∈ l, -9223372036854775808 ≤ x ∧ x < 9223372036854775808) : column_Runs.f l = some (runs l) := by
  unfold column_Runs.f
  rw [if_pos ⟨hl, by
    rw [List.all_eq_true]
    intro x hx
    have := hw x hx
    simp only [Lit.wf, IntKind.min, IntKind.max, IntKind.signed, IntKind.bits, Bool.and_eq_true]
    simp
    omega⟩]
theorem runs_byte (l : List Int) : ∀ x ∈ runs l, isByte x := by
  intro x hx
  rcases List.mem_append.1 hx with h | h
  · exact putU_bytes _ x h
  · obtain ⟨p, _, hp⟩ := List.mem_flatMap.1 h
    rcases List.mem_append.1 hp with h | h
    · exact putU_bytes _ x h
    · exact putI_bytes _ _ rfl x h
end Go.Proofs.Ytcffooeiennmjaa.ColT

/- Bytes that are taken off are those that are laid: plainly. -/
set_option linter.unusedVariables false
set_option linter.unusedSimpArgs false
namespace Go.Proofs.Ytcffooeiennmjaa.ColT
open Go Go.RowKit Go.Proofs.Ytcffooeiennmjaa.PA Go.Proofs.YtcffooeiennmjaaW.PrintWords Go.Proofs.YtcffooeiennmjaaW.PrintLast Go.Proofs.YtcffooeiennmjaaW.PrintMore Go.Proofs.Ytcffooeiennmjaa.LebT Go.Proofs.Ytcffooeiennmjaa.LebP Go.Proofs.Ytcffooeiennmjaa.ColS
theorem take_two (b : List Int) (p : List Int) (c m : Nat) (hp : p.length = c) (hb : b = p ++ b.drop c) : b.take (c + m) = p ++ (b.drop c).take m := by
  conv => lhs; rw [hb]
  rw [← hp, List.take_length_add_append]
theorem gR_only (most : Nat) : ∀ (n : Nat) (acc : List Int) (used : Nat) (b x : List Int) (u : Int), (∀ y ∈ b, isByte y) → gR most n acc used b = (x, u, 0) →
    ∃ (ps : List (Int × Nat)) (m : Nat), ps.length = n ∧ x = acc ++ expand ps ∧ chain acc.getLast? ps ∧ u = ((used + m : Nat) : Int) ∧ m ≤ b.length ∧ b.take m = flat ps ∧ ∀ p ∈ ps, -9223372036854775808 ≤ p.1 ∧ p.1 < 9223372036854775808
  | 0, acc, used, b, x, u, hb, h => by
    rw [gR] at h
    simp only [Prod.mk.injEq] at h
    exact ⟨[], 0, rfl, by simp [expand, h.1], trivial, by simp [h.2.1], by omega, by simp [flat], by simp⟩
  | n + 1, acc, used, b, x, u, hb, h => by
    rw [gR] at h
    split at h
    · rename_i hf
      obtain ⟨v, c, hv, hv64, hc0, hcl, hc10, hbv, hpl⟩ := gU_rng hb hf
      simp only [hv, Int.toNat_natCast] at h
      split at h
      · simp at h
      · rename_i hv0
        split at h
        · simp at h
        · split at h
          · rename_i hg
            have hbc := drop_byte hb c
            obtain ⟨y, j, hy, hy1, hy2, hj0, hjl, hj10, hby, hpy⟩ := gI_rng hbc hg
            rw [List.length_drop] at hjl
            simp only [hy, Int.toNat_natCast] at h
            split at h
            · simp at h
            · rename_i hlast
              obtain ⟨ps, m, h1, h2, h3, h4, h5, h6, h7⟩ := gR_only most n _ _ _ x u (drop_byte hb (c + j)) h
              rw [List.length_drop] at h5
              have hv1 : 0 < v := by omega
              rw [getLast_rep _ _ _ hv1] at h3
              refine ⟨(y, v) :: ps, c + (j + m), by simp [h1], by rw [h2]; simp [expand], ⟨hlast, hv1, h3⟩, by rw [h4]; congr 1; omega, by omega, ?_, ?_⟩
              · rw [take_two b (putU v) c (j + m) hpl hbv, take_two (b.drop c) (putI y) j m hpy hby, List.drop_drop, h6]
                simp [flat]
              · intro p hp
                rcases List.mem_cons.1 hp with rfl | hp
                · exact ⟨hy1, hy2⟩
                · exact h7 p hp
          · rename_i hg
            simp only [Prod.mk.injEq] at h
            exact absurd h.2.2 hg
    · rename_i hf
      simp only [Prod.mk.injEq] at h
      exact absurd h.2.2 hf
theorem expand_head (v : Int) : ∀ ps : List (Int × Nat), chain (some v) ps → ∀ y, (expand ps).head? = some y → y ≠ v
  | [], _, y, h => by simp [expand] at h
  | (w, n) :: r, hc, y, h => by
    obtain ⟨h1, h2, _⟩ := hc
    obtain ⟨n, rfl⟩ : ∃ n', n = n' + 1 := ⟨n - 1, by omega⟩
    simp only [expand, List.flatMap_cons, List.replicate_succ, List.cons_append, List.head?_cons, Option.some.injEq] at h
    intro e
    exact h1 (by rw [h, e])
theorem st_expand : ∀ (ps : List (Int × Nat)) (last : Option Int), chain last ps → st (expand ps) = ps
  | [], _, _ => rfl
  | (v, n) :: r, last, hc => by
    obtain ⟨h1, h2, h3⟩ := hc
    obtain ⟨n, rfl⟩ : ∃ n', n = n' + 1 := ⟨n - 1, by omega⟩
    have e : expand ((v, n + 1) :: r) = List.replicate (n + 1) v ++ expand r := by simp [expand]
    rw [e, st_rep v (expand r) (expand_head v r h3) n, st_expand r (some v) h3]
theorem getRuns_only {b : List Int} (hb : ∀ y ∈ b, isByte y) {most : Int} {x : List Int} {u : Int} (h : getRuns b most = (x, u, 0)) :
    ∃ m : Nat, u = (m : Int) ∧ m ≤ b.length ∧ b.take m = runs x ∧ ∀ y ∈ x, -9223372036854775808 ≤ y ∧ y < 9223372036854775808 := by
  unfold getRuns at h
  split at h
  · rename_i hf
    obtain ⟨v, c, hv, hv64, hc0, hcl, hc10, hbv, hpl⟩ := gU_rng hb hf
    simp only [hv, Int.toNat_natCast] at h
    split at h
    · simp at h
    · obtain ⟨ps, m, h1, h2, h3, h4, h5, h6, h7⟩ := gR_only _ v [] c _ x u (drop_byte hb c) h
      rw [List.length_drop] at h5
      simp only [List.nil_append] at h2
      have hs : st x = ps := by rw [h2]; exact st_expand ps none (by simpa using h3)
      refine ⟨c + m, h4, by omega, ?_, ?_⟩
      · rw [take_two b (putU v) c m hpl hbv, h6]
        unfold runs
        rw [hs, h1]
      · intro y hy
        rw [h2] at hy
        obtain ⟨p, hp, hpy⟩ := List.mem_flatMap.1 hy
        have := (List.mem_replicate.1 hpy).2
        rw [this]
        exact h7 p hp
  · rename_i hf
    simp only [Prod.mk.injEq] at h
    exact absurd h.2.2 hf
theorem wrap_fwd (x a : Int) (h : -9223372036854775808 ≤ x ∧ x < 9223372036854775808) : wrap64 (wrap64 (x + a) - a) = x := by unfold wrap64; omega
theorem dif_sums : ∀ (a : Int) (l : List Int), (∀ x ∈ l, -9223372036854775808 ≤ x ∧ x < 9223372036854775808) → dif a (sums a l) = l
  | _, [], _ => rfl
  | a, x :: r, h => by
    have hx := h x (by simp)
    rw [sums, dif, wrap_fwd x a hx, dif_sums _ r (fun y hy => h y (by simp [hy]))]
theorem dif0_sums0 (l : List Int) (h : ∀ x ∈ l, -9223372036854775808 ≤ x ∧ x < 9223372036854775808) : dif0 (sums0 l) = l := by
  cases l with
  | nil => rfl
  | cons x r => rw [sums0, dif0, dif_sums x r (fun y hy => h y (by simp [hy]))]
end Go.Proofs.Ytcffooeiennmjaa.ColT

/- Truths that are taken off are those that are laid: plainly. -/
set_option linter.unusedVariables false
set_option linter.unusedSimpArgs false
namespace Go.Proofs.Ytcffooeiennmjaa.ColT
open Go Go.RowKit Go.Proofs.Ytcffooeiennmjaa.PA Go.Proofs.YtcffooeiennmjaaW.PrintWords Go.Proofs.YtcffooeiennmjaaW.PrintLast Go.Proofs.YtcffooeiennmjaaW.PrintMore Go.Proofs.Ytcffooeiennmjaa.LebT Go.Proofs.Ytcffooeiennmjaa.LebP Go.Proofs.Ytcffooeiennmjaa.ColS
/-- Truths by turns. -/
def alt : Bool → List Nat → List Bool
  | _, [] => []
  | t, n :: r => List.replicate n t ++ alt (!t) r
def stb : Bool → List Nat → List (Bool × Nat)
  | _, [] => []
  | t, n :: r => (t, n) :: stb (!t) r
theorem stb_length : ∀ (t : Bool) (cs : List Nat), (stb t cs).length = cs.length
  | _, [] => rfl
  | t, n :: r => by simp [stb, stb_length]
theorem flatB_stb : ∀ (t : Bool) (cs : List Nat), flatB (stb t cs) = cs.flatMap putU
  | _, [] => rfl
  | t, n :: r => by
    have := flatB_stb (!t) r
    simp only [flatB] at this
    simp [stb, flatB, this]
theorem alt_head (t : Bool) : ∀ cs : List Nat, (∀ c ∈ cs, 0 < c) → ∀ y, (alt t cs).head? = some y → y = t
  | [], _, y, h => by simp [alt] at h
  | n :: r, hc, y, h => by
    obtain ⟨n, rfl⟩ : ∃ n', n = n' + 1 := ⟨n - 1, by have := hc n (by simp); omega⟩
    simp only [alt, List.replicate_succ, List.cons_append, List.head?_cons, Option.some.injEq] at h
    exact h.symm
theorem st_alt : ∀ (cs : List Nat) (t : Bool), (∀ c ∈ cs, 0 < c) → st (alt t cs) = stb t cs
  | [], _, _ => rfl
  | n :: r, t, hc => by
    obtain ⟨n, rfl⟩ : ∃ n', n = n' + 1 := ⟨n - 1, by have := hc n (by simp); omega⟩
    have hr : ∀ c ∈ r, 0 < c := fun c h => hc c (by simp [h])
    rw [alt, st_rep t _ (fun y hy => by rw [alt_head (!t) r hr y hy]; cases t <;> simp) n, st_alt r (!t) hr, stb]
theorem gF_only (most N : Nat) : ∀ (n i : Nat) (acc : List Bool) (used : Nat) (b : List Int) (z : List Bool) (u : Int), (∀ y ∈ b, isByte y) → gF most N n i acc used b = (z, u, 0) →
    ∃ (cs : List Nat) (m : Nat), cs.length = n ∧ z = acc ++ alt (decide (i % 2 = 1)) cs ∧ u = ((used + m : Nat) : Int) ∧ m ≤ b.length ∧ b.take m = cs.flatMap putU ∧ (∀ c r, cs = c :: r → (c = 0 → i = 0 ∧ N ≠ 1) ∧ ∀ d ∈ r, 0 < d)
  | 0, i, acc, used, b, z, u, hb, h => by
    rw [gF] at h
    simp only [Prod.mk.injEq] at h
    exact ⟨[], 0, rfl, by simp [alt, h.1], by simp [h.2.1], by omega, by simp, by simp⟩
  | n + 1, i, acc, used, b, z, u, hb, h => by
    rw [gF] at h
    split at h
    · rename_i hf
      obtain ⟨v, c, hv, hv64, hc0, hcl, hc10, hbv, hpl⟩ := gU_rng hb hf
      simp only [hv, Int.toNat_natCast] at h
      split at h
      · simp at h
      · rename_i hv0
        split at h
        · simp at h
        · obtain ⟨cs, m, h1, h2, h3, h4, h5, h6⟩ := gF_only most N n (i + 1) _ _ _ z u (drop_byte hb c) h
          rw [List.length_drop] at h4
          have hpar : decide ((i + 1) % 2 = 1) = !(decide (i % 2 = 1)) := by
            by_cases h : i % 2 = 1
            · simp [h, show (i + 1) % 2 = 0 by omega]
            · simp [h, show (i + 1) % 2 = 1 by omega]
          refine ⟨v :: cs, c + m, by simp [h1], by rw [h2, hpar, alt, List.append_assoc], by rw [h3]; congr 1; omega, by omega, ?_, ?_⟩
          · rw [take_two b (putU v) c m hpl hbv, h5]
            simp
          · intro c' r' he
            simp only [List.cons.injEq] at he
            obtain ⟨rfl, rfl⟩ := he
            refine ⟨fun hz => ?_, fun d hd => ?_⟩
            · subst hz
              constructor
              · apply Decidable.byContradiction
                intro hi
                exact hv0 ⟨rfl, Or.inl (by omega)⟩
              · intro hN
                exact hv0 ⟨rfl, Or.inr hN⟩
            · cases cs with
              | nil => simp at hd
              | cons e r2 =>
                obtain ⟨g1, g2⟩ := h6 e r2 rfl
                rcases List.mem_cons.1 hd with rfl | hd
                · apply Decidable.byContradiction
                  intro h0
                  have := (g1 (by omega)).1
                  omega
                · exact g2 d hd
    · rename_i hf
      simp only [Prod.mk.injEq] at h
      exact absurd h.2.2 hf
theorem getFlags_only {b : List Int} (hb : ∀ y ∈ b, isByte y) {most : Int} {z : List Bool} {u : Int} (h : getFlags b most = (z, u, 0)) :
    ∃ m : Nat, u = (m : Int) ∧ m ≤ b.length ∧ b.take m = flags z := by
  unfold getFlags at h
  split at h
  · rename_i hf
    obtain ⟨v, c, hv, hv64, hc0, hcl, hc10, hbv, hpl⟩ := gU_rng hb hf
    simp only [hv, Int.toNat_natCast] at h
    split at h
    · simp at h
    · obtain ⟨cs, m, h1, h2, h3, h4, h5, h6⟩ := gF_only _ v v 0 [] c _ z u (drop_byte hb c) h
      rw [List.length_drop] at h4
      simp only [List.nil_append] at h2
      refine ⟨c + m, h3, by omega, ?_⟩
      rw [take_two b (putU v) c m hpl hbv, h5]
      cases cs with
      | nil =>
        subst h2
        simp at h1
        subst h1
        simp [alt, flags]
      | cons e r =>
        obtain ⟨g1, g2⟩ := h6 e r rfl
        simp only [List.length_cons] at h1
        by_cases he : e = 0
        · subst he
          obtain ⟨_, hN⟩ := g1 rfl
          have hz : z = alt true r := by rw [h2]; simp [alt]
          have hst : st z = stb true r := by rw [hz]; exact st_alt r true g2
          cases r with
          | nil => simp at h1; omega
          | cons d r2 =>
            obtain ⟨d, rfl⟩ : ∃ d', d = d' + 1 := ⟨d - 1, by have := g2 d (by simp); omega⟩
            obtain ⟨t, ht⟩ : ∃ t, z = true :: t := ⟨_, by rw [hz, alt, List.replicate_succ]; rfl⟩
            rw [ht] at hst ⊢
            rw [flags, hst, stb_length, flatB_stb, h1]
            simp [putU_small]
        · obtain ⟨e, rfl⟩ : ∃ e', e = e' + 1 := ⟨e - 1, by omega⟩
          have hz : z = alt false ((e + 1) :: r) := by rw [h2]; simp
          have hst : st z = stb false ((e + 1) :: r) := by
            rw [hz]
            refine st_alt _ false (fun x hx => ?_)
            rcases List.mem_cons.1 hx with rfl | hx
            · omega
            · exact g2 x hx
          obtain ⟨t, ht⟩ : ∃ t, z = false :: t := ⟨_, by rw [hz, alt, List.replicate_succ]; rfl⟩
          rw [ht] at hst ⊢
          rw [flags, hst, stb_length, flatB_stb, List.length_cons, h1]
  · rename_i hf
    simp only [Prod.mk.injEq] at h
    exact absurd h.2.2 hf
theorem getFlags_len' (b : List Int) (most : Int) : (getFlags b most).1.length ≤ 65536 := getFlags_len b most
theorem flags_byte (z : List Bool) : ∀ x ∈ flags z, isByte x := by
  have hf : ∀ ps : List (Bool × Nat), ∀ x ∈ flatB ps, isByte x := by
    intro ps x hx
    obtain ⟨p, _, hp⟩ := List.mem_flatMap.1 hx
    exact putU_bytes _ x hp
  intro x hx
  unfold flags at hx
  split at hx
  · exact putU_bytes _ x hx
  · rcases List.mem_append.1 hx with h | h
    · exact putU_bytes _ x h
    · rcases List.mem_cons.1 h with rfl | h
      · unfold isByte; omega
      · exact hf _ x h
  · rcases List.mem_append.1 hx with h | h
    · exact putU_bytes _ x h
    · exact hf _ x h
end Go.Proofs.Ytcffooeiennmjaa.ColT

/- The reference's GetUint and GetInt compute what is taken off. -/
set_option linter.unusedVariables false
set_option linter.unusedSimpArgs false
namespace Go.Proofs.Ytcffooeiennmjaa.ColT
open Go Go.RowKit Go.Proofs.Ytcffooeiennmjaa.PA Go.Proofs.YtcffooeiennmjaaW.PrintWords Go.Proofs.YtcffooeiennmjaaW.PrintLast Go.Proofs.YtcffooeiennmjaaW.PrintMore Go.Proofs.Ytcffooeiennmjaa.LebT Go.Proofs.Ytcffooeiennmjaa.LebP
/-- How many bytes up to the first below 128; an error. -/
def grp (i : Nat) : List Int → Int × Int
  | [] => if i < 10 then (0, 3) else (0, 4)
  | x :: r => if i < 10 then (if x < 128 then (((i + 1 : Nat) : Int), 0) else grp (i + 1) r) else (0, 4)
theorem grp_l0 (b : List Int) (hb : ∀ x ∈ b, isByte x) (d : Nat) : ∀ (k i : Nat), i + d = 10 → i ≤ b.length → d < k → stemmaref02_groups.l0 k b (i : Int) = some (grp i (b.drop i)) := by
  induction d with
  | zero =>
    intro k i hi hl hk
    obtain ⟨k, rfl⟩ : ∃ k', k = k' + 1 := ⟨k - 1, by omega⟩
    rw [stemmaref02_groups.l0, if_neg (by omega)]
    cases b.drop i <;> simp [grp, show ¬ i < 10 by omega]
  | succ d ih =>
    intro k i hi hl hk
    obtain ⟨k, rfl⟩ : ∃ k', k = k' + 1 := ⟨k - 1, by omega⟩
    have h1 : (i : Int) < 10 := by omega
    have h10 : i < 10 := by omega
    rw [stemmaref02_groups.l0, if_pos h1]
    by_cases he : i = b.length
    · rw [if_pos (by omega), List.drop_of_length_le (by omega)]
      simp [grp, h10]
    · have hlt : i < b.length := by omega
      have hd := rd_drop b i hlt
      rw [if_neg (by omega), if_pos (Int.natCast_nonneg _), if_pos (by omega), hd, grp, if_pos h10]
      by_cases hx : rd b (i : Int) < 128
      · rw [if_pos hx, if_pos hx, show wrap64 ((i : Int) + 1) = ((i + 1 : Nat) : Int) from w64a i 1 (by omega)]
      · rw [if_neg hx, if_neg hx, show wrap64 ((i : Int) + 1) = ((i + 1 : Nat) : Int) from w64a i 1 (by omega)]
        exact ih k (i + 1) (by omega) (by omega) (by omega)
theorem grp_f {k : Nat} (hk : 11 ≤ k) {b : List Int} (hb : ∀ x ∈ b, isByte x) : stemmaref02_groups.f k b = some (grp 0 b) := by
  have := grp_l0 b hb 10 k 0 (by omega) (by omega) (by omega)
  simpa [stemmaref02_groups.f] using this
/-- What grp tells. -/
theorem grp_rng (b : List Int) : ∀ i : Nat, (∃ j : Nat, grp i b = (((i + j : Nat) : Int), 0) ∧ 0 < j ∧ j ≤ b.length ∧ i + j ≤ 10) ∨ grp i b = (0, 3) ∨ grp i b = (0, 4) := by
  induction b with
  | nil => intro i; rw [grp]; split <;> simp
  | cons x r ih =>
    intro i
    rw [grp]
    split
    · split
      · exact Or.inl ⟨1, rfl, by omega, by simp, by omega⟩
      · rcases ih (i + 1) with ⟨j, h, h1, h2, h3⟩ | h | h
        · exact Or.inl ⟨j + 1, by rw [h]; congr 2; omega, by omega, by simp; omega, by omega⟩
        · exact Or.inr (Or.inl h)
        · exact Or.inr (Or.inr h)
    · exact Or.inr (Or.inr rfl)
/-- Groups of a laid number. -/
theorem grp_putU (m : Nat) : ∀ (i : Nat) (r : List Int), i + (putU m).length ≤ 10 → grp i (putU m ++ r) = (((i + (putU m).length : Nat) : Int), 0) := by
  induction m using Nat.strongRecOn with
  | _ m ih =>
    intro i r h
    by_cases hs : m < 128
    · rw [putU_small hs] at h ⊢
      simp at h
      simp only [List.cons_append, List.nil_append, grp]
      rw [if_pos (by omega), if_pos (by omega)]
      simp
    · rw [putU_big hs] at h ⊢
      simp only [List.length_cons] at h
      simp only [List.cons_append, grp]
      rw [if_pos (by omega), if_neg (by omega), ih (m / 128) (by omega) (i + 1) r (by omega)]
      simp only [List.length_cons]
      congr 2
      omega
theorem grp_putI (c : Nat) : ∀ (m : Int) (i : Nat) (r : List Int), m.natAbs = c → i + (putI m).length ≤ 10 → grp i (putI m ++ r) = (((i + (putI m).length : Nat) : Int), 0) := by
  induction c using Nat.strongRecOn with
  | _ c ih =>
    intro m i r hc h
    by_cases hs : 63 < m ∨ m < -64
    · rw [putI_big hs] at h ⊢
      simp only [List.length_cons] at h
      simp only [List.cons_append, grp]
      rw [if_pos (by omega), if_neg (by omega), ih (m / 128).natAbs (by omega) (m / 128) (i + 1) r rfl (by omega)]
      simp only [List.length_cons]
      congr 2
      omega
    · rw [putI_small hs] at h ⊢
      simp at h
      simp only [List.cons_append, List.nil_append, grp]
      rw [if_pos (by omega), if_pos (by omega)]
      simp
/-- Where what is taken off is told to be cut, grp tells so, too. -/
theorem grp_cut : ∀ (b : List Int) (i n : Nat), (∀ x ∈ b, isByte x) → i ≤ 9 → gU i n b = (0, 0, 3) → grp i b = (0, 3)
  | [], i, n, _, hi, _ => by rw [grp, if_pos (by omega)]
  | x :: r, i, n, hb, hi, h => by
    have hx := hb x (by simp)
    unfold isByte at hx
    rw [gU] at h
    split at h
    · simp at h
    · rename_i hc
      split at h
      · simp at h
      · rename_i h128
        have hi9 : i ≠ 9 := fun e => hc (Or.inl ⟨e, by omega⟩)
        rw [grp, if_pos (by omega), if_neg h128]
        exact grp_cut r (i + 1) _ (fun y hy => hb y (by simp [hy])) (by omega) h
theorem grp_cut' : ∀ (b : List Int) (i n : Nat), (∀ x ∈ b, isByte x) → i ≤ 9 → grp i b = (0, 3) → gU i n b = (0, 0, 3)
  | [], i, n, _, hi, _ => rfl
  | x :: r, i, n, hb, hi, h => by
    have hx := hb x (by simp)
    unfold isByte at hx
    rw [grp, if_pos (by omega)] at h
    split at h
    · rename_i h1
      have := congrArg Prod.snd h
      simp at this
    · rename_i h1
      by_cases hi9 : i = 9
      · subst hi9
        cases r <;> simp [grp] at h
      · rw [gU, if_neg (by omega), if_neg h1]
        exact grp_cut' r (i + 1) _ (fun y hy => hb y (by simp [hy])) (by omega) h
theorem grp_cutI : ∀ (b : List Int) (i n : Nat) (s : Bool), (∀ x ∈ b, isByte x) → i ≤ 9 → grp i b = (0, 3) → gI i n s b = (0, 0, 3)
  | [], i, n, s, _, hi, _ => rfl
  | x :: r, i, n, s, hb, hi, h => by
    have hx := hb x (by simp)
    unfold isByte at hx
    rw [grp, if_pos (by omega)] at h
    split at h
    · rename_i h1
      have := congrArg Prod.snd h
      simp at this
    · rename_i h1
      by_cases hi9 : i = 9
      · subst hi9
        cases r <;> simp [grp] at h
      · rw [gI, if_neg (by omega), if_pos (by omega)]
        exact grp_cutI r (i + 1) _ _ (fun y hy => hb y (by simp [hy])) (by omega) h
theorem grp_cutI' : ∀ (b : List Int) (i n : Nat) (s : Bool), (∀ x ∈ b, isByte x) → i ≤ 9 → gI i n s b = (0, 0, 3) → grp i b = (0, 3)
  | [], i, n, s, _, hi, _ => by rw [grp, if_pos (by omega)]
  | x :: r, i, n, s, hb, hi, h => by
    have hx := hb x (by simp)
    unfold isByte at hx
    rw [gI] at h
    split at h
    · simp at h
    · rename_i hc
      split at h
      · rename_i h128
        by_cases hi9 : i = 9
        · exact absurd ⟨hi9, by omega, by omega⟩ hc
        · rw [grp, if_pos (by omega), if_neg (by omega)]
          exact grp_cutI' r (i + 1) _ _ (fun y hy => hb y (by simp [hy])) (by omega) h
      · split at h
        · simp at h
        · have := congrArg (fun p => p.2.2) h
          simp at this
theorem str_eq {a b : List Int} (ha : ∀ x ∈ a, isByte x) (hb : ∀ x ∈ b, isByte x) (h : (strOfNums a).toList = (strOfNums b).toList) : a = b := by
  rw [Go.Lib.strOfNums_toList, Go.Lib.strOfNums_toList] at h
  unfold Go.Lib.bytesOf at h
  have inv : ∀ l : List Int, (∀ x ∈ l, isByte x) → (l.map fun n => UInt8.ofNat n.toNat).map (fun u => (u.toNat : Int)) = l := by
    intro l hl
    rw [List.map_map]
    conv => rhs; rw [← List.map_id l]
    refine List.map_congr_left (fun x hx => ?_)
    have := hl x hx
    unfold isByte at this
    simp [UInt8.toNat_ofNat']
    omega
  rw [← inv a ha, ← inv b hb, h]
theorem take_byte {b : List Int} (hb : ∀ x ∈ b, isByte x) (k : Nat) : ∀ x ∈ b.take k, isByte x := fun x hx => hb x (List.mem_of_mem_take hx)
/-- The groups put together, the last one first. -/
def foldU : Nat → List Int → Nat → Nat
  | 0, _, n => n
  | d + 1, b, n => foldU d b ((n * 128) % 18446744073709551616 + (rd b (d : Int)).toNat % 128)
theorem foldU_lt : ∀ (d : Nat) (b : List Int) (n : Nat), n < 18446744073709551616 → foldU d b n < 18446744073709551616
  | 0, _, _, h => h
  | d + 1, b, n, h => foldU_lt d b _ (by omega)
theorem foldU_cons (x : Int) (t : List Int) : ∀ (d n : Nat), foldU (d + 1) (x :: t) n = ((foldU d t n) * 128) % 18446744073709551616 + x.toNat % 128
  | 0, n => by simp [foldU, rd]
  | d + 1, n => by
    have e : rd (x :: t) ((d + 1 : Nat) : Int) = rd t (d : Int) := by simp [rd]
    rw [foldU, foldU_cons x t d, e, foldU]
theorem foldU_put (v : Nat) : ∀ (r : List Int), v < 18446744073709551616 → foldU (putU v).length (putU v ++ r) 0 = v := by
  induction v using Nat.strongRecOn with
  | _ v ih =>
    intro r h
    by_cases hs : v < 128
    · rw [putU_small hs]
      simp [foldU, rd]
      omega
    · rw [putU_big hs]
      simp only [List.length_cons, List.cons_append]
      rw [foldU_cons, ih (v / 128) (by omega) r (by omega)]
      omega
theorem joinU (n : Nat) (y : Int) (hy : isByte y) : Go.bits .or .u64 (IntKind.u64.wrap ((n : Int) * 128)) (IntKind.u64.wrap (Int.tmod y 128)) = (((n * 128) % 18446744073709551616 + y.toNat % 128 : Nat) : Int) := by
  unfold isByte at hy
  have e1 : IntKind.u64.wrap ((n : Int) * 128) = (((n * 128) % 18446744073709551616 : Nat) : Int) := by rw [IntKind.wrap_u64]; omega
  have e2 : IntKind.u64.wrap (Int.tmod y 128) = ((y.toNat % 128 : Nat) : Int) := by
    rw [Int.tmod_eq_emod_of_nonneg hy.1, IntKind.wrap_u64]; omega
  rw [e1, e2, u64_or_nat _ _ (Nat.mod_lt _ (by omega)) (by omega), nat_join 7 _ _ (by omega) (by omega)]
theorem rgetU_l0 (b : List Int) (hb : ∀ x ∈ b, isByte x) (j : Nat) (hj : j ≤ b.length) (hj10 : j ≤ 10) (d : Nat) : ∀ (k n : Nat), d ≤ j → d + 12 ≤ k → n < 18446744073709551616 →
    stemmaref02_GetUint.l0 k b (j : Int) (n : Int) ((d : Int) - 1) = some (if (strOfNums (putU (foldU d b n))).toList = (strOfNums (b.take j)).toList then (((foldU d b n : Nat) : Int), (j : Int), 0) else (0, 0, 4)) := by
  induction d with
  | zero =>
    intro k n hd hk hn
    obtain ⟨k, rfl⟩ : ∃ k', k = k' + 1 := ⟨k - 1, by omega⟩
    have h1 : ¬ (((0 : Nat) : Int) - 1 ≥ 0) := by omega
    have h2 : (j : Int) ≤ (b.length : Int) := by omega
    rw [stemmaref02_GetUint.l0, if_neg h1, rUint_f (by omega) (Int.natCast_nonneg _) (by omega), Int.toNat_natCast]
    simp only [Option.bind_some]
    rw [if_pos (Int.natCast_nonneg _), if_pos h2, Int.toNat_natCast, foldU]
    split <;> rfl
  | succ d ih =>
    intro k n hd hk hn
    obtain ⟨k, rfl⟩ : ∃ k', k = k' + 1 := ⟨k - 1, by omega⟩
    have e : ((d + 1 : Nat) : Int) - 1 = (d : Int) := by omega
    have h1 : (d : Int) ≥ 0 := Int.natCast_nonneg _
    have h2 : (d : Int) < (b.length : Int) := by omega
    rw [e, stemmaref02_GetUint.l0, if_pos h1, if_pos h1, if_pos h2, joinU n _ (hb _ (rd_mem b d (by omega))), show wrap64 ((d : Int) - 1) = (d : Int) - 1 by unfold wrap64; omega]
    rw [ih k _ (by omega) (by omega) (by omega), foldU]
theorem rgetU_f {k : Nat} (hk : 30 ≤ k) {b : List Int} (hb : ∀ x ∈ b, isByte x) : stemmaref02_GetUint.f k b = some (gU 0 0 b) := by
  unfold stemmaref02_GetUint.f
  rw [grp_f (by omega) hb]
  simp only [Option.bind_some]
  rcases grp_rng b 0 with ⟨j, hg, hj0, hjl, hj10⟩ | hg | hg
  · rw [Nat.zero_add] at hg hj10
    have hl := rgetU_l0 b hb j hjl hj10 j k 0 (Nat.le_refl _) (by omega) (by omega)
    rw [hg]
    simp only [if_true]
    rw [show wrap64 ((j : Int) - 1) = (j : Int) - 1 by unfold wrap64; omega, show (0 : Int) = ((0 : Nat) : Int) from rfl, hl]
    congr 1
    by_cases hf : (gU 0 0 b).2.2 = 0
    · obtain ⟨v, c, hv, hv64, hc0, hcl, hc10, hbv, hpl⟩ := gU_rng hb hf
      have hgp := grp_putU v 0 (b.drop c) (by omega)
      rw [← hbv, hg, hpl, Nat.zero_add] at hgp
      have hjc : j = c := by have := congrArg Prod.fst hgp; simp at this; omega
      subst hjc
      have hfv : foldU j b 0 = v := by
        have := foldU_put v (b.drop j) hv64
        rwa [← hbv, hpl] at this
      have htk : b.take j = putU v := by
        have := congrArg (List.take j) hbv
        rw [this, ← hpl, List.take_left]
      rw [hfv, htk, if_pos rfl, hv]
    · rcases gU_errs b 0 0 with h | h | h
      · exact absurd h hf
      · have := grp_cut b 0 0 hb (by omega) h
        rw [this] at hg
        simp at hg
      · rw [if_neg, h]
        intro he
        have h2 := str_eq (putU_bytes _) (take_byte hb j) he
        have h3 : b = putU (foldU j b 0) ++ b.drop j := by rw [h2, List.take_append_drop]
        have h4 := gU_put (foldU j b 0) 0 0 (b.drop j) (by omega) (by omega) (by have := foldU_lt j b 0 (by omega); omega)
        rw [← h3, h] at h4
        simp at h4
  · rw [hg]
    rw [if_neg (by simp), grp_cut' b 0 0 hb (by omega) hg]
  · rw [hg, if_neg (by simp)]
    rcases gU_errs b 0 0 with h | h | h
    · obtain ⟨v, c, hv, hv64, hc0, hcl, hc10, hbv, hpl⟩ := gU_rng hb h
      have hgp := grp_putU v 0 (b.drop c) (by omega)
      rw [← hbv, hg] at hgp
      simp at hgp
    · have := grp_cut b 0 0 hb (by omega) h
      rw [this] at hg
      simp at hg
    · rw [h]
def foldI : Nat → List Int → Int → Int
  | 0, _, n => n
  | d + 1, b, n => foldI d b (wrap64 (n * 128) + (rd b (d : Int)) % 128)
theorem stepI_rng (n y : Int) : -9223372036854775808 ≤ wrap64 (n * 128) + y % 128 ∧ wrap64 (n * 128) + y % 128 < 9223372036854775808 := by unfold wrap64; omega
theorem foldI_rng : ∀ (d : Nat) (b : List Int) (n : Int), (-9223372036854775808 ≤ n ∧ n < 9223372036854775808) → -9223372036854775808 ≤ foldI d b n ∧ foldI d b n < 9223372036854775808
  | 0, _, _, h => h
  | d + 1, b, n, h => foldI_rng d b _ (stepI_rng n _)
theorem foldI_cons (x : Int) (t : List Int) : ∀ (d : Nat) (n : Int), foldI (d + 1) (x :: t) n = wrap64 (foldI d t n * 128) + x % 128
  | 0, n => by simp [foldI, rd]
  | d + 1, n => by
    have e : rd (x :: t) ((d + 1 : Nat) : Int) = rd t (d : Int) := by simp [rd]
    rw [foldI, foldI_cons x t d, e, foldI]
def topI (c : Int) : Int := if c % 128 ≥ 64 then c % 64 - 64 else c % 64
theorem topI_rng (c : Int) : -64 ≤ topI c ∧ topI c < 64 := by unfold topI; split <;> omega
theorem foldI_put (c : Nat) : ∀ (v : Int) (r : List Int), v.natAbs = c → -9223372036854775808 ≤ v → v < 9223372036854775808 → foldI ((putI v).length - 1) (putI v ++ r) (topI (rd (putI v ++ r) (((putI v).length - 1 : Nat) : Int))) = v := by
  induction c using Nat.strongRecOn with
  | _ c ih =>
    intro v r hc h1 h2
    by_cases hs : 63 < v ∨ v < -64
    · have hp := putI_len_pos (v / 128)
      have hi := ih (v / 128).natAbs (by omega) (v / 128) r rfl (by omega) (by omega)
      rw [putI_big hs]
      obtain ⟨m, hm⟩ : ∃ m, (putI (v / 128)).length = m + 1 := ⟨(putI (v / 128)).length - 1, by omega⟩
      rw [hm] at hi
      simp only [List.length_cons, List.cons_append, hm, Nat.add_sub_cancel] at hi ⊢
      have e : rd ((v % 128 + 128) :: (putI (v / 128) ++ r)) ((m + 1 : Nat) : Int) = rd (putI (v / 128) ++ r) (m : Int) := by simp [rd]
      rw [e, foldI_cons, hi]
      unfold wrap64
      omega
    · rw [putI_small hs]
      simp [foldI, rd, topI]
      split <;> omega
theorem joinI (n : Int) (y : Int) (hy : isByte y) : Go.bits .or .i64 (wrap64 (n * 128)) (wrap64 (Int.tmod y 128)) = wrap64 (n * 128) + y % 128 := by
  unfold isByte at hy
  have e2 : wrap64 (Int.tmod y 128) = ((y.toNat % 128 : Nat) : Int) := by
    rw [Int.tmod_eq_emod_of_nonneg hy.1]; unfold wrap64; omega
  have e3 : ((y.toNat % 128 : Nat) : Int) = y % 128 := by omega
  have hm : wrap64 (n * 128) % 2 ^ 7 = 0 := by unfold wrap64; omega
  have hr := stepI_rng n 0
  have h := or_i64 7 (by omega) (y.toNat % 128) (wrap64 (n * 128)) (by omega) hm (by unfold wrap64; omega) (by unfold wrap64; omega)
  rw [e2, ← e3, Int.add_comm, ← h]
  show IntKind.i64.wrap ((BitVec.ofInt 64 _ ||| BitVec.ofInt 64 _).toNat : Int) = IntKind.i64.wrap ((BitVec.ofInt 64 _ ||| BitVec.ofInt 64 _).toNat : Int)
  rw [BitVec.or_comm]
theorem rgetI_l0 (b : List Int) (hb : ∀ x ∈ b, isByte x) (j : Nat) (hj : j ≤ b.length) (hj10 : j ≤ 10) (d : Nat) : ∀ (k : Nat) (n : Int), d ≤ j → d + 12 ≤ k → (-9223372036854775808 ≤ n ∧ n < 9223372036854775808) →
    stemmaref02_GetInt.l0 k b (j : Int) n ((d : Int) - 1) = some (if (strOfNums (putI (foldI d b n))).toList = (strOfNums (b.take j)).toList then (foldI d b n, (j : Int), 0) else (0, 0, 4)) := by
  induction d with
  | zero =>
    intro k n hd hk hn
    obtain ⟨k, rfl⟩ : ∃ k', k = k' + 1 := ⟨k - 1, by omega⟩
    have h1 : ¬ (((0 : Nat) : Int) - 1 ≥ 0) := by omega
    have h2 : (j : Int) ≤ (b.length : Int) := by omega
    rw [stemmaref02_GetInt.l0, if_neg h1, rInt_f (by omega) hn.1 hn.2]
    simp only [Option.bind_some]
    rw [if_pos (Int.natCast_nonneg _), if_pos h2, Int.toNat_natCast, foldI]
    split <;> rfl
  | succ d ih =>
    intro k n hd hk hn
    obtain ⟨k, rfl⟩ : ∃ k', k = k' + 1 := ⟨k - 1, by omega⟩
    have e : ((d + 1 : Nat) : Int) - 1 = (d : Int) := by omega
    have h1 : (d : Int) ≥ 0 := Int.natCast_nonneg _
    have h2 : (d : Int) < (b.length : Int) := by omega
    rw [e, stemmaref02_GetInt.l0, if_pos h1, if_pos h1, if_pos h2, joinI n _ (hb _ (rd_mem b d (by omega))), show wrap64 ((d : Int) - 1) = (d : Int) - 1 by unfold wrap64; omega]
    rw [ih k _ (by omega) (by omega) (stepI_rng _ _), foldI]
theorem rgetI_f {k : Nat} (hk : 30 ≤ k) {b : List Int} (hb : ∀ x ∈ b, isByte x) : stemmaref02_GetInt.f k b = some (gI 0 0 false b) := by
  unfold stemmaref02_GetInt.f
  rw [grp_f (by omega) hb]
  simp only [Option.bind_some]
  rcases grp_rng b 0 with ⟨j, hg, hj0, hjl, hj10⟩ | hg | hg
  · rw [Nat.zero_add] at hg hj10
    obtain ⟨m, rfl⟩ : ∃ m, j = m + 1 := ⟨j - 1, by omega⟩
    have hbt := hb _ (rd_mem b m (by omega))
    unfold isByte at hbt
    have htr := topI_rng (rd b (m : Int))
    have hl := rgetI_l0 b hb (m + 1) hjl hj10 m (k - 1) (topI (rd b (m : Int))) (by omega) (by omega) (by omega)
    rw [hg]
    simp only [if_true]
    have e1 : wrap64 (((m + 1 : Nat) : Int) - 1) = (m : Int) := w64p (m + 1) (by omega) (by omega)
    have h1 : (0 : Int) ≤ (m : Int) := Int.natCast_nonneg _
    have h2 : (m : Int) < (b.length : Int) := by omega
    have key : (if Int.tmod (rd b (m : Int)) 128 ≥ 64 then (stemmaref02_GetInt.j0 k b ((m + 1 : Nat) : Int) (wrap64 ((wrap64 (Int.tmod (rd b (m : Int)) 64)) - 64))) else (stemmaref02_GetInt.j0 k b ((m + 1 : Nat) : Int) (wrap64 (Int.tmod (rd b (m : Int)) 64)))) = stemmaref02_GetInt.j0 k b ((m + 1 : Nat) : Int) (topI (rd b (m : Int))) := by
      rw [Int.tmod_eq_emod_of_nonneg hbt.1, Int.tmod_eq_emod_of_nonneg hbt.1]
      unfold topI
      split
      · congr 1; unfold wrap64; omega
      · congr 1; unfold wrap64; omega
    rw [e1, if_pos h1, if_pos h2, key]
    obtain ⟨k, rfl⟩ : ∃ k', k = k' + 1 := ⟨k - 1, by omega⟩
    rw [Nat.add_sub_cancel] at hl
    rw [stemmaref02_GetInt.j0, show wrap64 (((m + 1 : Nat) : Int) - 2) = (m : Int) - 1 by unfold wrap64; omega, hl]
    congr 1
    by_cases hf : (gI 0 0 false b).2.2 = 0
    · obtain ⟨v, c, hv, hv1, hv2, hc0, hcl, hc10, hbv, hpl⟩ := gI_rng hb hf
      have hgp := grp_putI v.natAbs v 0 (b.drop c) rfl (by omega)
      rw [← hbv, hg, hpl, Nat.zero_add] at hgp
      have hjc : m + 1 = c := by have := congrArg Prod.fst hgp; simp at this; omega
      subst hjc
      have hfv : foldI m b (topI (rd b (m : Int))) = v := by
        have := foldI_put v.natAbs v (b.drop (m + 1)) rfl hv1 hv2
        rwa [← hbv, hpl, Nat.add_sub_cancel] at this
      have htk : b.take (m + 1) = putI v := by
        have := congrArg (List.take (m + 1)) hbv
        rw [this, ← hpl, List.take_left]
      rw [hfv, htk, if_pos rfl, hv]
    · rcases gI_errs b 0 0 false with h | h | h
      · exact absurd h hf
      · have := grp_cutI' b 0 0 false hb (by omega) h
        rw [this] at hg
        simp at hg
      · rw [if_neg, h]
        intro he
        have h2 := str_eq (putI_bytes _ _ rfl) (take_byte hb (m + 1)) he
        have hr := foldI_rng m b (topI (rd b (m : Int))) (by omega)
        have h3 : b = putI (foldI m b (topI (rd b (m : Int)))) ++ b.drop (m + 1) := by rw [h2, List.take_append_drop]
        have h4 := gI_put _ (foldI m b (topI (rd b (m : Int)))) 0 0 false (b.drop (m + 1)) rfl (by omega) (by omega) (by omega) (by simpa using hr.1) (by simpa using hr.2)
        rw [← h3, h] at h4
        simp at h4
  · rw [hg]
    rw [if_neg (by simp), grp_cutI b 0 0 false hb (by omega) hg]
  · rw [hg, if_neg (by simp)]
    rcases gI_errs b 0 0 false with h | h | h
    · obtain ⟨v, c, hv, hv1, hv2, hc0, hcl, hc10, hbv, hpl⟩ := gI_rng hb h
      have hgp := grp_putI v.natAbs v 0 (b.drop c) rfl (by omega)
      rw [← hbv, hg] at hgp
      simp at hgp
    · have := grp_cutI' b 0 0 false hb (by omega) h
      rw [this] at hg
      simp at hg
    · rw [h]
end Go.Proofs.Ytcffooeiennmjaa.ColT

/- column.GetFlags and the reference's, plainly. -/
set_option linter.unusedVariables false
set_option linter.unusedSimpArgs false
namespace Go.Proofs.Ytcffooeiennmjaa.ColT
open Go Go.RowKit Go.Proofs.Ytcffooeiennmjaa.PA Go.Proofs.YtcffooeiennmjaaW.PrintWords Go.Proofs.YtcffooeiennmjaaW.PrintLast Go.Proofs.YtcffooeiennmjaaW.PrintMore Go.Proofs.Ytcffooeiennmjaa.LebT Go.Proofs.Ytcffooeiennmjaa.LebP
theorem tmod2 (i : Nat) : (Int.tmod (i : Int) 2 == 1) = decide (i % 2 = 1) := by
  rw [Int.tmod_eq_emod_of_nonneg (Int.natCast_nonneg _)]
  by_cases h2 : i % 2 = 1
  · have : (i : Int) % 2 = 1 := by omega
    simp [h2, this]
  · have : (i : Int) % 2 = 0 := by omega
    simp [show i % 2 = 0 by omega, this]
theorem rflags_l1 (x0 : List Int) (x1 x7 x8 x13 : Int) (q : Nat) (many : Nat) (hm : many ≤ 65536) (d : Nat) : ∀ (k i : Nat) (acc : List Bool), i + d = many → acc.length + d ≤ 65536 →
    stemmaref03_GetFlags.l1 (k + d + 1) x0 x1 x7 x8 acc (q : Int) (many : Int) x13 (i : Int) = stemmaref03_GetFlags.l0 k x0 x1 x7 (wrap64 (x8 + x13)) (acc ++ List.replicate d (decide (q % 2 = 1))) (IntKind.u64.wrap ((q : Int) + 1)) := by
  induction d with
  | zero =>
    intro k i acc hi ha
    rw [stemmaref03_GetFlags.l1, if_neg (by omega)]
    simp
  | succ d ih =>
    intro k i acc hi ha
    rw [stemmaref03_GetFlags.l1, if_pos (by omega), if_pos (by omega), tmod2 q]
    rw [show IntKind.u64.wrap ((i : Int) + 1) = ((i + 1 : Nat) : Int) from u64a i (by omega)]
    rw [show k + (d + 1) = k + d + 1 by omega, ih k (i + 1) _ (by omega) (by simp; omega)]
    rw [List.append_assoc, List.replicate_succ, List.singleton_append]
theorem rflags_l0 (b : List Int) (hb : ∀ x ∈ b, isByte x) (hbl : b.length ≤ 140737488351232) (most : Nat) (hmost : most ≤ 65536) (N : Nat) (hN : N ≤ 65537) (n : Nat) : ∀ (k : Nat) (acc : List Bool) (used i : Nat), i + n = N → acc.length ≤ most → used ≤ b.length → 10 * n + (most - acc.length) + 50 ≤ k →
    stemmaref03_GetFlags.l0 k b (most : Int) (N : Int) (used : Int) acc (i : Int) = some (gF most N n i acc used (b.drop used)) := by
  induction n with
  | zero =>
    intro k acc used i hn ha hu hk
    obtain ⟨k, rfl⟩ : ∃ k', k = k' + 1 := ⟨k - 1, by omega⟩
    rw [stemmaref03_GetFlags.l0, if_neg (by omega)]
    simp [gF]
  | succ n ih =>
    intro k acc used i hn ha hu hk
    obtain ⟨k, rfl⟩ : ∃ k', k = k' + 3 := ⟨k - 3, by omega⟩
    have hbu := drop_byte hb used
    have hin : (i : Int) < (N : Int) := by omega
    have hu1 : (0 : Int) ≤ (used : Int) := Int.natCast_nonneg _
    have hu2 : (used : Int) ≤ (b.length : Int) := by omega
    rw [stemmaref03_GetFlags.l0, if_pos hin, if_pos hu1, if_pos hu2, Int.toNat_natCast, rgetU_f (by omega) hbu, gF]
    simp only [Option.bind_some]
    by_cases hf : (gU 0 0 (b.drop used)).2.2 = 0
    · obtain ⟨v, c, hv, hv64, hc0, hcl, hc10, hbv, hpl⟩ := gU_rng hbu hf
      rw [List.length_drop] at hcl
      simp only [hv, Int.toNat_natCast, if_true, List.drop_drop]
      have hfin : ∀ q : Bool, q = decide ((v : Int) = 0 ∧ (0 < i ∨ N = 1)) → stemmaref03_GetFlags.j1 (k + 2) b (most : Int) (N : Int) (used : Int) acc (i : Int) (v : Int) (c : Int) q = some (if (v : Int) = 0 ∧ (0 < i ∨ N = 1) then ([], 0, 4) else if (v : Int) > ((most - acc.length : Nat) : Int) then ([], 0, 5) else gF most N n (i + 1) (acc ++ List.replicate v (decide (i % 2 = 1))) (used + c) (b.drop (used + c))) := by
        intro q hq
        subst hq
        rw [stemmaref03_GetFlags.j1, w64s most acc.length ha (by omega), u64n (most - acc.length) (by omega)]
        by_cases hz : (v : Int) = 0 ∧ (0 < i ∨ N = 1)
        · rw [if_pos (by simpa using hz), if_pos hz]
        · rw [if_neg (by simpa using hz), if_neg hz]
          by_cases hvm : (v : Int) > ((most - acc.length : Nat) : Int)
          · rw [if_pos hvm, if_pos hvm]
          · rw [if_neg hvm, if_neg hvm]
            obtain ⟨k2, rfl⟩ : ∃ k2, k = k2 + v := ⟨k - v, by omega⟩
            have h1 := rflags_l1 b (most : Int) (N : Int) (used : Int) (c : Int) i v (by omega) v k2 0 acc (by omega) (by omega)
            rw [show ((0 : Nat) : Int) = 0 from rfl] at h1
            rw [h1]
            clear h1
            rw [w64a used c (by omega), u64a i (by omega)]
            rw [ih k2 _ (used + c) (i + 1) (by omega) (by rw [List.length_append, List.length_replicate]; omega) (by omega) (by rw [List.length_append, List.length_replicate]; omega)]
      by_cases hv0 : (v : Int) = 0
      · rw [if_pos hv0]
        by_cases hi0 : (i : Int) > 0
        · rw [if_pos hi0]
          exact hfin _ (by simp [hv0]; omega)
        · rw [if_neg hi0]
          refine hfin _ ?_
          have hii : i = 0 := by omega
          subst hii
          simp only [hv0, true_and]
          by_cases h1 : N = 1
          · subst h1; simp
          · have : ¬ ((N : Int) = 1) := by omega
            simp [h1, this]
      · rw [if_neg hv0]
        exact hfin _ (decide_eq_false (fun h => hv0 h.1)).symm
    · rw [if_neg hf, if_neg hf]
theorem rgetFlags_f {k : Nat} (hk : 800000 ≤ k) {b : List Int} (hb : ∀ x ∈ b, isByte x) (hbl : b.length ≤ 140737488351232) (most : Int) : stemmaref03_GetFlags.f k b most = some (getFlags b most) := by
  have hmm : 0 ≤ mx 0 (mn most 65536) ∧ mx 0 (mn most 65536) ≤ 65536 := by simp only [mx, mn]; omega
  obtain ⟨m, hm⟩ : ∃ m : Nat, mx 0 (mn most 65536) = (m : Int) := ⟨_, (Int.toNat_of_nonneg hmm.1).symm⟩
  unfold stemmaref03_GetFlags.f stemmaref03_bounded.f getFlags
  simp only [Option.bind_some, hm, Int.toNat_natCast]
  rw [hm] at hmm
  clear hm
  rw [rgetU_f (by omega) hb, u64n m (by omega), u64a m (by omega)]
  simp only [Option.bind_some]
  by_cases hf : (gU 0 0 b).2.2 = 0
  · obtain ⟨v, c, hv, hv64, hc0, hcl, hc10, hbv, hpl⟩ := gU_rng hb hf
    simp only [hv, if_true, Int.toNat_natCast]
    by_cases hvm : (v : Int) > (m : Int) + 1
    · rw [if_pos (by omega), if_pos hvm]
    · rw [if_neg (by omega), if_neg hvm]
      have := rflags_l0 b hb hbl m (by omega) v (by omega) v k [] c 0 (by omega) (by simp) (by omega) (by simp; omega)
      exact this
  · rw [if_neg hf, if_neg hf]
theorem alike_l0 (l : List Bool) (hl : l.length < 4611686018427387900) (d : Nat) : ∀ (k i : Nat), i + d = l.length → d < k → stemmaref03_Alike.l0 k l l (i : Int) = some true := by
  induction d with
  | zero =>
    intro k i hi hk
    obtain ⟨k, rfl⟩ : ∃ k', k = k' + 1 := ⟨k - 1, by omega⟩
    rw [stemmaref03_Alike.l0, if_neg (by omega)]
  | succ d ih =>
    intro k i hi hk
    obtain ⟨k, rfl⟩ : ∃ k', k = k' + 1 := ⟨k - 1, by omega⟩
    have h1 : (i : Int) < (l.length : Int) := by omega
    have h2 : (0 : Int) ≤ (i : Int) := Int.natCast_nonneg _
    rw [stemmaref03_Alike.l0, if_pos h1, if_pos h2, if_pos h1, if_neg (by simp), show wrap64 ((i : Int) + 1) = ((i + 1 : Nat) : Int) from w64a i 1 (by omega)]
    exact ih k (i + 1) (by omega) (by omega)
theorem alike_f {k : Nat} (l : List Bool) (hk : l.length < k) (hl : l.length < 4611686018427387900) : stemmaref03_Alike.f k l l = some true := by
  unfold stemmaref03_Alike.f
  rw [if_pos rfl]
  exact alike_l0 l hl l.length k 0 (by omega) hk
end Go.Proofs.Ytcffooeiennmjaa.ColT

/- Any truths have the bytes that the document says, and are taken off again. -/
set_option linter.unusedVariables false
set_option linter.unusedSimpArgs false
namespace Go.Proofs.Ytcffooeiennmjaa.ColT
open Go Go.RowKit Go.Proofs.Ytcffooeiennmjaa.PA Go.Proofs.YtcffooeiennmjaaW.PrintWords Go.Proofs.YtcffooeiennmjaaW.PrintLast Go.Proofs.YtcffooeiennmjaaW.PrintMore Go.Proofs.Ytcffooeiennmjaa.LebT Go.Proofs.Ytcffooeiennmjaa.LebP Go.Proofs.Ytcffooeiennmjaa.ColS
theorem st_snoc_same {α : Type} [DecidableEq α] (x : α) : ∀ ys : List α, ys.getLast? = some x → ∃ p n, st ys = p ++ [(x, n)] ∧ st (ys ++ [x]) = p ++ [(x, n + 1)]
  | [], h => by simp at h
  | [y], h => by
    obtain rfl : y = x := by simpa using h
    exact ⟨[], 1, rfl, by simp [st]⟩
  | y :: z :: t, h => by
    obtain ⟨p, n, h1, h2⟩ := st_snoc_same x (z :: t) (by simpa using h)
    cases p with
    | nil =>
      by_cases hy : y = x
      · exact ⟨[], n + 1, by rw [st, h1]; simp [hy], by rw [List.cons_append, st, h2]; simp [hy]⟩
      · exact ⟨[(y, 1)], n, by rw [st, h1]; simp [hy], by rw [List.cons_append, st, h2]; simp [hy]⟩
    | cons a p' =>
      obtain ⟨a, m⟩ := a
      by_cases hy : y = a
      · exact ⟨(a, m + 1) :: p', n, by rw [st, h1]; simp [hy], by rw [List.cons_append, st, h2]; simp [hy]⟩
      · exact ⟨(y, 1) :: (a, m) :: p', n, by rw [st, h1]; simp [hy], by rw [List.cons_append, st, h2]; simp [hy]⟩
theorem st_snoc_new {α : Type} [DecidableEq α] (x : α) : ∀ ys : List α, ys.getLast? ≠ some x → st (ys ++ [x]) = st ys ++ [(x, 1)]
  | [], _ => by simp [st]
  | [y], h => by
    have hy : y ≠ x := by simpa using h
    simp [st, hy]
  | y :: z :: t, h => by
    have ih := st_snoc_new x (z :: t) (by simpa using h)
    obtain ⟨n, r, hr⟩ := st_head z t
    rw [hr] at ih
    rw [List.cons_append, st, ih]
    simp only [List.cons_append]
    rw [st.eq_def (y :: z :: t)]
    simp only [hr]
    by_cases hy : y = z <;> simp [hy]
/-- The counts of truths by turns, false first. -/
def cnt : List Bool → List Nat
  | [] => []
  | true :: t => 0 :: (st (true :: t)).map (·.2)
  | false :: t => (st (false :: t)).map (·.2)
theorem st_bool : ∀ (r : List Bool) (x : Bool), st (x :: r) = stb x ((st (x :: r)).map (·.2)) ∧ ∀ c ∈ (st (x :: r)).map (·.2), 0 < c
  | [], x => by simp [st, stb]
  | y :: r, x => by
    obtain ⟨h1, h2⟩ := st_bool r y
    obtain ⟨n, t, ht⟩ := st_head y r
    rw [ht] at h1 h2
    rw [st, ht]
    simp only [List.map_cons, stb] at h1 h2 ⊢
    have h3 : t = stb (!y) (t.map (·.2)) := (List.cons.inj h1).2
    by_cases hxy : x = y
    · subst hxy
      simp only [if_true, List.map_cons, stb]
      rw [← h3]
      refine ⟨rfl, fun c hc => ?_⟩
      rcases List.mem_cons.1 hc with rfl | hc
      · omega
      · exact h2 c (by simp [hc])
    · rw [if_neg hxy]
      have hy : (!x) = y := by
        cases x <;> cases y
        · exact absurd rfl hxy
        · rfl
        · rfl
        · exact absurd rfl hxy
      simp only [List.map_cons, stb, hy]
      rw [← h3]
      refine ⟨rfl, fun c hc => ?_⟩
      rcases List.mem_cons.1 hc with rfl | hc
      · omega
      · exact h2 c hc
theorem alt_stb : ∀ (l : List Bool) (x : Bool) (cs : List Nat), st l = stb x cs → (∀ c ∈ cs, 0 < c) → l = alt x cs
  | [], x, cs, h, _ => by
    cases cs with
    | nil => rfl
    | cons c r => simp [st, stb] at h
  | [y], x, cs, h, _ => by
    cases cs with
    | nil => simp [st, stb] at h
    | cons c r =>
      simp only [st, stb, List.cons.injEq, Prod.mk.injEq] at h
      obtain ⟨⟨rfl, rfl⟩, h2⟩ := h
      cases r with
      | nil => rfl
      | cons c r => simp [stb] at h2
  | y :: z :: t, x, cs, h, hc => by
    obtain ⟨n, r, hr⟩ := st_head z t
    rw [st, hr] at h
    simp only [] at h
    cases cs with
    | nil => simp only [stb] at h; split at h <;> simp at h
    | cons c cr =>
      by_cases hyz : y = z
      · rw [if_pos hyz] at h
        simp only [stb, List.cons.injEq, Prod.mk.injEq] at h
        obtain ⟨⟨rfl, rfl⟩, h2⟩ := h
        subst hyz
        have hn : 0 < n := by
          have := (st_bool t y).2 n (by rw [hr]; simp)
          exact this
        have := alt_stb (y :: t) y (n :: cr) (by rw [hr, stb, h2]) (fun c hc' => by
          rcases List.mem_cons.1 hc' with rfl | hc'
          · exact hn
          · exact hc c (by simp [hc']))
        rw [this]
        simp [alt, List.replicate_succ]
      · rw [if_neg hyz] at h
        simp only [stb, List.cons.injEq, Prod.mk.injEq] at h
        obtain ⟨⟨rfl, rfl⟩, h2⟩ := h
        have := alt_stb (z :: t) (!y) cr (by rw [hr]; exact h2) (fun c hc' => hc c (by simp [hc']))
        rw [this]
        simp [alt]
theorem cnt_alt (l : List Bool) : l = alt false (cnt l) := by
  cases l with
  | nil => rfl
  | cons x r =>
    obtain ⟨h1, h2⟩ := st_bool r x
    have := alt_stb (x :: r) x _ h1 h2
    cases x
    · exact this
    · simp only [cnt, alt, List.replicate_zero, Bool.not_false, List.nil_append]
      exact this
theorem cnt_pos (l : List Bool) : ∀ c r, cnt l = c :: r → (c = 0 → r ≠ []) ∧ ∀ d ∈ r, 0 < d := by
  intro c r h
  cases l with
  | nil => simp [cnt] at h
  | cons x t =>
    obtain ⟨h1, h2⟩ := st_bool t x
    obtain ⟨n, q, hq⟩ := st_head x t
    cases x
    · simp only [cnt] at h
      rw [h] at h2
      exact ⟨fun hc => by have := h2 c (by simp); omega, fun d hd => h2 d (by simp [hd])⟩
    · simp only [cnt, List.cons.injEq] at h
      obtain ⟨rfl, rfl⟩ := h
      exact ⟨fun _ => by rw [hq]; simp, h2⟩
theorem flags_cnt (l : List Bool) : flags l = putU (cnt l).length ++ (cnt l).flatMap putU := by
  cases l with
  | nil => simp [flags, cnt]
  | cons x r =>
    have e : ∀ ps : List (Bool × Nat), flatB ps = (ps.map (·.2)).flatMap putU := fun ps => by simp [flatB, List.flatMap_map]
    cases x
    · simp [flags, cnt, e]
    · simp only [flags, cnt, e, List.length_cons, List.length_map, List.flatMap_cons]
      rw [putU_small (show (0 : Nat) < 128 by omega)]
      rfl
theorem alt_length : ∀ (cs : List Nat) (t : Bool), (alt t cs).length = cs.sum
  | [], _ => rfl
  | c :: r, t => by simp [alt, alt_length r]
theorem cnt_sum (l : List Bool) : (cnt l).sum = l.length := by
  have := congrArg List.length (cnt_alt l)
  rw [alt_length] at this
  exact this.symm
theorem cnt_length (l : List Bool) : (cnt l).length ≤ l.length + 1 := by
  cases l with
  | nil => simp [cnt]
  | cons x r =>
    have := st_length (x :: r)
    cases x <;> simp only [cnt, List.length_cons, List.length_map] at * <;> omega
theorem gF_put (most N : Nat) (hmost : most ≤ 65536) (behind : List Int) : ∀ (cs : List Nat) (i : Nat) (acc : List Bool) (used : Nat), (∀ c r, cs = c :: r → (c = 0 → i = 0 ∧ N ≠ 1) ∧ ∀ d ∈ r, 0 < d) → acc.length + cs.sum ≤ most →
    gF most N cs.length i acc used (cs.flatMap putU ++ behind) = (acc ++ alt (decide (i % 2 = 1)) cs, ((used + (cs.flatMap putU).length : Nat) : Int), 0)
  | [], i, acc, used, _, _ => by simp [gF, alt]
  | c :: r, i, acc, used, hz, hl => by
    obtain ⟨h1, h2⟩ := hz c r rfl
    rw [List.sum_cons] at hl
    have hg : gU 0 0 (putU c ++ (r.flatMap putU ++ behind)) = ((c : Int), ((putU c).length : Int), 0) := gU0 c (by omega) _
    have hn0 : ¬ ((c : Int) = 0 ∧ (0 < i ∨ N = 1)) := fun h => by have := h1 (by omega); omega
    have hn1 : ¬ ((c : Int) > ((most - acc.length : Nat) : Int)) := by omega
    have ih := gF_put most N hmost behind r (i + 1) (acc ++ List.replicate c (decide (i % 2 = 1))) (used + (putU c).length) (fun c' r' e => by
      subst e
      exact ⟨fun h0 => by have := h2 c' (by simp); omega, fun d hd => h2 d (by simp [hd])⟩) (by rw [List.length_append, List.length_replicate]; omega)
    have hpar : decide ((i + 1) % 2 = 1) = !decide (i % 2 = 1) := by
      by_cases h : i % 2 = 1
      · simp [h]; omega
      · simp [h]; omega
    rw [List.length_cons, List.flatMap_cons, List.append_assoc, gF, hg]
    simp only [if_true, Int.toNat_natCast, List.drop_left]
    rw [if_neg hn0, if_neg hn1, ih, alt, hpar]
    simp only [List.append_assoc, List.length_append, Nat.add_assoc]
theorem gF_long (most N : Nat) (hmost : most ≤ 65536) (behind : List Int) : ∀ (cs : List Nat) (i : Nat) (acc : List Bool) (used : Nat), (∀ c r, cs = c :: r → (c = 0 → i = 0 ∧ N ≠ 1) ∧ ∀ d ∈ r, 0 < d) → (∀ c ∈ cs, c < 18446744073709551616) → acc.length ≤ most → most < acc.length + cs.sum →
    (gF most N cs.length i acc used (cs.flatMap putU ++ behind)).2.2 = 5
  | [], i, acc, used, _, _, h1, h2 => by simp at h2; omega
  | c :: r, i, acc, used, hz, hc64, hl, hl2 => by
    obtain ⟨h1, h2⟩ := hz c r rfl
    rw [List.sum_cons] at hl2
    have hg : gU 0 0 (putU c ++ (r.flatMap putU ++ behind)) = ((c : Int), ((putU c).length : Int), 0) := gU0 c (hc64 c (by simp)) _
    have hn0 : ¬ ((c : Int) = 0 ∧ (0 < i ∨ N = 1)) := fun h => by have := h1 (by omega); omega
    rw [List.length_cons, List.flatMap_cons, List.append_assoc, gF, hg]
    simp only [if_true, Int.toNat_natCast, List.drop_left]
    rw [if_neg hn0]
    by_cases hn1 : (c : Int) > ((most - acc.length : Nat) : Int)
    · rw [if_pos hn1]
    · rw [if_neg hn1]
      exact gF_long most N hmost behind r (i + 1) (acc ++ List.replicate c (decide (i % 2 = 1))) (used + (putU c).length) (fun c' r' e => by
        subst e
        exact ⟨fun h0 => by have := h2 c' (by simp); omega, fun d hd => h2 d (by simp [hd])⟩) (fun d hd => hc64 d (by simp [hd])) (by rw [List.length_append, List.length_replicate]; omega) (by rw [List.length_append, List.length_replicate]; omega)
theorem le_sum : ∀ (l : List Nat) (c : Nat), c ∈ l → c ≤ l.sum
  | x :: r, c, h => by
    rw [List.sum_cons]
    rcases List.mem_cons.1 h with rfl | h
    · omega
    · have := le_sum r c h; omega
theorem cnt_ok (l : List Bool) : ∀ c r, cnt l = c :: r → (c = 0 → 0 = 0 ∧ (cnt l).length ≠ 1) ∧ ∀ d ∈ r, 0 < d := by
  intro c r h
  obtain ⟨h1, h2⟩ := cnt_pos l c r h
  refine ⟨fun h0 => ⟨rfl, ?_⟩, h2⟩
  rw [h]
  have := List.length_pos_iff.2 (h1 h0)
  simp only [List.length_cons]
  omega
theorem getFlags_put (l : List Bool) (hl : l.length ≤ 65536) (behind : List Int) : getFlags (flags l ++ behind) (l.length : Int) = (l, ((flags l).length : Int), 0) := by
  have hcl := cnt_length l
  have hcs := cnt_sum l
  have h1 : gU 0 0 (putU (cnt l).length ++ ((cnt l).flatMap putU ++ behind)) = (((cnt l).length : Int), ((putU (cnt l).length).length : Int), 0) := gU0 _ (by omega) _
  have hmm : mx 0 (mn (l.length : Int) 65536) = (l.length : Int) := by simp only [mx, mn]; omega
  unfold getFlags
  rw [hmm, flags_cnt l, List.append_assoc, h1]
  simp only [if_true, Int.toNat_natCast, List.drop_left]
  rw [if_neg (by omega), gF_put l.length (cnt l).length (by omega) behind (cnt l) 0 [] _ (cnt_ok l) (by simp; omega)]
  simp only [List.nil_append, List.length_append]
  rw [show decide (0 % 2 = 1) = false from rfl, ← cnt_alt l]
theorem getFlags_long (l : List Bool) (hl : 65536 < l.length) (hl2 : l.length ≤ 4398046511104) (behind : List Int) : (getFlags (flags l ++ behind) (l.length : Int)).2.2 = 5 := by
  have hcl := cnt_length l
  have hcs := cnt_sum l
  have h1 : gU 0 0 (putU (cnt l).length ++ ((cnt l).flatMap putU ++ behind)) = (((cnt l).length : Int), ((putU (cnt l).length).length : Int), 0) := gU0 _ (by omega) _
  have hmm : mx 0 (mn (l.length : Int) 65536) = ((65536 : Nat) : Int) := by simp only [mx, mn]; omega
  unfold getFlags
  rw [hmm, flags_cnt l, List.append_assoc, h1]
  simp only [if_true, Int.toNat_natCast, List.drop_left]
  by_cases hc : (((cnt l).length : Nat) : Int) > ((65536 : Nat) : Int) + 1
  · rw [if_pos hc]
  · rw [if_neg hc]
    exact gF_long 65536 (cnt l).length (by omega) behind (cnt l) 0 [] _ (cnt_ok l) (fun c hc' => by
      have : c ≤ (cnt l).sum := le_sum _ c hc'
      omega) (by simp) (by simp; omega)

/-- The counts as the reference has them. -/
def cntI (l : List Bool) : List Int := (cnt l).map fun n : Nat => (n : Int)
theorem cnt_snoc_same (x : Bool) (l : List Bool) (h : l.getLast? = some x) : ∃ p n, cnt l = p ++ [n] ∧ cnt (l ++ [x]) = p ++ [n + 1] := by
  obtain ⟨p, n, h1, h2⟩ := st_snoc_same x l h
  cases l with
  | nil => simp at h
  | cons y t =>
    rw [List.cons_append] at h2 ⊢
    cases y
    · exact ⟨p.map (·.2), n, by rw [cnt, h1]; simp, by rw [cnt, h2]; simp⟩
    · exact ⟨0 :: p.map (·.2), n, by rw [cnt, h1]; simp, by rw [cnt, h2]; simp⟩
theorem cnt_snoc_new (x : Bool) (l : List Bool) (hn : l ≠ []) (h : l.getLast? ≠ some x) : cnt (l ++ [x]) = cnt l ++ [1] := by
  have h2 := st_snoc_new x l h
  cases l with
  | nil => exact absurd rfl hn
  | cons y t =>
    rw [List.cons_append] at h2 ⊢
    cases y
    · rw [cnt, h2, cnt]; simp
    · rw [cnt, h2, cnt]; simp
theorem rdOf_at (l : List Bool) (i : Nat) (h : i < l.length) : rdOf false l (i : Int) = l[i] := by
  simp [rdOf, List.getD_eq_getElem?_getD, h]
theorem set_last (p : List Int) (n m : Int) : (p ++ [n]).set ((p.length : Nat)) m = p ++ [m] := by
  rw [List.set_append_right _ _ (Nat.le_refl _), Nat.sub_self]
  rfl
theorem rd_last (p : List Int) (n : Int) : rd (p ++ [n]) ((p.length : Nat) : Int) = n := by simp [rd]
theorem w64l (p : List Int) (n : Int) (h : p.length < 4398046511105) : wrap64 (((p ++ [n]).length : Int) - 1) = ((p.length : Nat) : Int) := by
  rw [List.length_append, List.length_singleton]
  unfold wrap64; omega
theorem bump (k : Nat) (x0 : List Bool) (p : List Int) (n : Int) (b : Bool) (i : Int) (hp : p.length < 4398046511105) (hn : wrap64 (n + 1) = n + 1) :
    (if 0 ≤ wrap64 (((p ++ [n]).length : Int) - 1) then (if wrap64 (((p ++ [n]).length : Int) - 1) < ((p ++ [n]).length : Int) then stemmaref03_Flags.l0 k x0 ((p ++ [n]).set ((wrap64 (((p ++ [n]).length : Int) - 1)) : Int).toNat (wrap64 ((rd (p ++ [n]) (wrap64 (((p ++ [n]).length : Int) - 1))) + 1))) b i else none) else none) = stemmaref03_Flags.l0 k x0 (p ++ [n + 1]) b i := by
  rw [w64l p n hp, if_pos (by omega), if_pos (by rw [List.length_append, List.length_singleton]; omega), Int.toNat_natCast, rd_last, hn, set_last]
theorem rflags_l1' (L : List Nat) (hL : ∀ c ∈ L, c < 4398046511105) (hl : L.length ≤ 2097152) : ∀ (d k i : Nat) (acc : List Int), i + d = L.length → acc.length ≤ 10 + 10 * i → d + 12 ≤ k →
    stemmaref03_Flags.l1 k (L.map fun n : Nat => (n : Int)) acc (i : Int) = some (acc ++ (L.drop i).flatMap putU)
  | d, 0, i, _, _, _, h => by omega
  | 0, k + 1, i, acc, hi, ha, _ => by
    have h1 : ¬ ((i : Int) < ((L.map fun n : Nat => (n : Int)).length : Int)) := by rw [List.length_map]; omega
    rw [stemmaref03_Flags.l1, if_neg h1, List.drop_of_length_le (by omega)]
    simp
  | d + 1, k + 1, i, acc, hi, ha, hk => by
    have hlt : i < L.length := by omega
    have h1 : ((i : Int) < ((L.map fun n : Nat => (n : Int)).length : Int)) := by rw [List.length_map]; omega
    have hc := hL L[i] (List.getElem_mem hlt)
    have hr : rd (L.map fun n : Nat => (n : Int)) (i : Int) = ((L[i] : Nat) : Int) := by simp [rd, List.getD_eq_getElem?_getD, hlt]
    have hlen : (putU L[i]).length ≤ 10 := putU_len64 (by omega)
    have ih := rflags_l1' L hL hl d k (i + 1) (acc ++ putU L[i]) (by omega) (by rw [List.length_append]; omega) (by omega)
    rw [stemmaref03_Flags.l1, if_pos h1, if_pos (by omega), hr, show IntKind.u64.wrap ((L[i] : Nat) : Int) = ((L[i] : Nat) : Int) from u64n _ (by omega), rUint_f (by omega) (by omega) (by omega)]
    simp only [Option.bind_some, Int.toNat_natCast]
    rw [if_pos (by omega), show wrap64 ((i : Int) + 1) = ((i + 1 : Nat) : Int) from w64a i 1 (by omega), ih, List.drop_eq_getElem_cons hlt, List.flatMap_cons, List.append_assoc]
theorem rflags_l0' (l : List Bool) (hl : l.length ≤ 1048576) : ∀ (d k i : Nat) (last : Bool), i + d = l.length → (i = 0 → last = false) → (0 < i → (l.take i).getLast? = some last) → d + 2097200 ≤ k →
    stemmaref03_Flags.l0 k l (cntI (l.take i)) last (i : Int) = some (flags l)
  | d, 0, i, _, _, _, _, h => by omega
  | 0, k + 1, i, last, hi, _, _, hk => by
    have h1 : ¬ ((i : Int) < (l.length : Int)) := by omega
    have hcl := cnt_length l
    have hcs := cnt_sum l
    have ht : l.take i = l := List.take_of_length_le (by omega)
    have hL : (cntI l).length = (cnt l).length := by simp [cntI]
    have hlen : (putU (cnt l).length).length ≤ 10 := putU_len64 (by omega)
    rw [stemmaref03_Flags.l0, if_neg h1, ht, hL, show IntKind.u64.wrap (((cnt l).length : Nat) : Int) = (((cnt l).length : Nat) : Int) from u64n _ (by omega), rUint_f (by omega) (by omega) (by omega)]
    simp only [Option.bind_some, Int.toNat_natCast]
    have := rflags_l1' (cnt l) (fun c hc => by have := le_sum _ c hc; omega) (by omega) (cnt l).length k 0 (putU (cnt l).length) (by omega) (by omega) (by omega)
    rw [show ((0 : Nat) : Int) = 0 from rfl] at this
    rw [flags_cnt l]
    exact this
  | d + 1, k + 1, i, last, hi, hz, hlast, hk => by
    have hlt : i < l.length := by omega
    have h1 : ((i : Int) < (l.length : Int)) := by omega
    have hx : rdOf false l (i : Int) = l[i] := rdOf_at l i hlt
    have hw : wrap64 ((i : Int) + 1) = ((i + 1 : Nat) : Int) := w64a i 1 (by omega)
    have htk : l.take (i + 1) = l.take i ++ [l[i]] := List.take_succ_eq_append_getElem hlt
    have ih := rflags_l0' l hl d k (i + 1) l[i] (by omega) (by omega) (fun _ => by rw [htk]; exact List.getLast?_concat ..) (by omega)
    have hcl := cnt_length (l.take i)
    have hcs := cnt_sum (l.take i)
    have htl : (l.take i).length = i := by rw [List.length_take]; omega
    have hL : (cntI (l.take i)).length = (cnt (l.take i)).length := by simp [cntI]
    rw [stemmaref03_Flags.l0, if_pos h1, hw, hx]
    by_cases h0 : i = 0
    · obtain rfl := h0
      obtain rfl := hz rfl
      have e1 : cntI (l.take 0) = [] := by simp [cntI, cnt]
      rw [htk] at ih
      rw [if_pos (by rfl), e1, if_pos (by simp)]
      simp only [Option.bind_some, List.nil_append]
      rw [if_pos (by omega)]
      by_cases hb : l[0] = true
      · rw [if_pos (by rw [hb]; rfl), if_pos (by simp)]
        simp only [Option.bind_some, List.cons_append, List.nil_append]
        have := bump k l [0] 0 l[0] ((0 + 1 : Nat) : Int) (by simp) (by unfold wrap64; omega)
        simp only [List.cons_append, List.nil_append] at this
        rw [this, ← ih]
        simp only [List.take_zero, List.nil_append, cntI, hb, cnt, st]
        rfl
      · have hb' : l[0] = false := by simpa using hb
        rw [if_neg (by rw [hb']; simp)]
        have := bump k l [] 0 false ((0 + 1 : Nat) : Int) (by simp) (by unfold wrap64; omega)
        rw [List.nil_append] at this
        rw [this, ← ih]
        simp only [List.take_zero, List.nil_append, cntI, hb', cnt, st]
        rfl
    · have hne : l.take i ≠ [] := fun h => by rw [h] at htl; simp at htl; omega
      rw [if_neg (by omega), if_pos (by omega)]
      by_cases hb : l[i] = last
      · rw [if_neg (by rw [hb]; simp)]
        obtain ⟨p, n, h2, h3⟩ := cnt_snoc_same l[i] (l.take i) (by rw [hb]; exact hlast (by omega))
        have e1 : cntI (l.take i) = p.map (fun n : Nat => (n : Int)) ++ [(n : Int)] := by simp [cntI, h2]
        have e2 : cntI (l.take (i + 1)) = p.map (fun n : Nat => (n : Int)) ++ [(n : Int) + 1] := by rw [cntI, htk, h3]; simp
        have hn : n ≤ 1048576 := by have := le_sum (cnt (l.take i)) n (by rw [h2]; simp); omega
        have hpl : p.length ≤ 1048577 := by have := congrArg List.length h2; simp at this; omega
        have := bump k l (p.map fun n : Nat => (n : Int)) (n : Int) last ((i + 1 : Nat) : Int) (by simp; omega) (by unfold wrap64; omega)
        rw [e1, this, ← e2, ← hb]
        exact ih
      · rw [if_pos (by simpa using hb), if_pos (by omega)]
        simp only [Option.bind_some]
        have h3 := cnt_snoc_new l[i] (l.take i) hne (by rw [hlast (by omega)]; simpa using fun h => hb h.symm)
        have e2 : cntI (l.take (i + 1)) = cntI (l.take i) ++ [0 + 1] := by rw [cntI, htk, h3, List.map_append]; rfl
        have := bump k l (cntI (l.take i)) 0 l[i] ((i + 1 : Nat) : Int) (by omega) (by unfold wrap64; omega)
        rw [this, ← e2]
        exact ih
theorem rflags_f' (l : List Bool) (hl : l.length ≤ 1048576) {k : Nat} (hk : 3200000 ≤ k) : stemmaref03_Flags.f k l = some (flags l) := by
  have := rflags_l0' l hl l.length k 0 false (by omega) (fun _ => rfl) (by omega) (by omega)
  rw [show ((0 : Nat) : Int) = 0 from rfl] at this
  unfold stemmaref03_Flags.f
  rw [show ([] : List Int) = cntI (l.take 0) by simp [cntI, cnt]]
  exact this
theorem sum_ones {α : Type} (l : List α) : (l.map (fun _ => 1)).sum = l.length := by
  induction l with
  | nil => rfl
  | cons x r ih => simp only [List.map_cons, List.sum_cons, List.length_cons, ih]; omega
theorem flags_len (l : List Bool) (hl : l.length ≤ 1048576) : (flags l).length ≤ 10485800 := by
  have hcl := cnt_length l
  have hcs := cnt_sum l
  have h2 : (putU (cnt l).length).length ≤ 10 := putU_len64 (by omega)
  have h3 : ∀ cs : List Nat, (∀ c ∈ cs, c < 18446744073709551616) → (cs.flatMap putU).length ≤ 10 * cs.length := by
    intro cs
    induction cs with
    | nil => simp
    | cons c r ih =>
      intro h
      have := ih (fun d hd => h d (by simp [hd]))
      have h4 : (putU c).length ≤ 10 := putU_len64 (h c (by simp))
      simp only [List.flatMap_cons, List.length_append, List.length_cons]
      omega
  have := h3 (cnt l) (fun c hc => by have := le_sum _ c hc; omega)
  rw [flags_cnt, List.length_append]
  omega
end Go.Proofs.Ytcffooeiennmjaa.ColT
namespace Go.Proofs.Ytcffooeiennmjaa.Pure
open Go.RowKit Go.Proofs.Ytcffooeiennmjaa.PA Go.Proofs.YtcffooeiennmjaaW.PrintWords Go.Proofs.YtcffooeiennmjaaW.PrintLast Go.Proofs.Ytcffooeiennmjaa.ColT Go.Proofs.Ytcffooeiennmjaa.ColS
theorem ColumnFlags (a0 : (List Bool)) (a1 : (List Int)) (q0 : a0.length ≤ maxLen ∧ ∀ y ∈ a0, True) (b0 : (a0.map (fun _ => 1)).sum + 1 ≤ 1048576) (q1 : a1.length ≤ maxLen ∧ ∀ y ∈ a1, (Lit.int .u8 y).wf = true) (b1 : (a1.map (fun _ => 1)).sum + 1 ≤ 1048576) : ∃ k, PA.stemmalaw03_ColumnFlags.f k a0 a1 = some true := by
  rw [sum_ones] at b0 b1
  have hb : ∀ x ∈ a1, LebT.isByte x := fun x hx => LebP.wf_u8 (q1.2 x hx)
  have hl : a0.length ≤ 1048575 := by omega
  have hl1 : a1.length ≤ 1048575 := by omega
  clear q0 b0 q1 b1
  have hfl := flags_len a0 (by omega)
  have hby : ∀ x ∈ flags a0 ++ a1, LebT.isByte x := fun x hx => (List.mem_append.1 hx).elim (flags_byte a0 x) (hb x)
  refine ⟨4000000, ?_⟩
  unfold stemmalaw03_ColumnFlags.f
  rw [column_Flags.f, if_pos (by omega), rflags_f' a0 (by omega) (by omega)]
  simp only [Option.bind_some, if_true, List.nil_append, List.length_nil]
  rw [if_pos (by omega), if_pos (by omega), getFlags_f (by omega) hby (by rw [List.length_append]; omega)]
  simp only [Option.bind_some]
  by_cases h : (a0.length : Int) > 65536
  · rw [if_pos h, if_pos (getFlags_long a0 (by omega) (by omega) a1), awake03 (by omega)]
    rfl
  · rw [if_neg h, getFlags_put a0 (by omega) a1]
    simp only [if_true]
    rw [alike_f a0 (by omega) (by omega)]
    simp only [Option.bind_some, if_true]
    rw [awake03 (by omega)]
    rfl
end Go.Proofs.Ytcffooeiennmjaa.Pure
