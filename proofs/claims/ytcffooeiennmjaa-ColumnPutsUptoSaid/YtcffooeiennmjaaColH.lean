/- column.GetRuns: what it computes, plainly. -/
import Derived.Test.YtcffooeiennmjaaLebP
import Derived.Test.YtcffooeiennmjaaColC
import Derived.Test.YtcffooeiennmjaaPAx25
import Derived.Test.YtcffooeiennmjaaPAx27
import Derived.Test.YtcffooeiennmjaaPAx29
import Derived.Test.YtcffooeiennmjaaPAx30
set_option linter.unusedVariables false
set_option linter.unusedSimpArgs false
namespace Go.Proofs.Ytcffooeiennmjaa.ColT
open Go Go.RowKit Go.Proofs.Ytcffooeiennmjaa.PA Go.Proofs.YtcffooeiennmjaaW.PrintWords Go.Proofs.YtcffooeiennmjaaW.PrintLast Go.Proofs.YtcffooeiennmjaaW.PrintMore Go.Proofs.Ytcffooeiennmjaa.LebT Go.Proofs.Ytcffooeiennmjaa.LebP

/-- n runs taken off b, at most `most` numbers, acc gathered so far, `used` bytes used so far. -/
def gR (most : Nat) : Nat → List Int → Nat → List Int → List Int × Int × Int
  | 0, acc, used, _ => (acc, (used : Int), 0)
  | n + 1, acc, used, b =>
    if (gU 0 0 b).2.2 = 0 then
      if (gU 0 0 b).1 = 0 then ([], 0, 4)
      else if (gU 0 0 b).1 > ((most - acc.length : Nat) : Int) then ([], 0, 5)
      else if (gI 0 0 false (b.drop (gU 0 0 b).2.1.toNat)).2.2 = 0 then
        if acc.getLast? = some (gI 0 0 false (b.drop (gU 0 0 b).2.1.toNat)).1 then ([], 0, 4)
        else gR most n (acc ++ List.replicate (gU 0 0 b).1.toNat (gI 0 0 false (b.drop (gU 0 0 b).2.1.toNat)).1) (used + (gU 0 0 b).2.1.toNat + (gI 0 0 false (b.drop (gU 0 0 b).2.1.toNat)).2.1.toNat) (b.drop ((gU 0 0 b).2.1.toNat + (gI 0 0 false (b.drop (gU 0 0 b).2.1.toNat)).2.1.toNat))
      else ([], 0, (gI 0 0 false (b.drop (gU 0 0 b).2.1.toNat)).2.2)
    else ([], 0, (gU 0 0 b).2.2)

/-- What gU takes off: within the bytes, within 64 bits. -/
theorem gU_rng {b : List Int} (hb : ∀ x ∈ b, isByte x) (h : (gU 0 0 b).2.2 = 0) : ∃ v k : Nat, gU 0 0 b = ((v : Int), (k : Int), 0) ∧ v < 18446744073709551616 ∧ 0 < k ∧ k ≤ b.length ∧ k ≤ 10 ∧ b = putU v ++ b.drop k ∧ (putU v).length = k := by
  obtain ⟨v, k, e, he⟩ : ∃ v k e, gU 0 0 b = (v, k, e) := ⟨_, _, _, rfl⟩
  rw [he] at h
  obtain rfl : e = 0 := h
  obtain ⟨m, j, rfl, rfl, h1, h2, h3, _, h4⟩ := gU_only b 0 0 v k hb (by omega) (by omega) he
  simp only [Nat.zero_add, Nat.pow_zero, Nat.mul_one] at *
  have hl : (putU m).length = j := by rw [h3, List.length_take]; omega
  refine ⟨m, j, he, h4, h1, h2, by rw [← hl]; exact putU_len64 h4, by rw [h3, List.take_append_drop], hl⟩
theorem gI_rng {b : List Int} (hb : ∀ x ∈ b, isByte x) (h : (gI 0 0 false b).2.2 = 0) : ∃ (v : Int) (k : Nat), gI 0 0 false b = (v, (k : Int), 0) ∧ -9223372036854775808 ≤ v ∧ v < 9223372036854775808 ∧ 0 < k ∧ k ≤ b.length ∧ k ≤ 10 ∧ b = putI v ++ b.drop k ∧ (putI v).length = k := by
  obtain ⟨v, k, e, he⟩ : ∃ v k e, gI 0 0 false b = (v, k, e) := ⟨_, _, _, rfl⟩
  rw [he] at h
  obtain rfl : e = 0 := h
  obtain ⟨m, j, hv, rfl, h1, h2, h3, _, h4, h5⟩ := gI_only b 0 0 false v k hb (by omega) (by omega) he
  simp only [Nat.zero_add, Int.pow_zero, Int.mul_one, Int.natCast_zero, Int.zero_add] at *
  have hv' : v = m := by simpa using hv
  subst hv'
  have hl : (putI v).length = j := by rw [h3, List.length_take]; omega
  refine ⟨v, j, he, h4, h5, h1, h2, by rw [← hl]; exact putI_len64 h4 h5, by rw [h3, List.take_append_drop], hl⟩
theorem w64 (n : Nat) (h : n < 4611686018427387904) : wrap64 (n : Int) = (n : Int) := by unfold wrap64; omega
theorem w64s (a b : Nat) (h : b ≤ a) (h1 : a < 4611686018427387904) : wrap64 ((a : Int) - (b : Int)) = ((a - b : Nat) : Int) := by unfold wrap64; omega
theorem w64a (a b : Nat) (h1 : a + b < 4611686018427387904) : wrap64 ((a : Int) + (b : Int)) = ((a + b : Nat) : Int) := by unfold wrap64; omega
theorem w64p (a : Nat) (h : 0 < a) (h1 : a < 4611686018427387904) : wrap64 ((a : Int) - 1) = ((a - 1 : Nat) : Int) := by unfold wrap64; omega
theorem u64n (n : Nat) (h : n < 18446744073709551616) : IntKind.u64.wrap (n : Int) = (n : Int) := by rw [IntKind.wrap_u64]; omega
theorem u64a (n : Nat) (h : n + 1 < 18446744073709551616) : IntKind.u64.wrap ((n : Int) + 1) = ((n + 1 : Nat) : Int) := by rw [IntKind.wrap_u64]; omega
theorem u64p (n : Nat) (h : n < 18446744073709551616) : IntKind.u64.wrap (((n + 1 : Nat) : Int) - 1) = (n : Int) := by rw [IntKind.wrap_u64]; omega
theorem drop_byte {b : List Int} (hb : ∀ x ∈ b, isByte x) (k : Nat) : ∀ x ∈ b.drop k, isByte x := fun x hx => hb x (List.mem_of_mem_drop hx)
theorem runs_l1 (x0 : List Int) (x1 x5 x6 x7 x9 v x12 : Int) (many : Nat) (hm : many ≤ 65536) (d : Nat) : ∀ (k i : Nat) (acc : List Int), i + d = many → acc.length + d ≤ 65536 →
    column_GetRuns.l1 (k + d + 1) x0 x1 acc x5 x6 x7 x9 v x12 (many : Int) (i : Int) = column_GetRuns.l0 k x0 x1 (acc ++ List.replicate d v) (wrap64 (x5 + (wrap64 (x9 + x12)))) x6 (IntKind.u64.wrap (x7 - 1)) := by
  induction d with
  | zero =>
    intro k i acc hi ha
    rw [column_GetRuns.l1, if_neg (by omega)]
    simp
  | succ d ih =>
    intro k i acc hi ha
    rw [column_GetRuns.l1, if_pos (by omega), if_pos (by omega)]
    rw [show IntKind.u64.wrap ((i : Int) + 1) = ((i + 1 : Nat) : Int) by rw [IntKind.wrap_u64]; omega]
    rw [show k + (d + 1) = k + d + 1 by omega, ih k (i + 1) (acc ++ [v]) (by omega) (by simp; omega)]
    rw [List.append_assoc, List.replicate_succ, List.singleton_append]
theorem runs_l0 (b : List Int) (hb : ∀ x ∈ b, isByte x) (hbl : b.length ≤ 140737488351232) (most : Nat) (hmost : most ≤ 65536) (n : Nat) : ∀ (k : Nat) (acc : List Int) (used : Nat), n ≤ 65536 → acc.length ≤ most → used ≤ b.length → 10 * n + (most - acc.length) + 40 ≤ k →
    column_GetRuns.l0 k b (most : Int) acc (used : Int) 0 (n : Int) = some (gR most n acc used (b.drop used)) := by
  induction n with
  | zero =>
    intro k acc used hn ha hu hk
    obtain ⟨k, rfl⟩ : ∃ k', k = k' + 2 := ⟨k - 2, by omega⟩
    rw [column_GetRuns.l0, if_pos rfl, column_GetRuns.j3]
    simp [gR]
  | succ n ih =>
    intro k acc used hn ha hu hk
    obtain ⟨k, rfl⟩ : ∃ k', k = k' + 5 := ⟨k - 5, by omega⟩
    have hbu := drop_byte hb used
    rw [column_GetRuns.l0, if_pos rfl, column_GetRuns.j3, if_pos (by simp), if_pos (by omega), if_pos (by omega), Int.toNat_natCast, getU_f (by omega) hbu, gR, w64s most acc.length ha (by omega), u64n (most - acc.length) (by omega)]
    simp only [Option.bind_some]
    by_cases hf : (gU 0 0 (b.drop used)).2.2 = 0
    · obtain ⟨v, c, hv, hv64, hc0, hcl, hc10, hbv, hpl⟩ := gU_rng hbu hf
      rw [List.length_drop] at hcl
      simp only [hv, Int.toNat_natCast, if_true, List.drop_drop]
      by_cases hv0 : (v : Int) = 0
      · rw [if_pos hv0, if_pos hv0]
      · rw [if_neg hv0, if_neg hv0]
        by_cases hvm : (v : Int) > ((most - acc.length : Nat) : Int)
        · rw [if_pos hvm, if_pos hvm]
        · rw [if_neg hvm, if_neg hvm]
          rw [w64a used c (by omega)]
          have hbc := drop_byte hb (used + c)
          have hq1 : (0 : Int) ≤ ((used + c : Nat) : Int) := Int.natCast_nonneg _
          have hq2 : ((used + c : Nat) : Int) ≤ (b.length : Int) := by omega
          have hgi : leb_GetInt.f (k + 3) (b.drop (used + c)) = some (gI 0 0 false (b.drop (used + c))) := getI_f (by omega) hbc
          rw [if_pos hq1, if_pos hq2, Int.toNat_natCast]
          rw [hgi]
          simp only [Option.bind_some]
          by_cases hg : (gI 0 0 false (b.drop (used + c))).2.2 = 0
          · obtain ⟨x, j, hx, hx1, hx2, hj0, hjl, hj10, hbx, hpx⟩ := gI_rng hbc hg
            rw [List.length_drop] at hjl
            simp only [hx, if_true, Int.toNat_natCast]
            have hfin : ∀ q : Bool, q = decide (acc.getLast? = some x) → column_GetRuns.j4 (k + 3) b (most : Int) acc (used : Int) 0 ((n + 1 : Nat) : Int) (v : Int) (c : Int) 0 x (j : Int) q = some (if acc.getLast? = some x then ([], 0, 4) else gR most n (acc ++ List.replicate v x) (used + c + j) (b.drop (used + (c + j)))) := by
              intro q hq
              subst hq
              rw [column_GetRuns.j4]
              by_cases hl : acc.getLast? = some x
              · rw [if_pos (by simpa using hl), column_GetRuns.j5, if_neg (by omega), if_pos hl]
              · rw [if_neg (by simpa using hl), column_GetRuns.j5, if_pos rfl, if_neg hl]
                obtain ⟨k2, rfl⟩ : ∃ k2, k = k2 + v := ⟨k - v, by omega⟩
                have h1 := runs_l1 b (most : Int) (used : Int) 0 ((n + 1 : Nat) : Int) (c : Int) x (j : Int) v (by omega) v k2 0 acc (by omega) (by omega)
                rw [show ((0 : Nat) : Int) = 0 from rfl] at h1
                rw [h1]
                clear h1
                rw [w64a c j (by omega), w64a used (c + j) (by omega), u64p n (by omega), ← Nat.add_assoc used c j]
                rw [ih k2 (acc ++ List.replicate v x) (used + c + j) (by omega) (by rw [List.length_append, List.length_replicate]; omega) (by omega) (by rw [List.length_append, List.length_replicate]; omega)]
            by_cases hal : (acc.length : Int) > 0
            · rw [if_pos hal, w64p acc.length (by omega) (by omega), if_pos (by omega), if_pos (by omega)]
              refine hfin _ ?_
              have hal' : acc.length - 1 < acc.length := by omega
              rw [List.getLast?_eq_getElem?, List.getElem?_eq_getElem hal']
              simp [rd, List.getD_eq_getElem?_getD, List.getElem?_eq_getElem hal']
              by_cases h : acc[acc.length - 1] = x <;> simp [h]
            · rw [if_neg hal]
              refine hfin _ ?_
              have : acc = [] := List.eq_nil_of_length_eq_zero (by omega)
              simp [this]
          · rw [if_neg hg, if_neg hg]
            obtain ⟨e, he⟩ : ∃ e, (gI 0 0 false (b.drop (used + c))).2.2 = e := ⟨_, rfl⟩
            rw [he] at hg ⊢
            rw [column_GetRuns.j4]
            simp only [Bool.false_eq_true, if_false]
            rw [column_GetRuns.j5, if_neg hg]
    · rw [if_neg hf, if_neg hf]
/-- column.GetRuns. -/
def getRuns (b : List Int) (most : Int) : List Int × Int × Int :=
  if (gU 0 0 b).2.2 = 0 then
    if (gU 0 0 b).1 > mx 0 (mn most 65536) then ([], 0, 5) else gR (mx 0 (mn most 65536)).toNat (gU 0 0 b).1.toNat [] (gU 0 0 b).2.1.toNat (b.drop (gU 0 0 b).2.1.toNat)
  else ([], 0, (gU 0 0 b).2.2)
theorem getRuns_f {k : Nat} (hk : 800000 ≤ k) {b : List Int} (hb : ∀ x ∈ b, isByte x) (hbl : b.length ≤ 140737488351232) (most : Int) : column_GetRuns.f k b most = some (getRuns b most) := by
  have hmm : 0 ≤ mx 0 (mn most 65536) ∧ mx 0 (mn most 65536) ≤ 65536 := by simp only [mx, mn]; omega
  obtain ⟨m, hm⟩ : ∃ m : Nat, mx 0 (mn most 65536) = (m : Int) := ⟨_, (Int.toNat_of_nonneg hmm.1).symm⟩
  unfold column_GetRuns.f column_bounded.f getRuns
  simp only [Option.bind_some, hm, Int.toNat_natCast]
  rw [hm] at hmm
  clear hm
  rw [getU_f (by omega) hb, show IntKind.u64.wrap ((m : Int)) = (m : Int) by rw [IntKind.wrap_u64]; omega]
  simp only [Option.bind_some]
  obtain ⟨k, rfl⟩ : ∃ k', k = k' + 4 := ⟨k - 4, by omega⟩
  by_cases hf : (gU 0 0 b).2.2 = 0
  · obtain ⟨v, c, hv, hv64, hc0, hcl, hc10, hbv, hpl⟩ := gU_rng hb hf
    simp only [hv, if_true, Int.toNat_natCast]
    rw [column_GetRuns.j0]
    by_cases hvm : (v : Int) > (m : Int)
    · rw [if_pos (by simpa using hvm), column_GetRuns.j1, column_GetRuns.l0, if_neg (by omega), column_GetRuns.j3, if_neg (by simp), if_neg (by omega), if_pos hvm]
    · rw [if_neg (by simpa using hvm), column_GetRuns.j1, if_neg hvm]
      exact runs_l0 b hb hbl m (by omega) v (k + 2) [] c (by omega) (by simp) (by omega) (by simp; omega)
  · rw [if_neg hf, if_neg hf, column_GetRuns.j0, if_neg (by simp), column_GetRuns.j1, column_GetRuns.l0, if_neg hf, column_GetRuns.j3, if_neg (by simp), if_neg hf]
end Go.Proofs.Ytcffooeiennmjaa.ColT
namespace Go.Proofs.Ytcffooeiennmjaa.ColT
open Go Go.RowKit Go.Proofs.Ytcffooeiennmjaa.PA Go.Proofs.YtcffooeiennmjaaW.PrintWords Go.Proofs.YtcffooeiennmjaaW.PrintLast Go.Proofs.YtcffooeiennmjaaW.PrintMore Go.Proofs.Ytcffooeiennmjaa.LebT Go.Proofs.Ytcffooeiennmjaa.LebP
/-- The running sums behind a. -/
def sums : Int → List Int → List Int
  | _, [] => []
  | a, x :: r => wrap64 (x + a) :: sums (wrap64 (x + a)) r
def sums0 : List Int → List Int
  | [] => []
  | x :: r => x :: sums x r
theorem deltas_l0 (u e : Int) (r : List Int) : ∀ (k : Nat) (pre : List Int) (a : Int), r.length < k → pre.length + r.length < 4611686018427387900 →
    column_GetDeltas.l0 k (pre ++ a :: r) u e ((pre.length + 1 : Nat) : Int) = some (pre ++ a :: sums a r, u, e) := by
  induction r with
  | nil =>
    intro k pre a hk hl
    obtain ⟨k, rfl⟩ : ∃ k', k = k' + 1 := ⟨k - 1, by simp at hk; omega⟩
    rw [column_GetDeltas.l0, if_neg (by simp)]
    simp [sums]
  | cons y t ih =>
    intro k pre a hk hl
    simp only [List.length_cons] at hk hl
    obtain ⟨k, rfl⟩ : ∃ k', k = k' + 1 := ⟨k - 1, by omega⟩
    have e1 : rd (pre ++ a :: y :: t) ((pre.length + 1 : Nat) : Int) = y := by simp [rd, List.getD_eq_getElem?_getD]
    have e2 : rd (pre ++ a :: y :: t) ((pre.length : Nat) : Int) = a := by simp [rd, List.getD_eq_getElem?_getD]
    have h1 : ((pre.length + 1 : Nat) : Int) < ((pre ++ a :: y :: t).length : Int) := by simp; omega
    have h2 : (0 : Int) ≤ ((pre.length + 1 : Nat) : Int) := Int.natCast_nonneg _
    have h3 : (0 : Int) ≤ ((pre.length : Nat) : Int) := Int.natCast_nonneg _
    have h4 : ((pre.length : Nat) : Int) < ((pre ++ a :: y :: t).length : Int) := by simp; omega
    have es : (pre ++ a :: y :: t).set (pre.length + 1) (wrap64 (y + a)) = (pre ++ [a]) ++ wrap64 (y + a) :: t := by
      rw [List.set_append_right _ _ (by omega)]
      simp
    have hi := ih k (pre ++ [a]) (wrap64 (y + a)) (by omega) (by simp; omega)
    rw [List.length_append, List.length_singleton] at hi
    rw [column_GetDeltas.l0, if_pos h1, if_pos h2, show wrap64 (((pre.length + 1 : Nat) : Int) - 1) = ((pre.length : Nat) : Int) from (w64p (pre.length + 1) (by omega) (by omega)), if_pos h3, if_pos h4, e1, e2, Int.toNat_natCast, es]
    rw [show wrap64 (((pre.length + 1 : Nat) : Int) + 1) = ((pre.length + 1 + 1 : Nat) : Int) from w64a (pre.length + 1) 1 (by omega), hi]
    simp [sums]
theorem deltas0 (u e : Int) (l : List Int) (k : Nat) (hk : l.length < k) (hl : l.length < 4611686018427387900) : column_GetDeltas.l0 k l u e 1 = some (sums0 l, u, e) := by
  cases l with
  | nil =>
    obtain ⟨k, rfl⟩ : ∃ k', k = k' + 1 := ⟨k - 1, by simp at hk; omega⟩
    rw [column_GetDeltas.l0, if_neg (by simp)]; rfl
  | cons a r => exact deltas_l0 u e r k [] a (by simp at hk; omega) (by simp at hl ⊢; omega)
theorem same_l0 (l : List Int) (hl : l.length < 4611686018427387900) (d : Nat) : ∀ (k i : Nat), i + d = l.length → d < k → stemmaref03_Same.l0 k l l (i : Int) = some true := by
  induction d with
  | zero =>
    intro k i hi hk
    obtain ⟨k, rfl⟩ : ∃ k', k = k' + 1 := ⟨k - 1, by omega⟩
    rw [stemmaref03_Same.l0, if_neg (by omega)]
  | succ d ih =>
    intro k i hi hk
    obtain ⟨k, rfl⟩ : ∃ k', k = k' + 1 := ⟨k - 1, by omega⟩
    have h1 : (i : Int) < (l.length : Int) := by omega
    have h2 : (0 : Int) ≤ (i : Int) := Int.natCast_nonneg _
    rw [stemmaref03_Same.l0, if_pos h1, if_pos h2, if_pos h1, if_pos rfl, show wrap64 ((i : Int) + 1) = ((i + 1 : Nat) : Int) from w64a i 1 (by omega)]
    exact ih k (i + 1) (by omega) (by omega)
theorem same_f {k : Nat} (l : List Int) (hk : l.length < k) (hl : l.length < 4611686018427387900) : stemmaref03_Same.f k l l = some true := by
  unfold stemmaref03_Same.f
  rw [if_pos rfl]
  exact same_l0 l hl l.length k 0 (by omega) hk
theorem gR_len (most : Nat) : ∀ (n : Nat) (acc : List Int) (used : Nat) (b : List Int), acc.length ≤ most → (gR most n acc used b).1.length ≤ most
  | 0, acc, used, b, h => h
  | n + 1, acc, used, b, h => by
    rw [gR]
    split
    · split
      · simp
      · split
        · simp
        · split
          · split
            · simp
            · rename_i h2 _ _
              exact gR_len most n _ _ _ (by rw [List.length_append, List.length_replicate]; omega)
          · simp
    · simp
theorem getRuns_len (b : List Int) (most : Int) : (getRuns b most).1.length ≤ 65536 := by
  unfold getRuns
  have hmm : 0 ≤ mx 0 (mn most 65536) ∧ mx 0 (mn most 65536) ≤ 65536 := by simp only [mx, mn]; omega
  split
  · split
    · simp
    · exact Nat.le_trans (gR_len _ _ _ _ _ (by simp)) (by omega)
  · simp
theorem getDeltas_f {k : Nat} (hk : 800000 ≤ k) {b : List Int} (hb : ∀ x ∈ b, isByte x) (hbl : b.length ≤ 140737488351232) (most : Int) : column_GetDeltas.f k b most = some (sums0 (getRuns b most).1, (getRuns b most).2.1, (getRuns b most).2.2) := by
  unfold column_GetDeltas.f
  rw [getRuns_f hk hb hbl]
  simp only [Option.bind_some]
  have := getRuns_len b most
  exact deltas0 _ _ _ k (by omega) (by omega)
theorem awake03 {k : Nat} (hk : 800000 ≤ k) : stemmalaw03_awake.f k = some true := by
  unfold stemmalaw03_awake.f
  rw [getDeltas_f hk (by intro x hx; simp at hx; unfold isByte; omega) (by simp)]
  have e1 : getRuns [1, 3, 1] 9 = ([1, 1, 1], 3, 0) := by decide +kernel
  have e2 : sums0 [1, 1, 1] = [1, 2, 3] := by decide +kernel
  have e3 : column_Runs.f [5, 5, 5, -1] = some [2, 3, 5, 1, 127] := by
    unfold column_Runs.f
    rw [if_pos (by decide +kernel)]
    simp [ColS.runs, ColS.st, ColS.flat, putU_small, putI_small]
  have e4 : column_Flags.f [true, true, false] = some [3, 0, 2, 1] := by
    unfold column_Flags.f
    rw [if_pos (by decide +kernel)]
    simp [ColS.flags, ColS.st, ColS.flatB, putU_small]
  rw [e3, e4]
  simp only [Option.bind_some, e1, e2]
  rw [if_pos (by decide +kernel), same_f _ (by simp; omega) (by simp)]
  simp only [Option.bind_some, if_true]
  rw [if_pos (by decide +kernel)]
end Go.Proofs.Ytcffooeiennmjaa.ColT
