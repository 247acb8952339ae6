/- column.GetFlags, plainly. -/
import Derived.Test.YtcffooeiennmjaaColH
import Derived.Test.YtcffooeiennmjaaPAx44
set_option linter.unusedVariables false
set_option linter.unusedSimpArgs false
namespace Go.Proofs.Ytcffooeiennmjaa.ColT
open Go Go.RowKit Go.Proofs.Ytcffooeiennmjaa.PA Go.Proofs.YtcffooeiennmjaaW.PrintWords Go.Proofs.YtcffooeiennmjaaW.PrintLast Go.Proofs.YtcffooeiennmjaaW.PrintMore Go.Proofs.Ytcffooeiennmjaa.LebT Go.Proofs.Ytcffooeiennmjaa.LebP
/-- n stretches of truths taken off b, the i-th one next, N in all. -/
def gF (most N : Nat) : Nat → Nat → List Bool → Nat → List Int → List Bool × Int × Int
  | 0, _, acc, used, _ => (acc, (used : Int), 0)
  | n + 1, i, acc, used, b =>
    if (gU 0 0 b).2.2 = 0 then
      if (gU 0 0 b).1 = 0 ∧ (0 < i ∨ N = 1) then ([], 0, 4)
      else if (gU 0 0 b).1 > ((most - acc.length : Nat) : Int) then ([], 0, 5)
      else gF most N n (i + 1) (acc ++ List.replicate (gU 0 0 b).1.toNat (decide (i % 2 = 1))) (used + (gU 0 0 b).2.1.toNat) (b.drop (gU 0 0 b).2.1.toNat)
    else ([], 0, (gU 0 0 b).2.2)
theorem and1 (i : Nat) (h : i < 18446744073709551616) : (Go.bits .and .u64 (i : Int) 1 == 1) = decide (i % 2 = 1) := by
  have := u64_and_nat i 1 h (by omega)
  rw [show ((1 : Nat) : Int) = 1 from rfl] at this
  rw [this, Nat.and_one_is_mod]
  by_cases h2 : i % 2 = 1
  · simp [h2]
  · simp [show i % 2 = 0 by omega]
theorem flags_l1 (x0 : List Int) (x1 x5 x7 x10 x30 x31 : Int) (q : Nat) (hq : q < 18446744073709551616) (many : Nat) (hm : many ≤ 65536) (d : Nat) : ∀ (k i : Nat) (acc : List Bool), i + d = many → acc.length + d ≤ 65536 →
    column_GetFlags.l1 (k + d + 1) x0 x1 acc x5 x7 (q : Int) x10 x30 x31 (many : Int) (i : Int) = column_GetFlags.l0 k x0 x1 (acc ++ List.replicate d (decide (q % 2 = 1))) (wrap64 (x5 + x10)) x7 x30 (IntKind.u64.wrap (x31 + 1)) := by
  induction d with
  | zero =>
    intro k i acc hi ha
    rw [column_GetFlags.l1, if_neg (by omega)]
    simp
  | succ d ih =>
    intro k i acc hi ha
    rw [column_GetFlags.l1, if_pos (by omega), if_pos (by omega), and1 q hq]
    rw [show IntKind.u64.wrap ((i : Int) + 1) = ((i + 1 : Nat) : Int) from u64a i (by omega)]
    rw [show k + (d + 1) = k + d + 1 by omega, ih k (i + 1) _ (by omega) (by simp; omega)]
    rw [List.append_assoc, List.replicate_succ, List.singleton_append]
theorem flags_l0 (b : List Int) (hb : ∀ x ∈ b, isByte x) (hbl : b.length ≤ 140737488351232) (most : Nat) (hmost : most ≤ 65536) (N : Nat) (hN : N ≤ 65537) (n : Nat) : ∀ (k : Nat) (acc : List Bool) (used i : Nat), i + n = N → acc.length ≤ most → used ≤ b.length → 10 * n + (most - acc.length) + 50 ≤ k →
    column_GetFlags.l0 k b (most : Int) acc (used : Int) (N : Int) (N : Int) (i : Int) = some (gF most N n i acc used (b.drop used)) := by
  induction n with
  | zero =>
    intro k acc used i hn ha hu hk
    obtain ⟨k, rfl⟩ : ∃ k', k = k' + 1 := ⟨k - 1, by omega⟩
    rw [column_GetFlags.l0, if_neg (by omega)]
    simp [gF]
  | succ n ih =>
    intro k acc used i hn ha hu hk
    obtain ⟨k, rfl⟩ : ∃ k', k = k' + 3 := ⟨k - 3, by omega⟩
    have hbu := drop_byte hb used
    have hin : (i : Int) < (N : Int) := by omega
    have hu1 : (0 : Int) ≤ (used : Int) := Int.natCast_nonneg _
    have hu2 : (used : Int) ≤ (b.length : Int) := by omega
    rw [column_GetFlags.l0, if_pos hin, if_pos hu1, if_pos hu2, Int.toNat_natCast, getU_f (by omega) hbu, gF]
    simp only [Option.bind_some]
    by_cases hf : (gU 0 0 (b.drop used)).2.2 = 0
    · obtain ⟨v, c, hv, hv64, hc0, hcl, hc10, hbv, hpl⟩ := gU_rng hbu hf
      rw [List.length_drop] at hcl
      simp only [hv, Int.toNat_natCast, if_true, List.drop_drop]
      have hfin : ∀ q : Bool, q = decide ((v : Int) = 0 ∧ (0 < i ∨ N = 1)) → column_GetFlags.j1 (k + 2) b (most : Int) acc (used : Int) (N : Int) (i : Int) (v : Int) (c : Int) (N : Int) (i : Int) q = some (if (v : Int) = 0 ∧ (0 < i ∨ N = 1) then ([], 0, 4) else if (v : Int) > ((most - acc.length : Nat) : Int) then ([], 0, 5) else gF most N n (i + 1) (acc ++ List.replicate v (decide (i % 2 = 1))) (used + c) (b.drop (used + c))) := by
        intro q hq
        subst hq
        rw [column_GetFlags.j1, w64s most acc.length ha (by omega), u64n (most - acc.length) (by omega)]
        by_cases hz : (v : Int) = 0 ∧ (0 < i ∨ N = 1)
        · rw [if_pos (by simpa using hz), if_pos hz]
        · rw [if_neg (by simpa using hz), if_neg hz]
          by_cases hvm : (v : Int) > ((most - acc.length : Nat) : Int)
          · rw [if_pos hvm, if_pos hvm]
          · rw [if_neg hvm, if_neg hvm]
            obtain ⟨k2, rfl⟩ : ∃ k2, k = k2 + v := ⟨k - v, by omega⟩
            have h1 := flags_l1 b (most : Int) (used : Int) (N : Int) (c : Int) (N : Int) (i : Int) i (by omega) v (by omega) v k2 0 acc (by omega) (by omega)
            rw [show ((0 : Nat) : Int) = 0 from rfl] at h1
            have h2 := flags_l1 b (most : Int) (used : Int) (N : Int) (c : Int) (N : Int) (i : Int) i (by omega) v (by omega) v (k2 + 1) 0 acc (by omega) (by omega)
            rw [show ((0 : Nat) : Int) = 0 from rfl] at h2
            rw [show k2 + v + 1 = k2 + v + 1 from rfl, h1]
            clear h1 h2
            rw [w64a used c (by omega), u64a i (by omega)]
            rw [ih k2 _ (used + c) (i + 1) (by omega) (by rw [List.length_append, List.length_replicate]; omega) (by omega) (by rw [List.length_append, List.length_replicate]; omega)]
      by_cases hv0 : (v : Int) = 0
      · rw [if_pos hv0]
        by_cases hi0 : (i : Int) > 0
        · rw [if_pos hi0]
          exact hfin _ (by simp [hv0]; omega)
        · rw [if_neg hi0]
          refine hfin _ ?_
          have hii : i = 0 := by omega
          subst hii
          simp only [hv0, true_and]
          by_cases h1 : N = 1
          · subst h1; simp
          · have : ¬ ((N : Int) = 1) := by omega
            simp [h1, this]
      · rw [if_neg hv0]
        exact hfin _ (decide_eq_false (fun h => hv0 h.1)).symm
    · rw [if_neg hf, if_neg hf]
/-- GetFlags. -/
def getFlags (b : List Int) (most : Int) : List Bool × Int × Int :=
  if (gU 0 0 b).2.2 = 0 then
    if (gU 0 0 b).1 > mx 0 (mn most 65536) + 1 then ([], 0, 5) else gF (mx 0 (mn most 65536)).toNat (gU 0 0 b).1.toNat (gU 0 0 b).1.toNat 0 [] (gU 0 0 b).2.1.toNat (b.drop (gU 0 0 b).2.1.toNat)
  else ([], 0, (gU 0 0 b).2.2)
theorem getFlags_f {k : Nat} (hk : 800000 ≤ k) {b : List Int} (hb : ∀ x ∈ b, isByte x) (hbl : b.length ≤ 140737488351232) (most : Int) : column_GetFlags.f k b most = some (getFlags b most) := by
  have hmm : 0 ≤ mx 0 (mn most 65536) ∧ mx 0 (mn most 65536) ≤ 65536 := by simp only [mx, mn]; omega
  obtain ⟨m, hm⟩ : ∃ m : Nat, mx 0 (mn most 65536) = (m : Int) := ⟨_, (Int.toNat_of_nonneg hmm.1).symm⟩
  unfold column_GetFlags.f column_bounded.f getFlags
  simp only [Option.bind_some, hm, Int.toNat_natCast]
  rw [hm] at hmm
  clear hm
  rw [getU_f (by omega) hb, u64n m (by omega), u64a m (by omega)]
  simp only [Option.bind_some]
  by_cases hf : (gU 0 0 b).2.2 = 0
  · obtain ⟨v, c, hv, hv64, hc0, hcl, hc10, hbv, hpl⟩ := gU_rng hb hf
    simp only [hv, if_true, Int.toNat_natCast]
    by_cases hvm : (v : Int) > (m : Int) + 1
    · rw [if_pos (by omega), if_pos hvm]
    · rw [if_neg (by omega), if_neg hvm]
      have := flags_l0 b hb hbl m (by omega) v (by omega) v k [] c 0 (by omega) (by simp) (by omega) (by simp; omega)
      exact this
  · rw [if_neg hf, if_neg hf]
theorem gF_len (most N : Nat) : ∀ (n i : Nat) (acc : List Bool) (used : Nat) (b : List Int), acc.length ≤ most → (gF most N n i acc used b).1.length ≤ most
  | 0, i, acc, used, b, h => h
  | n + 1, i, acc, used, b, h => by
    rw [gF]
    split
    · split
      · simp
      · split
        · simp
        · exact gF_len most N n _ _ _ _ (by rw [List.length_append, List.length_replicate]; omega)
    · simp
theorem getFlags_len (b : List Int) (most : Int) : (getFlags b most).1.length ≤ 65536 := by
  unfold getFlags
  have hmm : 0 ≤ mx 0 (mn most 65536) ∧ mx 0 (mn most 65536) ≤ 65536 := by simp only [mx, mn]; omega
  split
  · split
    · simp
    · exact Nat.le_trans (gF_len _ _ _ _ _ _ _ (by simp)) (by omega)
  · simp
end Go.Proofs.Ytcffooeiennmjaa.ColT
