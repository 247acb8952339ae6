/- The reference's GetRuns and GetDeltas, plainly; the law. -/
import Derived.Test.YtcffooeiennmjaaColRG
import Derived.Test.YtcffooeiennmjaaColH
import Derived.Test.YtcffooeiennmjaaPAx26
import Derived.Test.YtcffooeiennmjaaPAx28
import Derived.Test.YtcffooeiennmjaaPAx7
set_option linter.unusedVariables false
set_option linter.unusedSimpArgs false
namespace Go.Proofs.Ytcffooeiennmjaa.ColT
open Go Go.RowKit Go.Proofs.Ytcffooeiennmjaa.PA Go.Proofs.YtcffooeiennmjaaW.PrintWords Go.Proofs.YtcffooeiennmjaaW.PrintLast Go.Proofs.YtcffooeiennmjaaW.PrintMore Go.Proofs.Ytcffooeiennmjaa.LebT Go.Proofs.Ytcffooeiennmjaa.LebP
theorem rruns_l1 (x0 : List Int) (x1 x7 x8 x11 x13 v x16 : Int) (many : Nat) (hm : many ≤ 65536) (d : Nat) : ∀ (k i : Nat) (acc : List Int), i + d = many → acc.length + d ≤ 65536 →
    stemmaref03_GetRuns.l1 (k + d + 1) x0 x1 x7 x8 acc x11 (many : Int) x13 v x16 (i : Int) = stemmaref03_GetRuns.l0 k x0 x1 x7 (wrap64 ((wrap64 (x8 + x13)) + x16)) (acc ++ List.replicate d v) (IntKind.u64.wrap (x11 + 1)) := by
  induction d with
  | zero =>
    intro k i acc hi ha
    rw [stemmaref03_GetRuns.l1, if_neg (by omega)]
    simp
  | succ d ih =>
    intro k i acc hi ha
    rw [stemmaref03_GetRuns.l1, if_pos (by omega), if_pos (by omega)]
    rw [show IntKind.u64.wrap ((i : Int) + 1) = ((i + 1 : Nat) : Int) from u64a i (by omega)]
    rw [show k + (d + 1) = k + d + 1 by omega, ih k (i + 1) (acc ++ [v]) (by omega) (by simp; omega)]
    rw [List.append_assoc, List.replicate_succ, List.singleton_append]
theorem rruns_l0 (b : List Int) (hb : ∀ x ∈ b, isByte x) (hbl : b.length ≤ 140737488351232) (most : Nat) (hmost : most ≤ 65536) (N : Nat) (hN : N ≤ 65536) (n : Nat) : ∀ (k : Nat) (acc : List Int) (used i : Nat), i + n = N → acc.length ≤ most → used ≤ b.length → 10 * n + (most - acc.length) + 50 ≤ k →
    stemmaref03_GetRuns.l0 k b (most : Int) (N : Int) (used : Int) acc (i : Int) = some (gR most n acc used (b.drop used)) := by
  induction n with
  | zero =>
    intro k acc used i hn ha hu hk
    obtain ⟨k, rfl⟩ : ∃ k', k = k' + 1 := ⟨k - 1, by omega⟩
    rw [stemmaref03_GetRuns.l0, if_neg (by omega)]
    simp [gR]
  | succ n ih =>
    intro k acc used i hn ha hu hk
    obtain ⟨k, rfl⟩ : ∃ k', k = k' + 3 := ⟨k - 3, by omega⟩
    have hbu := drop_byte hb used
    have hin : (i : Int) < (N : Int) := by omega
    have hu1 : (0 : Int) ≤ (used : Int) := Int.natCast_nonneg _
    have hu2 : (used : Int) ≤ (b.length : Int) := by omega
    rw [stemmaref03_GetRuns.l0, if_pos hin, if_pos hu1, if_pos hu2, Int.toNat_natCast, rgetU_f (by omega) hbu, gR, w64s most acc.length ha (by omega), u64n (most - acc.length) (by omega)]
    simp only [Option.bind_some]
    by_cases hf : (gU 0 0 (b.drop used)).2.2 = 0
    · obtain ⟨v, c, hv, hv64, hc0, hcl, hc10, hbv, hpl⟩ := gU_rng hbu hf
      rw [List.length_drop] at hcl
      simp only [hv, Int.toNat_natCast, if_true, List.drop_drop]
      by_cases hv0 : (v : Int) = 0
      · rw [if_pos hv0, if_pos hv0]
      · rw [if_neg hv0, if_neg hv0]
        by_cases hvm : (v : Int) > ((most - acc.length : Nat) : Int)
        · rw [if_pos hvm, if_pos hvm]
        · rw [if_neg hvm, if_neg hvm]
          rw [w64a used c (by omega)]
          have hbc := drop_byte hb (used + c)
          have hq1 : (0 : Int) ≤ ((used + c : Nat) : Int) := Int.natCast_nonneg _
          have hq2 : ((used + c : Nat) : Int) ≤ (b.length : Int) := by omega
          have hgi : stemmaref02_GetInt.f (k + 2) (b.drop (used + c)) = some (gI 0 0 false (b.drop (used + c))) := rgetI_f (by omega) hbc
          rw [if_pos hq1, if_pos hq2, Int.toNat_natCast]
          rw [hgi]
          simp only [Option.bind_some]
          by_cases hg : (gI 0 0 false (b.drop (used + c))).2.2 = 0
          · obtain ⟨x, j, hx, hx1, hx2, hj0, hjl, hj10, hbx, hpx⟩ := gI_rng hbc hg
            rw [List.length_drop] at hjl
            simp only [hx, if_true, Int.toNat_natCast]
            have hfin : ∀ q : Bool, q = decide (acc.getLast? = some x) → stemmaref03_GetRuns.j1 (k + 2) b (most : Int) (N : Int) (used : Int) acc (i : Int) (v : Int) (c : Int) x (j : Int) q = some (if acc.getLast? = some x then ([], 0, 4) else gR most n (acc ++ List.replicate v x) (used + c + j) (b.drop (used + (c + j)))) := by
              intro q hq
              subst hq
              rw [stemmaref03_GetRuns.j1]
              by_cases hl : acc.getLast? = some x
              · rw [if_pos (by simpa using hl), if_pos hl]
              · rw [if_neg (by simpa using hl), if_neg hl]
                obtain ⟨k2, rfl⟩ : ∃ k2, k = k2 + v := ⟨k - v, by omega⟩
                have h1 := rruns_l1 b (most : Int) (N : Int) (used : Int) (i : Int) (c : Int) x (j : Int) v (by omega) v k2 0 acc (by omega) (by omega)
                rw [show ((0 : Nat) : Int) = 0 from rfl] at h1
                rw [h1]
                clear h1
                rw [w64a used c (by omega), w64a (used + c) j (by omega), u64a i (by omega), ← Nat.add_assoc used c j]
                rw [ih k2 (acc ++ List.replicate v x) (used + c + j) (i + 1) (by omega) (by rw [List.length_append, List.length_replicate]; omega) (by omega) (by rw [List.length_append, List.length_replicate]; omega)]
            by_cases hal : (acc.length : Int) > 0
            · rw [if_pos hal, w64p acc.length (by omega) (by omega), if_pos (by omega), if_pos (by omega)]
              refine hfin _ ?_
              have hal' : acc.length - 1 < acc.length := by omega
              rw [List.getLast?_eq_getElem?, List.getElem?_eq_getElem hal']
              simp [rd, List.getD_eq_getElem?_getD, List.getElem?_eq_getElem hal']
              by_cases h : acc[acc.length - 1] = x <;> simp [h]
            · rw [if_neg hal]
              refine hfin _ ?_
              have : acc = [] := List.eq_nil_of_length_eq_zero (by omega)
              simp [this]
          · rw [if_neg hg, if_neg hg]
    · rw [if_neg hf, if_neg hf]
theorem rgetRuns_f {k : Nat} (hk : 800000 ≤ k) {b : List Int} (hb : ∀ x ∈ b, isByte x) (hbl : b.length ≤ 140737488351232) (most : Int) : stemmaref03_GetRuns.f k b most = some (getRuns b most) := by
  have hmm : 0 ≤ mx 0 (mn most 65536) ∧ mx 0 (mn most 65536) ≤ 65536 := by simp only [mx, mn]; omega
  obtain ⟨m, hm⟩ : ∃ m : Nat, mx 0 (mn most 65536) = (m : Int) := ⟨_, (Int.toNat_of_nonneg hmm.1).symm⟩
  unfold stemmaref03_GetRuns.f stemmaref03_bounded.f getRuns
  simp only [Option.bind_some, hm, Int.toNat_natCast]
  rw [hm] at hmm
  clear hm
  rw [rgetU_f (by omega) hb, u64n m (by omega)]
  simp only [Option.bind_some]
  by_cases hf : (gU 0 0 b).2.2 = 0
  · obtain ⟨v, c, hv, hv64, hc0, hcl, hc10, hbv, hpl⟩ := gU_rng hb hf
    simp only [hv, if_true, Int.toNat_natCast]
    by_cases hvm : (v : Int) > (m : Int)
    · rw [if_pos hvm, if_pos hvm]
    · rw [if_neg hvm, if_neg hvm]
      have := rruns_l0 b hb hbl m (by omega) v (by omega) v k [] c 0 (by omega) (by simp) (by omega) (by simp; omega)
      exact this
  · rw [if_neg hf, if_neg hf]
/-- Running sums, all the numbers being within 64 bits. -/
theorem rdeltas_l0 (x7 : List Int) (u e : Int) (hl : x7.length ≤ 65536) (d : Nat) : ∀ (k i : Nat) (acc : List Int) (last : Int), i + d = x7.length → acc.length = i → d < k →
    stemmaref03_GetDeltas.l0 k x7 u e acc last (i : Int) = some (acc ++ sums last (x7.drop i), u, e) := by
  induction d with
  | zero =>
    intro k i acc last hi ha hk
    obtain ⟨k, rfl⟩ : ∃ k', k = k' + 1 := ⟨k - 1, by omega⟩
    rw [stemmaref03_GetDeltas.l0, if_neg (by omega), List.drop_of_length_le (by omega)]
    simp [sums]
  | succ d ih =>
    intro k i acc last hi ha hk
    obtain ⟨k, rfl⟩ : ∃ k', k = k' + 1 := ⟨k - 1, by omega⟩
    have h1 : (i : Int) < (x7.length : Int) := by omega
    have hd := rd_drop x7 i (by omega)
    rw [stemmaref03_GetDeltas.l0, if_pos h1, if_pos (Int.natCast_nonneg _), if_pos (by omega), show wrap64 ((i : Int) + 1) = ((i + 1 : Nat) : Int) from w64a i 1 (by omega)]
    rw [ih k (i + 1) _ _ (by omega) (by simp [ha]) (by omega), hd, sums, Int.add_comm last]
    simp
theorem gR_vals (most : Nat) : ∀ (n : Nat) (acc : List Int) (used : Nat) (b : List Int), (∀ x ∈ b, isByte x) → (∀ x ∈ acc, -9223372036854775808 ≤ x ∧ x < 9223372036854775808) → ∀ x ∈ (gR most n acc used b).1, -9223372036854775808 ≤ x ∧ x < 9223372036854775808
  | 0, acc, used, b, _, h => h
  | n + 1, acc, used, b, hb, h => by
    rw [gR]
    split
    · split
      · simp
      · split
        · simp
        · split
          · rename_i hg
            obtain ⟨x, j, hx, hx1, hx2, _⟩ := gI_rng (drop_byte hb _) hg
            split
            · simp
            · refine gR_vals most n _ _ _ (drop_byte hb _) (fun y hy => ?_)
              rcases List.mem_append.1 hy with hy | hy
              · exact h y hy
              · have := (List.mem_replicate.1 hy).2
                rw [this, hx]
                exact ⟨hx1, hx2⟩
          · simp
    · simp
theorem getRuns_vals (b : List Int) (hb : ∀ x ∈ b, isByte x) (most : Int) : ∀ x ∈ (getRuns b most).1, -9223372036854775808 ≤ x ∧ x < 9223372036854775808 := by
  unfold getRuns
  split
  · split
    · simp
    · exact gR_vals _ _ _ _ _ (drop_byte hb _) (by simp)
  · simp
theorem sums_sums0 (l : List Int) (h : ∀ x ∈ l, -9223372036854775808 ≤ x ∧ x < 9223372036854775808) : sums 0 l = sums0 l := by
  cases l with
  | nil => rfl
  | cons x r =>
    have hx := h x (by simp)
    rw [sums, sums0, show wrap64 (x + 0) = x by unfold wrap64; omega]
theorem rgetDeltas_f {k : Nat} (hk : 800000 ≤ k) {b : List Int} (hb : ∀ x ∈ b, isByte x) (hbl : b.length ≤ 140737488351232) (most : Int) : stemmaref03_GetDeltas.f k b most = some (sums0 (getRuns b most).1, (getRuns b most).2.1, (getRuns b most).2.2) := by
  unfold stemmaref03_GetDeltas.f
  rw [rgetRuns_f hk hb hbl]
  simp only [Option.bind_some]
  have hl := getRuns_len b most
  have := rdeltas_l0 (getRuns b most).1 (getRuns b most).2.1 (getRuns b most).2.2 hl (getRuns b most).1.length k 0 [] 0 (by omega) rfl (by omega)
  rw [show ((0 : Nat) : Int) = 0 from rfl] at this
  rw [this, List.nil_append, List.drop_zero, sums_sums0 _ (getRuns_vals b hb most)]
theorem sums_length : ∀ (a : Int) (l : List Int), (sums a l).length = l.length
  | _, [] => rfl
  | a, x :: r => by simp [sums, sums_length _ r]
theorem sums0_length : ∀ l : List Int, (sums0 l).length = l.length
  | [] => rfl
  | x :: r => by simp [sums0, sums_length]
end Go.Proofs.Ytcffooeiennmjaa.ColT
namespace Go.Proofs.Ytcffooeiennmjaa.Pure
open Go.RowKit Go.Proofs.Ytcffooeiennmjaa.PA Go.Proofs.YtcffooeiennmjaaW.PrintWords Go.Proofs.YtcffooeiennmjaaW.PrintLast Go.Proofs.Ytcffooeiennmjaa.ColT
theorem ColumnGets : stemmalaw03_ColumnGets.Pure := by
  intro b most _ hbl hb8 hm
  have hb : ∀ x ∈ b, LebT.isByte x := fun x hx => LebP.wf_u8 (hb8 x hx)
  refine ⟨800000, ?_⟩
  have hlr := getRuns_len b most
  have hls : (sums0 (getRuns b most).1).length ≤ 65536 := by rw [sums0_length]; exact hlr
  unfold stemmalaw03_ColumnGets.f
  simp only [Option.bind_some, List.nil_append, List.length_nil, Nat.zero_add]
  rw [if_pos (by omega), getRuns_f (by omega) hb (by omega), rgetRuns_f (by omega) hb (by omega), getDeltas_f (by omega) hb (by omega), rgetDeltas_f (by omega) hb (by omega)]
  simp only [Option.bind_some]
  rw [same_f _ (by omega) (by omega)]
  simp only [Option.bind_some, if_true]
  rw [same_f _ (by omega) (by omega), awake03 (by omega)]
  simp
end Go.Proofs.Ytcffooeiennmjaa.Pure
