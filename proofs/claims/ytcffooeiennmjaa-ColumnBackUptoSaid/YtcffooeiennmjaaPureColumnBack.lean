/- Numbers that are laid are taken off as they were; if they are more than is asked for, that is told. -/
import Derived.Test.YtcffooeiennmjaaColE
import Derived.Test.YtcffooeiennmjaaPAx10
set_option linter.unusedVariables false
set_option linter.unusedSimpArgs false
namespace Go.Proofs.Ytcffooeiennmjaa.ColT
open Go Go.RowKit Go.Proofs.Ytcffooeiennmjaa.PA Go.Proofs.YtcffooeiennmjaaW.PrintWords Go.Proofs.YtcffooeiennmjaaW.PrintLast Go.Proofs.YtcffooeiennmjaaW.PrintMore Go.Proofs.Ytcffooeiennmjaa.LebT Go.Proofs.Ytcffooeiennmjaa.LebP Go.Proofs.Ytcffooeiennmjaa.ColS
theorem gR_long (most : Nat) (hmost : most ≤ 65536) (behind : List Int) : ∀ (ps : List (Int × Nat)) (acc : List Int) (used : Nat), (∀ p ∈ ps, -9223372036854775808 ≤ p.1 ∧ p.1 < 9223372036854775808) → (∀ p ∈ ps, p.2 < 18446744073709551616) → chain acc.getLast? ps → acc.length ≤ most → most < acc.length + (expand ps).length →
    (gR most ps.length acc used (flat ps ++ behind)).2.2 = 5
  | [], acc, used, _, _, _, h1, h2 => by simp [expand] at h2; omega
  | (v, n) :: r, acc, used, hw, hn, hc, hl, hl2 => by
    obtain ⟨hc1, hc2, hc3⟩ := hc
    have hv := hw (v, n) (by simp)
    have hn1 := hn (v, n) (by simp)
    have ef : flat ((v, n) :: r) = putU n ++ (putI v ++ flat r) := by simp [flat]
    have ee : expand ((v, n) :: r) = List.replicate n v ++ expand r := by simp [expand]
    rw [ee, List.length_append, List.length_replicate] at hl2
    have h1 : gU 0 0 (putU n ++ (putI v ++ (flat r ++ behind))) = ((n : Int), ((putU n).length : Int), 0) := gU0 n hn1 _
    have h2 : gI 0 0 false (putI v ++ (flat r ++ behind)) = (v, ((putI v).length : Int), 0) := gI0 v hv.1 hv.2 _
    have hn0 : ¬ ((n : Int) = 0) := by omega
    rw [List.length_cons, ef, List.append_assoc, List.append_assoc, gR, h1]
    simp only [if_true, Int.toNat_natCast, List.drop_left, h2]
    rw [if_neg hn0]
    by_cases hnm : (n : Int) > ((most - acc.length : Nat) : Int)
    · rw [if_pos hnm]
    · have ih := gR_long most hmost behind r (acc ++ List.replicate n v) (used + (putU n).length + (putI v).length) (fun p hp => hw p (by simp [hp])) (fun p hp => hn p (by simp [hp])) (by rw [getLast_rep _ _ _ hc2]; exact hc3) (by rw [List.length_append, List.length_replicate]; omega) (by rw [List.length_append, List.length_replicate]; omega)
      rw [if_neg hnm, if_neg hc1, ← List.drop_drop, List.drop_left, List.drop_left, ih]
theorem getRuns_long (d : List Int) (hw : ∀ x ∈ d, -9223372036854775808 ≤ x ∧ x < 9223372036854775808) (hd : d.length ≤ 4398046511104) (most : Int) (hm : (d.length : Int) > most ∨ d.length > 65536) (h0 : d.length ≠ 0) (behind : List Int) :
    (getRuns (runs d ++ behind) most).2.2 = 5 := by
  have hst := st_length d
  obtain ⟨m, hm2⟩ : ∃ m : Nat, mx 0 (mn most 65536) = (m : Int) := ⟨_, (Int.toNat_of_nonneg (by simp only [mx, mn]; omega)).symm⟩
  have hmm : m < d.length ∧ m ≤ 65536 := by
    have : mx 0 (mn most 65536) < (d.length : Int) ∧ mx 0 (mn most 65536) ≤ 65536 := by simp only [mx, mn]; omega
    omega
  have h1 : gU 0 0 (putU (st d).length ++ (flat (st d) ++ behind)) = (((st d).length : Int), ((putU (st d).length).length : Int), 0) := gU0 _ (by omega) _
  unfold getRuns
  rw [hm2]
  rw [show runs d ++ behind = putU (st d).length ++ (flat (st d) ++ behind) by simp [runs], h1]
  simp only [if_true, Int.toNat_natCast, List.drop_left]
  by_cases hc : (((st d).length : Nat) : Int) > (m : Int)
  · rw [if_pos hc]
  · rw [if_neg hc]
    exact gR_long m hmm.2 behind (st d) [] _ (fun p hp => hw _ (st_mem d p hp).1) (fun p hp => by have := (st_mem d p hp).2; omega) (st_chain d none (by simp)) (by simp) (by rw [expand_len]; simp; omega)
theorem sum_ones {α : Type} (l : List α) : (l.map (fun _ => 1)).sum = l.length := by
  induction l with
  | nil => rfl
  | cons x r ih => simp only [List.map_cons, List.sum_cons, List.length_cons, ih]; omega
theorem flat_len2 (ps : List (Int × Nat)) (h : ∀ p ∈ ps, (-9223372036854775808 ≤ p.1 ∧ p.1 < 9223372036854775808) ∧ p.2 < 18446744073709551616) : (flat ps).length ≤ 20 * ps.length := by
  induction ps with
  | nil => simp [flat]
  | cons p t ih =>
    have hp := h p (by simp)
    have h3 : (putU p.2).length ≤ 10 := putU_len64 hp.2
    have h4 : (putI p.1).length ≤ 10 := putI_len64 hp.1.1 hp.1.2
    have e : flat (p :: t) = putU p.2 ++ putI p.1 ++ flat t := by simp [flat]
    have := ih (fun q hq => h q (by simp [hq]))
    rw [e]
    simp only [List.length_append, List.length_cons]
    omega
theorem runs_len (d : List Int) (hw : ∀ x ∈ d, -9223372036854775808 ≤ x ∧ x < 9223372036854775808) (hd : d.length ≤ 1048576) : (runs d).length ≤ 21000000 := by
  have hst := st_length d
  have h1 := flat_len2 (st d) (fun p hp => ⟨hw _ (st_mem d p hp).1, by have := (st_mem d p hp).2; omega⟩)
  have h2 : (putU (st d).length).length ≤ 10 := putU_len64 (by omega)
  unfold runs
  rw [List.length_append]
  omega
end Go.Proofs.Ytcffooeiennmjaa.ColT
namespace Go.Proofs.Ytcffooeiennmjaa.Pure
open Go.RowKit Go.Proofs.Ytcffooeiennmjaa.PA Go.Proofs.YtcffooeiennmjaaW.PrintWords Go.Proofs.YtcffooeiennmjaaW.PrintLast Go.Proofs.Ytcffooeiennmjaa.ColT Go.Proofs.Ytcffooeiennmjaa.ColS
theorem back_yes (k : Nat) (hk : 800000 ≤ k) (l : List Int) (t7 t8 t9 t12 : List Int) (x10 x13 x11 x14 : Int) (h : l.length = 0 ∨ x11 = 5 ∧ x14 = 5) : stemmalaw03_ColumnBack.j0 (k + 1) l t7 t8 t9 x10 x11 t12 x13 x14 true = some true := by
  rw [stemmalaw03_ColumnBack.j0]
  simp only [if_true]
  by_cases h0 : (l.length : Int) = 0
  · rw [if_pos h0, awake03 hk]; rfl
  · rcases h with h | ⟨rfl, rfl⟩
    · omega
    · rw [if_neg h0, if_pos rfl, if_pos rfl, awake03 hk]; rfl
theorem ColumnBack (a0 : (List Int)) (a1 : (List Int)) (a2 : Int) (q0 : a0.length ≤ maxLen ∧ ∀ y ∈ a0, (Lit.int .i64 y).wf = true) (b0 : (a0.map (fun _ => 1)).sum + 1 ≤ 1048576) (q1 : a1.length ≤ maxLen ∧ ∀ y ∈ a1, (Lit.int .u8 y).wf = true) (b1 : (a1.map (fun _ => 1)).sum + 1 ≤ 1048576) (q2 : (Lit.int .i64 a2).wf = true) : ∃ k, PA.stemmalaw03_ColumnBack.f k a0 a1 a2 = some true := by
  rw [sum_ones] at b0 b1
  have hw : ∀ x ∈ a0, -9223372036854775808 ≤ x ∧ x < 9223372036854775808 := fun x hx => LebP.wf_i64 (q0.2 x hx)
  have hb : ∀ x ∈ a1, LebT.isByte x := fun x hx => LebP.wf_u8 (q1.2 x hx)
  have hl : a0.length ≤ 1048575 := by omega
  have hl1 : a1.length ≤ 1048575 := by omega
  clear q0 b0 q1 b1
  refine ⟨2000001, ?_⟩
  have hd : (dif0 a0).length = a0.length := dif0_length a0
  have hdr := dif0_rng a0 hw
  have hr1 := runs_len a0 hw (by omega)
  have hr2 := runs_len (dif0 a0) hdr (by omega)
  have hby : ∀ d : List Int, ∀ x ∈ runs d ++ a1, LebT.isByte x := fun d x hx => (List.mem_append.1 hx).elim (runs_byte d x) (hb x)
  unfold stemmalaw03_ColumnBack.f
  rw [runs_some a0 (by omega) hw, putDeltas_f a0 (by omega) (by omega), runs_some (dif0 a0) (by omega) hdr]
  simp only [Option.bind_some, List.nil_append, List.length_nil]
  rw [if_pos (by omega), if_pos (by omega), getRuns_f (by omega) (hby a0) (by simp only [List.length_append]; omega)]
  simp only [Option.bind_some]
  rw [if_pos (by omega), if_pos (by omega), getDeltas_f (by omega) (hby (dif0 a0)) (by simp only [List.length_append]; omega)]
  simp only [Option.bind_some]
  by_cases h1 : (a0.length : Int) > a2
  · rw [if_pos h1]
    refine back_yes 2000000 (by omega) _ _ _ _ _ _ _ _ _ ?_
    by_cases h0 : a0.length = 0
    · exact .inl h0
    · exact .inr ⟨getRuns_long a0 hw (by omega) a2 (.inl h1) h0 a1, getRuns_long (dif0 a0) hdr (by omega) a2 (.inl (by omega)) (by omega) a1⟩
  · rw [if_neg h1]
    by_cases h2 : (a0.length : Int) > 65536
    · rw [decide_eq_true h2]
      refine back_yes 2000000 (by omega) _ _ _ _ _ _ _ _ _ (.inr ⟨getRuns_long a0 hw (by omega) a2 (.inr (by omega)) (by omega) a1, getRuns_long (dif0 a0) hdr (by omega) a2 (.inr (by omega)) (by omega) a1⟩)
    · rw [decide_eq_false h2, stemmalaw03_ColumnBack.j0, if_neg (by simp), getRuns_put a0 hw a2 (by omega) (by omega), getRuns_put (dif0 a0) hdr a2 (by omega) (by omega)]
      simp only []
      rw [sums0_dif0 a0 hw, same_f a0 (by omega) (by omega)]
      simp only [Option.bind_some, if_true]
      rw [awake03 (by omega)]
      rfl
end Go.Proofs.Ytcffooeiennmjaa.Pure
