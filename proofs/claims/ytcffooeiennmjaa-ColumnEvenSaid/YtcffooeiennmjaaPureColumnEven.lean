/- Numbers that rise by one and the same step: what is laid for their differences. -/
import Derived.Test.YtcffooeiennmjaaColE
import Derived.Test.YtcffooeiennmjaaPAx11
set_option linter.unusedVariables false
set_option linter.unusedSimpArgs false
namespace Go.Proofs.Ytcffooeiennmjaa.ColT
open Go Go.RowKit Go.Proofs.Ytcffooeiennmjaa.PA Go.Proofs.YtcffooeiennmjaaW.PrintWords Go.Proofs.YtcffooeiennmjaaW.PrintLast Go.Proofs.YtcffooeiennmjaaW.PrintMore Go.Proofs.Ytcffooeiennmjaa.LebT Go.Proofs.Ytcffooeiennmjaa.LebP Go.Proofs.Ytcffooeiennmjaa.ColS
/-- Numbers that rise by one and the same step. -/
def rise (a s : Int) : Nat → List Int
  | 0 => []
  | n + 1 => a :: rise (wrap64 (a + s)) s n
theorem rise_length (s : Int) : ∀ (n : Nat) (a : Int), (rise a s n).length = n
  | 0, _ => rfl
  | n + 1, a => by simp [rise, rise_length s n]
theorem rise_rng (s : Int) : ∀ (n : Nat) (a : Int), (-9223372036854775808 ≤ a ∧ a < 9223372036854775808) → ∀ x ∈ rise a s n, -9223372036854775808 ≤ x ∧ x < 9223372036854775808
  | 0, _, _, x, h => by simp [rise] at h
  | n + 1, a, ha, x, h => by
    rcases List.mem_cons.1 h with rfl | h
    · exact ha
    · exact rise_rng s n _ (wrap_rng _) x h
theorem step_back (a s : Int) (h : -9223372036854775808 ≤ s ∧ s < 9223372036854775808) : wrap64 (wrap64 (a + s) - a) = s := by unfold wrap64; omega
theorem dif_rise (s : Int) (hs : -9223372036854775808 ≤ s ∧ s < 9223372036854775808) : ∀ (n : Nat) (a : Int), dif a (rise (wrap64 (a + s)) s n) = List.replicate n s
  | 0, _ => rfl
  | n + 1, a => by rw [rise, dif, step_back a s hs, dif_rise s hs n, List.replicate_succ]
theorem st_len2 (a s : Int) (n : Nat) : (st (a :: List.replicate n s)).length ≤ 2 := by
  cases n with
  | zero => simp [st]
  | succ n =>
    have h := st_rep s [] (by simp) n
    rw [List.append_nil] at h
    rw [st, h]
    simp only [st]
    split <;> simp
theorem flat_len2 : ∀ ps : List (Int × Nat), (∀ p ∈ ps, (-9223372036854775808 ≤ p.1 ∧ p.1 < 9223372036854775808) ∧ p.2 ≤ 256) → (flat ps).length ≤ 12 * ps.length
  | [], _ => by simp [flat]
  | p :: r, h => by
    have hp := h p (by simp)
    have h1 : (putU p.2).length ≤ 1 + 1 := (putU_len_iff 1 p.2).2 (by omega)
    have h2 := putI_len64 hp.1.1 hp.1.2
    have ih := flat_len2 r (fun q hq => h q (by simp [hq]))
    have e : flat (p :: r) = putU p.2 ++ putI p.1 ++ flat r := by simp [flat]
    rw [e]
    simp only [List.length_append, List.length_cons]
    omega
theorem even_len (a s : Int) (n : Nat) (hn : n ≤ 255) (ha : -9223372036854775808 ≤ a ∧ a < 9223372036854775808) (hs : -9223372036854775808 ≤ s ∧ s < 9223372036854775808) : 1 ≤ (runs (dif0 (rise a s n))).length ∧ (runs (dif0 (rise a s n))).length ≤ 25 := by
  have hr := dif0_rng (rise a s n) (rise_rng s n a ha)
  have hl : (dif0 (rise a s n)).length = n := by rw [dif0_length, rise_length]
  have h2 : (st (dif0 (rise a s n))).length ≤ 2 := by
    cases n with
    | zero => simp [rise, dif0, st]
    | succ n => rw [rise, dif0, dif_rise s hs]; exact st_len2 a s n
  have h3 := flat_len2 (st (dif0 (rise a s n))) (fun p hp => by
    have := st_mem _ p hp
    exact ⟨hr _ this.1, by have := this.2; omega⟩)
  have h4 : (putU (st (dif0 (rise a s n))).length).length = 1 := by rw [putU_small (by omega)]; rfl
  unfold runs
  rw [List.length_append, h4]
  omega
theorem even_end (k : Nat) (hk : 800000 < k) (s x0 a : Int) (N : Nat) (hN : N ≤ 255) (ha : -9223372036854775808 ≤ a ∧ a < 9223372036854775808) (hs : -9223372036854775808 ≤ s ∧ s < 9223372036854775808) :
    stemmalaw03_ColumnEven.l0 k x0 s (N : Int) (rise a s N) (N : Int) = some true := by
  obtain ⟨k, rfl⟩ : ∃ k', k = k' + 1 := ⟨k - 1, by omega⟩
  have hl : (rise a s N).length = N := rise_length s N a
  have hr := rise_rng s N a ha
  have hdl : (dif0 (rise a s N)).length = N := by rw [dif0_length, hl]
  have hdr := dif0_rng _ hr
  have hlen := even_len a s N hN ha hs
  rw [stemmalaw03_ColumnEven.l0, show wrap64 (N : Int) = (N : Int) from w64 N (by omega), if_neg (by omega), putDeltas_f _ (by omega) (by omega), runs_some _ (by omega) hdr]
  simp only [Option.bind_some]
  have hg : getRuns (runs (dif0 (rise a s N))) 255 = (dif0 (rise a s N), ((runs (dif0 (rise a s N))).length : Int), 0) := by
    have := getRuns_put (dif0 (rise a s N)) hdr 255 (by omega) (by omega) []
    rwa [List.append_nil] at this
  rw [getDeltas_f (by omega) (runs_byte _) (by omega), hg]
  simp only [Option.bind_some]
  rw [sums0_dif0 _ hr, if_pos (by omega), if_pos (by omega)]
  simp only [if_true]
  rw [same_f _ (by omega) (by omega)]
  simp only [Option.bind_some, if_true]
  rw [awake03 (by omega)]
  rfl
theorem even_go (s : Int) (hs : -9223372036854775808 ≤ s ∧ s < 9223372036854775808) (N : Nat) (hN : N ≤ 255) (a0 : Int) (ha0 : -9223372036854775808 ≤ a0 ∧ a0 < 9223372036854775808) (d : Nat) : ∀ (k i : Nat) (a : Int) (acc : List Int), i + d = N → acc.length = i → acc ++ rise a s d = rise a0 s N → 800000 + d < k →
    stemmalaw03_ColumnEven.l0 k a s (N : Int) acc (i : Int) = some true := by
  induction d with
  | zero =>
    intro k i a acc hi hacc he hk
    obtain rfl : i = N := by omega
    rw [show acc = rise a0 s i by simpa [rise] using he]
    exact even_end k (by omega) s a a0 i hN ha0 hs
  | succ d ih =>
    intro k i a acc hi hacc he hk
    obtain ⟨k, rfl⟩ : ∃ k', k = k' + 1 := ⟨k - 1, by omega⟩
    rw [stemmalaw03_ColumnEven.l0, show wrap64 (N : Int) = (N : Int) from w64 N (by omega), if_pos (by omega), if_pos (by omega), show wrap64 ((i : Int) + 1) = ((i + 1 : Nat) : Int) from w64a i 1 (by omega)]
    exact ih k (i + 1) (wrap64 (a + s)) (acc ++ [a]) (by omega) (by simp [hacc]) (by rw [List.append_assoc]; exact he) (by omega)
end Go.Proofs.Ytcffooeiennmjaa.ColT
namespace Go.Proofs.Ytcffooeiennmjaa.Pure
open Go.RowKit Go.Proofs.Ytcffooeiennmjaa.PA Go.Proofs.YtcffooeiennmjaaW.PrintWords Go.Proofs.YtcffooeiennmjaaW.PrintLast
theorem ColumnEven : stemmalaw03_ColumnEven.Pure := by
  intro a0 a1 a2 h0 h1 h2
  have w0 := LebP.wf_i64 h0
  have w1 := LebP.wf_i64 h1
  have w2 := LebP.wf_u8 h2
  unfold LebT.isByte at w2
  obtain ⟨N, rfl⟩ : ∃ N : Nat, a2 = (N : Int) := ⟨a2.toNat, (Int.toNat_of_nonneg w2.1).symm⟩
  exact ⟨900000, ColT.even_go a1 w1 N (by omega) a0 w0 N 900000 0 a0 [] (by omega) rfl (by simp) (by omega)⟩
end Go.Proofs.Ytcffooeiennmjaa.Pure
