/- Any numbers have the bytes that the document says. -/
import Derived.Test.YtcffooeiennmjaaColE
import Derived.Test.YtcffooeiennmjaaColX
import Derived.Test.YtcffooeiennmjaaPAx9
set_option linter.unusedVariables false
set_option linter.unusedSimpArgs false
namespace Go.Proofs.Ytcffooeiennmjaa.ColT
open Go Go.RowKit Go.Proofs.Ytcffooeiennmjaa.PA Go.Proofs.YtcffooeiennmjaaW.PrintWords Go.Proofs.YtcffooeiennmjaaW.PrintLast Go.Proofs.YtcffooeiennmjaaW.PrintMore Go.Proofs.Ytcffooeiennmjaa.LebT Go.Proofs.Ytcffooeiennmjaa.LebP Go.Proofs.Ytcffooeiennmjaa.ColS
theorem diff_l0 (l : List Int) (hl : l.length ≤ 4398046511104) : ∀ (d k i : Nat) (acc : List Int) (a : Int), i + d = l.length → acc.length = i → d < k → stemmaref03_Differences.l0 k l acc a (i : Int) = some (acc ++ dif a (l.drop i))
  | d, 0, i, _, _, _, _, h => by omega
  | 0, k + 1, i, acc, a, hi, ha, _ => by
    have h1 : ¬ ((i : Int) < (l.length : Int)) := by omega
    rw [stemmaref03_Differences.l0, if_neg h1, List.drop_of_length_le (by omega)]
    simp [dif]
  | d + 1, k + 1, i, acc, a, hi, ha, hk => by
    have hlt : i < l.length := by omega
    have h1 : ((i : Int) < (l.length : Int)) := by omega
    have ih := diff_l0 l hl d k (i + 1) (acc ++ [wrap64 (rd l (i : Int) - a)]) (rd l (i : Int)) (by omega) (by simp [ha]) (by omega)
    rw [stemmaref03_Differences.l0, if_pos h1, if_pos (by omega), if_pos (by omega), show wrap64 ((i : Int) + 1) = ((i + 1 : Nat) : Int) from w64a i 1 (by omega), ih, LebP.rd_drop l i hlt, dif]
    simp
theorem diff_f (l : List Int) (hl : l.length ≤ 4398046511104) (hw : ∀ x ∈ l, -9223372036854775808 ≤ x ∧ x < 9223372036854775808) {k : Nat} (hk : l.length < k) : stemmaref03_Differences.f k l = some (dif0 l) := by
  unfold stemmaref03_Differences.f
  have := diff_l0 l hl l.length k 0 [] 0 (by omega) rfl hk
  rw [show ((0 : Nat) : Int) = 0 from rfl] at this
  rw [this]
  cases l with
  | nil => rfl
  | cons x r =>
    have hx := hw x (by simp)
    simp only [List.drop_zero, dif, dif0, List.nil_append]
    rw [show wrap64 (x - 0) = x by unfold wrap64; omega]
theorem all_wf (l : List Int) (hw : ∀ x ∈ l, -9223372036854775808 ≤ x ∧ x < 9223372036854775808) : (l.all fun x => (Lit.int .i64 x).wf) = true := by
  rw [List.all_eq_true]
  intro x hx
  have := hw x hx
  simp [Lit.wf, IntKind.min, IntKind.max, IntKind.signed, IntKind.bits]
  omega
theorem rruns_some (l : List Int) (hl : l.length ≤ 4398046511104) (hw : ∀ x ∈ l, -9223372036854775808 ≤ x ∧ x < 9223372036854775808) : stemmaref03_Runs.f l = some (runs l) := by
  rw [stemmaref03_Runs.f, if_pos ⟨hl, all_wf l hw⟩]
theorem sum_ones {α : Type} (l : List α) : (l.map (fun _ => 1)).sum = l.length := by
  induction l with
  | nil => rfl
  | cons x r ih => simp only [List.map_cons, List.sum_cons, List.length_cons, ih]; omega
end Go.Proofs.Ytcffooeiennmjaa.ColT
namespace Go.Proofs.Ytcffooeiennmjaa.Pure
open Go.RowKit Go.Proofs.Ytcffooeiennmjaa.PA Go.Proofs.YtcffooeiennmjaaW.PrintWords Go.Proofs.YtcffooeiennmjaaW.PrintLast Go.Proofs.Ytcffooeiennmjaa.ColT Go.Proofs.Ytcffooeiennmjaa.ColS
theorem ColumnPuts (a0 : (List Int)) (q0 : a0.length ≤ maxLen ∧ ∀ y ∈ a0, (Lit.int .i64 y).wf = true) (b0 : (a0.map (fun _ => 1)).sum + 1 ≤ 1048576) : ∃ k, PA.stemmalaw03_ColumnPuts.f k a0 = some true := by
  rw [sum_ones] at b0
  have hw : ∀ x ∈ a0, -9223372036854775808 ≤ x ∧ x < 9223372036854775808 := fun x hx => LebP.wf_i64 (q0.2 x hx)
  have hl : a0.length ≤ 1048575 := by omega
  clear q0 b0
  refine ⟨2000000, ?_⟩
  have hd : (dif0 a0).length = a0.length := dif0_length a0
  unfold stemmalaw03_ColumnPuts.f stemmaref03_Deltas.f
  simp only [Option.bind_some, List.nil_append, List.length_nil]
  rw [if_pos (by omega), runs_some a0 (by omega) hw, rruns_some a0 (by omega) hw, putDeltas_f a0 (by omega) (by omega), diff_f a0 (by omega) hw (by omega)]
  simp only [Option.bind_some]
  rw [runs_some (dif0 a0) (by omega) (dif0_rng a0 hw), rruns_some (dif0 a0) (by omega) (dif0_rng a0 hw)]
  simp only [Option.bind_some, if_true]
  rw [same_f a0 (by omega) (by omega)]
  simp only [Option.bind_some, if_true]
  rw [awake03 (by omega)]
  rfl
end Go.Proofs.Ytcffooeiennmjaa.Pure
