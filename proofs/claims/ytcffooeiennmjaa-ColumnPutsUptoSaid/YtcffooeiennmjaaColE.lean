/- column.Deltas: what it computes, plainly. -/
import Derived.Test.YtcffooeiennmjaaColD
set_option linter.unusedVariables false
set_option linter.unusedSimpArgs false
namespace Go.Proofs.Ytcffooeiennmjaa.ColT
open Go Go.RowKit Go.Proofs.Ytcffooeiennmjaa.PA Go.Proofs.YtcffooeiennmjaaW.PrintWords Go.Proofs.YtcffooeiennmjaaW.PrintLast Go.Proofs.YtcffooeiennmjaaW.PrintMore Go.Proofs.Ytcffooeiennmjaa.LebT Go.Proofs.Ytcffooeiennmjaa.LebP Go.Proofs.Ytcffooeiennmjaa.ColS
theorem put_l0 (r : List Int) : ∀ (k : Nat) (pre : List Int) (a : Int) (D : List Int), D.length = pre.length + 1 → r.length < k → pre.length + r.length < 4611686018427387900 →
    column_Deltas.l0 k (pre ++ a :: r) (D ++ List.replicate r.length 0) (pre ++ a :: r) ((pre ++ a :: r).length : Int) ((pre.length + 1 : Nat) : Int) = column_Runs.f (D ++ dif a r) := by
  induction r with
  | nil =>
    intro k pre a D hD hk hl
    obtain ⟨k, rfl⟩ : ∃ k', k = k' + 1 := ⟨k - 1, by simp at hk; omega⟩
    rw [column_Deltas.l0, if_neg (by simp)]
    simp [dif]
  | cons y t ih =>
    intro k pre a D hD hk hl
    simp only [List.length_cons] at hk hl
    obtain ⟨k, rfl⟩ : ∃ k', k = k' + 1 := ⟨k - 1, by omega⟩
    have e1 : rd (pre ++ a :: y :: t) ((pre.length + 1 : Nat) : Int) = y := by simp [rd, List.getD_eq_getElem?_getD]
    have e2 : rd (pre ++ a :: y :: t) ((pre.length : Nat) : Int) = a := by simp [rd, List.getD_eq_getElem?_getD]
    have h1 : ((pre.length + 1 : Nat) : Int) < ((pre ++ a :: y :: t).length : Int) := by simp; omega
    have h2 : (0 : Int) ≤ ((pre.length + 1 : Nat) : Int) := Int.natCast_nonneg _
    have h3 : (0 : Int) ≤ ((pre.length : Nat) : Int) := Int.natCast_nonneg _
    have h4 : ((pre.length : Nat) : Int) < ((pre ++ a :: y :: t).length : Int) := by simp; omega
    have h5 : ((pre.length + 1 : Nat) : Int) < ((D ++ List.replicate (y :: t).length 0).length : Int) := by simp [hD]; omega
    have h6 : ((pre.length + 1 : Nat) : Int) > 0 := by omega
    have s1 : (D ++ List.replicate (y :: t).length 0).set (pre.length + 1) y = D ++ y :: List.replicate t.length 0 := by
      rw [List.set_append_right _ _ (by omega), hD]
      simp [List.replicate_succ]
    have s2 : (D ++ y :: List.replicate t.length 0).set (pre.length + 1) (wrap64 (y - a)) = (D ++ [wrap64 (y - a)]) ++ List.replicate t.length 0 := by
      rw [List.set_append_right _ _ (by omega), hD]
      simp
    have e3 : rd (D ++ y :: List.replicate t.length 0) ((pre.length + 1 : Nat) : Int) = y := by
      simp only [rd, Int.toNat_natCast, List.getD_eq_getElem?_getD]
      rw [List.getElem?_append_right (by omega), hD]
      simp
    have hi := ih k (pre ++ [a]) y (D ++ [wrap64 (y - a)]) (by simp [hD]) (by omega) (by simp; omega)
    rw [show (pre ++ [a]) ++ y :: t = pre ++ a :: y :: t by simp, show (pre ++ [a]).length = pre.length + 1 by simp] at hi
    rw [column_Deltas.l0, if_pos h1, if_pos h2, if_pos h1, if_pos h5, e1, Int.toNat_natCast, s1]
    simp only [Option.bind_some]
    rw [if_pos h6, show wrap64 (((pre.length + 1 : Nat) : Int) - 1) = ((pre.length : Nat) : Int) from (w64p (pre.length + 1) (by omega) (by omega)), if_pos h3, if_pos h4, e3, e2, s2]
    rw [show wrap64 (((pre.length + 1 : Nat) : Int) + 1) = ((pre.length + 1 + 1 : Nat) : Int) from w64a (pre.length + 1) 1 (by omega), hi]
    simp [dif]
theorem putDeltas_f {k : Nat} (l : List Int) (hk : l.length + 1 < k) (hl : l.length ≤ 4398046511104) : column_Deltas.f k l = column_Runs.f (dif0 l) := by
  unfold column_Deltas.f
  rw [if_pos (Int.natCast_nonneg _), Int.toNat_natCast, if_pos (by omega)]
  cases l with
  | nil =>
    obtain ⟨k, rfl⟩ : ∃ k', k = k' + 1 := ⟨k - 1, by simp at hk; omega⟩
    rw [column_Deltas.l0, if_neg (by simp)]
    simp [dif0]
  | cons a r =>
    simp only [List.length_cons] at hk hl
    obtain ⟨k, rfl⟩ : ∃ k', k = k' + 1 := ⟨k - 1, by omega⟩
    have h1 : (0 : Int) < (((a :: r).length : Nat) : Int) := by rw [List.length_cons]; omega
    have h5 : (0 : Int) < ((List.replicate (a :: r).length (0 : Int)).length : Int) := by rw [List.length_replicate, List.length_cons]; omega
    have hi := put_l0 r k [] a [a] rfl (by omega) (by simp; omega)
    rw [column_Deltas.l0, if_pos h1, if_pos (Int.le_refl _), if_pos h1, if_pos h5]
    simp only [Option.bind_some]
    rw [if_neg (by omega)]
    have e : (List.replicate (a :: r).length (0 : Int)).set (0 : Int).toNat (rd (a :: r) 0) = [a] ++ List.replicate r.length 0 := by simp [rd, List.replicate_succ]
    rw [e, show wrap64 ((0 : Int) + 1) = ((([] : List Int).length + 1 : Nat) : Int) by decide +kernel]
    exact hi
theorem runs_some (l : List Int) (hl : l.length ≤ 4398046511104) (hw : ∀ x ∈ l, -9223372036854775808 ≤ x ∧ x < 9223372036854775808) : column_Runs.f l = some (runs l) := by
  unfold column_Runs.f
  rw [if_pos ⟨hl, by
    rw [List.all_eq_true]
    intro x hx
    have := hw x hx
    simp only [Lit.wf, IntKind.min, IntKind.max, IntKind.signed, IntKind.bits, Bool.and_eq_true]
    simp
    omega⟩]
theorem runs_byte (l : List Int) : ∀ x ∈ runs l, isByte x := by
  intro x hx
  rcases List.mem_append.1 hx with h | h
  · exact putU_bytes _ x h
  · obtain ⟨p, _, hp⟩ := List.mem_flatMap.1 h
    rcases List.mem_append.1 hp with h | h
    · exact putU_bytes _ x h
    · exact putI_bytes _ _ rfl x h
end Go.Proofs.Ytcffooeiennmjaa.ColT
