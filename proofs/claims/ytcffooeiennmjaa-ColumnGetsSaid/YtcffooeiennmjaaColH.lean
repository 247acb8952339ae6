/- column.GetDeltas, Same, Deltas, the closed case: plainly. -/
import Derived.Test.YtcffooeiennmjaaColG
import Derived.Test.YtcffooeiennmjaaPAx27
import Derived.Test.YtcffooeiennmjaaPAx29
import Derived.Test.YtcffooeiennmjaaPAx30
set_option linter.unusedVariables false
set_option linter.unusedSimpArgs false
namespace Go.Proofs.Ytcffooeiennmjaa.ColT
open Go Go.RowKit Go.Proofs.Ytcffooeiennmjaa.PA Go.Proofs.YtcffooeiennmjaaW.PrintWords Go.Proofs.YtcffooeiennmjaaW.PrintLast Go.Proofs.YtcffooeiennmjaaW.PrintMore Go.Proofs.Ytcffooeiennmjaa.LebT Go.Proofs.Ytcffooeiennmjaa.LebP
/-- The running sums behind a. -/
def sums : Int → List Int → List Int
  | _, [] => []
  | a, x :: r => wrap64 (x + a) :: sums (wrap64 (x + a)) r
def sums0 : List Int → List Int
  | [] => []
  | x :: r => x :: sums x r
theorem deltas_l0 (u e : Int) (r : List Int) : ∀ (k : Nat) (pre : List Int) (a : Int), r.length < k → pre.length + r.length < 4611686018427387900 →
    column_GetDeltas.l0 k (pre ++ a :: r) u e ((pre.length + 1 : Nat) : Int) = some (pre ++ a :: sums a r, u, e) := by
  induction r with
  | nil =>
    intro k pre a hk hl
    obtain ⟨k, rfl⟩ : ∃ k', k = k' + 1 := ⟨k - 1, by simp at hk; omega⟩
    rw [column_GetDeltas.l0, if_neg (by simp)]
    simp [sums]
  | cons y t ih =>
    intro k pre a hk hl
    simp only [List.length_cons] at hk hl
    obtain ⟨k, rfl⟩ : ∃ k', k = k' + 1 := ⟨k - 1, by omega⟩
    have e1 : rd (pre ++ a :: y :: t) ((pre.length + 1 : Nat) : Int) = y := by simp [rd, List.getD_eq_getElem?_getD]
    have e2 : rd (pre ++ a :: y :: t) ((pre.length : Nat) : Int) = a := by simp [rd, List.getD_eq_getElem?_getD]
    have h1 : ((pre.length + 1 : Nat) : Int) < ((pre ++ a :: y :: t).length : Int) := by simp; omega
    have h2 : (0 : Int) ≤ ((pre.length + 1 : Nat) : Int) := Int.natCast_nonneg _
    have h3 : (0 : Int) ≤ ((pre.length : Nat) : Int) := Int.natCast_nonneg _
    have h4 : ((pre.length : Nat) : Int) < ((pre ++ a :: y :: t).length : Int) := by simp; omega
    have es : (pre ++ a :: y :: t).set (pre.length + 1) (wrap64 (y + a)) = (pre ++ [a]) ++ wrap64 (y + a) :: t := by
      rw [List.set_append_right _ _ (by omega)]
      simp
    have hi := ih k (pre ++ [a]) (wrap64 (y + a)) (by omega) (by simp; omega)
    rw [List.length_append, List.length_singleton] at hi
    rw [column_GetDeltas.l0, if_pos h1, if_pos h2, show wrap64 (((pre.length + 1 : Nat) : Int) - 1) = ((pre.length : Nat) : Int) from (w64p (pre.length + 1) (by omega) (by omega)), if_pos h3, if_pos h4, e1, e2, Int.toNat_natCast, es]
    rw [show wrap64 (((pre.length + 1 : Nat) : Int) + 1) = ((pre.length + 1 + 1 : Nat) : Int) from w64a (pre.length + 1) 1 (by omega), hi]
    simp [sums]
theorem deltas0 (u e : Int) (l : List Int) (k : Nat) (hk : l.length < k) (hl : l.length < 4611686018427387900) : column_GetDeltas.l0 k l u e 1 = some (sums0 l, u, e) := by
  cases l with
  | nil =>
    obtain ⟨k, rfl⟩ : ∃ k', k = k' + 1 := ⟨k - 1, by simp at hk; omega⟩
    rw [column_GetDeltas.l0, if_neg (by simp)]; rfl
  | cons a r => exact deltas_l0 u e r k [] a (by simp at hk; omega) (by simp at hl ⊢; omega)
theorem same_l0 (l : List Int) (hl : l.length < 4611686018427387900) (d : Nat) : ∀ (k i : Nat), i + d = l.length → d < k → stemmaref03_Same.l0 k l l (i : Int) = some true := by
  induction d with
  | zero =>
    intro k i hi hk
    obtain ⟨k, rfl⟩ : ∃ k', k = k' + 1 := ⟨k - 1, by omega⟩
    rw [stemmaref03_Same.l0, if_neg (by omega)]
  | succ d ih =>
    intro k i hi hk
    obtain ⟨k, rfl⟩ : ∃ k', k = k' + 1 := ⟨k - 1, by omega⟩
    have h1 : (i : Int) < (l.length : Int) := by omega
    have h2 : (0 : Int) ≤ (i : Int) := Int.natCast_nonneg _
    rw [stemmaref03_Same.l0, if_pos h1, if_pos h2, if_pos h1, if_pos rfl, show wrap64 ((i : Int) + 1) = ((i + 1 : Nat) : Int) from w64a i 1 (by omega)]
    exact ih k (i + 1) (by omega) (by omega)
theorem same_f {k : Nat} (l : List Int) (hk : l.length < k) (hl : l.length < 4611686018427387900) : stemmaref03_Same.f k l l = some true := by
  unfold stemmaref03_Same.f
  rw [if_pos rfl]
  exact same_l0 l hl l.length k 0 (by omega) hk
theorem gR_len (most : Nat) : ∀ (n : Nat) (acc : List Int) (used : Nat) (b : List Int), acc.length ≤ most → (gR most n acc used b).1.length ≤ most
  | 0, acc, used, b, h => h
  | n + 1, acc, used, b, h => by
    rw [gR]
    split
    · split
      · simp
      · split
        · simp
        · split
          · split
            · simp
            · rename_i h2 _ _
              exact gR_len most n _ _ _ (by rw [List.length_append, List.length_replicate]; omega)
          · simp
    · simp
theorem getRuns_len (b : List Int) (most : Int) : (getRuns b most).1.length ≤ 65536 := by
  unfold getRuns
  have hmm : 0 ≤ mx 0 (mn most 65536) ∧ mx 0 (mn most 65536) ≤ 65536 := by simp only [mx, mn]; omega
  split
  · split
    · simp
    · exact Nat.le_trans (gR_len _ _ _ _ _ (by simp)) (by omega)
  · simp
theorem getDeltas_f {k : Nat} (hk : 800000 ≤ k) {b : List Int} (hb : ∀ x ∈ b, isByte x) (hbl : b.length ≤ 140737488351232) (most : Int) : column_GetDeltas.f k b most = some (sums0 (getRuns b most).1, (getRuns b most).2.1, (getRuns b most).2.2) := by
  unfold column_GetDeltas.f
  rw [getRuns_f hk hb hbl]
  simp only [Option.bind_some]
  have := getRuns_len b most
  exact deltas0 _ _ _ k (by omega) (by omega)
theorem awake03 {k : Nat} (hk : 800000 ≤ k) : stemmalaw03_awake.f k = some true := by
  unfold stemmalaw03_awake.f
  rw [getDeltas_f hk (by intro x hx; simp at hx; unfold isByte; omega) (by simp)]
  have e1 : getRuns [1, 3, 1] 9 = ([1, 1, 1], 3, 0) := by decide +kernel
  have e2 : sums0 [1, 1, 1] = [1, 2, 3] := by decide +kernel
  have e3 : column_Runs.f [5, 5, 5, -1] = some [2, 3, 5, 1, 127] := by
    unfold column_Runs.f
    rw [if_pos (by decide +kernel)]
    simp [ColS.runs, ColS.st, ColS.flat, putU_small, putI_small]
  have e4 : column_Flags.f [true, true, false] = some [3, 0, 2, 1] := by
    unfold column_Flags.f
    rw [if_pos (by decide +kernel)]
    simp [ColS.flags, ColS.st, ColS.flatB, putU_small]
  rw [e3, e4]
  simp only [Option.bind_some, e1, e2]
  rw [if_pos (by decide +kernel), same_f _ (by simp; omega) (by simp)]
  simp only [Option.bind_some, if_true]
  rw [if_pos (by decide +kernel)]
end Go.Proofs.Ytcffooeiennmjaa.ColT
