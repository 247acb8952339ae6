/- Posts: what the calls answer, as functions of what is on its way. -/
import Derived.Test.YtnjnljnhpihemaaPoF
set_option linter.unusedVariables false
set_option linter.unusedSimpArgs false
namespace Go.Proofs.Ytnjnljnhpihemaa.Po
open Go Go.RowKit Go.Proofs.YtnjnljnhpihemaaW.PrintWords Go.Proofs.Ytnjnljnhpihemaa.PA
abbrev Qt := Int → Int → List (List Int)
def may (n a b : Int) : Prop := 0 ≤ a ∧ a < n ∧ 0 ≤ b ∧ b < n ∧ a ≠ b
instance (n a b : Int) : Decidable (may n a b) := by unfold may; infer_instance
def inr (Q : Qt) (a b k : Int) : Prop := 0 ≤ k ∧ k < ((Q a b).length : Int)
instance (Q : Qt) (a b k : Int) : Decidable (inr Q a b k) := by unfold inr; infer_instance
def lookF (n : Int) (Q : Qt) (a b k : Int) : List Int × Int := if may n a b then (if inr Q a b k then ((Q a b).getD k.toNat [], 0) else ([], 22)) else ([], 2)
def takeQ (n : Int) (Q : Qt) (a b k : Int) : List (List Int) := if may n a b ∧ inr Q a b k then (Q a b).eraseIdx k.toNat else Q a b
def sendF (n : Int) (Q : Qt) (a b : Int) (l : List Int) : Int × List (List Int) := if may n a b then (if 1100000 < l.length then (5, Q a b) else if 64 ≤ (Q a b).length then (21, Q a b) else (0, Q a b ++ [l])) else (2, Q a b)
def dblF (n : Int) (Q : Qt) (a b k : Int) : Int × List (List Int) := if (lookF n Q a b k).2 = 0 then sendF n Q a b (lookF n Q a b k).1 else ((lookF n Q a b k).2, Q a b)
/-- What is on its way is what may be. -/
structure Qs (n : Int) (Q : Qt) : Prop where
  n1 : 1 ≤ n
  n8 : n ≤ 8
  few : ∀ a b, (Q a b).length ≤ 64
  let_ : ∀ a b, ∀ l ∈ Q a b, l.length ≤ 1100000 ∧ ∀ x ∈ l, 0 ≤ x ∧ x < 256
theorem look_yes {n : Int} {Q : Qt} {a b k : Int} (h : (lookF n Q a b k).2 = 0) : may n a b ∧ inr Q a b k ∧ (Q a b)[k.toNat]? = some (lookF n Q a b k).1 := by
  unfold lookF at h ⊢
  by_cases hm : may n a b
  · rw [if_pos hm] at h ⊢
    by_cases hi : inr Q a b k
    · rw [if_pos hi]
      refine ⟨hm, hi, ?_⟩
      have := hi.1
      have := hi.2
      rw [List.getD_eq_getElem?_getD, List.getElem?_eq_getElem (by omega)]
      rfl
    · rw [if_neg hi] at h; exact absurd h (by decide)
  · rw [if_neg hm] at h; exact absurd h (by decide)
theorem look_no {n : Int} {Q : Qt} {a b k : Int} (h : ¬ (may n a b ∧ inr Q a b k)) : (lookF n Q a b k).1 = [] ∧ ((lookF n Q a b k).2 = 2 ∨ (lookF n Q a b k).2 = 22) ∧ takeQ n Q a b k = Q a b := by
  have ht : takeQ n Q a b k = Q a b := by unfold takeQ; rw [if_neg h]
  refine ⟨?_, ?_, ht⟩ <;> unfold lookF <;> by_cases hm : may n a b
  · rw [if_pos hm, if_neg (fun hi => h ⟨hm, hi⟩)]
  · rw [if_neg hm]
  · rw [if_pos hm, if_neg (fun hi => h ⟨hm, hi⟩)]; exact Or.inr rfl
  · rw [if_neg hm]; exact Or.inl rfl
theorem look_is {n : Int} {Q : Qt} {a b k : Int} (hm : may n a b) (hi : inr Q a b k) : (lookF n Q a b k).2 = 0 ∧ takeQ n Q a b k = (Q a b).eraseIdx k.toNat := by
  unfold lookF takeQ
  rw [if_pos hm, if_pos hi, if_pos ⟨hm, hi⟩]
  exact ⟨rfl, rfl⟩
variable {n : Int} {Q : Qt}
theorem Qs.of (h : Qs n Q) {a b : Int} {q : List (List Int)} (h1 : q.length ≤ 64) (h2 : ∀ l ∈ q, l.length ≤ 1100000 ∧ ∀ x ∈ l, 0 ≤ x ∧ x < 256) : Qs n (upd Q a b q) := by
  refine ⟨h.n1, h.n8, fun c d => ?_, fun c d l hl => ?_⟩
  · unfold upd; split
    · exact h1
    · exact h.few c d
  · unfold upd at hl; split at hl
    · exact h2 l hl
    · exact h.let_ c d l hl
theorem Qs.look (h : Qs n Q) (a b k : Int) : (lookF n Q a b k).1.length ≤ 1100000 ∧ ∀ x ∈ (lookF n Q a b k).1, 0 ≤ x ∧ x < 256 := by
  by_cases h0 : (lookF n Q a b k).2 = 0
  · exact h.let_ a b _ (List.mem_of_getElem? (look_yes h0).2.2)
  · have : ¬ (may n a b ∧ inr Q a b k) := fun hh => h0 (look_is hh.1 hh.2).1
    rw [(look_no this).1]
    exact ⟨by decide, fun x hx => by cases hx⟩
theorem Qs.take (h : Qs n Q) (a b k : Int) : Qs n (upd Q a b (takeQ n Q a b k)) := by
  by_cases hh : may n a b ∧ inr Q a b k
  · rw [(look_is hh.1 hh.2).2]
    exact h.of (Nat.le_trans (List.length_eraseIdx_le ..) (h.few a b)) (fun l hl => h.let_ a b l (List.mem_of_mem_eraseIdx hl))
  · rw [(look_no hh).2.2]
    exact h.of (h.few a b) (h.let_ a b)
theorem Qs.send (h : Qs n Q) (a b : Int) (l : List Int) (hl : ∀ x ∈ l, 0 ≤ x ∧ x < 256) : Qs n (upd Q a b (sendF n Q a b l).2) := by
  unfold sendF
  have hs := h.of (a := a) (b := b) (h.few a b) (h.let_ a b)
  split
  · split
    · exact hs
    · split
      · exact hs
      · refine h.of (by rw [List.length_append, List.length_singleton]; omega) (fun x hx => ?_)
        rcases List.mem_append.1 hx with hx | hx
        · exact h.let_ a b x hx
        · rw [List.mem_singleton.1 hx]; exact ⟨by omega, hl⟩
  · exact hs
theorem Qs.dbl (h : Qs n Q) (a b k : Int) : Qs n (upd Q a b (dblF n Q a b k).2) := by
  unfold dblF
  split
  · exact h.send a b _ (h.look a b k).2
  · exact h.of (h.few a b) (h.let_ a b)
end Go.Proofs.Ytnjnljnhpihemaa.Po
