/- ShaWrites: what is left beside the walk: the pieces are bytes, and not too many. -/
import Derived.Test.YtkimpjlaailhcaaDoorPAx4
set_option linter.unusedVariables false
namespace Go.Proofs.YtkimpjlaailhcaaDoor.Pure
open Go Go.Proofs.YtkimpjlaailhcaaDoor.Sha
theorem sum_pieces : ∀ l : List (List Int), l.length + l.flatten.length ≤ (l.map (fun y28 => (y28.map (fun y22 => 1)).sum + 1)).sum
  | [] => by simp
  | p :: l => by
    have ih := sum_pieces l
    have h : ∀ q : List Int, (q.map (fun y22 => 1)).sum = q.length := fun q => by
      induction q with
      | nil => rfl
      | cons x q ih => rw [List.map_cons, List.sum_cons, ih, List.length_cons]; omega
    simp only [List.flatten_cons, List.length_append, List.length_cons, List.map_cons, List.sum_cons]
    rw [h]
    omega
theorem ShaWrites (a0 : (List (List Int))) (q0 : a0.length ≤ maxLen ∧ ∀ y28 ∈ a0, y28.length ≤ maxLen ∧ ∀ y22 ∈ y28, (Lit.int .u8 y22).wf = true) (b0 : (a0.map (fun y28 => (y28.map (fun y22 => 1)).sum + 1)).sum + 1 ≤ 1048576) : PA.stemmalaw01_ShaWrites.f a0 = some true := by
  unfold PA.stemmalaw01_ShaWrites.f
  have h := sum_pieces a0
  rw [if_pos ⟨fun p hp x hx => by
    have h := (q0.2 p hp).2 x hx
    simp only [Lit.wf, IntKind.min, IntKind.max, IntKind.signed, IntKind.bits, Bool.and_eq_true] at h
    simp at h
    exact ⟨by omega, by omega⟩, by omega, by omega⟩]
end Go.Proofs.YtkimpjlaailhcaaDoor.Pure
