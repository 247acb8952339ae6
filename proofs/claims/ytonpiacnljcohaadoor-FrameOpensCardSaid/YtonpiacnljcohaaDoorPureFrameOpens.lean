/- Any bytes begin with the frame that the document says. -/
import Derived.Test.YtonpiacnljcohaaDoorFrR
import Derived.Test.YtonpiacnljcohaaDoorPAx4
set_option linter.unusedVariables false
set_option linter.unusedSimpArgs false
namespace Go.Proofs.YtonpiacnljcohaaDoor.FrT
open Go Go.RowKit Go.Proofs.YtonpiacnljcohaaDoor.PA Go.Proofs.YtonpiacnljcohaaDoorW.PrintWords Go.Proofs.YtonpiacnljcohaaDoor.LebT Go.Proofs.YtonpiacnljcohaaDoor.LebP
theorem opens_l0 (b : List Int) (hb : b.length ≤ 140737488351232) (x : Int) : ∀ (d k i : Nat) (l : List Int), i + d = l.length → l.length ≤ 140737488351232 → 11000000 + d < k → stemmalaw04_FrameOpens.l0 k b b (i : Int) x l = some true
  | d, 0, i, _, _, _, h => by omega
  | 0, k + 1, i, l, hi, hl, hk => by
    rw [stemmalaw04_FrameOpens.l0, if_neg (by omega), if_pos rfl, awake_f (by omega), Option.bind_some]
  | d + 1, k + 1, i, l, hi, hl, hk => by
    rw [stemmalaw04_FrameOpens.l0, if_pos (by omega), if_pos (by omega), show wrap64 ((i : Int) + 1) = ((i + 1 : Nat) : Int) from w64a i 1 (by omega)]
    exact opens_l0 b hb x d k (i + 1) _ (by rw [List.length_set]; omega) (by rw [List.length_set]; omega) (by omega)
theorem opn_len (b : List Int) (hl : b.length ≤ 140737488351232) : (opn b).2.1.length ≤ 140737488351232 := by
  unfold opn
  split
  · simp
  split
  · simp
  split
  · split
    · simp
    split
    · simp
    split
    · simp only [List.length_drop, List.length_take]; omega
    · simp
  · simp
end Go.Proofs.YtonpiacnljcohaaDoor.FrT
namespace Go.Proofs.YtonpiacnljcohaaDoor.Pure
open Go Go.RowKit Go.Proofs.YtonpiacnljcohaaDoor.PA Go.Proofs.YtonpiacnljcohaaDoorW.PrintWords Go.Proofs.YtonpiacnljcohaaDoor.LebT Go.Proofs.YtonpiacnljcohaaDoor.LebP Go.Proofs.YtonpiacnljcohaaDoor.FrT
theorem FrameOpens (a0 : (List Int)) (q0 : a0.length ≤ maxLen ∧ ∀ y22 ∈ a0, (Lit.int .u8 y22).wf = true) (b0 : a0.length * 1 ≤ 140737488351232) : ∃ k, PA.stemmalaw04_FrameOpens.f k a0 = some true := by
  have hb := wf_bytes q0.2
  have hl : a0.length ≤ 140737488351232 := by omega
  clear q0 b0
  have ho := opn_len a0 hl
  refine ⟨11000002 + (opn a0).2.1.length, ?_⟩
  unfold stemmalaw04_FrameOpens.f
  simp only [Option.bind_some, List.nil_append, List.length_nil]
  rw [if_pos (by omega), open_f a0 hb hl, ropen_f a0 hb hl (by omega)]
  simp only [Option.bind_some, if_true]
  rw [show 11000002 + (opn a0).2.1.length = (11000001 + (opn a0).2.1.length) + 1 by omega, stemmalaw04_FrameOpens.j0, if_neg (by simp)]
  exact opens_l0 a0 hl _ (opn a0).2.1.length _ 0 _ (by omega) ho (by omega)
end Go.Proofs.YtonpiacnljcohaaDoor.Pure
