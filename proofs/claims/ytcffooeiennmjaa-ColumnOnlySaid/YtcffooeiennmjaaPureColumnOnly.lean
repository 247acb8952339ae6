/- Bytes that are taken off are those that are laid for what they say: there is one way alone. -/
import Derived.Test.YtcffooeiennmjaaColOF
import Derived.Test.YtcffooeiennmjaaPAx14
set_option linter.unusedVariables false
set_option linter.unusedSimpArgs false
namespace Go.Proofs.Ytcffooeiennmjaa.Pure
open Go.RowKit Go.Proofs.Ytcffooeiennmjaa.PA Go.Proofs.YtcffooeiennmjaaW.PrintWords Go.Proofs.YtcffooeiennmjaaW.PrintLast Go.Proofs.Ytcffooeiennmjaa.ColT Go.Proofs.Ytcffooeiennmjaa.ColS
theorem only_j0 (b : List Int) (hb : ∀ x ∈ b, LebT.isByte x) (hbl : b.length ≤ 140737488351232) (k : Nat) (hk : 800000 ≤ k) : stemmalaw03_ColumnOnly.j0 (k + 1) b (getFlags b 65536).1 (getFlags b 65536).2.1 (getFlags b 65536).2.2 false = some true := by
  rw [stemmalaw03_ColumnOnly.j0, if_neg (by simp)]
  by_cases hf : (getFlags b 65536).2.2 = 0
  · have hl := getFlags_len b 65536
    obtain ⟨z, u, e, he⟩ : ∃ z u e, getFlags b 65536 = (z, u, e) := ⟨_, _, _, rfl⟩
    rw [he] at hf hl ⊢
    obtain rfl : e = 0 := hf
    obtain ⟨m, rfl, h1, h2⟩ := getFlags_only hb he
    have hm : ((m : Int)) ≤ (b.length : Int) := by omega
    rw [if_pos rfl, if_pos hm, column_Flags.f, if_pos (by omega)]
    simp only [Option.bind_some]
    rw [if_pos (Int.natCast_nonneg _), Int.toNat_natCast, if_pos (by rw [h2]), awake03 hk]
    rfl
  · rw [if_neg hf, awake03 hk]
    rfl
theorem ColumnOnly : stemmalaw03_ColumnOnly.Pure := by
  intro b _ hbl hb8
  have hb : ∀ x ∈ b, LebT.isByte x := fun x hx => LebP.wf_u8 (hb8 x hx)
  refine ⟨800001, ?_⟩
  have hj := only_j0 b hb (by omega) 800000 (Nat.le_refl _)
  unfold stemmalaw03_ColumnOnly.f
  rw [getRuns_f (by omega) hb (by omega), getDeltas_f (by omega) hb (by omega), getFlags_f (by omega) hb (by omega)]
  simp only [Option.bind_some]
  by_cases hf : (getRuns b 65536).2.2 = 0
  · have hl := getRuns_len b 65536
    obtain ⟨x, u, e, he⟩ : ∃ x u e, getRuns b 65536 = (x, u, e) := ⟨_, _, _, rfl⟩
    rw [he] at hf hl ⊢
    obtain rfl : e = 0 := hf
    obtain ⟨m, rfl, h1, h2, h3⟩ := getRuns_only hb he
    have hm : ((m : Int)) ≤ (b.length : Int) := by omega
    have hm2 : ¬ ((m : Int) > (b.length : Int)) := by omega
    have hsl : (sums0 x).length = x.length := by
      have := congrArg List.length (dif0_sums0 x h3)
      rwa [dif0_length] at this
    have hd : column_Deltas.f 800001 (sums0 x) = some (runs x) := by
      rw [putDeltas_f _ (by simp at hl; omega) (by simp at hl; omega), dif0_sums0 x h3, runs_some x (by simp at hl; omega) h3]
    simp only [if_true, Int.toNat_natCast]
    rw [if_neg hm2, runs_some x (by simp at hl; omega) h3]
    simp only [Option.bind_some]
    rw [if_pos (Int.natCast_nonneg _), if_pos hm, if_pos (by rw [h2]), if_neg hm2, hd]
    simp only [Option.bind_some]
    rw [if_pos (Int.natCast_nonneg _), if_pos hm, h2]
    simp only [bne_self_eq_false]
    exact hj
  · simp only [if_neg hf]
    exact hj
end Go.Proofs.Ytcffooeiennmjaa.Pure
