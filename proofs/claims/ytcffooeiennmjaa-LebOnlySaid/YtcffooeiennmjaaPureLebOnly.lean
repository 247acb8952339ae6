/- Whatever bytes are taken off as a number or as a text are those that are laid for it; no condition. -/
import Derived.Test.YtcffooeiennmjaaLebA
import Derived.Test.YtcffooeiennmjaaPAx6
set_option linter.unusedVariables false
set_option linter.unusedSimpArgs false
namespace Go.Proofs.Ytcffooeiennmjaa.Pure
open Go.RowKit Go.Proofs.Ytcffooeiennmjaa.PA Go.Proofs.YtcffooeiennmjaaW.PrintWords Go.Proofs.YtcffooeiennmjaaW.PrintLast Go.Proofs.YtcffooeiennmjaaW.PrintMore Go.Proofs.Ytcffooeiennmjaa.LebT Go.Proofs.Ytcffooeiennmjaa.LebP
theorem LebOnly : stemmalaw02_LebOnly.Pure := by
  intro b _ hl1 hl2
  have hb : ∀ x ∈ b, isByte x := fun x hx => wf_u8 (hl2 x hx)
  refine ⟨60, ?_⟩
  have J : ∀ (k : Nat) (s : ByteArray) (u e : Int), 40 ≤ k → (e = 0 → 0 ≤ u ∧ u ≤ b.length ∧ leb_Text.f (k - 1) s = some (b.take u.toNat)) → stemmalaw02_LebOnly.j0 k b s u e false = some true := by
    intro k s u e hk h
    obtain ⟨k, rfl⟩ : ∃ m, k = m + 1 := ⟨k - 1, by omega⟩
    rw [stemmalaw02_LebOnly.j0.eq_2, if_neg (by decide), awake02 (by omega)]
    by_cases c : e = 0
    · obtain ⟨q1, q2, q3⟩ := h c
      rw [if_pos c, if_pos q2, show leb_Text.f k s = _ from q3]
      simp only [Option.bind_some]
      rw [if_pos q1]; simp
    · rw [if_neg c]; rfl
  have T : ∀ k, 40 ≤ k → ∃ s u e, leb_GetText.f 60 b 1099511627776 = some (s, u, e) ∧ (e = 0 → 0 ≤ u ∧ u ≤ b.length ∧ leb_Text.f (k - 1) s = some (b.take u.toNat)) := by
    intro k hk
    rw [gText b _ (by omega) (by omega) hb (by omega) (by omega)]
    rcases gU_errs b 0 0 with h | h | h
    · obtain ⟨v, u, e⟩ : ∃ v u, gU 0 0 b = (v, u, 0) := ⟨(gU 0 0 b).1, (gU 0 0 b).2.1, by rw [← h]⟩
      obtain ⟨m, j, h1, h2, h3, h4, h5, h6, h7⟩ := gU_only b 0 0 v u hb (by omega) (by simp) e
      have hv : v = (m : Int) := by simpa using h1
      have hu : u = (j : Int) := by simpa using h2
      subst hv; subst hu
      rw [e]
      simp only [if_true]
      by_cases c1 : (m : Int) > 1099511627776
      · rw [if_pos c1]; exact ⟨_, _, _, rfl, fun h => by cases h⟩
      · rw [if_neg c1]
        by_cases c2 : (m : Int) > (b.length : Int) - j
        · rw [if_pos c2]; exact ⟨_, _, _, rfl, fun h => by cases h⟩
        · rw [if_neg c2]
          refine ⟨_, _, _, rfl, fun _ => ⟨by omega, by omega, ?_⟩⟩
          have e1 : ((j : Int) + (m : Int)).toNat = j + m := by omega
          have e2 : ((b.take (j + m)).drop j).length = m := by simp; omega
          have hb2 : ∀ x ∈ (b.take (j + m)).drop j, isByte x := fun x hx => hb x (List.mem_of_mem_take (List.mem_of_mem_drop hx))
          unfold leb_Text.f
          rw [e1, Int.toNat_natCast, strOfNums_size, e2, u64_size (by omega), uint_f (by omega) (by omega) (by omega), bytesOf_str hb2]
          simp only [Option.bind_some, Int.toNat_natCast]
          have := putU_len64 (n := m) (by omega)
          rw [if_pos (by omega), h5]
          congr 1
          have e3 : b.take j = (b.take (j + m)).take j := by rw [List.take_take, Nat.min_eq_left (by omega)]
          rw [e3, List.take_append_drop]
    · rw [h]; exact ⟨_, _, _, rfl, fun h => by simp at h⟩
    · rw [h]; exact ⟨_, _, _, rfl, fun h => by simp at h⟩
  obtain ⟨s, u, e, ht, hq⟩ := T 60 (by omega)
  have hJ := J 60 s u e (by omega) hq
  have U : (gU 0 0 b).2.2 = 0 → 0 ≤ (gU 0 0 b).2.1 ∧ (gU 0 0 b).2.1 ≤ b.length ∧ leb_Uint.f 60 (gU 0 0 b).1 = some (b.take (gU 0 0 b).2.1.toNat) := fun h => by
    obtain ⟨v, u, e⟩ : ∃ v u, gU 0 0 b = (v, u, 0) := ⟨(gU 0 0 b).1, (gU 0 0 b).2.1, by rw [← h]⟩
    obtain ⟨m, j, h1, h2, h3, h4, h5, h6, h7⟩ := gU_only b 0 0 v u hb (by omega) (by simp) e
    have hv : v = (m : Int) := by simpa using h1
    have hu : u = (j : Int) := by simpa using h2
    have h7' : m < 18446744073709551616 := by simpa using h7
    subst hv; subst hu
    rw [e]
    refine ⟨by simp, by simp; omega, ?_⟩
    rw [uint_f (by omega) (by omega) (by omega)]
    simp only [Int.toNat_natCast]; rw [h5]
  have I : (gI 0 0 false b).2.2 = 0 → 0 ≤ (gI 0 0 false b).2.1 ∧ (gI 0 0 false b).2.1 ≤ b.length ∧ leb_Int.f 60 (gI 0 0 false b).1 = some (b.take (gI 0 0 false b).2.1.toNat) := fun h => by
    obtain ⟨v, u, e⟩ : ∃ v u, gI 0 0 false b = (v, u, 0) := ⟨(gI 0 0 false b).1, (gI 0 0 false b).2.1, by rw [← h]⟩
    obtain ⟨m, j, h1, h2, h3, h4, h5, h6, h7⟩ := gI_only b 0 0 false v u hb (by omega) (by simp) e
    have hv : v = m := by simpa using h1
    have hu : u = (j : Int) := by simpa using h2
    subst hv; subst hu
    rw [e]
    refine ⟨by simp, by simp; omega, ?_⟩
    rw [int_f (by omega) h7.1 h7.2]
    simp only [Int.toNat_natCast]; rw [h5]
  unfold stemmalaw02_LebOnly.f
  rw [getU_f (by omega) hb, getI_f (by omega) hb, ht]
  simp only [Option.bind_some]
  have R : (if (gI 0 0 false b).2.2 = 0 then (if (gI 0 0 false b).2.1 > (b.length : Int) then (stemmalaw02_LebOnly.j0 60 b s u e true) else ((leb_Int.f 60 (gI 0 0 false b).1).bind fun t253 => (if 0 ≤ (gI 0 0 false b).2.1 then (if (gI 0 0 false b).2.1 ≤ (b.length : Int) then (stemmalaw02_LebOnly.j0 60 b s u e ((strOfNums t253).toList != (strOfNums (b.take ((gI 0 0 false b).2.1 : Int).toNat)).toList)) else (none)) else (none)))) else (stemmalaw02_LebOnly.j0 60 b s u e false)) = some true := by
    by_cases c : (gI 0 0 false b).2.2 = 0
    · obtain ⟨q1, q2, q3⟩ := I c
      rw [if_pos c, if_neg (by omega), q3]
      simp only [Option.bind_some]
      rw [if_pos q1, if_pos q2, show ((strOfNums (b.take (gI 0 0 false b).2.1.toNat)).toList != (strOfNums (b.take (gI 0 0 false b).2.1.toNat)).toList) = false by simp]
      exact hJ
    · rw [if_neg c]; exact hJ
  by_cases c : (gU 0 0 b).2.2 = 0
  · obtain ⟨q1, q2, q3⟩ := U c
    rw [if_pos c, if_neg (by omega), q3]
    simp only [Option.bind_some]
    rw [if_pos q1, if_pos q2, if_pos trivial]
    exact R
  · rw [if_neg c]; exact R
end Go.Proofs.Ytcffooeiennmjaa.Pure
