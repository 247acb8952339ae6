/- What sha.Sum computes is what the reference computes. -/
import Derived.Test.YtkimpjlaailhcaaDoorShaA
import Derived.Test.YtkimpjlaailhcaaDoorShaT
import Derived.Laws.BitsAllLaws
set_option linter.unusedVariables false
set_option linter.unusedSimpArgs false
namespace Go.Proofs.YtkimpjlaailhcaaDoor.Sha
open Go Go.RowKit Go.Proofs.YtkimpjlaailhcaaDoorW.PrintWords Go.Proofs.YtkimpjlaailhcaaDoor.Ar Go.Proofs.YtkimpjlaailhcaaDoor.PA
theorem ob_add (k a b : Nat) (hb : b < 2 ^ k) (h : 2 ^ k * a + b < 4294967296) : ob ((2 ^ k * a : Nat) : Int) (b : Int) = ((2 ^ k * a + b : Nat) : Int) := by
  rw [ob, u32_or_nat _ _ (by omega) (by omega), Nat.two_pow_add_eq_or_of_lt hb]
theorem ob4 (a b c d : Int) (ha : isB a) (hb : isB b) (hc : isB c) (hd : isB d) :
    ob (ob (ob (u a * 16777216 % 4294967296) (u b * 65536 % 4294967296)) (u c * 256 % 4294967296)) (u d) = ((a * 256 + b) * 256 + c) * 256 + d := by
  obtain ⟨a0, a1⟩ := ha
  obtain ⟨b0, b1⟩ := hb
  obtain ⟨c0, c1⟩ := hc
  obtain ⟨d0, d1⟩ := hd
  obtain ⟨a, rfl⟩ := Int.eq_ofNat_of_zero_le a0
  obtain ⟨b, rfl⟩ := Int.eq_ofNat_of_zero_le b0
  obtain ⟨c, rfl⟩ := Int.eq_ofNat_of_zero_le c0
  obtain ⟨d, rfl⟩ := Int.eq_ofNat_of_zero_le d0
  have e1 : u (a : Int) * 16777216 % 4294967296 = ((2 ^ 24 * a : Nat) : Int) := by simp only [u]; omega
  have e2 : u (b : Int) * 65536 % 4294967296 = ((65536 * b : Nat) : Int) := by simp only [u]; omega
  have e3 : u (c : Int) * 256 % 4294967296 = ((256 * c : Nat) : Int) := by simp only [u]; omega
  have e4 : u (d : Int) = (d : Int) := by simp only [u]; omega
  rw [e1, e2, e3, e4, ob_add 24 a (65536 * b) (by omega) (by omega), show 2 ^ 24 * a + 65536 * b = 2 ^ 16 * (256 * a + b) by omega, ob_add 16 _ (256 * c) (by omega) (by omega),
    show 2 ^ 16 * (256 * a + b) + 256 * c = 2 ^ 8 * (65536 * a + 256 * b + c) by omega, ob_add 8 _ d (by omega) (by omega)]
  omega
theorem rd_B (B : List Int) (h : ∀ x ∈ B, isB x) (i : Int) : isB (rd B i) := by
  rw [rd, List.getD_eq_getElem?_getD]
  rcases e : B[i.toNat]? with _ | x
  · exact ⟨by simp, by simp⟩
  · exact h x (List.mem_of_getElem? e)
theorem rd_zeros (n : Nat) (i : Int) : rd (List.replicate n 0) i = 0 := by
  rw [rd, List.getD_eq_getElem?_getD, List.getElem?_replicate]
  split <;> rfl
theorem sc_zero (B : List Int) : ∀ k j : Nat, k ≤ j → rd (sc B k) (j : Int) = 0
  | 0, j, _ => rd_zeros _ _
  | k + 1, j, h => by
    rw [sc, it, stp, rd_set_ne _ _ _ _ (by omega)]
    exact sc_zero B k j (by omega)
theorem oW_sc (B : List Int) (hB : ∀ x ∈ B, isB x) : ∀ k, k ≤ 16 → oW B k = sc B k
  | 0, _ => rfl
  | k + 1, h => by
    have ih := oW_sc B hB k (by omega)
    have hz := sc_zero B k k (Nat.le_refl _)
    have hl := sc_len B k
    rw [oW] at ih
    rw [sc_lo B k (by omega), oW, it, ih]
    generalize sc B k = W at *
    have hw : word B k = _ := ob4 _ _ _ _ (rd_B B hB (4 * k)) (rd_B B hB (4 * k + 1)) (rd_B B hB (4 * k + 2)) (rd_B B hB (4 * k + 3))
    have b0 := rd_B B hB (4 * k)
    have b1 := rd_B B hB (4 * k + 1)
    have b2 := rd_B B hB (4 * k + 2)
    have b3 := rd_B B hB (4 * k + 3)
    simp only [isB] at b0 b1 b2 b3
    simp only [it, ist, List.set_set]
    rw [rd_set_same _ _ _ (by omega), rd_set_same _ _ _ (by omega), rd_set_same _ _ _ (by omega), hz, hw]
    congr 1
    simp only [u, show ((0 : Nat) : Int) = 0 from rfl, show ((1 : Nat) : Int) = 1 from rfl, show ((2 : Nat) : Int) = 2 from rfl, show ((3 : Nat) : Int) = 3 from rfl, Int.add_zero]
    omega
theorem rsc_sc (B : List Int) (hB : ∀ x ∈ B, isB x) : ∀ n, rsc B n = sc B (16 + n)
  | 0 => oW_sc B hB 16 (Nat.le_refl _)
  | n + 1 => by
    have ih := rsc_sc B hB n
    rw [rsc] at ih
    rw [rsc, it, ih, show 16 + (n + 1) = (16 + n) + 1 by omega, sc_hi B (16 + n) (by omega), rstp]
theorem mixF_eq (S B : List Int) (hB : ∀ x ∈ B, isB x) : mixF S B = blockF S B := by
  rw [mixF, blockF, fin, rfin, rsc_sc B hB 48]
theorem feed_blocks (S B P : List Int) (hBl : B.length = 64) (hP : ∀ x ∈ P, isB x) : ∀ k, 64 * k ≤ P.length →
    ∃ B', B'.length = 64 ∧ feed (S, B, 0) (P.take (64 * k)) = (it (fun j S => blockF S ((P.drop (64 * j)).take 64)) S k, B', 0)
  | 0, _ => ⟨B, hBl, by rw [Nat.mul_zero, List.take_zero]; rfl⟩
  | k + 1, h => by
    obtain ⟨B', hl', e⟩ := feed_blocks S B P hBl hP k (by omega)
    have hc : ((P.drop (64 * k)).take 64).length = 64 := by rw [List.length_take, List.length_drop]; omega
    refine ⟨(P.drop (64 * k)).take 64, hc, ?_⟩
    rw [show 64 * (k + 1) = 64 * k + 64 by omega, List.take_add, feed_append, e, feed_chunk _ _ _ _ (by intro h0; rw [h0] at hc; simp at hc) hl' (by omega), if_pos (by omega),
      splice_all _ _ (by omega), mixF_eq _ _ (fun x hx => hP x (List.mem_of_mem_drop (List.mem_of_mem_take hx)))]
    rfl
theorem tail_B (h : Nat) (n : Int) : ∀ x ∈ tail_ h n, isB x := by
  intro x hx
  rw [tail_, be8_eq] at hx
  simp only [List.mem_cons, List.mem_append, List.mem_replicate, List.not_mem_nil, or_false] at hx
  rcases hx with h | ⟨_, h⟩ | h | h | h | h | h | h | h | h <;> (rw [h]; constructor <;> omega)
theorem padF_B (l : List Int) (hl : ∀ x ∈ l, isB x) : ∀ x ∈ padF l, isB x := by
  intro x hx
  rw [padF] at hx
  rcases List.mem_append.1 hx with h | h
  · exact hl x h
  · exact tail_B _ _ x h
theorem sumF_eq (l : List Int) (hl : ∀ x ∈ l, isB x) : sumF l = rsumF l := by
  have hp := padF_len l
  obtain ⟨B', _, e⟩ := feed_blocks btab (List.replicate 64 0) (padF l) List.length_replicate (padF_B l hl) ((padF l).length / 64) (by omega)
  have e2 : feed (btab, List.replicate 64 0, 0) (padF l) = feed (feed (btab, List.replicate 64 0, 0) l) (tail_ (l.length % 64) (l.length : Nat)) := by rw [padF, feed_append]
  rw [List.take_of_length_le (by omega), e2] at e
  have e3 := feed_held l btab (List.replicate 64 0) 0 (by omega)
  rw [Nat.zero_add] at e3
  rw [sumF, sumH]
  generalize feed (btab, List.replicate 64 0, 0) l = X at *
  obtain ⟨X1, X2, X3⟩ := X
  simp only [] at e3 ⊢
  rw [e3, ← e3, e3]
  subst e3
  rw [e, rsumF, rb]
end Go.Proofs.YtkimpjlaailhcaaDoor.Sha
