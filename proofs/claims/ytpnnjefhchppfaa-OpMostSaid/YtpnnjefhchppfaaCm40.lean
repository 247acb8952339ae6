/- Own texts of this claim, and the words they use, one behind the other (wip/tools/trim.py). -/
import Derived.Test.YtpnnjefhchppfaaCm39
set_option linter.unusedVariables false
set_option linter.unusedSimpArgs false
namespace Go.Proofs.Ytpnnjefhchppfaa.ColT
open Go Go.RowKit Go.Proofs.Ytpnnjefhchppfaa.PA Go.Proofs.YtpnnjefhchppfaaW.PrintWords Go.Proofs.YtpnnjefhchppfaaW.PrintLast Go.Proofs.YtpnnjefhchppfaaW.PrintMore Go.Proofs.Ytpnnjefhchppfaa.LebT Go.Proofs.Ytpnnjefhchppfaa.LebP Go.Proofs.Ytpnnjefhchppfaa.ColS
theorem take_two (b : List Int) (p : List Int) (c m : Nat) (hp : p.length = c) (hb : b = p ++ b.drop c) : b.take (c + m) = p ++ (b.drop c).take m := by
  conv => lhs; rw [hb]
  rw [← hp, List.take_length_add_append]
theorem gR_only (most : Nat) : ∀ (n : Nat) (acc : List Int) (used : Nat) (b x : List Int) (u : Int), (∀ y ∈ b, isByte y) → gR most n acc used b = (x, u, 0) →
    ∃ (ps : List (Int × Nat)) (m : Nat), ps.length = n ∧ x = acc ++ expand ps ∧ chain acc.getLast? ps ∧ u = ((used + m : Nat) : Int) ∧ m ≤ b.length ∧ b.take m = flat ps ∧ ∀ p ∈ ps, -9223372036854775808 ≤ p.1 ∧ p.1 < 9223372036854775808
  | 0, acc, used, b, x, u, hb, h => by
    rw [gR] at h
    simp only [Prod.mk.injEq] at h
    exact ⟨[], 0, rfl, by simp [expand, h.1], trivial, by simp [h.2.1], by omega, by simp [flat], by simp⟩
  | n + 1, acc, used, b, x, u, hb, h => by
    rw [gR] at h
    split at h
    · rename_i hf
      obtain ⟨v, c, hv, hv64, hc0, hcl, hc10, hbv, hpl⟩ := gU_rng hb hf
      simp only [hv, Int.toNat_natCast] at h
      split at h
      · simp at h
      · rename_i hv0
        split at h
        · simp at h
        · split at h
          · rename_i hg
            have hbc := drop_byte hb c
            obtain ⟨y, j, hy, hy1, hy2, hj0, hjl, hj10, hby, hpy⟩ := gI_rng hbc hg
            rw [List.length_drop] at hjl
            simp only [hy, Int.toNat_natCast] at h
            split at h
            · simp at h
            · rename_i hlast
              obtain ⟨ps, m, h1, h2, h3, h4, h5, h6, h7⟩ := gR_only most n _ _ _ x u (drop_byte hb (c + j)) h
              rw [List.length_drop] at h5
              have hv1 : 0 < v := by omega
              rw [getLast_rep _ _ _ hv1] at h3
              refine ⟨(y, v) :: ps, c + (j + m), by simp [h1], by rw [h2]; simp [expand], ⟨hlast, hv1, h3⟩, by rw [h4]; congr 1; omega, by omega, ?_, ?_⟩
              · rw [take_two b (putU v) c (j + m) hpl hbv, take_two (b.drop c) (putI y) j m hpy hby, List.drop_drop, h6]
                simp [flat]
              · intro p hp
                rcases List.mem_cons.1 hp with rfl | hp
                · exact ⟨hy1, hy2⟩
                · exact h7 p hp
          · rename_i hg
            simp only [Prod.mk.injEq] at h
            exact absurd h.2.2 hg
    · rename_i hf
      simp only [Prod.mk.injEq] at h
      exact absurd h.2.2 hf
theorem expand_head (v : Int) : ∀ ps : List (Int × Nat), chain (some v) ps → ∀ y, (expand ps).head? = some y → y ≠ v
  | [], _, y, h => by simp [expand] at h
  | (w, n) :: r, hc, y, h => by
    obtain ⟨h1, h2, _⟩ := hc
    obtain ⟨n, rfl⟩ : ∃ n', n = n' + 1 := ⟨n - 1, by omega⟩
    simp only [expand, List.flatMap_cons, List.replicate_succ, List.cons_append, List.head?_cons, Option.some.injEq] at h
    intro e
    exact h1 (by rw [h, e])
theorem st_expand : ∀ (ps : List (Int × Nat)) (last : Option Int), chain last ps → st (expand ps) = ps
  | [], _, _ => rfl
  | (v, n) :: r, last, hc => by
    obtain ⟨h1, h2, h3⟩ := hc
    obtain ⟨n, rfl⟩ : ∃ n', n = n' + 1 := ⟨n - 1, by omega⟩
    have e : expand ((v, n + 1) :: r) = List.replicate (n + 1) v ++ expand r := by simp [expand]
    rw [e, st_rep v (expand r) (expand_head v r h3) n, st_expand r (some v) h3]
theorem getRuns_only {b : List Int} (hb : ∀ y ∈ b, isByte y) {most : Int} {x : List Int} {u : Int} (h : getRuns b most = (x, u, 0)) :
    ∃ m : Nat, u = (m : Int) ∧ m ≤ b.length ∧ b.take m = runs x ∧ ∀ y ∈ x, -9223372036854775808 ≤ y ∧ y < 9223372036854775808 := by
  unfold getRuns at h
  split at h
  · rename_i hf
    obtain ⟨v, c, hv, hv64, hc0, hcl, hc10, hbv, hpl⟩ := gU_rng hb hf
    simp only [hv, Int.toNat_natCast] at h
    split at h
    · simp at h
    · obtain ⟨ps, m, h1, h2, h3, h4, h5, h6, h7⟩ := gR_only _ v [] c _ x u (drop_byte hb c) h
      rw [List.length_drop] at h5
      simp only [List.nil_append] at h2
      have hs : st x = ps := by rw [h2]; exact st_expand ps none (by simpa using h3)
      refine ⟨c + m, h4, by omega, ?_, ?_⟩
      · rw [take_two b (putU v) c m hpl hbv, h6]
        unfold runs
        rw [hs, h1]
      · intro y hy
        rw [h2] at hy
        obtain ⟨p, hp, hpy⟩ := List.mem_flatMap.1 hy
        have := (List.mem_replicate.1 hpy).2
        rw [this]
        exact h7 p hp
  · rename_i hf
    simp only [Prod.mk.injEq] at h
    exact absurd h.2.2 hf
end Go.Proofs.Ytpnnjefhchppfaa.ColT

