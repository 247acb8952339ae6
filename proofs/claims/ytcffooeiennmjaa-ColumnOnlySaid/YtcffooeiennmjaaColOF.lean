/- Truths that are taken off are those that are laid: plainly. -/
import Derived.Test.YtcffooeiennmjaaColFA
import Derived.Test.YtcffooeiennmjaaColON
set_option linter.unusedVariables false
set_option linter.unusedSimpArgs false
namespace Go.Proofs.Ytcffooeiennmjaa.ColT
open Go Go.RowKit Go.Proofs.Ytcffooeiennmjaa.PA Go.Proofs.YtcffooeiennmjaaW.PrintWords Go.Proofs.YtcffooeiennmjaaW.PrintLast Go.Proofs.YtcffooeiennmjaaW.PrintMore Go.Proofs.Ytcffooeiennmjaa.LebT Go.Proofs.Ytcffooeiennmjaa.LebP Go.Proofs.Ytcffooeiennmjaa.ColS
/-- Truths by turns. -/
def alt : Bool → List Nat → List Bool
  | _, [] => []
  | t, n :: r => List.replicate n t ++ alt (!t) r
def stb : Bool → List Nat → List (Bool × Nat)
  | _, [] => []
  | t, n :: r => (t, n) :: stb (!t) r
theorem stb_length : ∀ (t : Bool) (cs : List Nat), (stb t cs).length = cs.length
  | _, [] => rfl
  | t, n :: r => by simp [stb, stb_length]
theorem flatB_stb : ∀ (t : Bool) (cs : List Nat), flatB (stb t cs) = cs.flatMap putU
  | _, [] => rfl
  | t, n :: r => by
    have := flatB_stb (!t) r
    simp only [flatB] at this
    simp [stb, flatB, this]
theorem alt_head (t : Bool) : ∀ cs : List Nat, (∀ c ∈ cs, 0 < c) → ∀ y, (alt t cs).head? = some y → y = t
  | [], _, y, h => by simp [alt] at h
  | n :: r, hc, y, h => by
    obtain ⟨n, rfl⟩ : ∃ n', n = n' + 1 := ⟨n - 1, by have := hc n (by simp); omega⟩
    simp only [alt, List.replicate_succ, List.cons_append, List.head?_cons, Option.some.injEq] at h
    exact h.symm
theorem st_alt : ∀ (cs : List Nat) (t : Bool), (∀ c ∈ cs, 0 < c) → st (alt t cs) = stb t cs
  | [], _, _ => rfl
  | n :: r, t, hc => by
    obtain ⟨n, rfl⟩ : ∃ n', n = n' + 1 := ⟨n - 1, by have := hc n (by simp); omega⟩
    have hr : ∀ c ∈ r, 0 < c := fun c h => hc c (by simp [h])
    rw [alt, st_rep t _ (fun y hy => by rw [alt_head (!t) r hr y hy]; cases t <;> simp) n, st_alt r (!t) hr, stb]
theorem gF_only (most N : Nat) : ∀ (n i : Nat) (acc : List Bool) (used : Nat) (b : List Int) (z : List Bool) (u : Int), (∀ y ∈ b, isByte y) → gF most N n i acc used b = (z, u, 0) →
    ∃ (cs : List Nat) (m : Nat), cs.length = n ∧ z = acc ++ alt (decide (i % 2 = 1)) cs ∧ u = ((used + m : Nat) : Int) ∧ m ≤ b.length ∧ b.take m = cs.flatMap putU ∧ (∀ c r, cs = c :: r → (c = 0 → i = 0 ∧ N ≠ 1) ∧ ∀ d ∈ r, 0 < d)
  | 0, i, acc, used, b, z, u, hb, h => by
    rw [gF] at h
    simp only [Prod.mk.injEq] at h
    exact ⟨[], 0, rfl, by simp [alt, h.1], by simp [h.2.1], by omega, by simp, by simp⟩
  | n + 1, i, acc, used, b, z, u, hb, h => by
    rw [gF] at h
    split at h
    · rename_i hf
      obtain ⟨v, c, hv, hv64, hc0, hcl, hc10, hbv, hpl⟩ := gU_rng hb hf
      simp only [hv, Int.toNat_natCast] at h
      split at h
      · simp at h
      · rename_i hv0
        split at h
        · simp at h
        · obtain ⟨cs, m, h1, h2, h3, h4, h5, h6⟩ := gF_only most N n (i + 1) _ _ _ z u (drop_byte hb c) h
          rw [List.length_drop] at h4
          have hpar : decide ((i + 1) % 2 = 1) = !(decide (i % 2 = 1)) := by
            by_cases h : i % 2 = 1
            · simp [h, show (i + 1) % 2 = 0 by omega]
            · simp [h, show (i + 1) % 2 = 1 by omega]
          refine ⟨v :: cs, c + m, by simp [h1], by rw [h2, hpar, alt, List.append_assoc], by rw [h3]; congr 1; omega, by omega, ?_, ?_⟩
          · rw [take_two b (putU v) c m hpl hbv, h5]
            simp
          · intro c' r' he
            simp only [List.cons.injEq] at he
            obtain ⟨rfl, rfl⟩ := he
            refine ⟨fun hz => ?_, fun d hd => ?_⟩
            · subst hz
              constructor
              · apply Decidable.byContradiction
                intro hi
                exact hv0 ⟨rfl, Or.inl (by omega)⟩
              · intro hN
                exact hv0 ⟨rfl, Or.inr hN⟩
            · cases cs with
              | nil => simp at hd
              | cons e r2 =>
                obtain ⟨g1, g2⟩ := h6 e r2 rfl
                rcases List.mem_cons.1 hd with rfl | hd
                · apply Decidable.byContradiction
                  intro h0
                  have := (g1 (by omega)).1
                  omega
                · exact g2 d hd
    · rename_i hf
      simp only [Prod.mk.injEq] at h
      exact absurd h.2.2 hf
theorem getFlags_only {b : List Int} (hb : ∀ y ∈ b, isByte y) {most : Int} {z : List Bool} {u : Int} (h : getFlags b most = (z, u, 0)) :
    ∃ m : Nat, u = (m : Int) ∧ m ≤ b.length ∧ b.take m = flags z := by
  unfold getFlags at h
  split at h
  · rename_i hf
    obtain ⟨v, c, hv, hv64, hc0, hcl, hc10, hbv, hpl⟩ := gU_rng hb hf
    simp only [hv, Int.toNat_natCast] at h
    split at h
    · simp at h
    · obtain ⟨cs, m, h1, h2, h3, h4, h5, h6⟩ := gF_only _ v v 0 [] c _ z u (drop_byte hb c) h
      rw [List.length_drop] at h4
      simp only [List.nil_append] at h2
      refine ⟨c + m, h3, by omega, ?_⟩
      rw [take_two b (putU v) c m hpl hbv, h5]
      cases cs with
      | nil =>
        subst h2
        simp at h1
        subst h1
        simp [alt, flags]
      | cons e r =>
        obtain ⟨g1, g2⟩ := h6 e r rfl
        simp only [List.length_cons] at h1
        by_cases he : e = 0
        · subst he
          obtain ⟨_, hN⟩ := g1 rfl
          have hz : z = alt true r := by rw [h2]; simp [alt]
          have hst : st z = stb true r := by rw [hz]; exact st_alt r true g2
          cases r with
          | nil => simp at h1; omega
          | cons d r2 =>
            obtain ⟨d, rfl⟩ : ∃ d', d = d' + 1 := ⟨d - 1, by have := g2 d (by simp); omega⟩
            obtain ⟨t, ht⟩ : ∃ t, z = true :: t := ⟨_, by rw [hz, alt, List.replicate_succ]; rfl⟩
            rw [ht] at hst ⊢
            rw [flags, hst, stb_length, flatB_stb, h1]
            simp [putU_small]
        · obtain ⟨e, rfl⟩ : ∃ e', e = e' + 1 := ⟨e - 1, by omega⟩
          have hz : z = alt false ((e + 1) :: r) := by rw [h2]; simp
          have hst : st z = stb false ((e + 1) :: r) := by
            rw [hz]
            refine st_alt _ false (fun x hx => ?_)
            rcases List.mem_cons.1 hx with rfl | hx
            · omega
            · exact g2 x hx
          obtain ⟨t, ht⟩ : ∃ t, z = false :: t := ⟨_, by rw [hz, alt, List.replicate_succ]; rfl⟩
          rw [ht] at hst ⊢
          rw [flags, hst, stb_length, flatB_stb, List.length_cons, h1]
  · rename_i hf
    simp only [Prod.mk.injEq] at h
    exact absurd h.2.2 hf
theorem getFlags_len' (b : List Int) (most : Int) : (getFlags b most).1.length ≤ 65536 := getFlags_len b most
theorem flags_byte (z : List Bool) : ∀ x ∈ flags z, isByte x := by
  have hf : ∀ ps : List (Bool × Nat), ∀ x ∈ flatB ps, isByte x := by
    intro ps x hx
    obtain ⟨p, _, hp⟩ := List.mem_flatMap.1 hx
    exact putU_bytes _ x hp
  intro x hx
  unfold flags at hx
  split at hx
  · exact putU_bytes _ x hx
  · rcases List.mem_append.1 hx with h | h
    · exact putU_bytes _ x h
    · rcases List.mem_cons.1 h with rfl | h
      · unfold isByte; omega
      · exact hf _ x h
  · rcases List.mem_append.1 hx with h | h
    · exact putU_bytes _ x h
    · exact hf _ x h
end Go.Proofs.Ytcffooeiennmjaa.ColT
