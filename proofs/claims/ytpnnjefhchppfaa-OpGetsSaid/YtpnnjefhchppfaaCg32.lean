/- Own texts of this claim. -/
import Derived.SizedLaws
import Derived.Test.YtpnnjefhchppfaaCg24
set_option linter.unusedVariables false
set_option linter.unusedSimpArgs false
namespace Go.Proofs.Ytpnnjefhchppfaa.Opn
open Go Go.RowKit Go.Proofs.YtpnnjefhchppfaaW.PrintWords
section
variable {P : Program}
def Light {H : Type} (P : Program) (t : TypeId) (d : DataW H) : Prop := ∀ n ∈ d.weights P t, n ≤ 140737488351232
theorem light_all {H : Type} {e : TypeId} : ∀ {l : List (DataW H)} {d : DataW H}, d ∈ l → ∀ n ∈ d.weights P e, n ∈ DataW.weightsAll P e l
  | [], d, hd, n, hn => by cases hd
  | x :: r, d, hd, n, hn => by
    unfold DataW.weightsAll
    rcases List.mem_cons.1 hd with rfl | hr
    · exact List.mem_append_left _ hn
    · exact List.mem_append_right _ (light_all hr n hn)
theorem light_of {H : Type} {ts : List TypeId} {ds : List (DataW H)} (h : (DataW.weightsEach P ts ds).all (· ≤ reachBytes) = true) {j : Nat} {t : TypeId} {d : DataW H} (ht : ts[j]? = some t) (hd : ds[j]? = some d) : Light P t d :=
  fun n hn => of_decide_eq_true (List.all_eq_true.1 h _ (DataW.weights_mem_each ht hd _ hn))
def Opw {α : Type} (P : Program) (t : TypeId) (d : Kd α) (Q : α → Prop) : Prop :=
  ∀ (H : Type) (enc : TypeId × Value → H) (w : World) (fuel : Nat) (cs : List Value) (x : DataW H × List MemPlace),
    DataW.trod enc P w 0 (fun _ => true) true fuel t cs = some x → Light P t x.1 → ∃ a : α, d.K w a cs ∧ Q a
theorem opw_of {α : Type} {t : TypeId} {d : Kd α} {Q : α → Prop} {bk : α → Nat} (h : Opn P t d Q bk) : Opw P t d Q := by
  intro H enc w fuel cs x hx _
  obtain ⟨a, h1, h2, _⟩ := h H enc w fuel cs x hx
  exact ⟨a, h1, h2⟩
theorem opw_slice {α : Type} {t e : TypeId} {d : Kd α} {Q : α → Prop} {B : Nat} (ht : P.underlying t = some (.slice e)) (hc : P.cellsOf e = d.sz) (hB : P.bytesOf e = B) (h : Opw P e d Q) :
    Opw P t (Kd.slice e d) (fun xs => xs.length ≤ maxLen ∧ xs.length * B ≤ 140737488351232 ∧ ∀ a ∈ xs, Q a) := by
  intro H enc w fuel cs x hx hl0
  rcases Go.Deep.open_slice ht hx with ⟨rfl, rfl⟩ | ⟨a, len, cap, m, n, D, Pl, rfl, hb, hl, hm, hmm, rfl, hel⟩
  · exact ⟨[], ⟨none, 0, rfl, Nat.le_refl _, ⟨rfl, by simp, fun hn => absurd hn (by simp)⟩⟩, ⟨by simp, by simp, by simp⟩⟩
  · have hlm : len ≤ m := by rw [hmm]; simp; exact hl
    have hone : ∀ i, i < len → ∃ a', (∃ cs', w.cells? 0 (a.add (i * P.cellsOf e)) (P.cellsOf e) = some cs' ∧ d.K w a' cs') ∧ Q a' := by
      intro i hi
      obtain ⟨cs', h1, h2⟩ := hel i (by omega)
      obtain ⟨a', hk, hq⟩ := h H enc w n cs' _ h2 (fun k hk => hl0 k (by
        simp only [DataW.weights, ht, List.mem_cons, List.mem_append]
        exact Or.inr (Or.inl (light_all (List.mem_map.2 ⟨i, List.mem_range.2 hi, rfl⟩) k hk))))
      exact ⟨a', ⟨cs', h1, hk⟩, hq⟩
    obtain ⟨f, hf⟩ : ∃ f : (i : Nat) → i < len → α, ∀ i hi, (∃ cs', w.cells? 0 (a.add (i * P.cellsOf e)) (P.cellsOf e) = some cs' ∧ d.K w (f i hi) cs') ∧ Q (f i hi) :=
      ⟨fun i hi => Classical.choose (hone i hi), fun i hi => Classical.choose_spec (hone i hi)⟩
    let xs : List α := List.ofFn (fun i : Fin len => f i.1 i.2)
    have hxl : xs.length = len := by simp [xs]
    have hxg : ∀ i p, xs[i]? = some p → ∃ hi : i < len, p = f i hi := by
      intro i p hp
      obtain ⟨hi, he⟩ := List.getElem?_eq_some_iff.1 hp
      have hi' : i < len := by omega
      refine ⟨hi', ?_⟩
      rw [← he]
      simp [xs]
    refine ⟨xs, ⟨some a, cap, by rw [hxl], by omega, ⟨rfl, by simp only [maxLen] at hm; omega, fun hn => ⟨a, rfl, fun j p hp => ?_⟩⟩⟩, ⟨by omega, ?_, fun p hp => ?_⟩⟩
    · obtain ⟨hj, rfl⟩ := hxg j p hp
      obtain ⟨⟨cs', h1, h2⟩, _⟩ := hf j hj
      obtain ⟨_, hcl, hcell⟩ := World.cells?_some h1
      refine ⟨cs', by omega, h2, fun i u hu => ?_⟩
      have hi : i < cs'.length := (List.getElem?_eq_some_iff.1 hu).1
      have := hcell i (by omega)
      rw [Go.Deep.add_add, hc] at this
      rw [this, hu]
    · have hw := hl0 _ (by simp only [DataW.weights, ht]; exact List.mem_cons_self ..)
      rw [hB, List.length_map, List.length_range] at hw
      rw [hxl]
      exact Nat.le_trans (Nat.mul_le_mul_right _ (Nat.le_add_right _ _)) hw
    · obtain ⟨i, hi⟩ := List.getElem?_of_mem hp
      obtain ⟨hj, rfl⟩ := hxg i p hi
      exact (hf i hj).2
end
end Go.Proofs.Ytpnnjefhchppfaa.Opn

