/- What a reading of an argument gives, kind by kind: the value that is read, what holds of it, and its bulk. -/
import Derived.Test.YtkcdlilglgfkaaaRows
import Derived.Test.YtkcdlilglgfkaaaWWords
import Derived.OpenShut
import Derived.Deep.Slices
set_option linter.unusedVariables false
set_option linter.unusedSimpArgs false
namespace Go.Proofs.Ytkcdlilglgfkaaa.Opn
open Go Go.RowKit Go.Proofs.YtkcdlilglgfkaaaW.PrintWords
section
variable {H : Type} {P : Program}
/-- A value of type t, read through, is one of the kind d. -/
def Opn {α : Type} (P : Program) (t : TypeId) (d : Kd α) (Q : α → Prop) (bk : α → Nat) : Prop :=
  ∀ (H : Type) (enc : TypeId × Value → H) (w : World) (fuel : Nat) (cs : List Value) (x : DataW H × List MemPlace),
    DataW.trod enc P w 0 (fun _ => true) true fuel t cs = some x → ∃ a : α, d.K w a cs ∧ Q a ∧ bk a ≤ Rows.uptoBulk x.1
/-- Some parts of an aggregate, one behind the other. -/
def Prt {α : Type} (P : Program) (l : List (TypeId × Nat)) (j o n : Nat) (d : Kd α) (Q : α → Prop) (bk : α → Nat) : Prop :=
  ∀ (H : Type) (enc : TypeId × Value → H) (w : World) (fuel : Nat) (cs : List Value) (xs : List (DataW H × List MemPlace)), o + n ≤ cs.length → j + l.length ≤ xs.length →
    (∀ (i : Nat) t off, l[i]? = some (t, off) → DataW.trod enc P w 0 (fun _ => true) true fuel t ((cs.drop off).take (P.cellsOf t)) = xs[j + i]?) →
    ∃ a : α, d.K w a ((cs.drop o).take n) ∧ Q a ∧ bk a ≤ Rows.uptoBulkAll ((xs.drop j).map (·.1))
theorem opn_int {t : TypeId} {k : IntKind} (ht : P.underlying t = some (.int k)) : Opn P t (Kd.int k) (fun a => (Lit.int k a).wf = true) (fun _ => 1) := by
  intro H enc w fuel cs x h
  obtain ⟨n, rfl, rfl, hw⟩ := DataW.trod_int ht h
  exact ⟨n, rfl, hw, by simp [Rows.uptoBulk]⟩
theorem opn_bool {t : TypeId} (ht : P.underlying t = some .bool) : Opn P t Kd.bool (fun _ => True) (fun _ => 1) := by
  intro H enc w fuel cs x h
  obtain ⟨n, rfl, rfl⟩ := DataW.trod_bool ht h
  exact ⟨n, rfl, trivial, by simp [Rows.uptoBulk]⟩
theorem opn_string {t : TypeId} (ht : P.underlying t = some .string) : Opn P t Kd.string (fun a => a.size ≤ maxLen) (fun a => a.size + 1) := by
  intro H enc w fuel cs x h
  obtain ⟨s, rfl, rfl, hs⟩ := DataW.trod_string ht h
  refine ⟨s, rfl, hs, ?_⟩
  simp only [Rows.uptoBulk, Array.length_toList]
  exact Nat.le_refl _
theorem bulkAll_map {H : Type} {α : Type} (bk : α → Nat) : ∀ (xs : List α) (D : List (DataW H)), xs.length = D.length → (∀ (i : Nat) (a : α) (d : DataW H), xs[i]? = some a → D[i]? = some d → bk a ≤ Rows.uptoBulk d) → (xs.map bk).sum ≤ Rows.uptoBulkAll D
  | [], [], _, _ => by simp [Rows.uptoBulkAll]
  | a :: xs, d :: D, hl, h => by
    have h1 := h 0 a d rfl rfl
    have h2 := bulkAll_map bk xs D (by simpa using hl) (fun i a d ha hd => h (i + 1) a d (by simpa using ha) (by simpa using hd))
    simp only [List.map_cons, List.sum_cons, Rows.uptoBulkAll]
    omega
  | [], _ :: _, hl, _ => by simp at hl
  | _ :: _, [], hl, _ => by simp at hl
theorem opn_slice {α : Type} {t e : TypeId} {d : Kd α} {Q : α → Prop} {bk : α → Nat} (ht : P.underlying t = some (.slice e)) (hc : P.cellsOf e = d.sz) (h : Opn P e d Q bk) :
    Opn P t (Kd.slice e d) (fun xs => xs.length ≤ maxLen ∧ ∀ a ∈ xs, Q a) (fun xs => (xs.map bk).sum + 1) := by
  intro H enc w fuel cs x hx
  rcases Go.Deep.open_slice ht hx with ⟨rfl, rfl⟩ | ⟨a, len, cap, m, n, D, Pl, rfl, hb, hl, hm, hmm, rfl, hel⟩
  · exact ⟨[], ⟨none, 0, rfl, Nat.le_refl _, ⟨rfl, by simp, fun hn => absurd hn (by simp)⟩⟩, ⟨by simp, by simp⟩, by simp [Rows.uptoBulk]⟩
  · have hlm : len ≤ m := by rw [hmm]; simp; exact hl
    have hone : ∀ i, i < len → ∃ a', (∃ cs', w.cells? 0 (a.add (i * P.cellsOf e)) (P.cellsOf e) = some cs' ∧ d.K w a' cs') ∧ Q a' ∧ bk a' ≤ Rows.uptoBulk (D i) := by
      intro i hi
      obtain ⟨cs', h1, h2⟩ := hel i (by omega)
      obtain ⟨a', hk, hq, hbk⟩ := h H enc w n cs' _ h2
      exact ⟨a', ⟨cs', h1, hk⟩, hq, hbk⟩
    obtain ⟨f, hf⟩ : ∃ f : (i : Nat) → i < len → α, ∀ i hi, (∃ cs', w.cells? 0 (a.add (i * P.cellsOf e)) (P.cellsOf e) = some cs' ∧ d.K w (f i hi) cs') ∧ Q (f i hi) ∧ bk (f i hi) ≤ Rows.uptoBulk (D i) :=
      ⟨fun i hi => Classical.choose (hone i hi), fun i hi => Classical.choose_spec (hone i hi)⟩
    let xs : List α := List.ofFn (fun i : Fin len => f i.1 i.2)
    have hxl : xs.length = len := by simp [xs]
    have hxg : ∀ i p, xs[i]? = some p → ∃ hi : i < len, p = f i hi := by
      intro i p hp
      obtain ⟨hi, he⟩ := List.getElem?_eq_some_iff.1 hp
      have hi' : i < len := by omega
      refine ⟨hi', ?_⟩
      rw [← he]
      simp [xs]
    refine ⟨xs, ⟨some a, cap, by rw [hxl], by omega, ⟨rfl, by simp only [maxLen] at hm; omega, fun hn => ⟨a, rfl, fun j p hp => ?_⟩⟩⟩, ⟨by omega, fun p hp => ?_⟩, ?_⟩
    · obtain ⟨hj, rfl⟩ := hxg j p hp
      obtain ⟨⟨cs', h1, h2⟩, _, _⟩ := hf j hj
      obtain ⟨_, hcl, hcell⟩ := World.cells?_some h1
      refine ⟨cs', by omega, h2, fun i u hu => ?_⟩
      have hi : i < cs'.length := (List.getElem?_eq_some_iff.1 hu).1
      have := hcell i (by omega)
      rw [Go.Deep.add_add, hc] at this
      rw [this, hu]
    · obtain ⟨i, hi⟩ := List.getElem?_of_mem hp
      obtain ⟨hj, rfl⟩ := hxg i p hi
      exact (hf i hj).2.1
    · have := bulkAll_map bk xs ((List.range len).map D) (by simp [hxl]) (fun i a' d' ha hd => by
        obtain ⟨hj, rfl⟩ := hxg i a' ha
        have : d' = D i := by
          obtain ⟨_, he⟩ := List.getElem?_eq_some_iff.1 hd
          rw [← he]; simp
        rw [this]
        exact (hf i hj).2.2)
      simp only [Rows.uptoBulk]
      omega
theorem prt_one {α : Type} {t : TypeId} {j o n : Nat} {d : Kd α} {Q : α → Prop} {bk : α → Nat} (h : Opn P t d Q bk) (hn : P.cellsOf t = n) : Prt P [(t, o)] j o n d Q bk := by
  intro H enc w fuel cs xs hl hlx hp
  have h0 := hp 0 t o rfl
  simp only [List.length_singleton, Nat.add_zero] at hlx h0
  rw [List.getElem?_eq_getElem (by omega)] at h0
  obtain ⟨a, hk, hq, hb⟩ := h H enc w fuel _ _ h0
  refine ⟨a, by rw [hn] at hk; exact hk, hq, ?_⟩
  rw [List.drop_eq_getElem_cons (by omega : j < xs.length)]
  simp only [List.map_cons, Rows.uptoBulkAll]
  omega
theorem prt_cons {α β : Type} {t : TypeId} {l : List (TypeId × Nat)} {j o n1 n2 : Nat} {d : Kd α} {d2 : Kd β} {Q : α → Prop} {Q2 : β → Prop} {bk : α → Nat} {bk2 : β → Nat} (h : Opn P t d Q bk) (hn : P.cellsOf t = n1) (h2 : Prt P l (j + 1) (o + n1) n2 d2 Q2 bk2) :
    Prt P ((t, o) :: l) j o (n1 + n2) (Kd.pair d d2) (fun p => Q p.1 ∧ Q2 p.2) (fun p => bk p.1 + bk2 p.2) := by
  intro H enc w fuel cs xs hl hlx hp
  have h0 := hp 0 t o rfl
  simp only [List.length_cons, Nat.add_zero] at hlx h0
  rw [List.getElem?_eq_getElem (by omega)] at h0
  obtain ⟨a, hk, hq, hb⟩ := h H enc w fuel _ _ h0
  obtain ⟨b, hk2, hq2, hb2⟩ := h2 H enc w fuel cs xs (by omega) (by omega) (fun i t' off hi => by
    have := hp (i + 1) t' off (by simpa using hi)
    rwa [show j + (i + 1) = j + 1 + i by omega] at this)
  refine ⟨(a, b), ⟨(cs.drop o).take n1, (cs.drop (o + n1)).take n2, ?_, by rw [hn] at hk; exact hk, hk2⟩, ⟨hq, hq2⟩, ?_⟩
  · rw [List.take_add, List.drop_drop]
  · rw [List.drop_eq_getElem_cons (by omega : j < xs.length)]
    simp only [List.map_cons, Rows.uptoBulkAll]
    omega
theorem opn_struct {α β : Type} {t : TypeId} {fs : Array Field} {n : Nat} {d : Kd α} {Q : α → Prop} {bk : α → Nat} (ht : P.underlying t = some (.struct fs)) (hn : P.cellsOf t = n) (h : Prt P (fs.toList.map fun f => (f.type, f.offset)) 0 0 n d Q bk) (f : β → α) (g : α → β) (hg : ∀ a, f (g a) = a) :
    Opn P t (Kd.iso d f) (fun b => Q (f b)) (fun b => bk (f b) + 1) := by
  intro H enc w fuel cs x hx
  obtain ⟨xs, m, rfl, rfl, hl, hxl, hp⟩ := DataW.trod_struct ht hx
  obtain ⟨a, hk, hq, hb⟩ := h H enc w m cs xs (by omega) (by simp [hxl]) (fun i t' off hi => by
    simp only [List.getElem?_map, Option.map_eq_some_iff, Prod.mk.injEq] at hi
    obtain ⟨f', hf', rfl, rfl⟩ := hi
    simpa using hp i f' (by simpa using hf'))
  refine ⟨g a, ?_, by show Q (f (g a)); rw [hg]; exact hq, ?_⟩
  · show d.K w (f (g a)) cs
    rw [hg]
    rwa [List.drop_zero, List.take_of_length_le (by omega)] at hk
  · show bk (f (g a)) + 1 ≤ _
    rw [hg]
    simp only [Rows.uptoBulk, List.drop_zero] at hb ⊢
    omega
theorem opn_array {α β : Type} {t e : TypeId} {m n : Nat} {d : Kd α} {Q : α → Prop} {bk : α → Nat} (ht : P.underlying t = some (.array m e)) (hn : P.cellsOf t = n) (h : Prt P ((List.range m).map fun i => (e, i * P.cellsOf e)) 0 0 n d Q bk) (f : β → α) (g : α → β) (hg : ∀ a, f (g a) = a) :
    Opn P t (Kd.iso d f) (fun b => Q (f b)) (fun b => bk (f b) + 1) := by
  intro H enc w fuel cs x hx
  obtain ⟨xs, k, rfl, rfl, hl, hxl, hp⟩ := DataW.trod_array ht hx
  obtain ⟨a, hk, hq, hb⟩ := h H enc w k cs xs (by omega) (by simp [hxl]) (fun i t' off hi => by
    have hi2 := (List.getElem?_eq_some_iff.1 hi).1
    simp at hi2
    simp [List.getElem?_range hi2] at hi
    obtain ⟨rfl, rfl⟩ := hi
    simpa using hp i hi2)
  refine ⟨g a, ?_, by show Q (f (g a)); rw [hg]; exact hq, ?_⟩
  · show d.K w (f (g a)) cs
    rw [hg]
    rwa [List.drop_zero, List.take_of_length_le (by omega)] at hk
  · show bk (f (g a)) + 1 ≤ _
    rw [hg]
    simp only [Rows.uptoBulk, List.drop_zero] at hb ⊢
    omega
theorem opn_imp {α : Type} {t : TypeId} {d : Kd α} {Q Q' : α → Prop} {bk bk' : α → Nat} (h : Opn P t d Q bk) (hQ : ∀ a, Q a → Q' a) (hb : ∀ a, bk' a ≤ bk a) : Opn P t d Q' bk' := by
  intro H enc w fuel cs x hx
  obtain ⟨a, h1, h2, h3⟩ := h H enc w fuel cs x hx
  exact ⟨a, h1, hQ _ h2, Nat.le_trans (hb _) h3⟩
/-- The bound of all. -/
theorem bound {H : Type} {l : List (DataW H)} (hk : Rows.uptoSmall H l = true) : Rows.uptoBulkAll l ≤ 1048576 := of_decide_eq_true hk
end
end Go.Proofs.Ytkcdlilglgfkaaa.Opn
