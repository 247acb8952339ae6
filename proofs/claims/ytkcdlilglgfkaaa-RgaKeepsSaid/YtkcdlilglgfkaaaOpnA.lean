/- Arguments by value: records and short arrays. -/
import Derived.Test.YtkcdlilglgfkaaaOpn
set_option linter.unusedVariables false
set_option linter.unusedSimpArgs false
namespace Go.Proofs.Ytkcdlilglgfkaaa.Opn
open Go Go.RowKit Go.Proofs.YtkcdlilglgfkaaaW.PrintWords
def aggB (P : Program) (t : TypeId) : Bool := match P.underlying t with | some (.struct _) => true | some (.array _ _) => true | _ => false
theorem agg_of {P : Program} {w : World} {r : Reach} {base : Nat} {t : TypeId} {v : Value} {L : List Value} (h : Value.okWide P w r base t v) (ht : aggB P t = true) (hcs : v.cells.toList = L) : v = .agg L.toArray := by
  have hv : ∃ cs, v = .agg cs := by
    unfold aggB at ht
    unfold Value.okWide at h
    split at ht
    · rename_i fs hu
      rw [hu] at h
      obtain ⟨cs, h1, _⟩ := h
      exact ⟨cs, h1⟩
    · rename_i m e hu
      rw [hu] at h
      obtain ⟨cs, h1, _⟩ := h
      exact ⟨cs, h1⟩
    · cases ht
  obtain ⟨cs, rfl⟩ := hv
  rw [← hcs]
  simp [Value.cells]
theorem opn_array_l {P : Program} {α β : Type} {t e : TypeId} {m n : Nat} {d : Kd α} {Q : α → Prop} {bk : α → Nat} (l : List (TypeId × Nat)) (ht : P.underlying t = some (.array m e)) (hn : P.cellsOf t = n) (hl : ((List.range m).map fun i => (e, i * P.cellsOf e)) = l) (h : Prt P l 0 0 n d Q bk) (f : β → α) (g : α → β) (hg : ∀ a, f (g a) = a) :
    Opn P t (Kd.iso d f) (fun b => Q (f b)) (fun b => bk (f b) + 1) := opn_array ht hn (by rw [hl]; exact h) f g hg
end Go.Proofs.Ytkcdlilglgfkaaa.Opn
