/- Own texts of this claim. -/
import Derived.Test.YtpnnjefhchppfaaRows
import Derived.OpenShut
import Derived.Deep.Slices
import Derived.Test.YtpnnjefhchppfaaCg3
set_option linter.unusedVariables false
set_option linter.unusedSimpArgs false
namespace Go.Proofs.Ytpnnjefhchppfaa.Opn
open Go Go.RowKit Go.Proofs.YtpnnjefhchppfaaW.PrintWords
section
variable {H : Type} {P : Program}
def Opn {α : Type} (P : Program) (t : TypeId) (d : Kd α) (Q : α → Prop) (bk : α → Nat) : Prop :=
  ∀ (H : Type) (enc : TypeId × Value → H) (w : World) (fuel : Nat) (cs : List Value) (x : DataW H × List MemPlace),
    DataW.trod enc P w 0 (fun _ => true) true fuel t cs = some x → ∃ a : α, d.K w a cs ∧ Q a ∧ bk a ≤ Rows.uptoBulk x.1
theorem opn_int {t : TypeId} {k : IntKind} (ht : P.underlying t = some (.int k)) : Opn P t (Kd.int k) (fun a => (Lit.int k a).wf = true) (fun _ => 1) := by
  intro H enc w fuel cs x h
  obtain ⟨n, rfl, rfl, hw⟩ := DataW.trod_int ht h
  exact ⟨n, rfl, hw, by simp [Rows.uptoBulk]⟩
theorem bound {H : Type} {l : List (DataW H)} (hk : Rows.uptoSmall H l = true) : Rows.uptoBulkAll l ≤ 1048576 := of_decide_eq_true hk
end
end Go.Proofs.Ytpnnjefhchppfaa.Opn

set_option linter.unusedVariables false
set_option linter.unusedSimpArgs false
