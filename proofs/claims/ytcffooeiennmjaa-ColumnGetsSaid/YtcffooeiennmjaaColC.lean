/- column.Runs and column.Flags: their contracts in the printed shape. -/
import Derived.Test.YtcffooeiennmjaaColF
import Derived.Test.YtcffooeiennmjaaColR
set_option linter.unusedVariables false
namespace Go.Proofs.Ytcffooeiennmjaa.PA
open Go.RowKit Go.Proofs.YtcffooeiennmjaaW.PrintWords
def column_Runs.f (l : List Int) : Option (List Int) :=
  if l.length ≤ 4398046511104 ∧ (l.all fun x => (Lit.int .i64 x).wf) = true then some (ColS.runs l) else none
theorem column_Runs.calls (A0 : Option Addr) (c0 : Nat) (l0 : List Int) (r : List Int) (w : World) (hr0 : Kd.C (Kd.int .i64) w A0 l0.length l0) (hc0 : l0.length ≤ c0) (h : column_Runs.f l0 = some r) :
    Calls Try.prog 38 #[.slice A0 l0.length c0] w fun e w' => ∃ v0_ : Value, e = .returned (v0_) ∧ Kd.R (Kd.int .u8) 5 w' w.heap.size (fun _ => True) v0_ r ∧ Below w.heap.size w w' := by
  unfold column_Runs.f at h
  split at h
  · rename_i hc
    obtain rfl := Option.some.inj h
    exact callsIn_wide.1 (ColS.Runs_in 3 (Nat.le_refl _) A0 c0 l0 hc.1 (fun x hx => List.all_eq_true.1 hc.2 x hx) w hr0)
  · cases h
def column_Flags.f (l : List Bool) : Option (List Int) :=
  if l.length ≤ 4398046511104 then some (ColS.flags l) else none
theorem column_Flags.calls (A0 : Option Addr) (c0 : Nat) (l0 : List Bool) (r : List Int) (w : World) (hr0 : Kd.C Kd.bool w A0 l0.length l0) (hc0 : l0.length ≤ c0) (h : column_Flags.f l0 = some r) :
    Calls Try.prog 42 #[.slice A0 l0.length c0] w fun e w' => ∃ v0_ : Value, e = .returned (v0_) ∧ Kd.R (Kd.int .u8) 5 w' w.heap.size (fun _ => True) v0_ r ∧ Below w.heap.size w w' := by
  unfold column_Flags.f at h
  split at h
  · rename_i hc
    obtain rfl := Option.some.inj h
    exact callsIn_wide.1 (ColS.Flags_in 3 (Nat.le_refl _) A0 c0 l0 hc w hr0)
  · cases h
end Go.Proofs.Ytcffooeiennmjaa.PA
