-- Written by a program of this session (wip/tools/rowgen.py). Lean checks it.
import Derived.Test.YtpnnjefhchppfaaCp41
import Derived.Test.YtpnnjefhchppfaaCp42
import Derived.Test.YtpnnjefhchppfaaCp32
import Derived.Test.YtpnnjefhchppfaaCp1
import Derived.Test.YtpnnjefhchppfaaRows
import Derived.WalkKit
import Derived.ProofKit
import Derived.OpenShut
import Derived.ShutString
import Derived.ChangeOld
import Derived.Below
import Derived.SizedLaws
import Derived.LaidLaws
import Derived.Deep.DeepHandedRow
namespace Go.Proofs.Ytpnnjefhchppfaa.opPuts
open Go.ChangeShapes Go.WideShapes Go.ChangeAt Go.RowKit Go.Proofs.YtpnnjefhchppfaaW.PrintWords Go.Proofs.Ytpnnjefhchppfaa.PA
open Go.ChangeMaps (open_string shut_string)
set_option linter.unusedVariables false
theorem own : ownKnob Try.prog.godebug = none := by kernel_rfl
theorem laidOut : laidOutB Try.prog = true := by kernel_rfl
noncomputable def laidWorld (os : Os) : World := World.holding Try.prog os ⟨#[], #[], []⟩
theorem laid_met (os : Os) : laidMet Try.prog Rows.opPutsRow.laid ((laidWorld os).forCall (fun _ _ => 0) ⟨#[], #[.slice none 0 0], []⟩).memory :=
  laidMet_of_run' 8 (by kernel_rfl) (by kernel_rfl)
theorem reads (os : Os) {H : Type} (enc : TypeId × Value → H) : ∃ places, DataW.whole enc Try.prog ((laidWorld os).forCall (fun _ _ => 0) ⟨#[], #[.slice none 0 0], []⟩).memory Try.f3.params.toList Rows.opPutsSpec.vars false (#[.slice none 0 0] : Array Value).toList 8 = some ([.nil], [], places) :=
  ⟨[], by kernel_rfl⟩
set_option maxRecDepth 100000 in
theorem contract (H : Type) (enc : TypeId × Value → H) (W : World) (base : Nat) (args : Array Value) (ds gs : List (DataW H)) (before : List MemPlace)
    (hval0 : ∀ (j : Nat) t v, Try.f3.params[j]? = some t → args[j]? = some v → Value.okWide Try.prog W .any base t v)
    (hW : DataW.Whole enc Try.prog Try.f3.params.toList Rows.opPutsSpec.vars false W args.toList ds gs before) (hL : laidMetH Try.prog Rows.opPutsRow.laid W)
    (hk0 : ∀ k, (OpenSpec.ofChange Rows.opPutsSpec).cond = some k → k H (ds ++ gs) = true) (hsz0 : (DataW.weightsEach Try.prog (Try.f3.params.toList ++ (OpenSpec.ofChange Rows.opPutsSpec).bare.plain.varTypes Try.prog) (ds ++ gs)).all (· ≤ reachBytes) = true) :
    Calls Try.prog 3 args W fun e W' => ∃ v, e = .returned v ∧ Rows.opPutsSpec.post enc Try.prog Try.f3 false true false false W args v W' := by
  have hsz : (DataW.weightsEach Try.prog (Try.f3.params.toList ++ Rows.opPutsSpec.plain.varTypes Try.prog) (ds ++ gs)).all (· ≤ reachBytes) = true := hsz0
  have hval := hval0
  have hW' := hW
  obtain ⟨p, q, hA0, hV, rfl, hfz, hnd⟩ := hW
  have hA : DataW.TrodAll enc Try.prog W 0 (fun _ => true) true Try.f3.params.toList args.toList ds p := hA0
  rw [Try.params3] at hA hval hsz
  obtain ⟨v0, vs0, d0, ds0, p0, q_0, hargs, rfl, rfl, h0, r0⟩ := trodAll_cons hA
  obtain ⟨rfl, rfl, rfl⟩ := trodAll_nil r0
  obtain rfl : args = #[v0] := by cases args; simp_all
  obtain ⟨rfl, rfl⟩ := trodVars_none hV
  obtain ⟨A0, len0, c0, rfl⟩ := okWide_slice Try.underlying22 (hval 0 22 v0 rfl rfl)
  have k0 := h0
  have lt0 : ∀ x ∈ p0, x.block < W.heap.size := by obtain ⟨m, hm⟩ := k0; exact DataW.trod_lt m _ _ _ hm
  obtain ⟨a0, ⟨A0_, c0_, he0, hc0, hr0⟩, hQ0⟩ : ∃ a : (List S33), (Kd.slice 33 k33).K W a [.slice A0 len0 c0] ∧ (a.length ≤ maxLen ∧ a.length * 56 ≤ 140737488351232 ∧ ∀ y22 ∈ a, ((Lit.int .i64 y22.f0).wf = true) ∧ (y22.f1.size ≤ maxLen ∧ y22.f1.size ≤ 140737488351232) ∧ ((Lit.int .i64 y22.f2).wf = true) ∧ ((Lit.int .i64 y22.f3).wf = true) ∧ y22.f4.size ≤ maxLen ∧ y22.f4.size ≤ 140737488351232) := by obtain ⟨fuel, hf⟩ := h0; exact (Opn.opw_slice (B := 56) Try.underlying22 (by kernel_rfl) (by kernel_rfl) (Opn.opw_struct Try.underlying33 (by kernel_rfl) (Opn.prw_cons (j := 0) (o := 0) (n1 := 1) (Opn.opw_of (Opn.opn_int Try.underlying3)) (by kernel_rfl) (Opn.prw_cons (j := 1) (o := 1) (n1 := 1) (Opn.opw_string Try.underlying9) (by kernel_rfl) (Opn.prw_cons (j := 2) (o := 2) (n1 := 1) (Opn.opw_of (Opn.opn_int Try.underlying3)) (by kernel_rfl) (Opn.prw_cons (j := 3) (o := 3) (n1 := 1) (Opn.opw_of (Opn.opn_int Try.underlying3)) (by kernel_rfl) (Opn.prw_one (j := 4) (o := 4) (n := 1) (Opn.opw_string Try.underlying9) (by kernel_rfl)))))) (fun x : S33 => (x.f0, x.f1, x.f2, x.f3, x.f4)) (fun q => (⟨q.1, q.2.1, q.2.2.1, q.2.2.2.1, q.2.2.2.2⟩ : S33)) (fun _ => rfl))) H enc W fuel _ _ hf (Opn.light_of hsz (j := 0) (t := 22) rfl rfl)
  obtain ⟨rfl, rfl, rfl⟩ : A0 = A0_ ∧ len0 = a0.length ∧ c0 = c0_ := by simpa using he0
  obtain ⟨k, h⟩ := Pure.OpPuts a0 hQ0
  refine (PA.stemmalaw07_OpPuts.calls k _ _ a0 true W hr0 hc0 ⟨rfl⟩ h).mono fun e W' ⟨he, bel⟩ => ?_
  subst he
  exact ⟨_, rfl, _, _, _, [], _, [], hW', trodAll_mk1 (shut_bool Try.underlying4 _), (trodAll_cons_mk (Below.trod laidOut (by kernel_rfl) (of_decide_eq_true (by kernel_rfl)) k0 bel lt0) trodAll_mk0), rfl, bel.frame _, fun h => by cases h⟩
set_option maxRecDepth 100000 in
theorem lifted (os : Os) (started : os.Started) (H : Type) (enc : TypeId × Value → H) (F : Stop.Interp) :
    ReturnsInHanded {} Try.checked os 3 .any ((OpenSpec.ofChange Rows.opPutsSpec).preRow enc Try.prog Try.f3 Rows.opPutsRow.domain false Rows.opPutsRow.laid) (((OpenSpec.ofChange Rows.opPutsSpec).at F).post enc Try.prog Try.f3 false true false false) := by
  obtain ⟨places, hx⟩ := reads os enc
  refine returnsInHanded_of_row (C := Try.checked) (s := (OpenSpec.ofChange Rows.opPutsSpec)) own started (by kernel_rfl) Try.func3
    (witness_row_at (enc := enc) (C := Try.checked) false (laidWorld os) #[.slice none 0 0] rfl (by kernel_rfl) (by kernel_rfl) (by kernel_rfl)
      (OpenSpec.preRow_of_cond 8 hx (by kernel_rfl) (fun k hk => by cases hk) (by kernel_rfl) (laid_met os))) ?_
  intro W base args ds gs before hval hW _ hk hsz hL _ _
  exact contract H enc W base args ds gs before hval hW hL hk hsz
theorem said : Rows.OpPutsSaid :=
  OpenClaim.holds_of_cond 3 Try.f3 rfl rfl rfl rfl rfl rfl rfl ⟨rfl, rfl, rfl, rfl, rfl⟩ rfl rfl rfl rfl rfl (by kernel_rfl) Try.func3 (by kernel_rfl)
    (of_decide_eq_true (by kernel_rfl)) (by unfold Func.isWrapper; first | (rw [if_pos (by decide +kernel)]; kernel_rfl) | (rw [if_neg (by decide +kernel)]; exact ⟨rfl, rfl⟩))
    (fun os started H enc _ F => by rw [OpenClaim.pre_eq_preRow]; exact lifted os started H enc F)
end Go.Proofs.Ytpnnjefhchppfaa.opPuts
namespace Go.Proofs.Ytpnnjefhchppfaa
/-- The row, under a short name, for the claim. -/
theorem opPuts_holds : Rows.OpPutsSaid := opPuts.said
#print axioms opPuts_holds
end Go.Proofs.Ytpnnjefhchppfaa
