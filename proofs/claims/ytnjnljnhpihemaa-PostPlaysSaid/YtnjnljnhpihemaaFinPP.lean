-- Written by a program of this session (wip/tools/rowgen.py). Lean checks it.
import Derived.Test.YtnjnljnhpihemaaMPP0
import Derived.Test.YtnjnljnhpihemaaOpnW
import Derived.Test.YtnjnljnhpihemaaWSized
import Derived.Test.YtnjnljnhpihemaaRows
import Derived.WalkKit
import Derived.ProofKit
import Derived.OpenShut
import Derived.ShutString
import Derived.ChangeOld
import Derived.Below
import Derived.SizedLaws
import Derived.LaidLaws
import Derived.Deep.DeepHandedRow
namespace Go.Proofs.Ytnjnljnhpihemaa.postPlays
open Go.ChangeShapes Go.WideShapes Go.ChangeAt Go.RowKit Go.Proofs.YtnjnljnhpihemaaW.PrintWords Go.Proofs.Ytnjnljnhpihemaa.PA
open Go.ChangeMaps (open_string shut_string)
set_option linter.unusedVariables false
theorem own : ownKnob Try.prog.godebug = none := by kernel_rfl
theorem laidOut : laidOutB Try.prog = true := by kernel_rfl
noncomputable def laidWorld (os : Os) : World := World.holding Try.prog os ⟨#[], #[], []⟩
theorem laid_met (os : Os) : laidMet Try.prog Rows.postPlaysRow.laid ((laidWorld os).forCall (fun _ _ => 0) ⟨#[], #[.int .i64 0, .slice none 0 0], []⟩).memory :=
  laidMet_of_run' 8 (by kernel_rfl) (by kernel_rfl)
theorem reads (os : Os) {H : Type} (enc : TypeId × Value → H) : ∃ places, DataW.whole enc Try.prog ((laidWorld os).forCall (fun _ _ => 0) ⟨#[], #[.int .i64 0, .slice none 0 0], []⟩).memory Try.f5.params.toList Rows.postPlaysSpec.vars false (#[.int .i64 0, .slice none 0 0] : Array Value).toList 8 = some ([.lit (.int .i64 0), .nil], [], places) :=
  ⟨[], by kernel_rfl⟩
set_option maxRecDepth 100000 in
theorem contract (H : Type) (enc : TypeId × Value → H) (W : World) (base : Nat) (args : Array Value) (ds gs : List (DataW H)) (before : List MemPlace)
    (hval0 : ∀ (j : Nat) t v, Try.f5.params[j]? = some t → args[j]? = some v → Value.okWide Try.prog W .any base t v)
    (hW : DataW.Whole enc Try.prog Try.f5.params.toList Rows.postPlaysSpec.vars false W args.toList ds gs before) (hL : laidMetH Try.prog Rows.postPlaysRow.laid W)
    (hk0 : ∀ k, (OpenSpec.ofChange Rows.postPlaysSpec).cond = some k → k H (ds ++ gs) = true) (hsz0 : (DataW.weightsEach Try.prog (Try.f5.params.toList ++ (OpenSpec.ofChange Rows.postPlaysSpec).bare.plain.varTypes Try.prog) (ds ++ gs)).all (· ≤ reachBytes) = true) :
    Calls Try.prog 5 args W fun e W' => ∃ v, e = .returned v ∧ Rows.postPlaysSpec.post enc Try.prog Try.f5 false true false false W args v W' := by
  have hsz : (DataW.weightsEach Try.prog (Try.f5.params.toList ++ Rows.postPlaysSpec.plain.varTypes Try.prog) (ds ++ gs)).all (· ≤ reachBytes) = true := hsz0
  have hval := hval0
  have hW' := hW
  obtain ⟨p, q, hA0, hV, rfl, hfz, hnd⟩ := hW
  have hA : DataW.TrodAll enc Try.prog W 0 (fun _ => true) true Try.f5.params.toList args.toList ds p := hA0
  rw [Try.params5] at hA hval hsz
  obtain ⟨v0, vs0, d0, ds0, p0, q_0, hargs, rfl, rfl, h0, r0⟩ := trodAll_cons hA
  obtain ⟨v1, vs1, d1, ds1, p1, q_1, rfl, rfl, rfl, h1, r1⟩ := trodAll_cons r0
  obtain ⟨rfl, rfl, rfl⟩ := trodAll_nil r1
  obtain rfl : args = #[v0, v1] := by cases args; simp_all
  obtain ⟨rfl, rfl⟩ := trodVars_none hV
  obtain ⟨a0, rfl, rfl, rfl, w0⟩ := open_int Try.underlying3 (hval 0 3 v0 rfl rfl) h0
  obtain ⟨A1, len1, c1, rfl⟩ := okWide_slice Try.underlying36 (hval 1 36 v1 rfl rfl)
  have k1 := h1
  have lt1 : ∀ x ∈ p1, x.block < W.heap.size := by obtain ⟨m, hm⟩ := k1; exact DataW.trod_lt m _ _ _ hm
  obtain ⟨a1, ⟨A1_, c1_, he1, hc1, hr1⟩, hQ1⟩ : ∃ a : (List S45), (Kd.slice 45 k45).K W a [.slice A1 len1 c1] ∧ (a.length ≤ maxLen ∧ a.length * 56 ≤ 140737488351232 ∧ ∀ y36 ∈ a, ((Lit.int .u8 y36.f0).wf = true) ∧ ((Lit.int .i64 y36.f1).wf = true) ∧ ((Lit.int .i64 y36.f2).wf = true) ∧ ((Lit.int .i64 y36.f3).wf = true) ∧ y36.f4.length ≤ maxLen ∧ y36.f4.length * 1 ≤ 140737488351232 ∧ ∀ y23 ∈ y36.f4, (Lit.int .u8 y23).wf = true) := by obtain ⟨fuel, hf⟩ := h1; exact (Opn.opw_slice (B := 56) Try.underlying36 (by kernel_rfl) (by kernel_rfl) (Opn.opw_struct Try.underlying45 (by kernel_rfl) (Opn.prw_cons (j := 0) (o := 0) (n1 := 1) (Opn.opw_of (Opn.opn_int Try.underlying5)) (by kernel_rfl) (Opn.prw_cons (j := 1) (o := 1) (n1 := 1) (Opn.opw_of (Opn.opn_int Try.underlying3)) (by kernel_rfl) (Opn.prw_cons (j := 2) (o := 2) (n1 := 1) (Opn.opw_of (Opn.opn_int Try.underlying3)) (by kernel_rfl) (Opn.prw_cons (j := 3) (o := 3) (n1 := 1) (Opn.opw_of (Opn.opn_int Try.underlying3)) (by kernel_rfl) (Opn.prw_one (j := 4) (o := 4) (n := 1) (Opn.opw_slice (B := 1) Try.underlying23 (by kernel_rfl) (by kernel_rfl) (Opn.opw_of (Opn.opn_int Try.underlying5))) (by kernel_rfl)))))) (fun x : S45 => (x.f0, x.f1, x.f2, x.f3, x.f4)) (fun q => (⟨q.1, q.2.1, q.2.2.1, q.2.2.2.1, q.2.2.2.2⟩ : S45)) (fun _ => rfl))) H enc W fuel _ _ hf (Opn.light_of hsz (j := 1) (t := 36) rfl rfl)
  obtain ⟨rfl, rfl, rfl⟩ : A1 = A1_ ∧ len1 = a1.length ∧ c1 = c1_ := by simpa using he1
  have h := Pure.PostPlays a0 a1 w0 hQ1
  refine (PA.stemmalaw23_PostPlays.calls a0 _ _ a1 true W hr1 hc1 ⟨rfl⟩ h).mono fun e W' ⟨he, bel⟩ => ?_
  subst he
  exact ⟨_, rfl, _, _, _, [], _, [], hW', trodAll_mk1 (shut_bool Try.underlying4 _), (trodAll_cons_mk (shut_int Try.underlying3 w0) (trodAll_cons_mk (Below.trod laidOut (by kernel_rfl) (of_decide_eq_true (by kernel_rfl)) k1 bel lt1) trodAll_mk0)), rfl, bel.frame _, fun h => by cases h⟩
set_option maxRecDepth 100000 in
theorem lifted (os : Os) (started : os.Started) (H : Type) (enc : TypeId × Value → H) (F : Stop.Interp) :
    ReturnsInHanded {} Try.checked os 5 .any ((OpenSpec.ofChange Rows.postPlaysSpec).preRow enc Try.prog Try.f5 Rows.postPlaysRow.domain false Rows.postPlaysRow.laid) (((OpenSpec.ofChange Rows.postPlaysSpec).at F).post enc Try.prog Try.f5 false true false false) := by
  obtain ⟨places, hx⟩ := reads os enc
  refine returnsInHanded_of_row (C := Try.checked) (s := (OpenSpec.ofChange Rows.postPlaysSpec)) own started (by kernel_rfl) Try.func5
    (witness_row_at (enc := enc) (C := Try.checked) false (laidWorld os) #[.int .i64 0, .slice none 0 0] rfl (by kernel_rfl) (by kernel_rfl) (by kernel_rfl)
      (OpenSpec.preRow_of_cond 8 hx (by kernel_rfl) (fun k hk => by cases hk) (by kernel_rfl) (laid_met os))) ?_
  intro W base args ds gs before hval hW _ hk hsz hL _ _
  exact contract H enc W base args ds gs before hval hW hL hk hsz
theorem said : Rows.PostPlaysSaid :=
  OpenClaim.holds_of_cond 5 Try.f5 rfl rfl rfl rfl rfl rfl rfl ⟨rfl, rfl, rfl, rfl, rfl⟩ rfl rfl rfl rfl rfl (by kernel_rfl) Try.func5 (by kernel_rfl)
    (of_decide_eq_true (by kernel_rfl)) (by unfold Func.isWrapper; first | (rw [if_pos (by decide +kernel)]; kernel_rfl) | (rw [if_neg (by decide +kernel)]; exact ⟨rfl, rfl⟩))
    (fun os started H enc _ F => by rw [OpenClaim.pre_eq_preRow]; exact lifted os started H enc F)
end Go.Proofs.Ytnjnljnhpihemaa.postPlays
namespace Go.Proofs.Ytnjnljnhpihemaa
/-- The row, under a short name, for the claim. -/
theorem postPlays_holds : Rows.PostPlaysSaid := postPlays.said
#print axioms postPlays_holds
end Go.Proofs.Ytnjnljnhpihemaa
