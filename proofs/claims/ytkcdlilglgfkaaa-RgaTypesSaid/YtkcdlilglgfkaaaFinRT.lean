-- Written by a program of this session (wip/tools/rowgen.py). Lean checks it.
import Derived.Test.YtkcdlilglgfkaaaMRT0
import Derived.Test.YtkcdlilglgfkaaaOpn
import Derived.Test.YtkcdlilglgfkaaaWSized
import Derived.Test.YtkcdlilglgfkaaaRows
import Derived.WalkKit
import Derived.ProofKit
import Derived.OpenShut
import Derived.ShutString
import Derived.ChangeOld
import Derived.Below
import Derived.SizedLaws
import Derived.LaidLaws
import Derived.Deep.DeepHandedRow
namespace Go.Proofs.Ytkcdlilglgfkaaa.rgaTypes
open Go.ChangeShapes Go.WideShapes Go.ChangeAt Go.RowKit Go.Proofs.YtkcdlilglgfkaaaW.PrintWords Go.Proofs.Ytkcdlilglgfkaaa.PA
open Go.ChangeMaps (open_string shut_string)
set_option linter.unusedVariables false
theorem own : ownKnob Try.prog.godebug = none := by kernel_rfl
theorem laidOut : laidOutB Try.prog = true := by kernel_rfl
noncomputable def laidWorld (os : Os) : World := World.holding Try.prog os ⟨#[], #[], []⟩
theorem laid_met (os : Os) : laidMet Try.prog Rows.rgaTypesRow.laid ((laidWorld os).forCall (fun _ _ => 0) ⟨#[], #[.slice none 0 0, .slice none 0 0, .int .u8 0], []⟩).memory :=
  laidMet_of_run' 8 (by kernel_rfl) (by kernel_rfl)
theorem reads (os : Os) {H : Type} (enc : TypeId × Value → H) : ∃ places, DataW.whole enc Try.prog ((laidWorld os).forCall (fun _ _ => 0) ⟨#[], #[.slice none 0 0, .slice none 0 0, .int .u8 0], []⟩).memory Try.f7.params.toList Rows.rgaTypesSpec.vars false (#[.slice none 0 0, .slice none 0 0, .int .u8 0] : Array Value).toList 8 = some ([.nil, .nil, .lit (.int .u8 0)], [], places) :=
  ⟨[], by kernel_rfl⟩
set_option maxRecDepth 100000 in
theorem contract (H : Type) (enc : TypeId × Value → H) (W : World) (base : Nat) (args : Array Value) (ds gs : List (DataW H)) (before : List MemPlace)
    (hval0 : ∀ (j : Nat) t v, Try.f7.params[j]? = some t → args[j]? = some v → Value.okWide Try.prog W .any base t v)
    (hW : DataW.Whole enc Try.prog Try.f7.params.toList Rows.rgaTypesSpec.vars false W args.toList ds gs before) (hL : laidMetH Try.prog Rows.rgaTypesRow.laid W)
    (hk0 : ∀ k, (OpenSpec.ofChange Rows.rgaTypesSpec).cond = some k → k H (ds ++ gs) = true) (hsz0 : (DataW.weightsEach Try.prog (Try.f7.params.toList ++ (OpenSpec.ofChange Rows.rgaTypesSpec).bare.plain.varTypes Try.prog) (ds ++ gs)).all (· ≤ reachBytes) = true) :
    Calls Try.prog 7 args W fun e W' => ∃ v, e = .returned v ∧ Rows.rgaTypesSpec.post enc Try.prog Try.f7 false true false false W args v W' := by
  have hsz : (DataW.weightsEach Try.prog (Try.f7.params.toList ++ Rows.rgaTypesSpec.plain.varTypes Try.prog) (ds ++ gs)).all (· ≤ reachBytes) = true := hsz0
  have hval := hval0
  have hW' := hW
  obtain ⟨p, q, hA0, hV, rfl, hfz, hnd⟩ := hW
  have hA : DataW.TrodAll enc Try.prog W 0 (fun _ => true) true Try.f7.params.toList args.toList ds p := hA0
  rw [Try.params7] at hA hval hsz
  obtain ⟨v0, vs0, d0, ds0, p0, q_0, hargs, rfl, rfl, h0, r0⟩ := trodAll_cons hA
  obtain ⟨v1, vs1, d1, ds1, p1, q_1, rfl, rfl, rfl, h1, r1⟩ := trodAll_cons r0
  obtain ⟨v2, vs2, d2, ds2, p2, q_2, rfl, rfl, rfl, h2, r2⟩ := trodAll_cons r1
  obtain ⟨rfl, rfl, rfl⟩ := trodAll_nil r2
  obtain rfl : args = #[v0, v1, v2] := by cases args; simp_all
  obtain ⟨rfl, rfl⟩ := trodVars_none hV
  obtain ⟨A0, len0, c0, rfl⟩ := okWide_slice Try.underlying33 (hval 0 33 v0 rfl rfl)
  have k0 := h0
  have lt0 : ∀ x ∈ p0, x.block < W.heap.size := by obtain ⟨m, hm⟩ := k0; exact DataW.trod_lt m _ _ _ hm
  obtain ⟨a0, ⟨A0_, c0_, he0, hc0, hr0⟩, hQ0, hb0⟩ : ∃ a : (List S46), (Kd.slice 46 k46).K W a [.slice A0 len0 c0] ∧ (a.length ≤ maxLen ∧ ∀ y33 ∈ a, ((Lit.int .u8 y33.f0).wf = true) ∧ ((Lit.int .u8 y33.f1).wf = true) ∧ ((Lit.int .u8 y33.f2).wf = true) ∧ ((Lit.int .u8 y33.f3).wf = true) ∧ (True) ∧ (True) ∧ ((Lit.int .i64 y33.f6).wf = true) ∧ (Lit.int .i64 y33.f7).wf = true) ∧ (a.map (fun y33 => (1) + ((1) + ((1) + ((1) + ((1) + ((1) + ((1) + (1))))))) + 1)).sum + 1 ≤ Rows.uptoBulk d0 := by obtain ⟨fuel, hf⟩ := h0; exact (Opn.opn_slice Try.underlying33 (by kernel_rfl) (Opn.opn_struct Try.underlying46 (by kernel_rfl) (Opn.prt_cons (j := 0) (o := 0) (n1 := 1) (Opn.opn_int Try.underlying5) (by kernel_rfl) (Opn.prt_cons (j := 1) (o := 1) (n1 := 1) (Opn.opn_int Try.underlying5) (by kernel_rfl) (Opn.prt_cons (j := 2) (o := 2) (n1 := 1) (Opn.opn_int Try.underlying5) (by kernel_rfl) (Opn.prt_cons (j := 3) (o := 3) (n1 := 1) (Opn.opn_int Try.underlying5) (by kernel_rfl) (Opn.prt_cons (j := 4) (o := 4) (n1 := 1) (Opn.opn_bool Try.underlying4) (by kernel_rfl) (Opn.prt_cons (j := 5) (o := 5) (n1 := 1) (Opn.opn_bool Try.underlying4) (by kernel_rfl) (Opn.prt_cons (j := 6) (o := 6) (n1 := 1) (Opn.opn_int Try.underlying3) (by kernel_rfl) (Opn.prt_one (j := 7) (o := 7) (n := 1) (Opn.opn_int Try.underlying3) (by kernel_rfl))))))))) (fun x : S46 => (x.f0, x.f1, x.f2, x.f3, x.f4, x.f5, x.f6, x.f7)) (fun q => (⟨q.1, q.2.1, q.2.2.1, q.2.2.2.1, q.2.2.2.2.1, q.2.2.2.2.2.1, q.2.2.2.2.2.2.1, q.2.2.2.2.2.2.2⟩ : S46)) (fun _ => rfl))) H enc W fuel _ _ hf
  obtain ⟨rfl, rfl, rfl⟩ : A0 = A0_ ∧ len0 = a0.length ∧ c0 = c0_ := by simpa using he0
  obtain ⟨A1, len1, c1, rfl⟩ := okWide_slice Try.underlying34 (hval 1 34 v1 rfl rfl)
  have k1 := h1
  have lt1 : ∀ x ∈ p1, x.block < W.heap.size := by obtain ⟨m, hm⟩ := k1; exact DataW.trod_lt m _ _ _ hm
  have y1 : len1 * 1 ≤ 140737488351232 := sized_ints hsz (j := 1) (t := 34) rfl rfl Try.underlying34 Try.underlying5 (by kernel_rfl) (by kernel_rfl) h1
  obtain ⟨a1, ⟨A1_, c1_, he1, hc1, hr1⟩, hQ1, hb1⟩ : ∃ a : (List Int), (Kd.slice 5 (Kd.int .u8)).K W a [.slice A1 len1 c1] ∧ (a.length ≤ maxLen ∧ ∀ y34 ∈ a, (Lit.int .u8 y34).wf = true) ∧ (a.map (fun y34 => 1)).sum + 1 ≤ Rows.uptoBulk d1 := by obtain ⟨fuel, hf⟩ := h1; exact (Opn.opn_slice Try.underlying34 (by kernel_rfl) (Opn.opn_int Try.underlying5)) H enc W fuel _ _ hf
  obtain ⟨rfl, rfl, rfl⟩ : A1 = A1_ ∧ len1 = a1.length ∧ c1 = c1_ := by simpa using he1
  obtain ⟨a2, rfl, rfl, rfl, w2⟩ := open_int Try.underlying5 (hval 2 5 v2 rfl rfl) h2
  have h := Pure.RgaTypes a0 a1 a2 hQ0 hQ1 y1 w2
  refine (PA.stemmalaw11_RgaTypes.calls _ _ a0 _ _ a1 a2 true W hr0 hc0 hr1 hc1 ⟨rfl⟩ h).mono fun e W' ⟨he, bel⟩ => ?_
  subst he
  exact ⟨_, rfl, _, _, _, [], _, [], hW', trodAll_mk1 (shut_bool Try.underlying4 _), (trodAll_cons_mk (Below.trod laidOut (by kernel_rfl) (of_decide_eq_true (by kernel_rfl)) k0 bel lt0) (trodAll_cons_mk (Below.trod laidOut (by kernel_rfl) (of_decide_eq_true (by kernel_rfl)) k1 bel lt1) (trodAll_cons_mk (shut_int Try.underlying5 w2) trodAll_mk0))), rfl, bel.frame _, fun h => by cases h⟩
set_option maxRecDepth 100000 in
theorem lifted (os : Os) (started : os.Started) (H : Type) (enc : TypeId × Value → H) (F : Stop.Interp) :
    ReturnsInHanded {} Try.checked os 7 .any ((OpenSpec.ofChange Rows.rgaTypesSpec).preRow enc Try.prog Try.f7 Rows.rgaTypesRow.domain false Rows.rgaTypesRow.laid) (((OpenSpec.ofChange Rows.rgaTypesSpec).at F).post enc Try.prog Try.f7 false true false false) := by
  obtain ⟨places, hx⟩ := reads os enc
  refine returnsInHanded_of_row (C := Try.checked) (s := (OpenSpec.ofChange Rows.rgaTypesSpec)) own started (by kernel_rfl) Try.func7
    (witness_row_at (enc := enc) (C := Try.checked) false (laidWorld os) #[.slice none 0 0, .slice none 0 0, .int .u8 0] rfl (by kernel_rfl) (by kernel_rfl) (by kernel_rfl)
      (OpenSpec.preRow_of_cond 8 hx (by kernel_rfl) (fun k hk => by cases hk) (by kernel_rfl) (laid_met os))) ?_
  intro W base args ds gs before hval hW _ hk hsz hL _ _
  exact contract H enc W base args ds gs before hval hW hL hk hsz
theorem said : Rows.RgaTypesSaid :=
  OpenClaim.holds_of_cond 7 Try.f7 rfl rfl rfl rfl rfl rfl rfl ⟨rfl, rfl, rfl, rfl, rfl⟩ rfl rfl rfl rfl rfl (by kernel_rfl) Try.func7 (by kernel_rfl)
    (of_decide_eq_true (by kernel_rfl)) (by unfold Func.isWrapper; first | (rw [if_pos (by decide +kernel)]; kernel_rfl) | (rw [if_neg (by decide +kernel)]; exact ⟨rfl, rfl⟩))
    (fun os started H enc _ F => by rw [OpenClaim.pre_eq_preRow]; exact lifted os started H enc F)
end Go.Proofs.Ytkcdlilglgfkaaa.rgaTypes
namespace Go.Proofs.Ytkcdlilglgfkaaa
/-- The row, under a short name, for the claim. -/
theorem rgaTypes_holds : Rows.RgaTypesSaid := rgaTypes.said
#print axioms rgaTypes_holds
end Go.Proofs.Ytkcdlilglgfkaaa
