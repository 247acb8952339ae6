-- Written by a program of this session (wip/tools/rowgen.py). Lean checks it.
import Derived.Test.YtonpiacnljcohaaDoorMFrTu0
import Derived.Test.YtonpiacnljcohaaDoorOpnA
import Derived.Test.YtonpiacnljcohaaDoorWSized
import Derived.Test.YtonpiacnljcohaaDoorCards
import Derived.Test.YtonpiacnljcohaaDoorTie
import Derived.WalkKit
import Derived.ProofKit
import Derived.OpenShut
import Derived.ShutString
import Derived.ChangeOld
import Derived.Below
import Derived.SizedLaws
import Derived.LaidLaws
import Derived.Deep.DeepHandedRow
import Derived.Lib.LaidTab
namespace Go.Proofs.YtonpiacnljcohaaDoor.frameTurned
open Go.ChangeShapes Go.WideShapes Go.ChangeAt Go.RowKit Go.Proofs.YtonpiacnljcohaaDoorW.PrintWords Go.Proofs.YtonpiacnljcohaaDoor.PA
open Go.ChangeMaps (open_string shut_string)
set_option linter.unusedVariables false
theorem own : ownKnob Tryd.prog.godebug = none := by kernel_rfl
theorem laidOut : laidOutB Tryd.prog = true := by kernel_rfl
theorem gTab0 : Tryd.prog.globalNamed "stemma/frame.quarter" = some 0 := by kernel_rfl
theorem gTabType0 : (Tryd.prog.globals[0]?).map (·.type) = some 78 := by kernel_rfl
theorem cellsT0 : Tryd.prog.cellsOf 78 = 16 := by kernel_rfl
theorem cellsE0 : Tryd.prog.cellsOf 28 = 1 := by kernel_rfl
theorem table0 {W : World} (h : laidMetH Tryd.prog Rows.frameTurnedUptoRow.laid W) : Lib.TabIs Tryd.prog W "stemma/frame.quarter" .u32 [0, 498536548, 997073096, 651767980, 1994146192, 1802195444, 1303535960, 1342533948, 3988292384, 4027552580, 3604390888, 3412177804, 2607071920, 2262029012, 2685067896, 3183342108] :=
  Lib.tabIs_of_head (rest := []) gTab0 gTabType0 Tryd.underlying78 Tryd.underlying28 cellsE0 cellsT0 h
noncomputable def laidWorld (os : Os) : World :=
  { World.holding Tryd.prog os ⟨#[], #[], []⟩ with heap := ((World.holding Tryd.prog os ⟨#[], #[], []⟩).heap.modify 0 (fun | .cells _ t frozen => .cells #[.int .u32 0, .int .u32 498536548, .int .u32 997073096, .int .u32 651767980, .int .u32 1994146192, .int .u32 1802195444, .int .u32 1303535960, .int .u32 1342533948, .int .u32 3988292384, .int .u32 4027552580, .int .u32 3604390888, .int .u32 3412177804, .int .u32 2607071920, .int .u32 2262029012, .int .u32 2685067896, .int .u32 3183342108] t frozen | o => o)) }
theorem laid_met (os : Os) : laidMet Tryd.prog Rows.frameTurnedUptoRow.laid ((laidWorld os).forCall (fun _ _ => 0) ⟨#[], #[.slice none 0 0, .agg #[.int .u8 0, .slice none 0 0], .agg #[.int .u16 0, .int .u16 0]], []⟩).memory :=
  laidMet_of_run' 8 (by kernel_rfl) (by kernel_rfl)
theorem reads (os : Os) {H : Type} (enc : TypeId × Value → H) : ∃ places, DataW.whole enc Tryd.prog ((laidWorld os).forCall (fun _ _ => 0) ⟨#[], #[.slice none 0 0, .agg #[.int .u8 0, .slice none 0 0], .agg #[.int .u16 0, .int .u16 0]], []⟩).memory Tryd.f7.params.toList Rows.frameTurnedSpec.vars false (#[.slice none 0 0, .agg #[.int .u8 0, .slice none 0 0], .agg #[.int .u16 0, .int .u16 0]] : Array Value).toList 8 = some ([.nil, .agg [.lit (.int .u8 0), .nil], .agg [.lit (.int .u16 0), .lit (.int .u16 0)]], [], places) :=
  ⟨[], by kernel_rfl⟩
set_option maxRecDepth 100000 in
theorem contract (H : Type) (enc : TypeId × Value → H) (W : World) (base : Nat) (args : Array Value) (ds gs : List (DataW H)) (before : List MemPlace)
    (hval0 : ∀ (j : Nat) t v, Tryd.f7.params[j]? = some t → args[j]? = some v → Value.okWide Tryd.prog W .any base t v)
    (hW : DataW.Whole enc Tryd.prog Tryd.f7.params.toList Rows.frameTurnedSpec.vars false W args.toList ds gs before) (hL : laidMetH Tryd.prog Rows.frameTurnedUptoRow.laid W)
    (hk0 : ∀ k, (Rows.OpenSpec.upto Rows.frameTurnedSpec).cond = some k → k H (ds ++ gs) = true) (hsz0 : (DataW.weightsEach Tryd.prog (Tryd.f7.params.toList ++ (Rows.OpenSpec.upto Rows.frameTurnedSpec).bare.plain.varTypes Tryd.prog) (ds ++ gs)).all (· ≤ reachBytes) = true) :
    Calls Tryd.prog 7 args W fun e W' => ∃ v, e = .returned v ∧ Rows.frameTurnedSpec.post enc Tryd.prog Tryd.f7 false true false false W args v W' := by
  have hsz : (DataW.weightsEach Tryd.prog (Tryd.f7.params.toList ++ Rows.frameTurnedSpec.plain.varTypes Tryd.prog) (ds ++ gs)).all (· ≤ reachBytes) = true := hsz0
  have hval := hval0
  have hW' := hW
  obtain ⟨p, q, hA0, hV, rfl, hfz, hnd⟩ := hW
  have hA : DataW.TrodAll enc Tryd.prog W 0 (fun _ => true) true Tryd.f7.params.toList args.toList ds p := hA0
  rw [Tryd.params7] at hA hval hsz
  have hk := Opn.bound (hk0 _ rfl)
  obtain ⟨v0, vs0, d0, ds0, p0, q_0, hargs, rfl, rfl, h0, r0⟩ := trodAll_cons hA
  obtain ⟨v1, vs1, d1, ds1, p1, q_1, rfl, rfl, rfl, h1, r1⟩ := trodAll_cons r0
  obtain ⟨v2, vs2, d2, ds2, p2, q_2, rfl, rfl, rfl, h2, r2⟩ := trodAll_cons r1
  obtain ⟨rfl, rfl, rfl⟩ := trodAll_nil r2
  obtain rfl : args = #[v0, v1, v2] := by cases args; simp_all
  obtain ⟨rfl, rfl⟩ := trodVars_none hV
  simp only [List.append_nil, Rows.uptoBulkAll] at hk
  obtain ⟨A0, len0, c0, rfl⟩ := okWide_slice Tryd.underlying47 (hval 0 47 v0 rfl rfl)
  have k0 := h0
  have lt0 : ∀ x ∈ p0, x.block < W.heap.size := by obtain ⟨m, hm⟩ := k0; exact DataW.trod_lt m _ _ _ hm
  obtain ⟨a0, ⟨A0_, c0_, he0, hc0, hr0⟩, hQ0, hb0⟩ : ∃ a : (List S52), (Kd.slice 52 k52).K W a [.slice A0 len0 c0] ∧ (a.length ≤ maxLen ∧ ∀ y47 ∈ a, ((Lit.int .u8 y47.f0).wf = true) ∧ y47.f1.length ≤ maxLen ∧ ∀ y22 ∈ y47.f1, (Lit.int .u8 y22).wf = true) ∧ (a.map (fun y47 => (1) + ((y47.f1.map (fun y22 => 1)).sum + 1) + 1)).sum + 1 ≤ Rows.uptoBulk d0 := by obtain ⟨fuel, hf⟩ := h0; exact (Opn.opn_slice Tryd.underlying47 (by kernel_rfl) (Opn.opn_struct Tryd.underlying52 (by kernel_rfl) (Opn.prt_cons (j := 0) (o := 0) (n1 := 1) (Opn.opn_int Tryd.underlying5) (by kernel_rfl) (Opn.prt_one (j := 1) (o := 1) (n := 1) (Opn.opn_slice Tryd.underlying22 (by kernel_rfl) (Opn.opn_int Tryd.underlying5)) (by kernel_rfl))) (fun x : S52 => (x.f0, x.f1)) (fun q => (⟨q.1, q.2⟩ : S52)) (fun _ => rfl))) H enc W fuel _ _ hf
  obtain ⟨rfl, rfl, rfl⟩ : A0 = A0_ ∧ len0 = a0.length ∧ c0 = c0_ := by simpa using he0
  have b0 : (a0.map (fun y47 => (1) + ((y47.f1.map (fun y22 => 1)).sum + 1) + 1)).sum + 1 ≤ 1048576 := by omega
  have k1 := h1
  have lt1 : ∀ x ∈ p1, x.block < W.heap.size := by obtain ⟨m, hm⟩ := k1; exact DataW.trod_lt m _ _ _ hm
  obtain ⟨a1, hK1, hQ1, hb1⟩ : ∃ a : S52, k52.K W a v1.cells.toList ∧ (((Lit.int .u8 a.f0).wf = true) ∧ a.f1.length ≤ maxLen ∧ ∀ y22 ∈ a.f1, (Lit.int .u8 y22).wf = true) ∧ (1) + ((a.f1.map (fun y22 => 1)).sum + 1) + 1 ≤ Rows.uptoBulk d1 := by obtain ⟨fuel, hf⟩ := h1; exact (Opn.opn_struct Tryd.underlying52 (by kernel_rfl) (Opn.prt_cons (j := 0) (o := 0) (n1 := 1) (Opn.opn_int Tryd.underlying5) (by kernel_rfl) (Opn.prt_one (j := 1) (o := 1) (n := 1) (Opn.opn_slice Tryd.underlying22 (by kernel_rfl) (Opn.opn_int Tryd.underlying5)) (by kernel_rfl))) (fun x : S52 => (x.f0, x.f1)) (fun q => (⟨q.1, q.2⟩ : S52)) (fun _ => rfl)) H enc W fuel _ _ hf
  obtain ⟨AA1_1, cc1_1, hcs1, hcl1_1, hrl1_1⟩ := k52_open hK1
  obtain rfl : v1 = .agg #[.int .u8 a1.f0, .slice AA1_1 a1.f1.length cc1_1] := Opn.agg_of (hval 1 52 v1 rfl rfl) (by kernel_rfl) hcs1
  have b1 : (1) + ((a1.f1.map (fun y22 => 1)).sum + 1) + 1 ≤ 1048576 := by omega
  have k2 := h2
  have lt2 : ∀ x ∈ p2, x.block < W.heap.size := by obtain ⟨m, hm⟩ := k2; exact DataW.trod_lt m _ _ _ hm
  obtain ⟨a2, hK2, hQ2, hb2⟩ : ∃ a : (Int × Int), (Kd.iso (Kd.pair (Kd.int .u16) (Kd.int .u16)) (fun x : (Int × Int) => x)).K W a v2.cells.toList ∧ (((Lit.int .u16 a.1).wf = true) ∧ (Lit.int .u16 a.2).wf = true) ∧ (1) + (1) + 1 ≤ Rows.uptoBulk d2 := by obtain ⟨fuel, hf⟩ := h2; exact (Opn.opn_array_l [(48, 0), (48, 1)] Tryd.underlying55 (by kernel_rfl) (by kernel_rfl) (Opn.prt_cons (j := 0) (o := 0) (n1 := 1) (Opn.opn_int Tryd.underlying48) (by kernel_rfl) (Opn.prt_one (j := 1) (o := 1) (n := 1) (Opn.opn_int Tryd.underlying48) (by kernel_rfl))) (fun x : (Int × Int) => x) (fun x => x) (fun _ => rfl)) H enc W fuel _ _ hf
  have hcs2 : v2.cells.toList = [.int .u16 a2.1, .int .u16 a2.2] := by obtain ⟨_, _, e_, rfl, rfl⟩ := hK2; exact e_
  obtain rfl : v2 = .agg #[.int .u16 a2.1, .int .u16 a2.2] := Opn.agg_of (hval 2 55 v2 rfl rfl) (by kernel_rfl) hcs2
  have b2 : (1) + (1) + 1 ≤ 1048576 := by omega
  obtain ⟨k, h⟩ := Pure.FrameTurned a0 a1 a2 hQ0 b0 hQ1 b1 hQ2 b2
  refine (PA.stemmalaw04_FrameTurned.calls k _ _ a0 a1.f0 _ _ a1.f1 a2.1 a2.2 true W hr0 hc0 hrl1_1 hcl1_1 ⟨rfl⟩ (Gl.mk (fun i hi => (table0 hL).cell gTab0 i hi)) h).mono fun e W' ⟨he, bel⟩ => ?_
  subst he
  exact ⟨_, rfl, _, _, _, [], _, [], hW', trodAll_mk1 (shut_bool Tryd.underlying4 _), (trodAll_cons_mk (Below.trod laidOut (by kernel_rfl) (of_decide_eq_true (by kernel_rfl)) k0 bel lt0) (trodAll_cons_mk (Below.trod laidOut (by kernel_rfl) (of_decide_eq_true (by kernel_rfl)) k1 bel lt1) (trodAll_cons_mk (Below.trod laidOut (by kernel_rfl) (of_decide_eq_true (by kernel_rfl)) k2 bel lt2) trodAll_mk0))), rfl, bel.frame _, fun h => by cases h⟩
set_option maxRecDepth 100000 in
theorem lifted (os : Os) (started : os.Started) (H : Type) (enc : TypeId × Value → H) (F : Stop.Interp) :
    ReturnsInHanded {} Tryd.checked os 7 .any ((Rows.OpenSpec.upto Rows.frameTurnedSpec).preRow enc Tryd.prog Tryd.f7 Rows.frameTurnedUptoRow.domain false Rows.frameTurnedUptoRow.laid) (((Rows.OpenSpec.upto Rows.frameTurnedSpec).at F).post enc Tryd.prog Tryd.f7 false true false false) := by
  obtain ⟨places, hx⟩ := reads os enc
  refine returnsInHanded_of_row (C := Tryd.checked) (s := (Rows.OpenSpec.upto Rows.frameTurnedSpec)) own started (by kernel_rfl) Tryd.func7
    (witness_row_at (enc := enc) (C := Tryd.checked) false (laidWorld os) #[.slice none 0 0, .agg #[.int .u8 0, .slice none 0 0], .agg #[.int .u16 0, .int .u16 0]] rfl (by kernel_rfl) (by kernel_rfl) (by kernel_rfl)
      (OpenSpec.preRow_of_cond 8 hx (by kernel_rfl) (fun k hk => by cases hk; kernel_rfl) (by kernel_rfl) (laid_met os))) ?_
  intro W base args ds gs before hval hW _ hk hsz hL _ _
  exact contract H enc W base args ds gs before hval hW hL hk hsz
theorem said : Rows.FrameTurnedUptoSaid :=
  OpenClaim.holds_of_cond 7 Tryd.f7 rfl rfl rfl rfl rfl rfl rfl ⟨rfl, rfl, rfl, rfl, rfl⟩ rfl rfl rfl rfl rfl (by kernel_rfl) Tryd.func7 (by kernel_rfl)
    (of_decide_eq_true (by kernel_rfl)) (by unfold Func.isWrapper; first | (rw [if_pos (by decide +kernel)]; kernel_rfl) | (rw [if_neg (by decide +kernel)]; exact ⟨rfl, rfl⟩))
    (fun os started H enc _ F => by rw [OpenClaim.pre_eq_preRow]; exact lifted os started H enc F)
theorem plain (f : FuncId) (fn : Func) (hf : Tryd.pinned.checked.prog.funcNamed "stemma/stemmalaw04.FrameTurned" = some f) (hfn : Tryd.pinned.checked.prog.funcs[f]? = some fn) :
    true = Tryd.pinned.checked.prog.looks [] ∧ ∀ (j : Nat) t, fn.params[j]? = some t → Tryd.pinned.checked.prog.wantsStandIn t = false := by
  obtain rfl : f = 7 := Option.some.inj ((show Tryd.prog.funcNamed "stemma/stemmalaw04.FrameTurned" = some 7 by kernel_rfl).symm.trans hf) |>.symm
  obtain rfl : fn = Tryd.f7 := (Option.some.inj (Tryd.func7.symm.trans hfn)).symm
  refine ⟨by kernel_rfl, fun j t ht => ?_⟩
  rw [Tryd.params7] at ht
  have hm := Array.mem_of_getElem? ht
  simp only [List.mem_toArray, List.mem_cons, List.not_mem_nil, or_false] at hm
  rcases hm with rfl | rfl | rfl
  · exact (show Tryd.prog.wantsStandIn 47 = false by kernel_rfl)
  · exact (show Tryd.prog.wantsStandIn 52 = false by kernel_rfl)
  · exact (show Tryd.prog.wantsStandIn 55 = false by kernel_rfl)
theorem card : Rows.FrameTurnedUptoCardSaid :=
  Claim7.holds_tied_plain_at .later [] _ _ _ _ said (fun _ h => by cases h) (by kernel_rfl) (fun _ h => by cases h) frameTurnedUpto_row_tie rfl ⟨rfl, rfl⟩ (by kernel_rfl) rfl plain (by kernel_rfl)
end Go.Proofs.YtonpiacnljcohaaDoor.frameTurned
namespace Go.Proofs.YtonpiacnljcohaaDoor
/-- The row, under a short name, for the claim. -/
theorem frameTurnedUpto_holds : Rows.FrameTurnedUptoCardSaid := frameTurned.card
#print axioms frameTurnedUpto_holds
end Go.Proofs.YtonpiacnljcohaaDoor
