-- Written by a program of this session (wip/tools/rowgen.py). Lean checks it.
import Derived.Test.YtonpiacnljcohaaDoorMS0
import Derived.Test.YtonpiacnljcohaaDoorOpnA
import Derived.Test.YtonpiacnljcohaaDoorWSized
import Derived.Test.YtonpiacnljcohaaDoorCards
import Derived.Test.YtonpiacnljcohaaDoorTie
import Derived.WalkKit
import Derived.ProofKit
import Derived.OpenShut
import Derived.ShutString
import Derived.ChangeOld
import Derived.Below
import Derived.SizedLaws
import Derived.LaidLaws
import Derived.Deep.DeepHandedRow
import Derived.Lib.LaidTab
namespace Go.Proofs.YtonpiacnljcohaaDoor.manifestSames
open Go.ChangeShapes Go.WideShapes Go.ChangeAt Go.RowKit Go.Proofs.YtonpiacnljcohaaDoorW.PrintWords Go.Proofs.YtonpiacnljcohaaDoor.PA
open Go.ChangeMaps (open_string shut_string)
set_option linter.unusedVariables false
theorem own : ownKnob Tryd.prog.godebug = none := by kernel_rfl
theorem laidOut : laidOutB Tryd.prog = true := by kernel_rfl
theorem gTab0 : Tryd.prog.globalNamed "stemma/frame.quarter" = some 0 := by kernel_rfl
theorem gTabType0 : (Tryd.prog.globals[0]?).map (·.type) = some 78 := by kernel_rfl
theorem cellsT0 : Tryd.prog.cellsOf 78 = 16 := by kernel_rfl
theorem cellsE0 : Tryd.prog.cellsOf 28 = 1 := by kernel_rfl
theorem table0 {W : World} (h : laidMetH Tryd.prog Rows.manifestSamesRow.laid W) : Lib.TabIs Tryd.prog W "stemma/frame.quarter" .u32 [0, 498536548, 997073096, 651767980, 1994146192, 1802195444, 1303535960, 1342533948, 3988292384, 4027552580, 3604390888, 3412177804, 2607071920, 2262029012, 2685067896, 3183342108] :=
  Lib.tabIs_of_head (rest := []) gTab0 gTabType0 Tryd.underlying78 Tryd.underlying28 cellsE0 cellsT0 h
noncomputable def laidWorld (os : Os) : World :=
  { World.holding Tryd.prog os ⟨#[], #[], []⟩ with heap := ((World.holding Tryd.prog os ⟨#[], #[], []⟩).heap.modify 0 (fun | .cells _ t frozen => .cells #[.int .u32 0, .int .u32 498536548, .int .u32 997073096, .int .u32 651767980, .int .u32 1994146192, .int .u32 1802195444, .int .u32 1303535960, .int .u32 1342533948, .int .u32 3988292384, .int .u32 4027552580, .int .u32 3604390888, .int .u32 3412177804, .int .u32 2607071920, .int .u32 2262029012, .int .u32 2685067896, .int .u32 3183342108] t frozen | o => o)) }
theorem laid_met (os : Os) : laidMet Tryd.prog Rows.manifestSamesRow.laid ((laidWorld os).forCall (fun _ _ => 0) ⟨#[], #[.agg #[.int .i64 0, .int .i64 0, .int .i64 0, .int .i64 0], .slice none 0 0, .slice none 0 0], []⟩).memory :=
  laidMet_of_run' 8 (by kernel_rfl) (by kernel_rfl)
theorem reads (os : Os) {H : Type} (enc : TypeId × Value → H) : ∃ places, DataW.whole enc Tryd.prog ((laidWorld os).forCall (fun _ _ => 0) ⟨#[], #[.agg #[.int .i64 0, .int .i64 0, .int .i64 0, .int .i64 0], .slice none 0 0, .slice none 0 0], []⟩).memory Tryd.f11.params.toList Rows.manifestSamesSpec.vars false (#[.agg #[.int .i64 0, .int .i64 0, .int .i64 0, .int .i64 0], .slice none 0 0, .slice none 0 0] : Array Value).toList 8 = some ([.agg [.lit (.int .i64 0), .lit (.int .i64 0), .lit (.int .i64 0), .lit (.int .i64 0)], .nil, .nil], [], places) :=
  ⟨[], by kernel_rfl⟩
set_option maxRecDepth 100000 in
theorem contract (H : Type) (enc : TypeId × Value → H) (W : World) (base : Nat) (args : Array Value) (ds gs : List (DataW H)) (before : List MemPlace)
    (hval0 : ∀ (j : Nat) t v, Tryd.f11.params[j]? = some t → args[j]? = some v → Value.okWide Tryd.prog W .any base t v)
    (hW : DataW.Whole enc Tryd.prog Tryd.f11.params.toList Rows.manifestSamesSpec.vars false W args.toList ds gs before) (hL : laidMetH Tryd.prog Rows.manifestSamesRow.laid W)
    (hk0 : ∀ k, (OpenSpec.ofChange Rows.manifestSamesSpec).cond = some k → k H (ds ++ gs) = true) (hsz0 : (DataW.weightsEach Tryd.prog (Tryd.f11.params.toList ++ (OpenSpec.ofChange Rows.manifestSamesSpec).bare.plain.varTypes Tryd.prog) (ds ++ gs)).all (· ≤ reachBytes) = true) :
    Calls Tryd.prog 11 args W fun e W' => ∃ v, e = .returned v ∧ Rows.manifestSamesSpec.post enc Tryd.prog Tryd.f11 false true false false W args v W' := by
  have hsz : (DataW.weightsEach Tryd.prog (Tryd.f11.params.toList ++ Rows.manifestSamesSpec.plain.varTypes Tryd.prog) (ds ++ gs)).all (· ≤ reachBytes) = true := hsz0
  have hval := hval0
  have hW' := hW
  obtain ⟨p, q, hA0, hV, rfl, hfz, hnd⟩ := hW
  have hA : DataW.TrodAll enc Tryd.prog W 0 (fun _ => true) true Tryd.f11.params.toList args.toList ds p := hA0
  rw [Tryd.params11] at hA hval hsz
  obtain ⟨v0, vs0, d0, ds0, p0, q_0, hargs, rfl, rfl, h0, r0⟩ := trodAll_cons hA
  obtain ⟨v1, vs1, d1, ds1, p1, q_1, rfl, rfl, rfl, h1, r1⟩ := trodAll_cons r0
  obtain ⟨v2, vs2, d2, ds2, p2, q_2, rfl, rfl, rfl, h2, r2⟩ := trodAll_cons r1
  obtain ⟨rfl, rfl, rfl⟩ := trodAll_nil r2
  obtain rfl : args = #[v0, v1, v2] := by cases args; simp_all
  obtain ⟨rfl, rfl⟩ := trodVars_none hV
  have k0 := h0
  have lt0 : ∀ x ∈ p0, x.block < W.heap.size := by obtain ⟨m, hm⟩ := k0; exact DataW.trod_lt m _ _ _ hm
  obtain ⟨a0, hK0, hQ0, hb0⟩ : ∃ a : (Int × Int × Int × Int), (Kd.iso (Kd.pair (Kd.int .i64) (Kd.pair (Kd.int .i64) (Kd.pair (Kd.int .i64) (Kd.int .i64)))) (fun x : (Int × Int × Int × Int) => x)).K W a v0.cells.toList ∧ (((Lit.int .i64 a.1).wf = true) ∧ ((Lit.int .i64 a.2.1).wf = true) ∧ ((Lit.int .i64 a.2.2.1).wf = true) ∧ (Lit.int .i64 a.2.2.2).wf = true) ∧ (1) + ((1) + ((1) + (1))) + 1 ≤ Rows.uptoBulk d0 := by obtain ⟨fuel, hf⟩ := h0; exact (Opn.opn_array_l [(3, 0), (3, 1), (3, 2), (3, 3)] Tryd.underlying70 (by kernel_rfl) (by kernel_rfl) (Opn.prt_cons (j := 0) (o := 0) (n1 := 1) (Opn.opn_int Tryd.underlying3) (by kernel_rfl) (Opn.prt_cons (j := 1) (o := 1) (n1 := 1) (Opn.opn_int Tryd.underlying3) (by kernel_rfl) (Opn.prt_cons (j := 2) (o := 2) (n1 := 1) (Opn.opn_int Tryd.underlying3) (by kernel_rfl) (Opn.prt_one (j := 3) (o := 3) (n := 1) (Opn.opn_int Tryd.underlying3) (by kernel_rfl))))) (fun x : (Int × Int × Int × Int) => x) (fun x => x) (fun _ => rfl)) H enc W fuel _ _ hf
  have hcs0 : v0.cells.toList = [.int .i64 a0.1, .int .i64 a0.2.1, .int .i64 a0.2.2.1, .int .i64 a0.2.2.2] := by obtain ⟨_, _, e_, rfl, ⟨_, _, rfl, rfl, ⟨_, _, rfl, rfl, rfl⟩⟩⟩ := hK0; exact e_
  obtain rfl : v0 = .agg #[.int .i64 a0.1, .int .i64 a0.2.1, .int .i64 a0.2.2.1, .int .i64 a0.2.2.2] := Opn.agg_of (hval 0 70 v0 rfl rfl) (by kernel_rfl) hcs0
  obtain ⟨A1, len1, c1, rfl⟩ := okWide_slice Tryd.underlying22 (hval 1 22 v1 rfl rfl)
  have k1 := h1
  have lt1 : ∀ x ∈ p1, x.block < W.heap.size := by obtain ⟨m, hm⟩ := k1; exact DataW.trod_lt m _ _ _ hm
  have y1 : len1 * 1 ≤ 140737488351232 := sized_ints hsz (j := 1) (t := 22) rfl rfl Tryd.underlying22 Tryd.underlying5 (by kernel_rfl) (by kernel_rfl) h1
  obtain ⟨a1, ⟨A1_, c1_, he1, hc1, hr1⟩, hQ1, hb1⟩ : ∃ a : (List Int), (Kd.slice 5 (Kd.int .u8)).K W a [.slice A1 len1 c1] ∧ (a.length ≤ maxLen ∧ ∀ y22 ∈ a, (Lit.int .u8 y22).wf = true) ∧ (a.map (fun y22 => 1)).sum + 1 ≤ Rows.uptoBulk d1 := by obtain ⟨fuel, hf⟩ := h1; exact (Opn.opn_slice Tryd.underlying22 (by kernel_rfl) (Opn.opn_int Tryd.underlying5)) H enc W fuel _ _ hf
  obtain ⟨rfl, rfl, rfl⟩ : A1 = A1_ ∧ len1 = a1.length ∧ c1 = c1_ := by simpa using he1
  obtain ⟨A2, len2, c2, rfl⟩ := okWide_slice Tryd.underlying22 (hval 2 22 v2 rfl rfl)
  have k2 := h2
  have lt2 : ∀ x ∈ p2, x.block < W.heap.size := by obtain ⟨m, hm⟩ := k2; exact DataW.trod_lt m _ _ _ hm
  have y2 : len2 * 1 ≤ 140737488351232 := sized_ints hsz (j := 2) (t := 22) rfl rfl Tryd.underlying22 Tryd.underlying5 (by kernel_rfl) (by kernel_rfl) h2
  obtain ⟨a2, ⟨A2_, c2_, he2, hc2, hr2⟩, hQ2, hb2⟩ : ∃ a : (List Int), (Kd.slice 5 (Kd.int .u8)).K W a [.slice A2 len2 c2] ∧ (a.length ≤ maxLen ∧ ∀ y22 ∈ a, (Lit.int .u8 y22).wf = true) ∧ (a.map (fun y22 => 1)).sum + 1 ≤ Rows.uptoBulk d2 := by obtain ⟨fuel, hf⟩ := h2; exact (Opn.opn_slice Tryd.underlying22 (by kernel_rfl) (Opn.opn_int Tryd.underlying5)) H enc W fuel _ _ hf
  obtain ⟨rfl, rfl, rfl⟩ : A2 = A2_ ∧ len2 = a2.length ∧ c2 = c2_ := by simpa using he2
  have h := Pure.ManifestSames a0 a1 a2 hQ0 hQ1 y1 hQ2 y2
  refine (PA.stemmalaw19_ManifestSames.calls a0.1 a0.2.1 a0.2.2.1 a0.2.2.2 _ _ a1 _ _ a2 true W hr1 hc1 hr2 hc2 ⟨rfl⟩ (Gl.mk (fun i hi => (table0 hL).cell gTab0 i hi)) h).mono fun e W' ⟨he, bel⟩ => ?_
  subst he
  exact ⟨_, rfl, _, _, _, [], _, [], hW', trodAll_mk1 (shut_bool Tryd.underlying4 _), (trodAll_cons_mk (Below.trod laidOut (by kernel_rfl) (of_decide_eq_true (by kernel_rfl)) k0 bel lt0) (trodAll_cons_mk (Below.trod laidOut (by kernel_rfl) (of_decide_eq_true (by kernel_rfl)) k1 bel lt1) (trodAll_cons_mk (Below.trod laidOut (by kernel_rfl) (of_decide_eq_true (by kernel_rfl)) k2 bel lt2) trodAll_mk0))), rfl, bel.frame _, fun h => by cases h⟩
set_option maxRecDepth 100000 in
theorem lifted (os : Os) (started : os.Started) (H : Type) (enc : TypeId × Value → H) (F : Stop.Interp) :
    ReturnsInHanded {} Tryd.checked os 11 .any ((OpenSpec.ofChange Rows.manifestSamesSpec).preRow enc Tryd.prog Tryd.f11 Rows.manifestSamesRow.domain false Rows.manifestSamesRow.laid) (((OpenSpec.ofChange Rows.manifestSamesSpec).at F).post enc Tryd.prog Tryd.f11 false true false false) := by
  obtain ⟨places, hx⟩ := reads os enc
  refine returnsInHanded_of_row (C := Tryd.checked) (s := (OpenSpec.ofChange Rows.manifestSamesSpec)) own started (by kernel_rfl) Tryd.func11
    (witness_row_at (enc := enc) (C := Tryd.checked) false (laidWorld os) #[.agg #[.int .i64 0, .int .i64 0, .int .i64 0, .int .i64 0], .slice none 0 0, .slice none 0 0] rfl (by kernel_rfl) (by kernel_rfl) (by kernel_rfl)
      (OpenSpec.preRow_of_cond 8 hx (by kernel_rfl) (fun k hk => by cases hk) (by kernel_rfl) (laid_met os))) ?_
  intro W base args ds gs before hval hW _ hk hsz hL _ _
  exact contract H enc W base args ds gs before hval hW hL hk hsz
theorem said : Rows.ManifestSamesSaid :=
  OpenClaim.holds_of_cond 11 Tryd.f11 rfl rfl rfl rfl rfl rfl rfl ⟨rfl, rfl, rfl, rfl, rfl⟩ rfl rfl rfl rfl rfl (by kernel_rfl) Tryd.func11 (by kernel_rfl)
    (of_decide_eq_true (by kernel_rfl)) (by unfold Func.isWrapper; first | (rw [if_pos (by decide +kernel)]; kernel_rfl) | (rw [if_neg (by decide +kernel)]; exact ⟨rfl, rfl⟩))
    (fun os started H enc _ F => by rw [OpenClaim.pre_eq_preRow]; exact lifted os started H enc F)
theorem plain (f : FuncId) (fn : Func) (hf : Tryd.pinned.checked.prog.funcNamed "stemma/stemmalaw19.ManifestSames" = some f) (hfn : Tryd.pinned.checked.prog.funcs[f]? = some fn) :
    true = Tryd.pinned.checked.prog.looks [] ∧ ∀ (j : Nat) t, fn.params[j]? = some t → Tryd.pinned.checked.prog.wantsStandIn t = false := by
  obtain rfl : f = 11 := Option.some.inj ((show Tryd.prog.funcNamed "stemma/stemmalaw19.ManifestSames" = some 11 by kernel_rfl).symm.trans hf) |>.symm
  obtain rfl : fn = Tryd.f11 := (Option.some.inj (Tryd.func11.symm.trans hfn)).symm
  refine ⟨by kernel_rfl, fun j t ht => ?_⟩
  rw [Tryd.params11] at ht
  have hm := Array.mem_of_getElem? ht
  simp only [List.mem_toArray, List.mem_cons, List.not_mem_nil, or_false] at hm
  rcases hm with rfl | rfl | rfl
  · exact (show Tryd.prog.wantsStandIn 70 = false by kernel_rfl)
  · exact (show Tryd.prog.wantsStandIn 22 = false by kernel_rfl)
  · exact (show Tryd.prog.wantsStandIn 22 = false by kernel_rfl)
theorem card : Rows.ManifestSamesCardSaid :=
  Claim7.holds_tied_plain_at .later [] _ _ _ _ said (fun _ h => by cases h) (by kernel_rfl) (fun _ h => by cases h) manifestSames_row_tie rfl ⟨rfl, rfl⟩ (by kernel_rfl) rfl plain (by kernel_rfl)
end Go.Proofs.YtonpiacnljcohaaDoor.manifestSames
namespace Go.Proofs.YtonpiacnljcohaaDoor
/-- The row, under a short name, for the claim. -/
theorem manifestSames_holds : Rows.ManifestSamesCardSaid := manifestSames.card
#print axioms manifestSames_holds
end Go.Proofs.YtonpiacnljcohaaDoor
