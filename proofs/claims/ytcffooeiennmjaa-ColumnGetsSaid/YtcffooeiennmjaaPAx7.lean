-- Written by a program of this session (wip/tools/myprint.py), out of the translation's print. Lean checks it.
import Derived.Test.YtcffooeiennmjaaPAx0
import Derived.Test.YtcffooeiennmjaaPAx25
import Derived.Test.YtcffooeiennmjaaPAx26
import Derived.Test.YtcffooeiennmjaaPAx27
import Derived.Test.YtcffooeiennmjaaPAx28
import Derived.Test.YtcffooeiennmjaaPAx29
import Derived.Test.YtcffooeiennmjaaPAx30
namespace Go.Proofs.Ytcffooeiennmjaa.PA
open Go.RowKit Go.Proofs.YtcffooeiennmjaaW.PrintWords Go.Proofs.YtcffooeiennmjaaW.PrintLast Go.Proofs.YtcffooeiennmjaaW.PrintMore
attribute [local go_sem] max2_int min2_int max_two min_two max_three min_three max_four min_four   -- for this text's walks alone
set_option linter.unusedVariables false
set_option linter.unusedSimpArgs false

/-! ### stemmalaw03_ColumnGets: function 7 -/
def stemmalaw03_ColumnGets.f (k : Nat) (l0 : List Int) (a1 : Int) : Option (Bool) := (some (([] : List Int) : List Int)).bind fun y359 => (if y359.length + l0.length < 140737488355328 then ((some (y359 ++ l0 : List Int)).bind fun y362 => ((column_GetRuns.f k y362 a1).bind fun bt365 => ((stemmaref03_GetRuns.f k l0 a1).bind fun bt370 => ((column_GetDeltas.f k y362 a1).bind fun bt375 => ((stemmaref03_GetDeltas.f k l0 a1).bind fun bt380 => ((stemmaref03_Same.f k bt365.1 bt370.1).bind fun t385 => (if t385 = true then (if bt365.2.1 = bt370.2.1 then (if bt365.2.2 = bt370.2.2 then ((stemmaref03_Same.f k bt375.1 bt380.1).bind fun t386 => (if t386 = true then (if bt375.2.1 = bt380.2.1 then (if bt375.2.2 = bt380.2.2 then (if (strOfNums y362).toList = (strOfNums l0).toList then ((stemmalaw03_awake.f k).bind fun t387 => (some t387)) else (some false)) else (some false)) else (some false)) else (some false))) else (some false)) else (some false)) else (some false)))))))) else (none))
theorem stemmalaw03_ColumnGets.mono : ∀ a0 a1 k, LeO (stemmalaw03_ColumnGets.f k a0 a1) (stemmalaw03_ColumnGets.f (k + 1) a0 a1) := by
  intro a0 a1 k
  unfold stemmalaw03_ColumnGets.f
  repeat' first
      | (with_reducible exact column_GetDeltas.mono _ _ _)
      | (with_reducible exact column_GetRuns.mono _ _ _)
      | (with_reducible exact stemmalaw03_awake.mono _)
      | (with_reducible exact stemmaref03_GetDeltas.mono _ _ _)
      | (with_reducible exact stemmaref03_GetRuns.mono _ _ _)
      | (with_reducible exact stemmaref03_Same.mono _ _ _)
      | (with_reducible exact LeO.refl _)
      | (with_reducible exact LeO.none _)
      | (with_reducible refine LeO.ite ?_ ?_)
      | (with_reducible refine LeO.bind ?_ (fun _ => ?_))
      | exact column_GetDeltas.mono _ _ _
      | exact column_GetRuns.mono _ _ _
      | exact stemmalaw03_awake.mono _
      | exact stemmaref03_GetDeltas.mono _ _ _
      | exact stemmaref03_GetRuns.mono _ _ _
      | exact stemmaref03_Same.mono _ _ _
      | exact LeO.none _
      | refine LeO.ite ?_ ?_
      | refine LeO.bind ?_ (fun _ => ?_)
set_option maxHeartbeats 8000000 in
set_option maxRecDepth 100000 in
theorem stemmalaw03_ColumnGets.calls (k : Nat) (A0 : Option Addr) (c0 : Nat) (l0 : List Int) (a1 : Int) (r : Bool) (w : World) (hr0 : Kd.C (Kd.int .u8) w A0 l0.length l0) (hc0 : l0.length ≤ c0) (hr_ : Aside0 (r = true)) (h : stemmalaw03_ColumnGets.f k l0 a1 = some r) :
    Calls Try.prog 7 #[.slice A0 l0.length c0, .int .i64 a1] w fun e w' => e = .returned (.bool r) ∧ Below w.heap.size w w' := by
  have HR0 := Aside0.mk hr0
  have HC0 := Aside0.mk hc0
  clear hr0 hc0
  have HB := Aside0.mk (Below.refl w.heap.size w)
  have H : ((some (([] : List Int) : List Int)).bind fun y359 => (if y359.length + l0.length < 140737488355328 then ((some (y359 ++ l0 : List Int)).bind fun y362 => ((column_GetRuns.f k y362 a1).bind fun bt365 => ((stemmaref03_GetRuns.f k l0 a1).bind fun bt370 => ((column_GetDeltas.f k y362 a1).bind fun bt375 => ((stemmaref03_GetDeltas.f k l0 a1).bind fun bt380 => ((stemmaref03_Same.f k bt365.1 bt370.1).bind fun t385 => (if t385 = true then (if bt365.2.1 = bt370.2.1 then (if bt365.2.2 = bt370.2.2 then ((stemmaref03_Same.f k bt375.1 bt380.1).bind fun t386 => (if t386 = true then (if bt375.2.1 = bt380.2.1 then (if bt375.2.2 = bt380.2.2 then (if (strOfNums y362).toList = (strOfNums l0).toList then ((stemmalaw03_awake.f k).bind fun t387 => (some t387)) else (some false)) else (some false)) else (some false)) else (some false))) else (some false)) else (some false)) else (some false)))))))) else (none))) = some r := h
  clear h
  obtain ⟨y359, hy359⟩ : ∃ y_ : List Int, y_ = (([] : List Int)) := ⟨_, rfl⟩
  replace H : (if y359.length + l0.length < 140737488355328 then ((some (y359 ++ l0 : List Int)).bind fun y362 => ((column_GetRuns.f k y362 a1).bind fun bt365 => ((stemmaref03_GetRuns.f k l0 a1).bind fun bt370 => ((column_GetDeltas.f k y362 a1).bind fun bt375 => ((stemmaref03_GetDeltas.f k l0 a1).bind fun bt380 => ((stemmaref03_Same.f k bt365.1 bt370.1).bind fun t385 => (if t385 = true then (if bt365.2.1 = bt370.2.1 then (if bt365.2.2 = bt370.2.2 then ((stemmaref03_Same.f k bt375.1 bt380.1).bind fun t386 => (if t386 = true then (if bt375.2.1 = bt380.2.1 then (if bt375.2.2 = bt380.2.2 then (if (strOfNums y362).toList = (strOfNums l0).toList then ((stemmalaw03_awake.f k).bind fun t387 => (some t387)) else (some false)) else (some false)) else (some false)) else (some false))) else (some false)) else (some false)) else (some false)))))))) else (none)) = some r := by first | (rw [hy359]; with_reducible exact H) | (have H2_ := (Option.bind_some _ _).symm.trans H; rw [hy359]; with_reducible exact H2_) | (have H2_ := (Option.bind_some _ _).symm.trans H; with_reducible exact H2_) | with_reducible exact H | (rw [hy359]; exact H) | exact H
  have Ny359 := Aside0.mk hy359
  clear hy359
  by_cases c3 : y359.length + l0.length < 140737488355328
  · rw [if_pos c3] at H
    have LMc3 := Aside0.mk c3
    clear c3
    obtain ⟨y362, hy362⟩ : ∃ y_ : List Int, y_ = (y359 ++ l0) := ⟨_, rfl⟩
    replace H : ((column_GetRuns.f k y362 a1).bind fun bt365 => ((stemmaref03_GetRuns.f k l0 a1).bind fun bt370 => ((column_GetDeltas.f k y362 a1).bind fun bt375 => ((stemmaref03_GetDeltas.f k l0 a1).bind fun bt380 => ((stemmaref03_Same.f k bt365.1 bt370.1).bind fun t385 => (if t385 = true then (if bt365.2.1 = bt370.2.1 then (if bt365.2.2 = bt370.2.2 then ((stemmaref03_Same.f k bt375.1 bt380.1).bind fun t386 => (if t386 = true then (if bt375.2.1 = bt380.2.1 then (if bt375.2.2 = bt380.2.2 then (if (strOfNums y362).toList = (strOfNums l0).toList then ((stemmalaw03_awake.f k).bind fun t387 => (some t387)) else (some false)) else (some false)) else (some false)) else (some false))) else (some false)) else (some false)) else (some false))))))) = some r := by first | (rw [hy362]; with_reducible exact H) | (have H2_ := (Option.bind_some _ _).symm.trans H; rw [hy362]; with_reducible exact H2_) | (have H2_ := (Option.bind_some _ _).symm.trans H; with_reducible exact H2_) | with_reducible exact H | (rw [hy362]; exact H) | exact H
    have Ny362 := Aside0.mk hy362
    clear hy362
    replace H := Option.bind_eq_some_iff.mp H
    obtain ⟨⟨t365, t366, t367⟩, A40, H⟩ := H
    replace H : ((stemmaref03_GetRuns.f k l0 a1).bind fun bt370 => ((column_GetDeltas.f k y362 a1).bind fun bt375 => ((stemmaref03_GetDeltas.f k l0 a1).bind fun bt380 => ((stemmaref03_Same.f k t365 bt370.1).bind fun t385 => (if t385 = true then (if t366 = bt370.2.1 then (if t367 = bt370.2.2 then ((stemmaref03_Same.f k bt375.1 bt380.1).bind fun t386 => (if t386 = true then (if bt375.2.1 = bt380.2.1 then (if bt375.2.2 = bt380.2.2 then (if (strOfNums y362).toList = (strOfNums l0).toList then ((stemmalaw03_awake.f k).bind fun t387 => (some t387)) else (some false)) else (some false)) else (some false)) else (some false))) else (some false)) else (some false)) else (some false)))))) = some r := H
    have A4 := Aside0.mk A40
    clear A40
    replace H := Option.bind_eq_some_iff.mp H
    obtain ⟨⟨t370, t371, t372⟩, A50, H⟩ := H
    replace H : ((column_GetDeltas.f k y362 a1).bind fun bt375 => ((stemmaref03_GetDeltas.f k l0 a1).bind fun bt380 => ((stemmaref03_Same.f k t365 t370).bind fun t385 => (if t385 = true then (if t366 = t371 then (if t367 = t372 then ((stemmaref03_Same.f k bt375.1 bt380.1).bind fun t386 => (if t386 = true then (if bt375.2.1 = bt380.2.1 then (if bt375.2.2 = bt380.2.2 then (if (strOfNums y362).toList = (strOfNums l0).toList then ((stemmalaw03_awake.f k).bind fun t387 => (some t387)) else (some false)) else (some false)) else (some false)) else (some false))) else (some false)) else (some false)) else (some false))))) = some r := H
    have A5 := Aside0.mk A50
    clear A50
    replace H := Option.bind_eq_some_iff.mp H
    obtain ⟨⟨t375, t376, t377⟩, A60, H⟩ := H
    replace H : ((stemmaref03_GetDeltas.f k l0 a1).bind fun bt380 => ((stemmaref03_Same.f k t365 t370).bind fun t385 => (if t385 = true then (if t366 = t371 then (if t367 = t372 then ((stemmaref03_Same.f k t375 bt380.1).bind fun t386 => (if t386 = true then (if t376 = bt380.2.1 then (if t377 = bt380.2.2 then (if (strOfNums y362).toList = (strOfNums l0).toList then ((stemmalaw03_awake.f k).bind fun t387 => (some t387)) else (some false)) else (some false)) else (some false)) else (some false))) else (some false)) else (some false)) else (some false)))) = some r := H
    have A6 := Aside0.mk A60
    clear A60
    replace H := Option.bind_eq_some_iff.mp H
    obtain ⟨⟨t380, t381, t382⟩, A70, H⟩ := H
    replace H : ((stemmaref03_Same.f k t365 t370).bind fun t385 => (if t385 = true then (if t366 = t371 then (if t367 = t372 then ((stemmaref03_Same.f k t375 t380).bind fun t386 => (if t386 = true then (if t376 = t381 then (if t377 = t382 then (if (strOfNums y362).toList = (strOfNums l0).toList then ((stemmalaw03_awake.f k).bind fun t387 => (some t387)) else (some false)) else (some false)) else (some false)) else (some false))) else (some false)) else (some false)) else (some false))) = some r := H
    have A7 := Aside0.mk A70
    clear A70
    replace H := Option.bind_eq_some_iff.mp H
    obtain ⟨t385, A80, H⟩ := H
    replace H : (if t385 = true then (if t366 = t371 then (if t367 = t372 then ((stemmaref03_Same.f k t375 t380).bind fun t386 => (if t386 = true then (if t376 = t381 then (if t377 = t382 then (if (strOfNums y362).toList = (strOfNums l0).toList then ((stemmalaw03_awake.f k).bind fun t387 => (some t387)) else (some false)) else (some false)) else (some false)) else (some false))) else (some false)) else (some false)) else (some false)) = some r := H
    have A8 := Aside0.mk A80
    clear A80
    by_cases c9 : t385 = true
    · subst c9
      have H1 : (if t366 = t371 then (if t367 = t372 then ((stemmaref03_Same.f k t375 t380).bind fun t386 => (if t386 = true then (if t376 = t381 then (if t377 = t382 then (if (strOfNums y362).toList = (strOfNums l0).toList then ((stemmalaw03_awake.f k).bind fun t387 => (some t387)) else (some false)) else (some false)) else (some false)) else (some false))) else (some false)) else (some false)) = some r := by rw [if_pos rfl] at H; exact H
      clear H
      have H := H1
      clear H1
      by_cases c10 : t366 = t371
      · rw [if_pos c10] at H
        have c10b0 : (t366 == t371) = true := beq_iff_eq.mpr c10
        have c10b1 : (t366 != t371) = false := bne_eq_false_iff_eq.mpr c10
        clear c10
        by_cases c11 : t367 = t372
        · rw [if_pos c11] at H
          have c11b0 : (t367 == t372) = true := beq_iff_eq.mpr c11
          have c11b1 : (t367 != t372) = false := bne_eq_false_iff_eq.mpr c11
          clear c11
          replace H := Option.bind_eq_some_iff.mp H
          obtain ⟨t386, A120, H⟩ := H
          replace H : (if t386 = true then (if t376 = t381 then (if t377 = t382 then (if (strOfNums y362).toList = (strOfNums l0).toList then ((stemmalaw03_awake.f k).bind fun t387 => (some t387)) else (some false)) else (some false)) else (some false)) else (some false)) = some r := H
          have A12 := Aside0.mk A120
          clear A120
          by_cases c13 : t386 = true
          · subst c13
            have H1 : (if t376 = t381 then (if t377 = t382 then (if (strOfNums y362).toList = (strOfNums l0).toList then ((stemmalaw03_awake.f k).bind fun t387 => (some t387)) else (some false)) else (some false)) else (some false)) = some r := by rw [if_pos rfl] at H; exact H
            clear H
            have H := H1
            clear H1
            by_cases c14 : t376 = t381
            · rw [if_pos c14] at H
              have c14b0 : (t376 == t381) = true := beq_iff_eq.mpr c14
              have c14b1 : (t376 != t381) = false := bne_eq_false_iff_eq.mpr c14
              clear c14
              by_cases c15 : t377 = t382
              · rw [if_pos c15] at H
                have c15b0 : (t377 == t382) = true := beq_iff_eq.mpr c15
                have c15b1 : (t377 != t382) = false := bne_eq_false_iff_eq.mpr c15
                clear c15
                by_cases c16 : (strOfNums y362).toList = (strOfNums l0).toList
                · rw [if_pos c16] at H
                  have c16b0 : ((strOfNums y362).toList == (strOfNums l0).toList) = true := beq_iff_eq.mpr c16
                  have c16b1 : ((strOfNums y362).toList != (strOfNums l0).toList) = false := bne_eq_false_iff_eq.mpr c16
                  clear c16
                  replace H := Option.bind_eq_some_iff.mp H
                  obtain ⟨t387, A170, H⟩ := H
                  replace H : (some t387) = some r := H
                  have A17 := Aside0.mk A170
                  clear A170
                  obtain rfl := Option.some.inj H
                  go_enter Try.func7, Try.ntmps7
                  go_wp2_with (first | ((with_reducible refine gate_dst (N := 18) rfl ?_); refine Kd.R_lit (Kd.int .u8) _ 5 ?hg (N := 18) ?hd (xs := ([] : List Int)) (inner := []) (ok := fun _ => True) (okp := fun _ => True) ?hr ?hp (fun _ hk => hk) trivial (Below.refl _ _) (Nat.le_refl _) (by simp) ?_; (case hd => rfl); (case hg => rfl); (case hr => first | (go_simp; done) | (go_simp; rfl)); (case hp => exact (Reps.none _ _)); intro v360 w18 ho19 hb hg_ hnew_; clear hg_ hnew_; (first | rw [← Ny359.out] at ho19 | (simp only [Int.reduceToNat] at ho19; rw [← Ny359.out] at ho19)); have n0_ := Aside0.mk (Kd.R_lower ho19 (below_size (by repeat (first | (with_reducible first | exact HB.out | apply below_alloc | apply pw_below_drewN | apply below_drew1) | exact HB.out)))); have n1_ := Aside0.mk (below_step (by repeat (first | (with_reducible first | exact HB.out | apply below_alloc | apply pw_below_drewN | apply below_drew1) | exact HB.out)) hb); clear HB; have HO361 := n0_; have HB := n1_; clear n0_ n1_; clear hb ho19) | ((with_reducible refine gate_builtin (b := .append) (xs := #[.tmp 18, .tmp 19]) rfl ?_); at_builtin; refine Kd.R_append_rows (Kd.int .u8) (w0 := w) w.heap.size rfl (.tmp 18) (.tmp 19) 23 5 (.int .u8 0) 1 rfl Try.underlying23 info5 rfl (by decide) (by omega) v360 y359 l0 _ _ _ (fun _ => True) (fun _ => False) rfl rfl ?aO ?aR (fun _ _ h => h) (fun _ h => h.elim) ?aF ?aB ?aS ?aL ?_; (case aR => repeat (first | exact (Kd.C_below HR0.out HB.out) | (with_reducible refine Kd.C_alloc ?_ _) | (with_reducible refine Kd.C_drewN ?_ _) | (with_reducible refine Kd.C_drew ?_))); (case aB => exact (by repeat (first | (with_reducible first | exact HB.out | apply below_alloc | apply pw_below_drewN | apply below_drew1) | exact HB.out))); (case aF => exact (fun _ _ => trivial)); (case aO => exact (by (with_reducible repeat (first | apply Kd.R_alloc | apply Kd.R_drewN | apply Kd.R_drew)); exact HO361.out)); (case aS => exact (below_size (by repeat (first | (with_reducible first | exact HB.out | apply below_alloc | apply pw_below_drewN | apply below_drew1) | exact HB.out)))); (case aL => have := LMc3.out; omega); intro v363 w20 ho hb hg hat; rw [← Ny362.out] at ho; have n0_ := Aside0.mk (hb); have n1_ := Aside0.mk (ho); clear HB; clear HO361; have HB := n0_; have HO364 := n1_; clear n0_ n1_; clear ho hb hg hat; obtain ⟨Ao21, co21, eo21⟩ := Kd.R_slice HO364.out; subst eo21) | ((with_reducible refine gate_callee (f := 25) rfl ?_); refine goesL_ (some 24) rfl rfl Try.func25 (by kernel_rfl) rfl #[.slice Ao21 y362.length co21, .int .i64 a1] rfl (by (try simp only [List.map_toArray, List.map_cons, List.map_nil]); first | done | rfl | (simp only [List.length_drop, List.length_take]; rfl)) ?_; (with_reducible refine (column_GetRuns.calls k _ _ y362 a1 t365 t366 t367 _ ?side1 ?side2 A4.out).mono ?_); (case side1 => repeat (first | exact (Kd.R_reads' HO364.out).2.2 | (with_reducible refine Kd.C_alloc ?_ _) | (with_reducible refine Kd.C_drewN ?_ _) | (with_reducible refine Kd.C_drew ?_))); (case side2 => exact (Kd.R_reads' HO364.out).2.1); rintro e w22 ⟨v368, rfl, ho0, hb⟩; refine ⟨_, rfl, ?_⟩; have n0_ := Aside0.mk (Kd.R_below (by (with_reducible repeat (first | apply Kd.R_alloc | apply Kd.R_drewN | apply Kd.R_drew)); exact HO364.out) hb); have n1_ := Aside0.mk (Kd.R_lower ho0 (below_size (by repeat (first | (with_reducible first | exact HB.out | apply below_alloc | apply pw_below_drewN | apply below_drew1) | exact HB.out)))); have n2_ := Aside0.mk (below_step (by repeat (first | (with_reducible first | exact HB.out | apply below_alloc | apply pw_below_drewN | apply below_drew1) | exact HB.out)) hb); clear HO364; clear HB; have HO364 := n0_; have HO369 := n1_; have HB := n2_; clear n0_ n1_ n2_; (try clear hb); (try clear hb2); (try clear hk); (try clear hi); (try clear ho0)) | ((with_reducible refine gate_callee (f := 26) rfl ?_); refine goesL_ (some 31) rfl rfl Try.func26 (by kernel_rfl) rfl #[.slice A0 l0.length c0, .int .i64 a1] rfl (by (try simp only [List.map_toArray, List.map_cons, List.map_nil]); first | done | rfl | (simp only [List.length_drop, List.length_take]; rfl)) ?_; (with_reducible refine (stemmaref03_GetRuns.calls k _ _ l0 a1 t370 t371 t372 _ ?side1 ?side2 A5.out).mono ?_); (case side1 => repeat (first | exact (Kd.C_below HR0.out HB.out) | (with_reducible refine Kd.C_alloc ?_ _) | (with_reducible refine Kd.C_drewN ?_ _) | (with_reducible refine Kd.C_drew ?_))); (case side2 => exact HC0.out); rintro e w23 ⟨v373, rfl, ho0, hb⟩; refine ⟨_, rfl, ?_⟩; have n0_ := Aside0.mk (Kd.R_below (by (with_reducible repeat (first | apply Kd.R_alloc | apply Kd.R_drewN | apply Kd.R_drew)); exact HO364.out) hb); have n1_ := Aside0.mk (Kd.R_elder' (by (with_reducible repeat (first | apply Kd.R_alloc | apply Kd.R_drewN | apply Kd.R_drew)); exact HO369.out) (Kd.R_base ho0) hb); have n2_ := Aside0.mk (Kd.R_lower (Kd.R_new' ho0 (Kd.R_lt (by (with_reducible repeat (first | apply Kd.R_alloc | apply Kd.R_drewN | apply Kd.R_drew)); exact HO369.out))) (below_size (by repeat (first | (with_reducible first | exact HB.out | apply below_alloc | apply pw_below_drewN | apply below_drew1) | exact HB.out)))); have n3_ := Aside0.mk (below_step (by repeat (first | (with_reducible first | exact HB.out | apply below_alloc | apply pw_below_drewN | apply below_drew1) | exact HB.out)) hb); clear HO364; clear HO369; clear HB; have HO364 := n0_; have HO369 := n1_; have HO374 := n2_; have HB := n3_; clear n0_ n1_ n2_ n3_; (try clear hb); (try clear hb2); (try clear hk); (try clear hi); (try clear ho0)) | ((with_reducible refine gate_callee (f := 27) rfl ?_); refine goesL_ (some 38) rfl rfl Try.func27 (by kernel_rfl) rfl #[.slice Ao21 y362.length co21, .int .i64 a1] rfl (by (try simp only [List.map_toArray, List.map_cons, List.map_nil]); first | done | rfl | (simp only [List.length_drop, List.length_take]; rfl)) ?_; (with_reducible refine (column_GetDeltas.calls k _ _ y362 a1 t375 t376 t377 _ ?side1 ?side2 A6.out).mono ?_); (case side1 => repeat (first | exact (Kd.R_reads' HO364.out).2.2 | (with_reducible refine Kd.C_alloc ?_ _) | (with_reducible refine Kd.C_drewN ?_ _) | (with_reducible refine Kd.C_drew ?_))); (case side2 => exact (Kd.R_reads' HO364.out).2.1); rintro e w24 ⟨v378, rfl, ho0, hb⟩; refine ⟨_, rfl, ?_⟩; have n0_ := Aside0.mk (Kd.R_below (by (with_reducible repeat (first | apply Kd.R_alloc | apply Kd.R_drewN | apply Kd.R_drew)); exact HO364.out) hb); have n1_ := Aside0.mk (Kd.R_elder' (by (with_reducible repeat (first | apply Kd.R_alloc | apply Kd.R_drewN | apply Kd.R_drew)); exact HO369.out) (Kd.R_base ho0) hb); have n2_ := Aside0.mk (Kd.R_elder' (by (with_reducible repeat (first | apply Kd.R_alloc | apply Kd.R_drewN | apply Kd.R_drew)); exact HO374.out) (Kd.R_base ho0) hb); have n3_ := Aside0.mk (Kd.R_lower (Kd.R_new' (Kd.R_new' ho0 (Kd.R_lt (by (with_reducible repeat (first | apply Kd.R_alloc | apply Kd.R_drewN | apply Kd.R_drew)); exact HO369.out))) (Kd.R_lt (by (with_reducible repeat (first | apply Kd.R_alloc | apply Kd.R_drewN | apply Kd.R_drew)); exact HO374.out))) (below_size (by repeat (first | (with_reducible first | exact HB.out | apply below_alloc | apply pw_below_drewN | apply below_drew1) | exact HB.out)))); have n4_ := Aside0.mk (below_step (by repeat (first | (with_reducible first | exact HB.out | apply below_alloc | apply pw_below_drewN | apply below_drew1) | exact HB.out)) hb); clear HO364; clear HO369; clear HO374; clear HB; have HO364 := n0_; have HO369 := n1_; have HO374 := n2_; have HO379 := n3_; have HB := n4_; clear n0_ n1_ n2_ n3_ n4_; (try clear hb); (try clear hb2); (try clear hk); (try clear hi); (try clear ho0)) | ((with_reducible refine gate_callee (f := 28) rfl ?_); refine goesL_ (some 45) rfl rfl Try.func28 (by kernel_rfl) rfl #[.slice A0 l0.length c0, .int .i64 a1] rfl (by (try simp only [List.map_toArray, List.map_cons, List.map_nil]); first | done | rfl | (simp only [List.length_drop, List.length_take]; rfl)) ?_; (with_reducible refine (stemmaref03_GetDeltas.calls k _ _ l0 a1 t380 t381 t382 _ ?side1 ?side2 A7.out).mono ?_); (case side1 => repeat (first | exact (Kd.C_below HR0.out HB.out) | (with_reducible refine Kd.C_alloc ?_ _) | (with_reducible refine Kd.C_drewN ?_ _) | (with_reducible refine Kd.C_drew ?_))); (case side2 => exact HC0.out); rintro e w25 ⟨v383, rfl, ho0, hb⟩; refine ⟨_, rfl, ?_⟩; have n0_ := Aside0.mk (Kd.R_below (by (with_reducible repeat (first | apply Kd.R_alloc | apply Kd.R_drewN | apply Kd.R_drew)); exact HO364.out) hb); have n1_ := Aside0.mk (Kd.R_elder' (by (with_reducible repeat (first | apply Kd.R_alloc | apply Kd.R_drewN | apply Kd.R_drew)); exact HO369.out) (Kd.R_base ho0) hb); have n2_ := Aside0.mk (Kd.R_elder' (by (with_reducible repeat (first | apply Kd.R_alloc | apply Kd.R_drewN | apply Kd.R_drew)); exact HO374.out) (Kd.R_base ho0) hb); have n3_ := Aside0.mk (Kd.R_elder' (by (with_reducible repeat (first | apply Kd.R_alloc | apply Kd.R_drewN | apply Kd.R_drew)); exact HO379.out) (Kd.R_base ho0) hb); have n4_ := Aside0.mk (Kd.R_lower (Kd.R_new' (Kd.R_new' (Kd.R_new' ho0 (Kd.R_lt (by (with_reducible repeat (first | apply Kd.R_alloc | apply Kd.R_drewN | apply Kd.R_drew)); exact HO369.out))) (Kd.R_lt (by (with_reducible repeat (first | apply Kd.R_alloc | apply Kd.R_drewN | apply Kd.R_drew)); exact HO374.out))) (Kd.R_lt (by (with_reducible repeat (first | apply Kd.R_alloc | apply Kd.R_drewN | apply Kd.R_drew)); exact HO379.out))) (below_size (by repeat (first | (with_reducible first | exact HB.out | apply below_alloc | apply pw_below_drewN | apply below_drew1) | exact HB.out)))); have n5_ := Aside0.mk (below_step (by repeat (first | (with_reducible first | exact HB.out | apply below_alloc | apply pw_below_drewN | apply below_drew1) | exact HB.out)) hb); clear HO364; clear HO369; clear HO374; clear HO379; clear HB; have HO364 := n0_; have HO369 := n1_; have HO374 := n2_; have HO379 := n3_; have HO384 := n4_; have HB := n5_; clear n0_ n1_ n2_ n3_ n4_ n5_; (try clear hb); (try clear hb2); (try clear hk); (try clear hi); (try clear ho0); obtain ⟨Ao26, co26, eo26⟩ := Kd.R_slice HO369.out; subst eo26; obtain ⟨Ao27, co27, eo27⟩ := Kd.R_slice HO374.out; subst eo27) | ((with_reducible refine gate_callee (f := 29) rfl ?_); refine goesL_ (some 51) rfl rfl Try.func29 (by kernel_rfl) rfl #[.slice Ao26 t365.length co26, .slice Ao27 t370.length co27] rfl (by (try simp only [List.map_toArray, List.map_cons, List.map_nil]); first | done | rfl | (simp only [List.length_drop, List.length_take]; rfl)) ?_; (with_reducible refine (stemmaref03_Same.calls k _ _ t365 _ _ t370 true _ ?side1 ?side2 ?side3 ?side4 A8.out).mono ?_); (case side1 => repeat (first | exact (Kd.R_reads' HO369.out).2.2 | (with_reducible refine Kd.C_alloc ?_ _) | (with_reducible refine Kd.C_drewN ?_ _) | (with_reducible refine Kd.C_drew ?_))); (case side2 => exact (Kd.R_reads' HO369.out).2.1); (case side3 => repeat (first | exact (Kd.R_reads' HO374.out).2.2 | (with_reducible refine Kd.C_alloc ?_ _) | (with_reducible refine Kd.C_drewN ?_ _) | (with_reducible refine Kd.C_drew ?_))); (case side4 => exact (Kd.R_reads' HO374.out).2.1); rintro e w' ⟨rfl, ⟨nd, rfl⟩⟩; refine ⟨_, rfl, ?_⟩; obtain ⟨Ao28, co28, eo28⟩ := Kd.R_slice HO379.out; subst eo28; obtain ⟨Ao29, co29, eo29⟩ := Kd.R_slice HO384.out; subst eo29) | (go_at_call 29; (with_reducible refine (stemmaref03_Same.calls k _ _ t375 _ _ t380 true _ ?side1 ?side2 ?side3 ?side4 A12.out).mono ?_); (case side1 => repeat (first | exact (Kd.R_reads' HO379.out).2.2 | (with_reducible refine Kd.C_alloc ?_ _) | (with_reducible refine Kd.C_drewN ?_ _) | (with_reducible refine Kd.C_drew ?_))); (case side2 => exact (Kd.R_reads' HO379.out).2.1); (case side3 => repeat (first | exact (Kd.R_reads' HO384.out).2.2 | (with_reducible refine Kd.C_alloc ?_ _) | (with_reducible refine Kd.C_drewN ?_ _) | (with_reducible refine Kd.C_drew ?_))); (case side4 => exact (Kd.R_reads' HO384.out).2.1); rintro e w' ⟨rfl, ⟨nd, rfl⟩⟩; have hcv30 := own_string (P := Try.prog) Try.underlying23 Try.underlying5 Try.underlying9 (Kd.own_of_R HO364.out); have hcd30 := fun m_ : Nat => own_string (P := Try.prog) Try.underlying23 Try.underlying5 Try.underlying9 (Kd.own_of_R (Kd.R_drewN HO364.out m_)); have hcv31 := Kd.C_string (P := Try.prog) (A := A0) (c := c0) Try.underlying23 Try.underlying5 Try.underlying9 (Kd.C_below HR0.out HB.out); have hcd31 := fun m_ : Nat => Kd.C_string (P := Try.prog) (A := A0) (c := c0) Try.underlying23 Try.underlying5 Try.underlying9 (Kd.C_drewN (Kd.C_below HR0.out HB.out) m_)) | (go_at_call 30; (with_reducible refine (stemmalaw03_awake.calls k  t387 _ A17.out).mono ?_); rintro e w32 ⟨rfl, hb⟩; have n0_ := Aside0.mk (Kd.R_below (by (with_reducible repeat (first | apply Kd.R_alloc | apply Kd.R_drewN | apply Kd.R_drew)); exact HO364.out) hb); have n1_ := Aside0.mk (Kd.R_below (by (with_reducible repeat (first | apply Kd.R_alloc | apply Kd.R_drewN | apply Kd.R_drew)); exact HO369.out) hb); have n2_ := Aside0.mk (Kd.R_below (by (with_reducible repeat (first | apply Kd.R_alloc | apply Kd.R_drewN | apply Kd.R_drew)); exact HO374.out) hb); have n3_ := Aside0.mk (Kd.R_below (by (with_reducible repeat (first | apply Kd.R_alloc | apply Kd.R_drewN | apply Kd.R_drew)); exact HO379.out) hb); have n4_ := Aside0.mk (Kd.R_below (by (with_reducible repeat (first | apply Kd.R_alloc | apply Kd.R_drewN | apply Kd.R_drew)); exact HO384.out) hb); have n5_ := Aside0.mk (below_step (by repeat (first | (with_reducible first | exact HB.out | apply below_alloc | apply pw_below_drewN | apply below_drew1) | exact HB.out)) hb); clear HO364; clear HO369; clear HO374; clear HO379; clear HO384; clear HB; have HO364 := n0_; have HO369 := n1_; have HO374 := n2_; have HO379 := n3_; have HO384 := n4_; have HB := n5_; clear n0_ n1_ n2_ n3_ n4_ n5_; (try clear hb); (try clear hb2); (try clear hk); (try clear hi)))
                  go_ret
                  exact ⟨by first | rfl | (simp [errW_none, errW_some] <;> rfl) | (simp [*, errW_none, errW_some] <;> rfl), by repeat (first | (with_reducible first | exact HB.out | apply below_alloc | apply pw_below_drewN | apply below_drew1) | exact HB.out)⟩
                · rw [if_neg c16] at H
                  have c16b0 : ((strOfNums y362).toList == (strOfNums l0).toList) = false := beq_eq_false_iff_ne.mpr c16
                  have c16b1 : ((strOfNums y362).toList != (strOfNums l0).toList) = true := bne_iff_ne.mpr c16
                  exact absurd ((Option.some.inj H).trans hr_.out) (by decide)
              · rw [if_neg c15] at H
                have c15b0 : (t377 == t382) = false := beq_eq_false_iff_ne.mpr c15
                have c15b1 : (t377 != t382) = true := bne_iff_ne.mpr c15
                exact absurd ((Option.some.inj H).trans hr_.out) (by decide)
            · rw [if_neg c14] at H
              have c14b0 : (t376 == t381) = false := beq_eq_false_iff_ne.mpr c14
              have c14b1 : (t376 != t381) = true := bne_iff_ne.mpr c14
              exact absurd ((Option.some.inj H).trans hr_.out) (by decide)
          · replace c13 := Bool.eq_false_iff.mpr c13
            subst c13
            have H1 : (some false) = some r := by rw [if_neg (show ¬ (false = true) by decide)] at H; exact H
            clear H
            have H := H1
            clear H1
            exact absurd ((Option.some.inj H).trans hr_.out) (by decide)
        · rw [if_neg c11] at H
          have c11b0 : (t367 == t372) = false := beq_eq_false_iff_ne.mpr c11
          have c11b1 : (t367 != t372) = true := bne_iff_ne.mpr c11
          exact absurd ((Option.some.inj H).trans hr_.out) (by decide)
      · rw [if_neg c10] at H
        have c10b0 : (t366 == t371) = false := beq_eq_false_iff_ne.mpr c10
        have c10b1 : (t366 != t371) = true := bne_iff_ne.mpr c10
        exact absurd ((Option.some.inj H).trans hr_.out) (by decide)
    · replace c9 := Bool.eq_false_iff.mpr c9
      subst c9
      have H1 : (some false) = some r := by rw [if_neg (show ¬ (false = true) by decide)] at H; exact H
      clear H
      have H := H1
      clear H1
      exact absurd ((Option.some.inj H).trans hr_.out) (by decide)
  · rw [if_neg c3] at H
    exact absurd H (by simp)

/-- THE ONE PURE STATEMENT of stemmalaw03_ColumnGets: yours. -/
def stemmalaw03_ColumnGets.Pure : Prop := ∀ (l0 : List Int) (a1 : Int), l0.length ≤ maxLen → l0.length * 1 ≤ 140737488351232 → (∀ x ∈ l0, (Lit.int .u8 x).wf = true) → (Lit.int .i64 a1).wf = true → ∃ k, stemmalaw03_ColumnGets.f k l0 a1 = some true
theorem stemmalaw03_ColumnGets.walk (P : stemmalaw03_ColumnGets.Pure) (a0 : Option Addr) (len0 cap0 : Nat) (z0 : List Int) (a1 : Int) (w : World) (w0 : (a0 = none ∧ len0 = 0 ∧ cap0 = 0 ∧ z0 = []) ∨ ∃ x, a0 = some x ∧ len0 ≤ cap0 ∧ cap0 ≤ maxLen ∧ z0.length = cap0 ∧ (∀ i, i < z0.length → w.cell? (x.add i) = some (.int .u8 (z0.getD i 0))) ∧ ∀ n ∈ z0, (Lit.int .u8 n).wf = true) (y0 : len0 * 1 ≤ 140737488351232) (w1 : (Lit.int .i64 a1).wf = true) :
    Calls Try.prog 7 #[.slice a0 len0 cap0, .int .i64 a1] w fun e w' => e = .returned (.bool true) ∧ Below w.heap.size w w' := by
  obtain ⟨l0, rfl, hr0, hm0, hw0, hc0⟩ := ReadsInt.ofRowC w0
  obtain ⟨k, h⟩ := P l0 a1 hm0 y0 hw0 w1
  refine (stemmalaw03_ColumnGets.calls k _ _ l0 a1 true w (Kd.C_of_reads (d := (0 : Int)) (h1 := fun _ => rfl) hr0) hc0 ⟨rfl⟩ h).mono ?_
  rintro e w' ⟨rfl, hd⟩
  exact ⟨rfl, hd⟩

end Go.Proofs.Ytcffooeiennmjaa.PA
