/- Own texts of this claim, and the words they use, one behind the other (wip/tools/trim.py). -/
import Derived.Test.YtpnnjefhchppfaaCk25
import Derived.Test.YtpnnjefhchppfaaCk26
import Derived.Test.YtpnnjefhchppfaaCk29
import Derived.Test.YtpnnjefhchppfaaCk33
import Derived.Test.YtpnnjefhchppfaaCk34
import Derived.Test.YtpnnjefhchppfaaCk36
import Derived.Test.YtpnnjefhchppfaaCk45
import Derived.Test.YtpnnjefhchppfaaCk46
namespace Go.Proofs.Ytpnnjefhchppfaa.PA
open Go.RowKit Go.Proofs.YtpnnjefhchppfaaW.PrintWords Go.Proofs.YtpnnjefhchppfaaW.PrintLast Go.Proofs.YtpnnjefhchppfaaW.PrintMore
attribute [local go_sem] max2_int min2_int max_two min_two max_three min_three max_four min_four
set_option linter.unusedVariables false
set_option linter.unusedSimpArgs false

def stemmalaw07_OpChecks.f (k : Nat) (a0_0 : Int) (a0_1 : ByteArray) (a0_2 : Int) (a0_3 : Int) (a0_4 : ByteArray) : Option (Bool) := (op_Check.f k a0_0 a0_1 a0_2 a0_3 a0_4).bind fun t356 => ((stemmaref07_Check.f k a0_0 a0_1 a0_2 a0_3 a0_4).bind fun t357 => (if t356 = t357 then ((op_Size.f a0_0 a0_1 a0_2 a0_3 a0_4).bind fun t358 => ((stemmaref07_Size.f a0_0 a0_1 a0_2 a0_3 a0_4).bind fun t359 => (if t358 = t359 then ((stemmalaw07_awake.f).bind fun t360 => (some t360)) else (some false)))) else (some false)))
theorem stemmalaw07_OpChecks.mono : ∀ a0 a1 a2 a3 a4 k, LeO (stemmalaw07_OpChecks.f k a0 a1 a2 a3 a4) (stemmalaw07_OpChecks.f (k + 1) a0 a1 a2 a3 a4) := by
  intro a0 a1 a2 a3 a4 k
  unfold stemmalaw07_OpChecks.f
  repeat' first
      | (with_reducible exact op_Check.mono _ _ _ _ _ _)
      | (with_reducible exact stemmaref07_Check.mono _ _ _ _ _ _)
      | (with_reducible exact LeO.refl _)
      | (with_reducible exact LeO.none _)
      | (with_reducible refine LeO.ite ?_ ?_)
      | (with_reducible refine LeO.bind ?_ (fun _ => ?_))
      | exact op_Check.mono _ _ _ _ _ _
      | exact stemmaref07_Check.mono _ _ _ _ _ _
      | exact LeO.none _
      | refine LeO.ite ?_ ?_
      | refine LeO.bind ?_ (fun _ => ?_)
def stemmalaw07_OpChecks.T1 : Bool × List (List Nat × List Nat) := (true, [([], []), ([0], [0]), ([], []), ([2, 1], [2]), ([1, 3], [1, 3]), ([4, 3], [4]), ([5], [5]), ([6, 5, 5], [5, 6]), ([5], [5]), ([8, 7, 5], [5, 8]), ([7, 9, 5], [5, 7, 9]), ([5, 10], [5, 10]), ([11, 9], [11]), ([12, 12], [12]), ([12, 13], [12, 13]), ([14, 13, 0, 1, 2, 3, 4, 5, 6, 7, 8, 9, 10, 11, 12, 13, 14], [14])])
def stemmalaw07_OpChecks.B1 : List Nat := [0, 1, 0, 7, 15, 31, 63, 127, 63, 511, 1023, 2047, 4095, 8191, 16383, 32767]
theorem stemmalaw07_OpChecks.tab1 : rtab .any (opsOf Try.f4 1) = stemmalaw07_OpChecks.T1 := by kernel_rfl
theorem stemmalaw07_OpChecks.bits1 : waitsOk stemmalaw07_OpChecks.T1.2 stemmalaw07_OpChecks.B1 = true := by kernel_rfl
set_option maxHeartbeats 8000000 in
set_option maxRecDepth 100000 in
theorem stemmalaw07_OpChecks.calls (k : Nat) (a0_0 : Int) (a0_1 : ByteArray) (a0_2 : Int) (a0_3 : Int) (a0_4 : ByteArray) (r : Bool) (w : World) (hr_ : Aside0 (r = true)) (h : stemmalaw07_OpChecks.f k a0_0 a0_1 a0_2 a0_3 a0_4 = some r) :
    Calls Try.prog 4 #[.agg #[.int .i64 a0_0, .string a0_1, .int .i64 a0_2, .int .i64 a0_3, .string a0_4]] w fun e w' => e = .returned (.bool r) ∧ Below w.heap.size w w' := by
  have hu33 := Try.underlying33
  have HB := Aside0.mk (Below.refl w.heap.size w)
  have H : ((op_Check.f k a0_0 a0_1 a0_2 a0_3 a0_4).bind fun t356 => ((stemmaref07_Check.f k a0_0 a0_1 a0_2 a0_3 a0_4).bind fun t357 => (if t356 = t357 then ((op_Size.f a0_0 a0_1 a0_2 a0_3 a0_4).bind fun t358 => ((stemmaref07_Size.f a0_0 a0_1 a0_2 a0_3 a0_4).bind fun t359 => (if t358 = t359 then ((stemmalaw07_awake.f).bind fun t360 => (some t360)) else (some false)))) else (some false)))) = some r := h
  clear h
  replace H := Option.bind_eq_some_iff.mp H
  obtain ⟨t356, A20, H⟩ := H
  replace H : ((stemmaref07_Check.f k a0_0 a0_1 a0_2 a0_3 a0_4).bind fun t357 => (if t356 = t357 then ((op_Size.f a0_0 a0_1 a0_2 a0_3 a0_4).bind fun t358 => ((stemmaref07_Size.f a0_0 a0_1 a0_2 a0_3 a0_4).bind fun t359 => (if t358 = t359 then ((stemmalaw07_awake.f).bind fun t360 => (some t360)) else (some false)))) else (some false))) = some r := H
  have A2 := Aside0.mk A20
  clear A20
  replace H := Option.bind_eq_some_iff.mp H
  obtain ⟨t357, A30, H⟩ := H
  replace H : (if t356 = t357 then ((op_Size.f a0_0 a0_1 a0_2 a0_3 a0_4).bind fun t358 => ((stemmaref07_Size.f a0_0 a0_1 a0_2 a0_3 a0_4).bind fun t359 => (if t358 = t359 then ((stemmalaw07_awake.f).bind fun t360 => (some t360)) else (some false)))) else (some false)) = some r := H
  have A3 := Aside0.mk A30
  clear A30
  by_cases c4 : t356 = t357
  · rw [if_pos c4] at H
    have c4b0 : (t356 == t357) = true := beq_iff_eq.mpr c4
    have c4b1 : (t356 != t357) = false := bne_eq_false_iff_eq.mpr c4
    clear c4
    replace H := Option.bind_eq_some_iff.mp H
    obtain ⟨t358, A50, H⟩ := H
    replace H : ((stemmaref07_Size.f a0_0 a0_1 a0_2 a0_3 a0_4).bind fun t359 => (if t358 = t359 then ((stemmalaw07_awake.f).bind fun t360 => (some t360)) else (some false))) = some r := H
    have A5 := Aside0.mk A50
    clear A50
    replace H := Option.bind_eq_some_iff.mp H
    obtain ⟨t359, A60, H⟩ := H
    replace H : (if t358 = t359 then ((stemmalaw07_awake.f).bind fun t360 => (some t360)) else (some false)) = some r := H
    have A6 := Aside0.mk A60
    clear A60
    by_cases c7 : t358 = t359
    · rw [if_pos c7] at H
      have c7b0 : (t358 == t359) = true := beq_iff_eq.mpr c7
      have c7b1 : (t358 != t359) = false := bne_eq_false_iff_eq.mpr c7
      clear c7
      replace H := Option.bind_eq_some_iff.mp H
      obtain ⟨t360, A80, H⟩ := H
      replace H : (some t360) = some r := H
      have A8 := Aside0.mk A80
      clear A80
      obtain rfl := Option.some.inj H
      go_enter Try.func4, Try.ntmps4
      try go_wp2_with (first | ((with_reducible refine gate_dst (N := 1) rfl ?_); refine box_event ?hg (N := 1) ?hd (cs := #[.int .i64 a0_0, .string a0_1, .int .i64 a0_2, .int .i64 a0_3, .string a0_4]) (t := 33) ?hr ?_; (case hd => rfl); (case hg => rfl); (case hr => first | (go_simp; done) | (go_simp; rfl)); intro gb355 hg w9 hbox hb; have n0_ := Aside0.mk (below_step (by repeat (first | (with_reducible first | exact HB.out | apply below_alloc | apply pw_below_drewN | apply below_drew1) | exact HB.out)) hb); have n1_ := Aside0.mk (hbox); have n2_ := Aside0.mk ((by rw [hg]; exact (below_size (by repeat (first | (with_reducible first | exact HB.out | apply below_alloc | apply pw_below_drewN | apply below_drew1) | exact HB.out))) : w.heap.size ≤ gb355)); have n3_ := Aside0.mk ((by rw [hg]; exact (below_size (by repeat (first | (with_reducible first | exact HB.out | apply below_alloc | apply pw_below_drewN | apply below_drew1) | exact HB.out))) : w.heap.size ≤ gb355)); clear HB; have HB := n0_; have BK355 := n1_; have GW355 := n2_; have GE355 := n3_; clear n0_ n1_ n2_ n3_; clear hb hbox hg))
      have n0_ := Aside0.mk (blk_drew BK355.out)
      have n1_ := Aside0.mk (below_drew1 HB.out)
      clear BK355
      clear HB
      have BK355 := n0_
      have HB := n1_
      clear n0_ n1_
      refine start_ (n := 16) (S := fun w' => w'.cell? ⟨gb355, 0, none⟩ = some (.int .i64 a0_0) ∧ w'.cell? ⟨gb355, 1, none⟩ = some (.string a0_1) ∧ w'.cell? ⟨gb355, 2, none⟩ = some (.int .i64 a0_2) ∧ w'.cell? ⟨gb355, 3, none⟩ = some (.int .i64 a0_3) ∧ w'.cell? ⟨gb355, 4, none⟩ = some (.string a0_4)) (ds := []) #[false, false, false, false, false, false, false, false, false, false, false, false, false, false, false, false] (by kernel_rfl) rfl rfl ⟨(blk_cell BK355.out 0).trans rfl, (blk_cell BK355.out 1).trans rfl, (blk_cell BK355.out 2).trans rfl, (blk_cell BK355.out 3).trans rfl, (blk_cell BK355.out 4).trans rfl⟩ (fun hHeld => ?_); refine with_tabW stemmalaw07_OpChecks.tab1 stemmalaw07_OpChecks.bits1 (fun HT_ HW_ => ?_)
      generalize w9.drew = w10 at BK355 HB hHeld ⊢
      refine take_ (i := 0) (N := some 3) (v := ?_) (a' := ?_) #[true, false, false, false, false, false, false, false, false, false, false, false, false, false, false, false] rfl rfl (take_ofW HT_.out HW_.out (by kernel_rfl)) (fun _ _ _ h => h) (Or.inl ⟨by rfl, ?_⟩) hHeld ?_ ?_
      rotate_left
      · rintro w' ⟨s0, s1, s2, s3, s4⟩
        go_simp
        with_reducible rfl
      rotate_left
      · simp only [Act.put, List.setIfInBounds_toArray, List.set_cons_zero, List.set_cons_succ, i64_w, i32_w]
        rfl
      refine take_ (i := 2) (N := some 5) (v := ?_) (a' := ?_) #[true, false, true, false, false, false, false, false, false, false, false, false, false, false, false, false] rfl rfl (take_ofW HT_.out HW_.out (by kernel_rfl)) (fun _ _ _ h => h) (Or.inl ⟨by rfl, ?_⟩) hHeld ?_ ?_
      rotate_left
      · rintro w' ⟨s0, s1, s2, s3, s4⟩
        go_simp
        with_reducible rfl
      rotate_left
      · simp only [Act.put, List.setIfInBounds_toArray, List.set_cons_zero, List.set_cons_succ, i64_w, i32_w]
        rfl
      refine one_ (i := 1) (N := some 4) #[true, true, true, false, false, false, false, false, false, false, false, false, false, false, false, false] rfl rfl (one_of HT_.out (by kernel_rfl)) (by decide) (fun K hK => ?_)
      refine goes_ Try.func13 (by kernel_rfl) rfl #[.agg #[.int .i64 a0_0, .string a0_1, .int .i64 a0_2, .int .i64 a0_3, .string a0_4]] (by rfl) rfl rfl (by (try simp only [List.map_toArray, List.map_cons, List.map_nil]); first | done | rfl | (simp only [List.length_drop, List.length_take]; rfl)) ?_
      with_reducible refine (op_Check.calls k a0_0 a0_1 a0_2 a0_3 a0_4 t356 _ A2.out).mono ?_
      rintro e w11 ⟨rfl, hb⟩
      refine ⟨_, rfl, ?_⟩
      have n0_ := Aside0.mk (blk_below (g := gb355) (o := .cells #[.int .i64 a0_0, .string a0_1, .int .i64 a0_2, .int .i64 a0_3, .string a0_4] 33 (0, 0)) (by (with_reducible repeat (first | refine blk_drewN ?_ _ | refine blk_drew ?_ | refine blk_alloc ?_ _)); exact BK355.out) hb)
      have n1_ := Aside0.mk (below_step (by repeat (first | (with_reducible first | exact HB.out | apply below_alloc | apply pw_below_drewN | apply below_drew1 | refine below_set ?_ GE355.out) | exact HB.out)) hb)
      clear BK355
      clear HB
      have BK355 := n0_
      have HB := n1_
      clear n0_ n1_
      (try clear hb)
      (try clear hb2)
      (try clear hk)
      (try clear hi)
      refine hK.out _ _ ⟨(blk_cell BK355.out 0).trans rfl, (blk_cell BK355.out 1).trans rfl, (blk_cell BK355.out 2).trans rfl, (blk_cell BK355.out 3).trans rfl, (blk_cell BK355.out 4).trans rfl⟩ (fun hHeld => ?_)
      clear hK K
      refine norm_ (a' := ?_) ?_ ?_
      rotate_left
      · show Act.put _ (some 4) _ = _
        simp only [Act.put, List.setIfInBounds_toArray, List.set_cons_zero, List.set_cons_succ, i64_w, i32_w]
        rfl
      refine one_ (i := 3) (N := some 6) #[true, true, true, true, false, false, false, false, false, false, false, false, false, false, false, false] rfl rfl (one_of HT_.out (by kernel_rfl)) (by decide) (fun K hK => ?_)
      refine goes_ Try.func14 (by kernel_rfl) rfl #[.agg #[.int .i64 a0_0, .string a0_1, .int .i64 a0_2, .int .i64 a0_3, .string a0_4]] (by rfl) rfl rfl (by (try simp only [List.map_toArray, List.map_cons, List.map_nil]); first | done | rfl | (simp only [List.length_drop, List.length_take]; rfl)) ?_
      with_reducible refine (stemmaref07_Check.calls k a0_0 a0_1 a0_2 a0_3 a0_4 t357 _ A3.out).mono ?_
      rintro e w12 ⟨rfl, hb⟩
      refine ⟨_, rfl, ?_⟩
      have n0_ := Aside0.mk (blk_below (g := gb355) (o := .cells #[.int .i64 a0_0, .string a0_1, .int .i64 a0_2, .int .i64 a0_3, .string a0_4] 33 (0, 0)) (by (with_reducible repeat (first | refine blk_drewN ?_ _ | refine blk_drew ?_ | refine blk_alloc ?_ _)); exact BK355.out) hb)
      have n1_ := Aside0.mk (below_step (by repeat (first | (with_reducible first | exact HB.out | apply below_alloc | apply pw_below_drewN | apply below_drew1 | refine below_set ?_ GE355.out) | exact HB.out)) hb)
      clear BK355
      clear HB
      have BK355 := n0_
      have HB := n1_
      clear n0_ n1_
      (try clear hb)
      (try clear hb2)
      (try clear hk)
      (try clear hi)
      refine hK.out _ _ ⟨(blk_cell BK355.out 0).trans rfl, (blk_cell BK355.out 1).trans rfl, (blk_cell BK355.out 2).trans rfl, (blk_cell BK355.out 3).trans rfl, (blk_cell BK355.out 4).trans rfl⟩ (fun hHeld => ?_)
      clear hK K
      refine norm_ (a' := ?_) ?_ ?_
      rotate_left
      · show Act.put _ (some 6) _ = _
        simp only [Act.put, List.setIfInBounds_toArray, List.set_cons_zero, List.set_cons_succ, i64_w, i32_w]
        rfl
      refine pure_ (i := 4) (N := some 7) (v := ?_) (a' := ?_) #[true, true, true, true, true, false, false, false, false, false, false, false, false, false, false, false] rfl rfl (any_of HT_.out (by kernel_rfl)) (fun _ _ _ h => h) (Or.inl ⟨by rfl, ?_⟩) ?_ ?_
      rotate_left
      · intro w'
        go_simp
        with_reducible rfl
      rotate_left
      · simp only [Act.put, List.setIfInBounds_toArray, List.set_cons_zero, List.set_cons_succ, i64_w, i32_w]
        rfl
      refine pure_ (i := 5) (N := some 8) (v := ?_) (a' := ?_) #[true, true, true, true, true, true, false, false, false, false, false, false, false, false, false, false] rfl rfl (any_of HT_.out (by kernel_rfl)) (fun _ _ _ h => h) (Or.inl ⟨by rfl, ?_⟩) ?_ ?_
      rotate_left
      · intro w'
        go_simp
        with_reducible rfl
      rotate_left
      · simp only [Act.put, List.setIfInBounds_toArray, List.set_cons_zero, List.set_cons_succ, i64_w, i32_w]
        rfl
      refine take_ (i := 6) (N := some 9) (v := ?_) (a' := ?_) #[true, true, true, true, true, true, true, false, false, false, false, false, false, false, false, false] rfl rfl (take_ofW HT_.out HW_.out (by kernel_rfl)) (fun _ _ _ h => h) (Or.inl ⟨by rfl, ?_⟩) hHeld ?_ ?_
      rotate_left
      · rintro w' ⟨s0, s1, s2, s3, s4⟩
        go_simp
        with_reducible rfl
      rotate_left
      · simp only [Act.put, List.setIfInBounds_toArray, List.set_cons_zero, List.set_cons_succ, i64_w, i32_w]
        rfl
      refine take_ (i := 8) (N := some 11) (v := ?_) (a' := ?_) #[true, true, true, true, true, true, true, false, true, false, false, false, false, false, false, false] rfl rfl (take_ofW HT_.out HW_.out (by kernel_rfl)) (fun _ _ _ h => h) (Or.inl ⟨by rfl, ?_⟩) hHeld ?_ ?_
      rotate_left
      · rintro w' ⟨s0, s1, s2, s3, s4⟩
        go_simp
        with_reducible rfl
      rotate_left
      · simp only [Act.put, List.setIfInBounds_toArray, List.set_cons_zero, List.set_cons_succ, i64_w, i32_w]
        rfl
      refine one_ (i := 7) (N := some 10) #[true, true, true, true, true, true, true, true, true, false, false, false, false, false, false, false] rfl rfl (one_of HT_.out (by kernel_rfl)) (by decide) (fun K hK => ?_)
      refine goes_ Try.func15 (by kernel_rfl) rfl #[.agg #[.int .i64 a0_0, .string a0_1, .int .i64 a0_2, .int .i64 a0_3, .string a0_4]] (by rfl) rfl rfl (by (try simp only [List.map_toArray, List.map_cons, List.map_nil]); first | done | rfl | (simp only [List.length_drop, List.length_take]; rfl)) ?_
      with_reducible refine (op_Size.calls a0_0 a0_1 a0_2 a0_3 a0_4 t358 _ A5.out).mono ?_
      rintro e w13 ⟨rfl, hb⟩
      refine ⟨_, rfl, ?_⟩
      have n0_ := Aside0.mk (blk_below (g := gb355) (o := .cells #[.int .i64 a0_0, .string a0_1, .int .i64 a0_2, .int .i64 a0_3, .string a0_4] 33 (0, 0)) (by (with_reducible repeat (first | refine blk_drewN ?_ _ | refine blk_drew ?_ | refine blk_alloc ?_ _)); exact BK355.out) hb)
      have n1_ := Aside0.mk (below_step (by repeat (first | (with_reducible first | exact HB.out | apply below_alloc | apply pw_below_drewN | apply below_drew1 | refine below_set ?_ GE355.out) | exact HB.out)) hb)
      clear BK355
      clear HB
      have BK355 := n0_
      have HB := n1_
      clear n0_ n1_
      (try clear hb)
      (try clear hb2)
      (try clear hk)
      (try clear hi)
      refine hK.out _ _ ⟨(blk_cell BK355.out 0).trans rfl, (blk_cell BK355.out 1).trans rfl, (blk_cell BK355.out 2).trans rfl, (blk_cell BK355.out 3).trans rfl, (blk_cell BK355.out 4).trans rfl⟩ (fun hHeld => ?_)
      clear hK K
      refine norm_ (a' := ?_) ?_ ?_
      rotate_left
      · show Act.put _ (some 10) _ = _
        simp only [Act.put, List.setIfInBounds_toArray, List.set_cons_zero, List.set_cons_succ, i64_w, i32_w]
        rfl
      refine one_ (i := 9) (N := some 12) #[true, true, true, true, true, true, true, true, true, true, false, false, false, false, false, false] rfl rfl (one_of HT_.out (by kernel_rfl)) (by decide) (fun K hK => ?_)
      refine goes_ Try.func16 (by kernel_rfl) rfl #[.agg #[.int .i64 a0_0, .string a0_1, .int .i64 a0_2, .int .i64 a0_3, .string a0_4]] (by rfl) rfl rfl (by (try simp only [List.map_toArray, List.map_cons, List.map_nil]); first | done | rfl | (simp only [List.length_drop, List.length_take]; rfl)) ?_
      with_reducible refine (stemmaref07_Size.calls a0_0 a0_1 a0_2 a0_3 a0_4 t359 _ A6.out).mono ?_
      rintro e w14 ⟨rfl, hb⟩
      refine ⟨_, rfl, ?_⟩
      have n0_ := Aside0.mk (blk_below (g := gb355) (o := .cells #[.int .i64 a0_0, .string a0_1, .int .i64 a0_2, .int .i64 a0_3, .string a0_4] 33 (0, 0)) (by (with_reducible repeat (first | refine blk_drewN ?_ _ | refine blk_drew ?_ | refine blk_alloc ?_ _)); exact BK355.out) hb)
      have n1_ := Aside0.mk (below_step (by repeat (first | (with_reducible first | exact HB.out | apply below_alloc | apply pw_below_drewN | apply below_drew1 | refine below_set ?_ GE355.out) | exact HB.out)) hb)
      clear BK355
      clear HB
      have BK355 := n0_
      have HB := n1_
      clear n0_ n1_
      (try clear hb)
      (try clear hb2)
      (try clear hk)
      (try clear hi)
      refine hK.out _ _ ⟨(blk_cell BK355.out 0).trans rfl, (blk_cell BK355.out 1).trans rfl, (blk_cell BK355.out 2).trans rfl, (blk_cell BK355.out 3).trans rfl, (blk_cell BK355.out 4).trans rfl⟩ (fun hHeld => ?_)
      clear hK K
      refine norm_ (a' := ?_) ?_ ?_
      rotate_left
      · show Act.put _ (some 12) _ = _
        simp only [Act.put, List.setIfInBounds_toArray, List.set_cons_zero, List.set_cons_succ, i64_w, i32_w]
        rfl
      refine pure_ (i := 10) (N := some 13) (v := ?_) (a' := ?_) #[true, true, true, true, true, true, true, true, true, true, true, false, false, false, false, false] rfl rfl (any_of HT_.out (by kernel_rfl)) (fun _ _ _ h => h) (Or.inl ⟨by rfl, ?_⟩) ?_ ?_
      rotate_left
      · intro w'
        go_simp
        with_reducible rfl
      rotate_left
      · simp only [Act.put, List.setIfInBounds_toArray, List.set_cons_zero, List.set_cons_succ, i64_w, i32_w]
        rfl
      refine pure_ (i := 11) (N := some 14) (v := ?_) (a' := ?_) #[true, true, true, true, true, true, true, true, true, true, true, true, false, false, false, false] rfl rfl (any_of HT_.out (by kernel_rfl)) (fun _ _ _ h => h) (Or.inl ⟨by rfl, ?_⟩) ?_ ?_
      rotate_left
      · intro w'
        go_simp
        with_reducible rfl
      rotate_left
      · simp only [Act.put, List.setIfInBounds_toArray, List.set_cons_zero, List.set_cons_succ, i64_w, i32_w]
        rfl
      refine pure_ (i := 12) (N := some 15) (v := ?_) (a' := ?_) #[true, true, true, true, true, true, true, true, true, true, true, true, true, false, false, false] rfl rfl (any_of HT_.out (by kernel_rfl)) (fun _ _ _ h => h) (Or.inl ⟨by rfl, ?_⟩) ?_ ?_
      rotate_left
      · intro w'
        go_simp
        with_reducible rfl
      rotate_left
      · simp only [Act.put, List.setIfInBounds_toArray, List.set_cons_zero, List.set_cons_succ, i64_w, i32_w]
        rfl
      refine one_ (i := 13) (N := some 16) #[true, true, true, true, true, true, true, true, true, true, true, true, true, true, false, false] rfl rfl (one_of HT_.out (by kernel_rfl)) (by decide) (fun K hK => ?_)
      refine goes_ Try.func12 (by kernel_rfl) rfl #[] (by rfl) rfl rfl (by (try simp only [List.map_toArray, List.map_cons, List.map_nil]); first | done | rfl | (simp only [List.length_drop, List.length_take]; rfl)) ?_
      with_reducible refine (stemmalaw07_awake.calls  t360 _ A8.out).mono ?_
      rintro e w15 ⟨rfl, hb⟩
      refine ⟨_, rfl, ?_⟩
      have n0_ := Aside0.mk (blk_below (g := gb355) (o := .cells #[.int .i64 a0_0, .string a0_1, .int .i64 a0_2, .int .i64 a0_3, .string a0_4] 33 (0, 0)) (by (with_reducible repeat (first | refine blk_drewN ?_ _ | refine blk_drew ?_ | refine blk_alloc ?_ _)); exact BK355.out) hb)
      have n1_ := Aside0.mk (below_step (by repeat (first | (with_reducible first | exact HB.out | apply below_alloc | apply pw_below_drewN | apply below_drew1 | refine below_set ?_ GE355.out) | exact HB.out)) hb)
      clear BK355
      clear HB
      have BK355 := n0_
      have HB := n1_
      clear n0_ n1_
      (try clear hb)
      (try clear hb2)
      (try clear hk)
      (try clear hi)
      refine hK.out _ _ ⟨(blk_cell BK355.out 0).trans rfl, (blk_cell BK355.out 1).trans rfl, (blk_cell BK355.out 2).trans rfl, (blk_cell BK355.out 3).trans rfl, (blk_cell BK355.out 4).trans rfl⟩ (fun hHeld => ?_)
      clear hK K
      refine norm_ (a' := ?_) ?_ ?_
      rotate_left
      · show Act.put _ (some 16) _ = _
        simp only [Act.put, List.setIfInBounds_toArray, List.set_cons_zero, List.set_cons_succ, i64_w, i32_w]
        rfl
      refine pure_ (i := 14) (N := some 17) (v := ?_) (a' := ?_) #[true, true, true, true, true, true, true, true, true, true, true, true, true, true, true, false] rfl rfl (any_of HT_.out (by kernel_rfl)) (fun _ _ _ h => h) (Or.inl ⟨by rfl, ?_⟩) ?_ ?_
      rotate_left
      · intro w'
        go_simp
        with_reducible rfl
      rotate_left
      · simp only [Act.put, List.setIfInBounds_toArray, List.set_cons_zero, List.set_cons_succ, i64_w, i32_w]
        rfl
      refine pure_ (i := 15) (N := some 2) (v := ?_) (a' := ?_) #[true, true, true, true, true, true, true, true, true, true, true, true, true, true, true, true] rfl rfl (any_of HT_.out (by kernel_rfl)) (fun _ _ _ h => h) (Or.inl ⟨by rfl, ?_⟩) ?_ ?_
      rotate_left
      · intro w'
        go_simp
        with_reducible rfl
      rotate_left
      · simp only [Act.put, List.setIfInBounds_toArray, List.set_cons_zero, List.set_cons_succ, i64_w, i32_w]
        rfl
      refine done_ (done_of HT_.out (by kernel_rfl)) ?_
      try go_wp2
      go_ret
      exact ⟨by first | rfl | (simp [errW_none, errW_some] <;> rfl) | (simp [*, errW_none, errW_some] <;> rfl), by repeat (first | (with_reducible first | exact HB.out | apply below_alloc | apply pw_below_drewN | apply below_drew1 | refine below_set ?_ GE355.out) | exact HB.out)⟩
    · rw [if_neg c7] at H
      have c7b0 : (t358 == t359) = false := beq_eq_false_iff_ne.mpr c7
      have c7b1 : (t358 != t359) = true := bne_iff_ne.mpr c7
      exact absurd ((Option.some.inj H).trans hr_.out) (by decide)
  · rw [if_neg c4] at H
    have c4b0 : (t356 == t357) = false := beq_eq_false_iff_ne.mpr c4
    have c4b1 : (t356 != t357) = true := bne_iff_ne.mpr c4
    exact absurd ((Option.some.inj H).trans hr_.out) (by decide)

end Go.Proofs.Ytpnnjefhchppfaa.PA

set_option linter.unusedVariables false
set_option linter.unusedSimpArgs false
namespace Go.Proofs.Ytpnnjefhchppfaa.Op
open Go Go.RowKit Go.Proofs.YtpnnjefhchppfaaW.PrintWords Go.Proofs.YtpnnjefhchppfaaW.PrintLast Go.Proofs.YtpnnjefhchppfaaW.PrintMore Go.Proofs.Ytpnnjefhchppfaa.PA
theorem str_back (s : ByteArray) : strOfNums (bytesOf s) = s := by
  have h : (strOfNums (bytesOf s)).data.toList = s.data.toList := by
    rw [strOfNums_data]
    unfold bytesOf
    rw [List.map_map]
    conv => rhs; rw [← List.map_id s.data.toList]
    refine List.map_congr_left (fun x _ => ?_)
    simp
  cases s with
  | mk d =>
    cases hs : strOfNums (bytesOf ⟨d⟩) with
    | mk e =>
      rw [hs] at h
      have : e = d := Array.toList_inj.1 h
      rw [this]
theorem gT_put (s : ByteArray) (most : Nat) (hs : s.size ≤ most) (hm : most ≤ 4096) (r : List Int) : gT most (textP s ++ r) = (s, ((textP s).length : Int), 0) := by
  have hbl : (bytesOf s).length = s.size := bytesOf_length s
  have hpl : (LebT.putU s.size).length ≤ 10 := LebT.putU_len64 (by omega)
  unfold gT textP
  rw [List.append_assoc, ColT.gU0 s.size (by omega)]
  simp only [if_true]
  rw [if_neg (by omega), if_neg (by simp only [List.length_append]; omega)]
  have e : ((((LebT.putU s.size).length : Nat) : Int) + (s.size : Int)).toNat = (LebT.putU s.size).length + s.size := by omega
  rw [e, Int.toNat_natCast, List.take_append, List.take_of_length_le (by omega), Nat.add_sub_cancel_left, List.take_left' hbl, List.drop_left' rfl, str_back, List.length_append, hbl]
  push_cast
  rfl
theorem textS_put (s : ByteArray) (most : Nat) (hs : s.size ≤ most) (hm : most ≤ 4096) (r : List Int) : textS most (textP s ++ r, false) = (s, r, false) := by
  unfold textS
  rw [gT_put s most hs hm r, if_pos ⟨rfl, rfl⟩]
  simp only [Int.toNat_natCast, List.drop_left]
theorem nmS_put : ∀ (ns acc : List ByteArray) (r : List Int), (∀ s ∈ ns, s.size ≤ 32) → nmS ns.length acc (ns.flatMap textP ++ r, false) = (acc ++ ns, r, false)
  | [], acc, r, _ => by simp [nmS]
  | s :: ns, acc, r, h => by
    have e := textS_put s 32 (h s (by simp)) (by omega) (ns.flatMap textP ++ r)
    rw [List.length_cons, nmS_next _ _ _ rfl, List.flatMap_cons, List.append_assoc]
    rw [show textS 32 (textP s ++ (ns.flatMap textP ++ r), false) = (s, ns.flatMap textP ++ r, false) from e]
    show nmS ns.length (acc ++ [s]) (ns.flatMap textP ++ r, false) = _
    rw [nmS_put ns _ r (fun x hx => h x (by simp [hx])), List.append_assoc, List.singleton_append]
theorem namesS_put (ns : List ByteArray) (hn : ns.length ≤ 256) (h : ∀ s ∈ ns, s.size ≤ 32) (r : List Int) : namesS (LebT.putU ns.length ++ (ns.flatMap textP ++ r), false) = (ns, r, false) := by
  have e := ColT.gU0 ns.length (by omega) (ns.flatMap textP ++ r)
  unfold namesS
  rw [e, if_pos ⟨rfl, rfl, by show (ns.length : Int) ≤ 256; omega⟩]
  show nmS ((ns.length : Int)).toNat [] (List.drop (((LebT.putU ns.length).length : Int)).toNat (LebT.putU ns.length ++ (ns.flatMap textP ++ r)), false) = _
  rw [Int.toNat_natCast, Int.toNat_natCast, List.drop_left, nmS_put ns [] r h, List.nil_append]
theorem colS_run_put (d : List Int) (hw : ∀ x ∈ d, in64 x) (hl : d.length ≤ 256) (r : List Int) : colS runG (ColS.runs d ++ r, false) = (d, r, false) := by
  have e := ColT.getRuns_put d hw 256 (by omega) (by omega) r
  unfold colS runG
  rw [e, if_pos ⟨rfl, rfl⟩]
  simp only [Int.toNat_natCast, List.drop_left]
theorem colS_del_put (d : List Int) (hw : ∀ x ∈ d, in64 x) (hl : d.length ≤ 256) (r : List Int) : colS delG (ColS.runs (ColT.dif0 d) ++ r, false) = (d, r, false) := by
  have e := ColT.getRuns_put (ColT.dif0 d) (ColT.dif0_rng d hw) 256 (by rw [ColT.dif0_length]; omega) (by rw [ColT.dif0_length]; omega) r
  unfold colS delG
  rw [e, if_pos ⟨rfl, rfl⟩]
  simp only [Int.toNat_natCast, List.drop_left]
  rw [ColT.sums0_dif0 d hw]
theorem cols_put (l : List Sop) (hl : l.length ≤ 256) (hc : ∀ o ∈ l, chkF o = true) (r : List Int) : colsS (layF l ++ r) = ⟨l.map (·.f0), nsF l, l.map (fun o => (idx (nsF l) o.f1 : Int)), l.map (·.f2), l.map (·.f3), (l.flatMap txF ++ r, false)⟩ := by
  obtain ⟨g1, g2, g3⟩ := nsF_ok _ l rfl hc
  have hn := nsF_len _ l rfl
  unfold layF
  simp only [List.append_assoc]
  unfold colsS
  simp only []
  rw [colS_run_put _ (kinds_ok hc) (by simp; omega)]
  simp only []
  rw [namesS_put (nsF l) (by omega) (fun s hs => by have := g1 s hs; unfold shortN at this; omega)]
  simp only []
  rw [colS_run_put _ (which_ok l (nsF l) (by omega)) (by simp; omega)]
  simp only []
  rw [colS_del_put _ (pos_ok hc) (by simp; omega)]
  simp only []
  rw [colS_run_put _ (by_ok hc) (by simp; omega)]
theorem getD_map {β : Type} (l : List Sop) (f : Sop → β) (d : β) {j : Nat} (h : j < l.length) : (l.map f).getD j d = f l[j] := by
  rw [List.getD_eq_getElem?_getD, List.getElem?_map, List.getElem?_eq_getElem h]
  rfl
theorem chk_none {o : Sop} (h : chkF o = true) (hk : ¬ (o.f0 = 1 ∨ o.f0 = 4)) : o.f4 = e0 := by
  unfold chkF at h
  simp only [Bool.and_eq_true, decide_eq_true_eq] at h
  have : o.f4.size = 0 := by omega
  refine toList_inj ?_
  rw [(nil_size o.f4).2 this, (nil_size e0).2 rfl]
theorem rows_put (l : List Sop) (hl : l.length ≤ 256) (hc : ∀ o ∈ l, chkF o = true) (r : List Int) : ∀ j, j ≤ l.length →
    rowsS (nsF l) (l.map (·.f0)) (l.map (fun o => (idx (nsF l) o.f1 : Int))) (l.map (·.f2)) (l.map (·.f3)) (l.flatMap txF ++ r, false) j = some (l.take j, ((l.drop j).flatMap txF ++ r, false))
  | 0, _ => by simp [rowsS]
  | j + 1, hj => by
    have hlt : j < l.length := hj
    obtain ⟨g1, g2, g3⟩ := nsF_ok _ l rfl hc
    have hm : l[j] ∈ l := List.getElem_mem hlt
    have hin := g3 _ hm
    have hix := idx_lt _ _ hin
    have hget := idx_mem _ _ hin
    rw [rowsS, rows_put l hl hc r j (by omega)]
    simp only [getD_map l _ _ hlt]
    rw [rowS, if_neg (by omega), Int.toNat_natCast]
    have hnm : (nsF l).getD (idx (nsF l) l[j].f1) e0 = l[j].f1 := by rw [List.getD_eq_getElem?_getD, hget]; rfl
    rw [hnm, List.drop_eq_getElem_cons hlt, List.flatMap_cons, List.append_assoc]
    have htk : l.take (j + 1) = l.take j ++ [l[j]] := by rw [List.take_add_one, List.getElem?_eq_getElem hlt, Option.toList_some]
    have hcx := hc _ hm
    by_cases hk : l[j].f0 = 1 ∨ l[j].f0 = 4
    · rw [if_pos hk, show txF l[j] = textP l[j].f4 from if_pos hk]
      have e := textS_put l[j].f4 1024 (chk_text hcx) (by omega) ((l.drop (j + 1)).flatMap txF ++ r)
      rw [show textS 1024 (textP l[j].f4 ++ ((l.drop (j + 1)).flatMap txF ++ r), false) = (l[j].f4, (l.drop (j + 1)).flatMap txF ++ r, false) from e, htk]
    · rw [if_neg hk, show txF l[j] = [] from if_neg hk, List.nil_append, htk]
      have e4 := chk_none hcx hk
      rw [← e4]
theorem get_put (l : List Sop) (hl : l.length ≤ 256) (hc : ∀ o ∈ l, chkF o = true) (r : List Int) : getS (putB l ++ r) = if r = [] then (l, 0) else ([], 4) := by
  have hB : putB l = layF l := if_pos (List.all_eq_true.2 hc)
  have hE : putE l = 0 := if_pos (List.all_eq_true.2 hc)
  have hcols := cols_put l hl hc r
  have hlens : lensOk (colsS (layF l ++ r)) := by
    rw [hcols]
    exact ⟨rfl, by simp, by simp, by simp⟩
  have hrows := rows_put l hl hc r l.length (Nat.le_refl _)
  rw [List.take_length, List.drop_of_length_le (Nat.le_refl _), List.flatMap_nil, List.nil_append] at hrows
  rw [hB, get_some hlens hcols (by show rowsS _ _ _ _ _ _ (l.map (·.f0)).length = _; rw [List.length_map]; exact hrows)]
  unfold endS
  by_cases hr : r = []
  · rw [if_pos hr, if_pos ⟨rfl, hE, by rw [hB, hr, List.append_nil]⟩]
  · rw [if_neg hr, if_neg (fun h => hr (by have := h.2.2; rw [hB] at this; simpa using this))]
def oA : Sop := ⟨2, ⟨#[97]⟩, 0, 0, ⟨#[]⟩⟩
theorem oA_chk : chkF oA = true := by decide +kernel
theorem oA_lay : putB [oA] = [1, 1, 2, 1, 1, 97, 1, 1, 0, 1, 1, 0, 1, 1, 0] := by
  have h : [oA].all chkF = true := by simp [oA_chk]
  rw [putB, if_pos h]
  have e1 : nsF [oA] = [⟨#[97]⟩] := by decide +kernel
  have e2 : bytesOf (⟨#[97]⟩ : ByteArray) = [97] := by decide +kernel
  have e3 : (⟨#[97]⟩ : ByteArray).size = 1 := rfl
  unfold layF
  rw [e1]
  simp [oA, ColS.runs, ColS.st, ColS.flat, LebT.putU_small, LebT.putI_small, ColT.dif0, ColT.dif, textP, txF, idx, e2, e3]
theorem awake07 : stemmalaw07_awake.f = some true := by
  have hc : ∀ o ∈ [oA], chkF o = true := fun o ho => by obtain rfl : o = oA := by simpa using ho
                                                        exact oA_chk
  have hg := get_put [oA] (by decide) hc []
  rw [List.append_nil, if_pos rfl, oA_lay] at hg
  have hE : putE [oA] = 0 := if_pos (List.all_eq_true.2 hc)
  have hP : op_Put.f [(⟨2, (⟨#[97]⟩ : ByteArray), 0, 0, (⟨#[]⟩ : ByteArray)⟩ : Sop)] = some ([1, 1, 2, 1, 1, 97, 1, 1, 0, 1, 1, 0, 1, 1, 0], 0) := by
    show some (putR [oA]) = _
    rw [putR, if_neg (by decide), oA_lay, hE]
  unfold stemmalaw07_awake.f
  rw [hP]
  simp only [Option.bind_some]
  rw [op_Get.f, if_pos (by decide +kernel), hg]
  simp only [Option.bind_some]
  rw [if_pos (by decide +kernel), if_pos (by decide +kernel), if_pos (by decide +kernel), if_pos (by decide +kernel), if_pos (by decide +kernel), if_pos (by decide +kernel), if_pos (by decide +kernel)]
end Go.Proofs.Ytpnnjefhchppfaa.Op

set_option linter.unusedVariables false
set_option linter.unusedSimpArgs false
namespace Go.Proofs.Ytpnnjefhchppfaa.Pure
open Go Go.RowKit Go.Proofs.Ytpnnjefhchppfaa.PA Go.Proofs.YtpnnjefhchppfaaW.PrintWords Go.Proofs.YtpnnjefhchppfaaW.PrintLast Go.Proofs.YtpnnjefhchppfaaW.PrintMore Go.Proofs.Ytpnnjefhchppfaa.Op
theorem OpChecks (a0 : S33) (q0 : ((Lit.int .i64 a0.f0).wf = true) ∧ (a0.f1.size ≤ maxLen ∧ a0.f1.size ≤ 140737488351232) ∧ ((Lit.int .i64 a0.f2).wf = true) ∧ ((Lit.int .i64 a0.f3).wf = true) ∧ a0.f4.size ≤ maxLen ∧ a0.f4.size ≤ 140737488351232) : ∃ k, PA.stemmalaw07_OpChecks.f k a0.f0 a0.f1 a0.f2 a0.f3 a0.f4 = some true := by
  have hs := q0.2.1.2
  clear q0
  obtain ⟨k, hk⟩ : ∃ k, a0.f1.size + 200 ≤ k := ⟨_, Nat.le_refl _⟩
  refine ⟨k, ?_⟩
  unfold stemmalaw07_OpChecks.f
  rw [Check_eq a0 k (by omega), RCheck_eq a0 (by omega) k (by omega)]
  simp only [Option.bind_some, if_true]
  unfold op_Size.f stemmaref07_Size.f
  by_cases h4 : a0.f0 = 4
  · rw [if_pos h4]
    simp only [Option.bind_some, if_true, awake07]
  · rw [if_neg h4]
    simp only [Option.bind_some, if_true, awake07]
end Go.Proofs.Ytpnnjefhchppfaa.Pure

