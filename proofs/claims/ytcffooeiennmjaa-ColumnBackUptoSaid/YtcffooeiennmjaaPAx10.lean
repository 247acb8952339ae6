-- Written by a program of this session (wip/tools/myprint.py), out of the translation's print. Lean checks it.
import Derived.Test.YtcffooeiennmjaaPAx0
import Derived.Test.YtcffooeiennmjaaPAx25
import Derived.Test.YtcffooeiennmjaaPAx27
import Derived.Test.YtcffooeiennmjaaPAx29
import Derived.Test.YtcffooeiennmjaaPAx30
import Derived.Test.YtcffooeiennmjaaPAx40
import Derived.Test.YtcffooeiennmjaaColC
namespace Go.Proofs.Ytcffooeiennmjaa.PA
open Go.RowKit Go.Proofs.YtcffooeiennmjaaW.PrintWords Go.Proofs.YtcffooeiennmjaaW.PrintLast Go.Proofs.YtcffooeiennmjaaW.PrintMore
attribute [local go_sem] max2_int min2_int max_two min_two max_three min_three max_four min_four   -- for this text's walks alone
set_option linter.unusedVariables false
set_option linter.unusedSimpArgs false

/-! ### stemmalaw03_ColumnBack: function 10 -/
def stemmalaw03_ColumnBack.j0 : Nat → List Int → List Int → List Int → List Int → Int → Int → List Int → Int → Int → Bool → Option (Bool)
  | 0, _, _, _, _, _, _, _, _, _, _ => none
  | k + 1, x0, x7, x8, x9, x10, x11, x12, x13, x14, x49 => if x49 = true then (if (x0.length : Int) = 0 then ((stemmalaw03_awake.f k).bind fun t476 => (some t476)) else (if x11 = 5 then (if x14 = 5 then ((stemmalaw03_awake.f k).bind fun t477 => (some t477)) else (some false)) else (some false))) else ((stemmaref03_Same.f k x9 x0).bind fun t478 => (if t478 = true then (if x10 = (x7.length : Int) then (if x11 = 0 then ((stemmaref03_Same.f k x12 x0).bind fun t479 => (if t479 = true then (if x13 = (x8.length : Int) then (if x14 = 0 then ((stemmalaw03_awake.f k).bind fun t480 => (some t480)) else (some false)) else (some false)) else (some false))) else (some false)) else (some false)) else (some false)))
def stemmalaw03_ColumnBack.f (k : Nat) (l0 : List Int) (l1 : List Int) (a2 : Int) : Option (Bool) := (column_Runs.f l0).bind fun t442 => ((column_Deltas.f k l0).bind fun t445 => ((some (([] : List Int) : List Int)).bind fun y448 => (if y448.length + t442.length < 140737488355328 then ((some (y448 ++ t442 : List Int)).bind fun y451 => (if y451.length + l1.length < 140737488355328 then ((column_GetRuns.f k (y451 ++ l1) a2).bind fun bt457 => ((some (([] : List Int) : List Int)).bind fun y462 => (if y462.length + t445.length < 140737488355328 then ((some (y462 ++ t445 : List Int)).bind fun y465 => (if y465.length + l1.length < 140737488355328 then ((column_GetDeltas.f k (y465 ++ l1) a2).bind fun bt471 => (if (l0.length : Int) > a2 then (stemmalaw03_ColumnBack.j0 k l0 t442 t445 bt457.1 bt457.2.1 bt457.2.2 bt471.1 bt471.2.1 bt471.2.2 true) else (stemmalaw03_ColumnBack.j0 k l0 t442 t445 bt457.1 bt457.2.1 bt457.2.2 bt471.1 bt471.2.1 bt471.2.2 (decide ((l0.length : Int) > 65536))))) else (none))) else (none)))) else (none))) else (none))))
theorem stemmalaw03_ColumnBack.mono_l : ∀ k, (∀ y0 y1 y2 y3 y4 y5 y6 y7 y8 y9, LeO (stemmalaw03_ColumnBack.j0 k y0 y1 y2 y3 y4 y5 y6 y7 y8 y9) (stemmalaw03_ColumnBack.j0 (k + 1) y0 y1 y2 y3 y4 y5 y6 y7 y8 y9))
  | 0 => fun _ _ _ _ _ _ _ _ _ _ r h => by simp [stemmalaw03_ColumnBack.j0] at h
  | k + 1 => by
    have ih0 := stemmalaw03_ColumnBack.mono_l k
    · intro y0 y1 y2 y3 y4 y5 y6 y7 y8 y9
      unfold stemmalaw03_ColumnBack.j0
      repeat' first
      | (with_reducible exact ih0 _ _ _ _ _ _ _ _ _ _)
      | (with_reducible exact column_Deltas.mono _ _)
      | (with_reducible exact column_GetDeltas.mono _ _ _)
      | (with_reducible exact column_GetRuns.mono _ _ _)
      | (with_reducible exact stemmalaw03_awake.mono _)
      | (with_reducible exact stemmaref03_Same.mono _ _ _)
      | (with_reducible exact LeO.refl _)
      | (with_reducible exact LeO.none _)
      | (with_reducible refine LeO.ite ?_ ?_)
      | (with_reducible refine LeO.bind ?_ (fun _ => ?_))
      | exact ih0 _ _ _ _ _ _ _ _ _ _
      | exact column_Deltas.mono _ _
      | exact column_GetDeltas.mono _ _ _
      | exact column_GetRuns.mono _ _ _
      | exact stemmalaw03_awake.mono _
      | exact stemmaref03_Same.mono _ _ _
      | exact LeO.none _
      | refine LeO.ite ?_ ?_
      | refine LeO.bind ?_ (fun _ => ?_)
theorem stemmalaw03_ColumnBack.mono : ∀ a0 a1 a2 k, LeO (stemmalaw03_ColumnBack.f k a0 a1 a2) (stemmalaw03_ColumnBack.f (k + 1) a0 a1 a2) := by
  intro a0 a1 a2 k
  have ih0 := stemmalaw03_ColumnBack.mono_l k
  unfold stemmalaw03_ColumnBack.f
  repeat' first
      | (with_reducible exact ih0 _ _ _ _ _ _ _ _ _ _)
      | (with_reducible exact column_Deltas.mono _ _)
      | (with_reducible exact column_GetDeltas.mono _ _ _)
      | (with_reducible exact column_GetRuns.mono _ _ _)
      | (with_reducible exact stemmalaw03_awake.mono _)
      | (with_reducible exact stemmaref03_Same.mono _ _ _)
      | (with_reducible exact LeO.refl _)
      | (with_reducible exact LeO.none _)
      | (with_reducible refine LeO.ite ?_ ?_)
      | (with_reducible refine LeO.bind ?_ (fun _ => ?_))
      | exact ih0 _ _ _ _ _ _ _ _ _ _
      | exact column_Deltas.mono _ _
      | exact column_GetDeltas.mono _ _ _
      | exact column_GetRuns.mono _ _ _
      | exact stemmalaw03_awake.mono _
      | exact stemmaref03_Same.mono _ _ _
      | exact LeO.none _
      | refine LeO.ite ?_ ?_
      | refine LeO.bind ?_ (fun _ => ?_)
set_option maxHeartbeats 8000000 in
set_option maxRecDepth 100000 in
theorem stemmalaw03_ColumnBack.calls (k : Nat) (A0 : Option Addr) (c0 : Nat) (l0 : List Int) (A1 : Option Addr) (c1 : Nat) (l1 : List Int) (a2 : Int) (r : Bool) (w : World) (hr0 : Kd.C (Kd.int .i64) w A0 l0.length l0) (hc0 : l0.length ≤ c0) (hr1 : Kd.C (Kd.int .u8) w A1 l1.length l1) (hc1 : l1.length ≤ c1) (hr_ : Aside0 (r = true)) (h : stemmalaw03_ColumnBack.f k l0 l1 a2 = some r) :
    Calls Try.prog 10 #[.slice A0 l0.length c0, .slice A1 l1.length c1, .int .i64 a2] w fun e w' => e = .returned (.bool r) ∧ Below w.heap.size w w' := by
  have HR0 := Aside0.mk hr0
  have HC0 := Aside0.mk hc0
  clear hr0 hc0
  have HR1 := Aside0.mk hr1
  have HC1 := Aside0.mk hc1
  clear hr1 hc1
  have HB := Aside0.mk (Below.refl w.heap.size w)
  have H : ((column_Runs.f l0).bind fun t442 => ((column_Deltas.f k l0).bind fun t445 => ((some (([] : List Int) : List Int)).bind fun y448 => (if y448.length + t442.length < 140737488355328 then ((some (y448 ++ t442 : List Int)).bind fun y451 => (if y451.length + l1.length < 140737488355328 then ((column_GetRuns.f k (y451 ++ l1) a2).bind fun bt457 => ((some (([] : List Int) : List Int)).bind fun y462 => (if y462.length + t445.length < 140737488355328 then ((some (y462 ++ t445 : List Int)).bind fun y465 => (if y465.length + l1.length < 140737488355328 then ((column_GetDeltas.f k (y465 ++ l1) a2).bind fun bt471 => (if (l0.length : Int) > a2 then (stemmalaw03_ColumnBack.j0 k l0 t442 t445 bt457.1 bt457.2.1 bt457.2.2 bt471.1 bt471.2.1 bt471.2.2 true) else (stemmalaw03_ColumnBack.j0 k l0 t442 t445 bt457.1 bt457.2.1 bt457.2.2 bt471.1 bt471.2.1 bt471.2.2 (decide ((l0.length : Int) > 65536))))) else (none))) else (none)))) else (none))) else (none))))) = some r := h
  clear h
  replace H := Option.bind_eq_some_iff.mp H
  obtain ⟨t442, A40, H⟩ := H
  replace H : ((column_Deltas.f k l0).bind fun t445 => ((some (([] : List Int) : List Int)).bind fun y448 => (if y448.length + t442.length < 140737488355328 then ((some (y448 ++ t442 : List Int)).bind fun y451 => (if y451.length + l1.length < 140737488355328 then ((column_GetRuns.f k (y451 ++ l1) a2).bind fun bt457 => ((some (([] : List Int) : List Int)).bind fun y462 => (if y462.length + t445.length < 140737488355328 then ((some (y462 ++ t445 : List Int)).bind fun y465 => (if y465.length + l1.length < 140737488355328 then ((column_GetDeltas.f k (y465 ++ l1) a2).bind fun bt471 => (if (l0.length : Int) > a2 then (stemmalaw03_ColumnBack.j0 k l0 t442 t445 bt457.1 bt457.2.1 bt457.2.2 bt471.1 bt471.2.1 bt471.2.2 true) else (stemmalaw03_ColumnBack.j0 k l0 t442 t445 bt457.1 bt457.2.1 bt457.2.2 bt471.1 bt471.2.1 bt471.2.2 (decide ((l0.length : Int) > 65536))))) else (none))) else (none)))) else (none))) else (none)))) = some r := H
  have A4 := Aside0.mk A40
  clear A40
  replace H := Option.bind_eq_some_iff.mp H
  obtain ⟨t445, A50, H⟩ := H
  replace H : ((some (([] : List Int) : List Int)).bind fun y448 => (if y448.length + t442.length < 140737488355328 then ((some (y448 ++ t442 : List Int)).bind fun y451 => (if y451.length + l1.length < 140737488355328 then ((column_GetRuns.f k (y451 ++ l1) a2).bind fun bt457 => ((some (([] : List Int) : List Int)).bind fun y462 => (if y462.length + t445.length < 140737488355328 then ((some (y462 ++ t445 : List Int)).bind fun y465 => (if y465.length + l1.length < 140737488355328 then ((column_GetDeltas.f k (y465 ++ l1) a2).bind fun bt471 => (if (l0.length : Int) > a2 then (stemmalaw03_ColumnBack.j0 k l0 t442 t445 bt457.1 bt457.2.1 bt457.2.2 bt471.1 bt471.2.1 bt471.2.2 true) else (stemmalaw03_ColumnBack.j0 k l0 t442 t445 bt457.1 bt457.2.1 bt457.2.2 bt471.1 bt471.2.1 bt471.2.2 (decide ((l0.length : Int) > 65536))))) else (none))) else (none)))) else (none))) else (none))) = some r := H
  have A5 := Aside0.mk A50
  clear A50
  obtain ⟨y448, hy448⟩ : ∃ y_ : List Int, y_ = (([] : List Int)) := ⟨_, rfl⟩
  replace H : (if y448.length + t442.length < 140737488355328 then ((some (y448 ++ t442 : List Int)).bind fun y451 => (if y451.length + l1.length < 140737488355328 then ((column_GetRuns.f k (y451 ++ l1) a2).bind fun bt457 => ((some (([] : List Int) : List Int)).bind fun y462 => (if y462.length + t445.length < 140737488355328 then ((some (y462 ++ t445 : List Int)).bind fun y465 => (if y465.length + l1.length < 140737488355328 then ((column_GetDeltas.f k (y465 ++ l1) a2).bind fun bt471 => (if (l0.length : Int) > a2 then (stemmalaw03_ColumnBack.j0 k l0 t442 t445 bt457.1 bt457.2.1 bt457.2.2 bt471.1 bt471.2.1 bt471.2.2 true) else (stemmalaw03_ColumnBack.j0 k l0 t442 t445 bt457.1 bt457.2.1 bt457.2.2 bt471.1 bt471.2.1 bt471.2.2 (decide ((l0.length : Int) > 65536))))) else (none))) else (none)))) else (none))) else (none)) = some r := by first | (rw [hy448]; with_reducible exact H) | (have H2_ := (Option.bind_some _ _).symm.trans H; rw [hy448]; with_reducible exact H2_) | (have H2_ := (Option.bind_some _ _).symm.trans H; with_reducible exact H2_) | with_reducible exact H | (rw [hy448]; exact H) | exact H
  have Ny448 := Aside0.mk hy448
  clear hy448
  by_cases c6 : y448.length + t442.length < 140737488355328
  · rw [if_pos c6] at H
    have LMc6 := Aside0.mk c6
    clear c6
    obtain ⟨y451, hy451⟩ : ∃ y_ : List Int, y_ = (y448 ++ t442) := ⟨_, rfl⟩
    replace H : (if y451.length + l1.length < 140737488355328 then ((column_GetRuns.f k (y451 ++ l1) a2).bind fun bt457 => ((some (([] : List Int) : List Int)).bind fun y462 => (if y462.length + t445.length < 140737488355328 then ((some (y462 ++ t445 : List Int)).bind fun y465 => (if y465.length + l1.length < 140737488355328 then ((column_GetDeltas.f k (y465 ++ l1) a2).bind fun bt471 => (if (l0.length : Int) > a2 then (stemmalaw03_ColumnBack.j0 k l0 t442 t445 bt457.1 bt457.2.1 bt457.2.2 bt471.1 bt471.2.1 bt471.2.2 true) else (stemmalaw03_ColumnBack.j0 k l0 t442 t445 bt457.1 bt457.2.1 bt457.2.2 bt471.1 bt471.2.1 bt471.2.2 (decide ((l0.length : Int) > 65536))))) else (none))) else (none)))) else (none)) = some r := by first | (rw [hy451]; with_reducible exact H) | (have H2_ := (Option.bind_some _ _).symm.trans H; rw [hy451]; with_reducible exact H2_) | (have H2_ := (Option.bind_some _ _).symm.trans H; with_reducible exact H2_) | with_reducible exact H | (rw [hy451]; exact H) | exact H
    have Ny451 := Aside0.mk hy451
    clear hy451
    by_cases c7 : y451.length + l1.length < 140737488355328
    · rw [if_pos c7] at H
      have LMc7 := Aside0.mk c7
      clear c7
      obtain ⟨y454, hy454⟩ : ∃ y_ : List Int, y_ = (y451 ++ l1) := ⟨_, rfl⟩
      replace H : ((column_GetRuns.f k y454 a2).bind fun bt457 => ((some (([] : List Int) : List Int)).bind fun y462 => (if y462.length + t445.length < 140737488355328 then ((some (y462 ++ t445 : List Int)).bind fun y465 => (if y465.length + l1.length < 140737488355328 then ((column_GetDeltas.f k (y465 ++ l1) a2).bind fun bt471 => (if (l0.length : Int) > a2 then (stemmalaw03_ColumnBack.j0 k l0 t442 t445 bt457.1 bt457.2.1 bt457.2.2 bt471.1 bt471.2.1 bt471.2.2 true) else (stemmalaw03_ColumnBack.j0 k l0 t442 t445 bt457.1 bt457.2.1 bt457.2.2 bt471.1 bt471.2.1 bt471.2.2 (decide ((l0.length : Int) > 65536))))) else (none))) else (none)))) = some r := by first | (rw [hy454]; with_reducible exact H) | (have H2_ := (Option.bind_some _ _).symm.trans H; rw [hy454]; with_reducible exact H2_) | (have H2_ := (Option.bind_some _ _).symm.trans H; with_reducible exact H2_) | with_reducible exact H | (rw [hy454]; exact H) | exact H
      have Ny454 := Aside0.mk hy454
      clear hy454
      replace H := Option.bind_eq_some_iff.mp H
      obtain ⟨⟨t457, t458, t459⟩, A80, H⟩ := H
      replace H : ((some (([] : List Int) : List Int)).bind fun y462 => (if y462.length + t445.length < 140737488355328 then ((some (y462 ++ t445 : List Int)).bind fun y465 => (if y465.length + l1.length < 140737488355328 then ((column_GetDeltas.f k (y465 ++ l1) a2).bind fun bt471 => (if (l0.length : Int) > a2 then (stemmalaw03_ColumnBack.j0 k l0 t442 t445 t457 t458 t459 bt471.1 bt471.2.1 bt471.2.2 true) else (stemmalaw03_ColumnBack.j0 k l0 t442 t445 t457 t458 t459 bt471.1 bt471.2.1 bt471.2.2 (decide ((l0.length : Int) > 65536))))) else (none))) else (none))) = some r := H
      have A8 := Aside0.mk A80
      clear A80
      obtain ⟨y462, hy462⟩ : ∃ y_ : List Int, y_ = (([] : List Int)) := ⟨_, rfl⟩
      replace H : (if y462.length + t445.length < 140737488355328 then ((some (y462 ++ t445 : List Int)).bind fun y465 => (if y465.length + l1.length < 140737488355328 then ((column_GetDeltas.f k (y465 ++ l1) a2).bind fun bt471 => (if (l0.length : Int) > a2 then (stemmalaw03_ColumnBack.j0 k l0 t442 t445 t457 t458 t459 bt471.1 bt471.2.1 bt471.2.2 true) else (stemmalaw03_ColumnBack.j0 k l0 t442 t445 t457 t458 t459 bt471.1 bt471.2.1 bt471.2.2 (decide ((l0.length : Int) > 65536))))) else (none))) else (none)) = some r := by first | (rw [hy462]; with_reducible exact H) | (have H2_ := (Option.bind_some _ _).symm.trans H; rw [hy462]; with_reducible exact H2_) | (have H2_ := (Option.bind_some _ _).symm.trans H; with_reducible exact H2_) | with_reducible exact H | (rw [hy462]; exact H) | exact H
      have Ny462 := Aside0.mk hy462
      clear hy462
      by_cases c9 : y462.length + t445.length < 140737488355328
      · rw [if_pos c9] at H
        have LMc9 := Aside0.mk c9
        clear c9
        obtain ⟨y465, hy465⟩ : ∃ y_ : List Int, y_ = (y462 ++ t445) := ⟨_, rfl⟩
        replace H : (if y465.length + l1.length < 140737488355328 then ((column_GetDeltas.f k (y465 ++ l1) a2).bind fun bt471 => (if (l0.length : Int) > a2 then (stemmalaw03_ColumnBack.j0 k l0 t442 t445 t457 t458 t459 bt471.1 bt471.2.1 bt471.2.2 true) else (stemmalaw03_ColumnBack.j0 k l0 t442 t445 t457 t458 t459 bt471.1 bt471.2.1 bt471.2.2 (decide ((l0.length : Int) > 65536))))) else (none)) = some r := by first | (rw [hy465]; with_reducible exact H) | (have H2_ := (Option.bind_some _ _).symm.trans H; rw [hy465]; with_reducible exact H2_) | (have H2_ := (Option.bind_some _ _).symm.trans H; with_reducible exact H2_) | with_reducible exact H | (rw [hy465]; exact H) | exact H
        have Ny465 := Aside0.mk hy465
        clear hy465
        by_cases c10 : y465.length + l1.length < 140737488355328
        · rw [if_pos c10] at H
          have LMc10 := Aside0.mk c10
          clear c10
          obtain ⟨y468, hy468⟩ : ∃ y_ : List Int, y_ = (y465 ++ l1) := ⟨_, rfl⟩
          replace H : ((column_GetDeltas.f k y468 a2).bind fun bt471 => (if (l0.length : Int) > a2 then (stemmalaw03_ColumnBack.j0 k l0 t442 t445 t457 t458 t459 bt471.1 bt471.2.1 bt471.2.2 true) else (stemmalaw03_ColumnBack.j0 k l0 t442 t445 t457 t458 t459 bt471.1 bt471.2.1 bt471.2.2 (decide ((l0.length : Int) > 65536))))) = some r := by first | (rw [hy468]; with_reducible exact H) | (have H2_ := (Option.bind_some _ _).symm.trans H; rw [hy468]; with_reducible exact H2_) | (have H2_ := (Option.bind_some _ _).symm.trans H; with_reducible exact H2_) | with_reducible exact H | (rw [hy468]; exact H) | exact H
          have Ny468 := Aside0.mk hy468
          clear hy468
          replace H := Option.bind_eq_some_iff.mp H
          obtain ⟨⟨t471, t472, t473⟩, A110, H⟩ := H
          replace H : (if (l0.length : Int) > a2 then (stemmalaw03_ColumnBack.j0 k l0 t442 t445 t457 t458 t459 t471 t472 t473 true) else (stemmalaw03_ColumnBack.j0 k l0 t442 t445 t457 t458 t459 t471 t472 t473 (decide ((l0.length : Int) > 65536)))) = some r := H
          have A11 := Aside0.mk A110
          clear A110
          have HC12 := Aside0.mk H
          clear H
          go_enter Try.func10, Try.ntmps10
          go_upto_region 4 with (first | ((with_reducible refine gate_callee (f := 38) rfl ?_); refine goesL_ (some 16) rfl rfl Try.func38 (by kernel_rfl) rfl #[.slice A0 l0.length c0] rfl (by (try simp only [List.map_toArray, List.map_cons, List.map_nil]); first | done | rfl | (simp only [List.length_drop, List.length_take]; rfl)) ?_; (with_reducible refine (column_Runs.calls _ _ l0 t442 _ ?side1 ?side2 A4.out).mono ?_); (case side1 => repeat (first | exact HR0.out | (with_reducible refine Kd.C_alloc ?_ _) | (with_reducible refine Kd.C_drewN ?_ _) | (with_reducible refine Kd.C_drew ?_))); (case side2 => exact HC0.out); rintro e w13 ⟨v443, rfl, ho0, hb⟩; refine ⟨_, rfl, ?_⟩; have n0_ := Aside0.mk (Kd.R_lower ho0 (below_size (by repeat (first | (with_reducible first | exact HB.out | apply below_alloc | apply pw_below_drewN | apply below_drew1) | exact HB.out)))); have n1_ := Aside0.mk (below_step (by repeat (first | (with_reducible first | exact HB.out | apply below_alloc | apply pw_below_drewN | apply below_drew1) | exact HB.out)) hb); clear HB; have HO444 := n0_; have HB := n1_; clear n0_ n1_; (try clear hb); (try clear hb2); (try clear hk); (try clear hi); (try clear ho0)) | ((with_reducible refine gate_callee (f := 40) rfl ?_); refine goesL_ (some 18) rfl rfl Try.func40 (by kernel_rfl) rfl #[.slice A0 l0.length c0] rfl (by (try simp only [List.map_toArray, List.map_cons, List.map_nil]); first | done | rfl | (simp only [List.length_drop, List.length_take]; rfl)) ?_; (with_reducible refine (column_Deltas.calls k _ _ l0 t445 _ ?side1 ?side2 A5.out).mono ?_); (case side1 => repeat (first | exact (Kd.C_below HR0.out HB.out) | (with_reducible refine Kd.C_alloc ?_ _) | (with_reducible refine Kd.C_drewN ?_ _) | (with_reducible refine Kd.C_drew ?_))); (case side2 => exact HC0.out); rintro e w14 ⟨v446, rfl, ho0, hb⟩; refine ⟨_, rfl, ?_⟩; have n0_ := Aside0.mk (Kd.R_elder' (by (with_reducible repeat (first | apply Kd.R_alloc | apply Kd.R_drewN | apply Kd.R_drew)); exact HO444.out) (Kd.R_base ho0) hb); have n1_ := Aside0.mk (Kd.R_lower (Kd.R_new' ho0 (Kd.R_lt (by (with_reducible repeat (first | apply Kd.R_alloc | apply Kd.R_drewN | apply Kd.R_drew)); exact HO444.out))) (below_size (by repeat (first | (with_reducible first | exact HB.out | apply below_alloc | apply pw_below_drewN | apply below_drew1) | exact HB.out)))); have n2_ := Aside0.mk (below_step (by repeat (first | (with_reducible first | exact HB.out | apply below_alloc | apply pw_below_drewN | apply below_drew1) | exact HB.out)) hb); clear HO444; clear HB; have HO444 := n0_; have HO447 := n1_; have HB := n2_; clear n0_ n1_ n2_; (try clear hb); (try clear hb2); (try clear hk); (try clear hi); (try clear ho0)) | ((with_reducible refine gate_dst (N := 20) rfl ?_); (try (refine gate_guard (by rfl) ?_; dsimp only)); refine Kd.R_lit (Kd.int .u8) _ 5 ?hg (N := 20) ?hd (xs := ([] : List Int)) (inner := []) (ok := fun _ => True) (okp := fun _ => True) ?hr ?hp (fun _ hk => hk) trivial (Below.refl _ _) (Nat.le_refl _) (by simp) ?_; (case hd => rfl); (case hg => rfl); (case hr => first | (go_simp; done) | (go_simp; rfl)); (case hp => exact (Reps.none _ _)); intro v449 w15 ho16 hb hg_ hnew_; clear hg_ hnew_; (first | rw [← Ny448.out] at ho16 | (simp only [Int.reduceToNat] at ho16; rw [← Ny448.out] at ho16)); have n0_ := Aside0.mk (Kd.R_elder' (by (with_reducible repeat (first | apply Kd.R_alloc | apply Kd.R_drewN | apply Kd.R_drew)); exact HO444.out) (Kd.R_base ho16) hb); have n1_ := Aside0.mk (Kd.R_elder' (by (with_reducible repeat (first | apply Kd.R_alloc | apply Kd.R_drewN | apply Kd.R_drew)); exact HO447.out) (Kd.R_base ho16) hb); have n2_ := Aside0.mk (Kd.R_lower (Kd.R_new' (Kd.R_new' ho16 (Kd.R_lt (by (with_reducible repeat (first | apply Kd.R_alloc | apply Kd.R_drewN | apply Kd.R_drew)); exact HO444.out))) (Kd.R_lt (by (with_reducible repeat (first | apply Kd.R_alloc | apply Kd.R_drewN | apply Kd.R_drew)); exact HO447.out))) (below_size (by repeat (first | (with_reducible first | exact HB.out | apply below_alloc | apply pw_below_drewN | apply below_drew1) | exact HB.out)))); have n3_ := Aside0.mk (below_step (by repeat (first | (with_reducible first | exact HB.out | apply below_alloc | apply pw_below_drewN | apply below_drew1) | exact HB.out)) hb); clear HO444; clear HO447; clear HB; have HO444 := n0_; have HO447 := n1_; have HO450 := n2_; have HB := n3_; clear n0_ n1_ n2_ n3_; clear hb ho16; obtain ⟨Ao18, co18, eo18⟩ := Kd.R_slice HO444.out; subst eo18) | ((with_reducible refine gate_builtin (b := .append) (xs := #[.tmp 20, .tmp 21]) rfl ?_); (try (refine gate_guard (by rfl) ?_; dsimp only)); at_builtin; refine Kd.R_append_rows (Kd.int .u8) (w0 := w) w.heap.size rfl (.tmp 20) (.tmp 21) 23 5 (.int .u8 0) 1 rfl Try.underlying23 info5 rfl (by decide) (by omega) v449 y448 t442 _ _ _ (fun k_ => some k_ ≠ (.slice Ao18 t442.length co18 : Value).ownBlock ∧ some k_ ≠ (v446 : Value).ownBlock) (fun _ => False) rfl rfl ?aO ?aR (fun _ _ h => h) (fun _ h => h.elim) ?aF ?aB ?aS ?aL ?_; (case aR => repeat (first | exact (Kd.R_reads' HO444.out).2.2 | (with_reducible refine Kd.C_alloc ?_ _) | (with_reducible refine Kd.C_drewN ?_ _) | (with_reducible refine Kd.C_drew ?_))); (case aB => exact (by repeat (first | (with_reducible first | exact HB.out | apply below_alloc | apply pw_below_drewN | apply below_drew1) | exact HB.out))); (case aF => exact (fun k_ hk => ⟨Kd.fresh' (Kd.R_lt (by (with_reducible repeat (first | apply Kd.R_alloc | apply Kd.R_drewN | apply Kd.R_drew)); exact HO444.out)) k_ hk, Kd.fresh' (Kd.R_lt (by (with_reducible repeat (first | apply Kd.R_alloc | apply Kd.R_drewN | apply Kd.R_drew)); exact HO447.out)) k_ hk⟩)); (case aO => exact (by (with_reducible repeat (first | apply Kd.R_alloc | apply Kd.R_drewN | apply Kd.R_drew)); exact Kd.R_mono HO450.out (fun _ hk => ⟨hk.1.2, hk.2⟩))); (case aS => exact (below_size (by repeat (first | (with_reducible first | exact HB.out | apply below_alloc | apply pw_below_drewN | apply below_drew1) | exact HB.out)))); (case aL => have := LMc6.out; omega); intro v452 w17 ho hb hg hat; rw [← Ny451.out] at ho; have n0_ := Aside0.mk (Kd.R_after (ok := (fun k_ => some k_ ≠ (v446 : Value).ownBlock)) (by (with_reducible repeat (first | apply Kd.R_alloc | apply Kd.R_drewN | apply Kd.R_drew)); exact Kd.R_mono HO444.out (fun _ hk => ⟨hk.1.2, hk.2⟩)) hg hat); have n1_ := Aside0.mk (Kd.R_after (ok := (fun k_ => some k_ ≠ (.slice Ao18 t442.length co18 : Value).ownBlock)) (by (with_reducible repeat (first | apply Kd.R_alloc | apply Kd.R_drewN | apply Kd.R_drew)); exact Kd.R_mono HO447.out (fun _ hk => ⟨hk.1.2, hk.2⟩)) hg hat); have n2_ := Aside0.mk (hb); have n3_ := Aside0.mk (ho); clear HO444; clear HO447; clear HB; clear HO450; have HO444 := n0_; have HO447 := n1_; have HB := n2_; have HO453 := n3_; clear n0_ n1_ n2_ n3_; clear ho hb hg hat) | ((with_reducible refine gate_builtin (b := .append) (xs := #[.tmp 22, .tmp 23]) rfl ?_); (try (refine gate_guard (by rfl) ?_; dsimp only)); at_builtin; refine Kd.R_append_rows (Kd.int .u8) (w0 := w) w.heap.size rfl (.tmp 22) (.tmp 23) 23 5 (.int .u8 0) 1 rfl Try.underlying23 info5 rfl (by decide) (by omega) v452 y451 l1 _ _ _ (fun k_ => some k_ ≠ (.slice Ao18 t442.length co18 : Value).ownBlock ∧ some k_ ≠ (v446 : Value).ownBlock) (fun _ => False) rfl rfl ?aO ?aR (fun _ _ h => h) (fun _ h => h.elim) ?aF ?aB ?aS ?aL ?_; (case aR => repeat (first | exact (Kd.C_below HR1.out HB.out) | (with_reducible refine Kd.C_alloc ?_ _) | (with_reducible refine Kd.C_drewN ?_ _) | (with_reducible refine Kd.C_drew ?_))); (case aB => exact (by repeat (first | (with_reducible first | exact HB.out | apply below_alloc | apply pw_below_drewN | apply below_drew1) | exact HB.out))); (case aF => exact (fun k_ hk => ⟨Kd.fresh' (Kd.R_lt (by (with_reducible repeat (first | apply Kd.R_alloc | apply Kd.R_drewN | apply Kd.R_drew)); exact HO444.out)) k_ hk, Kd.fresh' (Kd.R_lt (by (with_reducible repeat (first | apply Kd.R_alloc | apply Kd.R_drewN | apply Kd.R_drew)); exact HO447.out)) k_ hk⟩)); (case aO => exact (by (with_reducible repeat (first | apply Kd.R_alloc | apply Kd.R_drewN | apply Kd.R_drew)); exact HO453.out)); (case aS => exact (below_size (by repeat (first | (with_reducible first | exact HB.out | apply below_alloc | apply pw_below_drewN | apply below_drew1) | exact HB.out)))); (case aL => have := LMc7.out; omega); intro v455 w19 ho hb hg hat; rw [← Ny454.out] at ho; have n0_ := Aside0.mk (Kd.R_after (ok := (fun k_ => some k_ ≠ (v446 : Value).ownBlock)) (by (with_reducible repeat (first | apply Kd.R_alloc | apply Kd.R_drewN | apply Kd.R_drew)); exact HO444.out) hg hat); have n1_ := Aside0.mk (Kd.R_after (ok := (fun k_ => some k_ ≠ (.slice Ao18 t442.length co18 : Value).ownBlock)) (by (with_reducible repeat (first | apply Kd.R_alloc | apply Kd.R_drewN | apply Kd.R_drew)); exact HO447.out) hg hat); have n2_ := Aside0.mk (hb); have n3_ := Aside0.mk (ho); clear HO444; clear HO447; clear HB; clear HO453; have HO444 := n0_; have HO447 := n1_; have HB := n2_; have HO456 := n3_; clear n0_ n1_ n2_ n3_; clear ho hb hg hat; obtain ⟨Ao20, co20, eo20⟩ := Kd.R_slice HO456.out; subst eo20) | ((with_reducible refine gate_callee (f := 25) rfl ?_); refine goesL_ (some 26) rfl rfl Try.func25 (by kernel_rfl) rfl #[.slice Ao20 y454.length co20, .int .i64 a2] rfl (by (try simp only [List.map_toArray, List.map_cons, List.map_nil]); first | done | rfl | (simp only [List.length_drop, List.length_take]; rfl)) ?_; (with_reducible refine (column_GetRuns.calls k _ _ y454 a2 t457 t458 t459 _ ?side1 ?side2 A8.out).mono ?_); (case side1 => repeat (first | exact (Kd.R_reads' HO456.out).2.2 | (with_reducible refine Kd.C_alloc ?_ _) | (with_reducible refine Kd.C_drewN ?_ _) | (with_reducible refine Kd.C_drew ?_))); (case side2 => exact (Kd.R_reads' HO456.out).2.1); rintro e w21 ⟨v460, rfl, ho0, hb⟩; refine ⟨_, rfl, ?_⟩; have n0_ := Aside0.mk (Kd.R_below (by (with_reducible repeat (first | apply Kd.R_alloc | apply Kd.R_drewN | apply Kd.R_drew)); exact HO444.out) hb); have n1_ := Aside0.mk (Kd.R_below (by (with_reducible repeat (first | apply Kd.R_alloc | apply Kd.R_drewN | apply Kd.R_drew)); exact HO447.out) hb); have n2_ := Aside0.mk (Kd.R_below (by (with_reducible repeat (first | apply Kd.R_alloc | apply Kd.R_drewN | apply Kd.R_drew)); exact HO456.out) hb); have n3_ := Aside0.mk (Kd.R_lower ho0 (below_size (by repeat (first | (with_reducible first | exact HB.out | apply below_alloc | apply pw_below_drewN | apply below_drew1) | exact HB.out)))); have n4_ := Aside0.mk (below_step (by repeat (first | (with_reducible first | exact HB.out | apply below_alloc | apply pw_below_drewN | apply below_drew1) | exact HB.out)) hb); clear HO444; clear HO447; clear HO456; clear HB; have HO444 := n0_; have HO447 := n1_; have HO456 := n2_; have HO461 := n3_; have HB := n4_; clear n0_ n1_ n2_ n3_ n4_; (try clear hb); (try clear hb2); (try clear hk); (try clear hi); (try clear ho0)) | ((with_reducible refine gate_dst (N := 31) rfl ?_); (try (refine gate_guard (by rfl) ?_; dsimp only)); refine Kd.R_lit (Kd.int .u8) _ 5 ?hg (N := 31) ?hd (xs := ([] : List Int)) (inner := []) (ok := fun _ => True) (okp := fun _ => True) ?hr ?hp (fun _ hk => hk) trivial (Below.refl _ _) (Nat.le_refl _) (by simp) ?_; (case hd => rfl); (case hg => rfl); (case hr => first | (go_simp; done) | (go_simp; rfl)); (case hp => exact (Reps.none _ _)); intro v463 w22 ho23 hb hg_ hnew_; clear hg_ hnew_; (first | rw [← Ny462.out] at ho23 | (simp only [Int.reduceToNat] at ho23; rw [← Ny462.out] at ho23)); have n0_ := Aside0.mk (Kd.R_elder' (by (with_reducible repeat (first | apply Kd.R_alloc | apply Kd.R_drewN | apply Kd.R_drew)); exact HO444.out) (Kd.R_base ho23) hb); have n1_ := Aside0.mk (Kd.R_elder' (by (with_reducible repeat (first | apply Kd.R_alloc | apply Kd.R_drewN | apply Kd.R_drew)); exact HO447.out) (Kd.R_base ho23) hb); have n2_ := Aside0.mk (Kd.R_elder' (by (with_reducible repeat (first | apply Kd.R_alloc | apply Kd.R_drewN | apply Kd.R_drew)); exact HO456.out) (Kd.R_base ho23) hb); have n3_ := Aside0.mk (Kd.R_below (by (with_reducible repeat (first | apply Kd.R_alloc | apply Kd.R_drewN | apply Kd.R_drew)); exact HO461.out) hb); have n4_ := Aside0.mk (Kd.R_lower (Kd.R_new' (Kd.R_new' (Kd.R_new' ho23 (Kd.R_lt (by (with_reducible repeat (first | apply Kd.R_alloc | apply Kd.R_drewN | apply Kd.R_drew)); exact HO444.out))) (Kd.R_lt (by (with_reducible repeat (first | apply Kd.R_alloc | apply Kd.R_drewN | apply Kd.R_drew)); exact HO447.out))) (Kd.R_lt (by (with_reducible repeat (first | apply Kd.R_alloc | apply Kd.R_drewN | apply Kd.R_drew)); exact HO456.out))) (below_size (by repeat (first | (with_reducible first | exact HB.out | apply below_alloc | apply pw_below_drewN | apply below_drew1) | exact HB.out)))); have n5_ := Aside0.mk (below_step (by repeat (first | (with_reducible first | exact HB.out | apply below_alloc | apply pw_below_drewN | apply below_drew1) | exact HB.out)) hb); clear HO444; clear HO447; clear HO456; clear HO461; clear HB; have HO444 := n0_; have HO447 := n1_; have HO456 := n2_; have HO461 := n3_; have HO464 := n4_; have HB := n5_; clear n0_ n1_ n2_ n3_ n4_ n5_; clear hb ho23; obtain ⟨Ao25, co25, eo25⟩ := Kd.R_slice HO447.out; subst eo25) | ((with_reducible refine gate_builtin (b := .append) (xs := #[.tmp 31, .tmp 32]) rfl ?_); (try (refine gate_guard (by rfl) ?_; dsimp only)); at_builtin; refine Kd.R_append_rows (Kd.int .u8) (w0 := w) w.heap.size rfl (.tmp 31) (.tmp 32) 23 5 (.int .u8 0) 1 rfl Try.underlying23 info5 rfl (by decide) (by omega) v463 y462 t445 _ _ _ (fun k_ => some k_ ≠ (.slice Ao18 t442.length co18 : Value).ownBlock ∧ some k_ ≠ (.slice Ao25 t445.length co25 : Value).ownBlock ∧ some k_ ≠ (.slice Ao20 y454.length co20 : Value).ownBlock) (fun _ => False) rfl rfl ?aO ?aR (fun _ _ h => h) (fun _ h => h.elim) ?aF ?aB ?aS ?aL ?_; (case aR => repeat (first | exact (Kd.R_reads' HO447.out).2.2 | (with_reducible refine Kd.C_alloc ?_ _) | (with_reducible refine Kd.C_drewN ?_ _) | (with_reducible refine Kd.C_drew ?_))); (case aB => exact (by repeat (first | (with_reducible first | exact HB.out | apply below_alloc | apply pw_below_drewN | apply below_drew1) | exact HB.out))); (case aF => exact (fun k_ hk => ⟨Kd.fresh' (Kd.R_lt (by (with_reducible repeat (first | apply Kd.R_alloc | apply Kd.R_drewN | apply Kd.R_drew)); exact HO444.out)) k_ hk, Kd.fresh' (Kd.R_lt (by (with_reducible repeat (first | apply Kd.R_alloc | apply Kd.R_drewN | apply Kd.R_drew)); exact HO447.out)) k_ hk, Kd.fresh' (Kd.R_lt (by (with_reducible repeat (first | apply Kd.R_alloc | apply Kd.R_drewN | apply Kd.R_drew)); exact HO456.out)) k_ hk⟩)); (case aO => exact (by (with_reducible repeat (first | apply Kd.R_alloc | apply Kd.R_drewN | apply Kd.R_drew)); exact Kd.R_mono HO464.out (fun _ hk => ⟨hk.1.1.2, ⟨hk.1.2, hk.2⟩⟩))); (case aS => exact (below_size (by repeat (first | (with_reducible first | exact HB.out | apply below_alloc | apply pw_below_drewN | apply below_drew1) | exact HB.out)))); (case aL => have := LMc9.out; omega); intro v466 w24 ho hb hg hat; rw [← Ny465.out] at ho; have n0_ := Aside0.mk (Kd.R_after (ok := (fun k_ => some k_ ≠ (.slice Ao25 t445.length co25 : Value).ownBlock ∧ some k_ ≠ (.slice Ao20 y454.length co20 : Value).ownBlock)) (by (with_reducible repeat (first | apply Kd.R_alloc | apply Kd.R_drewN | apply Kd.R_drew)); exact HO444.out) hg hat); have n1_ := Aside0.mk (Kd.R_after (ok := (fun k_ => some k_ ≠ (.slice Ao18 t442.length co18 : Value).ownBlock ∧ some k_ ≠ (.slice Ao20 y454.length co20 : Value).ownBlock)) (by (with_reducible repeat (first | apply Kd.R_alloc | apply Kd.R_drewN | apply Kd.R_drew)); exact HO447.out) hg hat); have n2_ := Aside0.mk (Kd.R_after (ok := (fun k_ => some k_ ≠ (.slice Ao18 t442.length co18 : Value).ownBlock ∧ some k_ ≠ (.slice Ao25 t445.length co25 : Value).ownBlock)) (by (with_reducible repeat (first | apply Kd.R_alloc | apply Kd.R_drewN | apply Kd.R_drew)); exact HO456.out) hg hat); have n3_ := Aside0.mk (Kd.R_over' (by (with_reducible repeat (first | apply Kd.R_alloc | apply Kd.R_drewN | apply Kd.R_drew)); exact HO461.out) (Kd.R_typed (by (with_reducible repeat (first | apply Kd.R_alloc | apply Kd.R_drewN | apply Kd.R_drew)); exact HO464.out)) (by decide) hg); have n4_ := Aside0.mk (hb); have n5_ := Aside0.mk (ho); clear HO444; clear HO447; clear HO456; clear HO461; clear HB; clear HO464; have HO444 := n0_; have HO447 := n1_; have HO456 := n2_; have HO461 := n3_; have HB := n4_; have HO467 := n5_; clear n0_ n1_ n2_ n3_ n4_ n5_; clear ho hb hg hat) | ((with_reducible refine gate_builtin (b := .append) (xs := #[.tmp 33, .tmp 34]) rfl ?_); (try (refine gate_guard (by rfl) ?_; dsimp only)); at_builtin; refine Kd.R_append_rows (Kd.int .u8) (w0 := w) w.heap.size rfl (.tmp 33) (.tmp 34) 23 5 (.int .u8 0) 1 rfl Try.underlying23 info5 rfl (by decide) (by omega) v466 y465 l1 _ _ _ (fun k_ => some k_ ≠ (.slice Ao18 t442.length co18 : Value).ownBlock ∧ some k_ ≠ (.slice Ao25 t445.length co25 : Value).ownBlock ∧ some k_ ≠ (.slice Ao20 y454.length co20 : Value).ownBlock) (fun _ => False) rfl rfl ?aO ?aR (fun _ _ h => h) (fun _ h => h.elim) ?aF ?aB ?aS ?aL ?_; (case aR => repeat (first | exact (Kd.C_below HR1.out HB.out) | (with_reducible refine Kd.C_alloc ?_ _) | (with_reducible refine Kd.C_drewN ?_ _) | (with_reducible refine Kd.C_drew ?_))); (case aB => exact (by repeat (first | (with_reducible first | exact HB.out | apply below_alloc | apply pw_below_drewN | apply below_drew1) | exact HB.out))); (case aF => exact (fun k_ hk => ⟨Kd.fresh' (Kd.R_lt (by (with_reducible repeat (first | apply Kd.R_alloc | apply Kd.R_drewN | apply Kd.R_drew)); exact HO444.out)) k_ hk, Kd.fresh' (Kd.R_lt (by (with_reducible repeat (first | apply Kd.R_alloc | apply Kd.R_drewN | apply Kd.R_drew)); exact HO447.out)) k_ hk, Kd.fresh' (Kd.R_lt (by (with_reducible repeat (first | apply Kd.R_alloc | apply Kd.R_drewN | apply Kd.R_drew)); exact HO456.out)) k_ hk⟩)); (case aO => exact (by (with_reducible repeat (first | apply Kd.R_alloc | apply Kd.R_drewN | apply Kd.R_drew)); exact HO467.out)); (case aS => exact (below_size (by repeat (first | (with_reducible first | exact HB.out | apply below_alloc | apply pw_below_drewN | apply below_drew1) | exact HB.out)))); (case aL => have := LMc10.out; omega); intro v469 w26 ho hb hg hat; rw [← Ny468.out] at ho; have n0_ := Aside0.mk (Kd.R_after (ok := (fun k_ => some k_ ≠ (.slice Ao25 t445.length co25 : Value).ownBlock ∧ some k_ ≠ (.slice Ao20 y454.length co20 : Value).ownBlock)) (by (with_reducible repeat (first | apply Kd.R_alloc | apply Kd.R_drewN | apply Kd.R_drew)); exact HO444.out) hg hat); have n1_ := Aside0.mk (Kd.R_after (ok := (fun k_ => some k_ ≠ (.slice Ao18 t442.length co18 : Value).ownBlock ∧ some k_ ≠ (.slice Ao20 y454.length co20 : Value).ownBlock)) (by (with_reducible repeat (first | apply Kd.R_alloc | apply Kd.R_drewN | apply Kd.R_drew)); exact HO447.out) hg hat); have n2_ := Aside0.mk (Kd.R_after (ok := (fun k_ => some k_ ≠ (.slice Ao18 t442.length co18 : Value).ownBlock ∧ some k_ ≠ (.slice Ao25 t445.length co25 : Value).ownBlock)) (by (with_reducible repeat (first | apply Kd.R_alloc | apply Kd.R_drewN | apply Kd.R_drew)); exact HO456.out) hg hat); have n3_ := Aside0.mk (Kd.R_over' (by (with_reducible repeat (first | apply Kd.R_alloc | apply Kd.R_drewN | apply Kd.R_drew)); exact HO461.out) (Kd.R_typed (by (with_reducible repeat (first | apply Kd.R_alloc | apply Kd.R_drewN | apply Kd.R_drew)); exact HO467.out)) (by decide) hg); have n4_ := Aside0.mk (hb); have n5_ := Aside0.mk (ho); clear HO444; clear HO447; clear HO456; clear HO461; clear HB; clear HO467; have HO444 := n0_; have HO447 := n1_; have HO456 := n2_; have HO461 := n3_; have HB := n4_; have HO470 := n5_; clear n0_ n1_ n2_ n3_ n4_ n5_; clear ho hb hg hat; obtain ⟨Ao27, co27, eo27⟩ := Kd.R_slice HO470.out; subst eo27) | ((with_reducible refine gate_callee (f := 27) rfl ?_); refine goesL_ (some 37) rfl rfl Try.func27 (by kernel_rfl) rfl #[.slice Ao27 y468.length co27, .int .i64 a2] rfl (by (try simp only [List.map_toArray, List.map_cons, List.map_nil]); first | done | rfl | (simp only [List.length_drop, List.length_take]; rfl)) ?_; (with_reducible refine (column_GetDeltas.calls k _ _ y468 a2 t471 t472 t473 _ ?side1 ?side2 A11.out).mono ?_); (case side1 => repeat (first | exact (Kd.R_reads' HO470.out).2.2 | (with_reducible refine Kd.C_alloc ?_ _) | (with_reducible refine Kd.C_drewN ?_ _) | (with_reducible refine Kd.C_drew ?_))); (case side2 => exact (Kd.R_reads' HO470.out).2.1); rintro e w28 ⟨v474, rfl, ho0, hb⟩; refine ⟨_, rfl, ?_⟩; have n0_ := Aside0.mk (Kd.R_below (by (with_reducible repeat (first | apply Kd.R_alloc | apply Kd.R_drewN | apply Kd.R_drew)); exact HO444.out) hb); have n1_ := Aside0.mk (Kd.R_below (by (with_reducible repeat (first | apply Kd.R_alloc | apply Kd.R_drewN | apply Kd.R_drew)); exact HO447.out) hb); have n2_ := Aside0.mk (Kd.R_below (by (with_reducible repeat (first | apply Kd.R_alloc | apply Kd.R_drewN | apply Kd.R_drew)); exact HO456.out) hb); have n3_ := Aside0.mk (Kd.R_elder' (by (with_reducible repeat (first | apply Kd.R_alloc | apply Kd.R_drewN | apply Kd.R_drew)); exact HO461.out) (Kd.R_base ho0) hb); have n4_ := Aside0.mk (Kd.R_below (by (with_reducible repeat (first | apply Kd.R_alloc | apply Kd.R_drewN | apply Kd.R_drew)); exact HO470.out) hb); have n5_ := Aside0.mk (Kd.R_lower (Kd.R_new' ho0 (Kd.R_lt (by (with_reducible repeat (first | apply Kd.R_alloc | apply Kd.R_drewN | apply Kd.R_drew)); exact HO461.out))) (below_size (by repeat (first | (with_reducible first | exact HB.out | apply below_alloc | apply pw_below_drewN | apply below_drew1) | exact HB.out)))); have n6_ := Aside0.mk (below_step (by repeat (first | (with_reducible first | exact HB.out | apply below_alloc | apply pw_below_drewN | apply below_drew1) | exact HB.out)) hb); clear HO444; clear HO447; clear HO456; clear HO461; clear HO470; clear HB; have HO444 := n0_; have HO447 := n1_; have HO456 := n2_; have HO461 := n3_; have HO470 := n4_; have HO475 := n5_; have HB := n6_; clear n0_ n1_ n2_ n3_ n4_ n5_ n6_; (try clear hb); (try clear hb2); (try clear hk); (try clear hi); (try clear ho0)))
          (try simp only [Act.put, List.setIfInBounds_toArray, List.set_cons_zero, List.set_cons_succ])
          go_cut [49] (fun v49 wc => ∃ (kq : Nat) (x49_11 : Bool), v49 = .bool x49_11 ∧ Aside0 (stemmalaw03_ColumnBack.j0 kq l0 t442 t445 t457 t458 t459 t471 t472 t473 x49_11 = some r) ∧ Aside0 (kq ≤ k) ∧ Aside0 (Kd.R (Kd.int .u8) 5 wc w.heap.size (fun k_ => some k_ ≠ ((.slice Ao25 t445.length co25) : Value).ownBlock) (.slice Ao18 t442.length co18) t442) ∧ Aside0 (Kd.R (Kd.int .u8) 5 wc w.heap.size (fun k_ => some k_ ≠ ((.slice Ao18 t442.length co18) : Value).ownBlock) (.slice Ao25 t445.length co25) t445) ∧ Aside0 (Kd.R (Kd.int .i64) 2 wc w.heap.size (fun k_ => some k_ ≠ (v474 : Value).ownBlock) v460 t457) ∧ Aside0 (Kd.R (Kd.int .i64) 2 wc w.heap.size (fun k_ => some k_ ≠ (v460 : Value).ownBlock) v474 t471) ∧ Aside0 (Below w.heap.size w wc))
          case first =>
            have H := HC12.out
            clear HC12
            by_cases c29 : (l0.length : Int) > a2
            · rw [if_pos c29] at H
              have c29b0 : decide (a2 < (l0.length : Int)) = true := decide_eq_true c29
              clear c29
              (first | rw [c29b0] | (simp only [i64_w, i32_w]; rw [c29b0]) | skip)
              have H' := Aside0.mk H
              clear H
              go_wp2
              go_meet
              case rel => exact ⟨_, (true), (by first | rfl | (simp; done) | (simp [*]; done)), H', ⟨by first | omega | exact Nat.le_refl _⟩, ⟨by (with_reducible repeat (first | apply Kd.R_alloc | apply Kd.R_drewN | apply Kd.R_drew)); exact Kd.R_mono HO444.out (fun _ hk => hk.1.1)⟩, ⟨by (with_reducible repeat (first | apply Kd.R_alloc | apply Kd.R_drewN | apply Kd.R_drew)); exact Kd.R_mono HO447.out (fun _ hk => hk.1.1)⟩, ⟨by (with_reducible repeat (first | apply Kd.R_alloc | apply Kd.R_drewN | apply Kd.R_drew)); exact Kd.R_mono HO461.out (fun _ hk => hk.2)⟩, ⟨by (with_reducible repeat (first | apply Kd.R_alloc | apply Kd.R_drewN | apply Kd.R_drew)); exact Kd.R_mono HO475.out (fun _ hk => hk.2)⟩, ⟨by repeat (first | (with_reducible first | exact HB.out | apply below_alloc | apply pw_below_drewN | apply below_drew1) | exact HB.out)⟩⟩
            · rw [if_neg c29] at H
              have c29b0 : decide (a2 < (l0.length : Int)) = false := decide_eq_false c29
              clear c29
              (first | rw [c29b0] | (simp only [i64_w, i32_w]; rw [c29b0]) | skip)
              have H' := Aside0.mk H
              clear H
              go_wp2
              go_meet
              case rel => exact ⟨_, (decide ((l0.length : Int) > 65536)), (by first | rfl | (simp; done) | (simp [*]; done)), H', ⟨by first | omega | exact Nat.le_refl _⟩, ⟨by (with_reducible repeat (first | apply Kd.R_alloc | apply Kd.R_drewN | apply Kd.R_drew)); exact Kd.R_mono HO444.out (fun _ hk => hk.1.1)⟩, ⟨by (with_reducible repeat (first | apply Kd.R_alloc | apply Kd.R_drewN | apply Kd.R_drew)); exact Kd.R_mono HO447.out (fun _ hk => hk.1.1)⟩, ⟨by (with_reducible repeat (first | apply Kd.R_alloc | apply Kd.R_drewN | apply Kd.R_drew)); exact Kd.R_mono HO461.out (fun _ hk => hk.2)⟩, ⟨by (with_reducible repeat (first | apply Kd.R_alloc | apply Kd.R_drewN | apply Kd.R_drew)); exact Kd.R_mono HO475.out (fun _ hk => hk.2)⟩, ⟨by repeat (first | (with_reducible first | exact HB.out | apply below_alloc | apply pw_below_drewN | apply below_drew1) | exact HB.out)⟩⟩
          case rest =>
            clear HC12
            try clear c1
            try clear c2
            try clear p2
            try clear c3
            try clear c4
            try clear c6
            try clear c7
            try clear c9
            try clear c10
            try clear c25
            try clear c27
            try clear c29
            try clear c29b0
            obtain ⟨kq, x49_11, rfl, HA, HJ11, HO_7, HO_8, HO_9, HO_12, HB⟩ := hcut
            cases kq with
            | zero => exact absurd HA.out (by simp [stemmalaw03_ColumnBack.j0])
            | succ kj11 =>
              have H := HA.out
              clear HA
              simp only [stemmalaw03_ColumnBack.j0] at H
              by_cases c30 : x49_11 = true
              · subst c30
                have H1 : (if (l0.length : Int) = 0 then ((stemmalaw03_awake.f kj11).bind fun t476 => (some t476)) else (if t459 = 5 then (if t473 = 5 then ((stemmalaw03_awake.f kj11).bind fun t477 => (some t477)) else (some false)) else (some false))) = some r := by rw [if_pos rfl] at H; exact H
                clear H
                have H := H1
                clear H1
                by_cases c31 : (l0.length : Int) = 0
                · rw [if_pos c31] at H
                  have c31b0 : ((l0.length : Int) == 0) = true := beq_iff_eq.mpr c31
                  have c31b1 : ((l0.length : Int) != 0) = false := bne_eq_false_iff_eq.mpr c31
                  clear c31
                  replace H := Option.bind_eq_some_iff.mp H
                  obtain ⟨t476, A320, H⟩ := H
                  replace H : (some t476) = some r := H
                  have A32 := Aside0.mk A320
                  clear A320
                  obtain rfl := Option.some.inj H
                  go_wp2_with (first | (go_at_call 30; (with_reducible refine (stemmalaw03_awake.calls kj11  t476 _ A32.out).mono ?_); rintro e w33 ⟨rfl, hb⟩; have n0_ := Aside0.mk (Kd.R_below (by (with_reducible repeat (first | apply Kd.R_alloc | apply Kd.R_drewN | apply Kd.R_drew)); exact HO_7.out) hb); have n1_ := Aside0.mk (Kd.R_below (by (with_reducible repeat (first | apply Kd.R_alloc | apply Kd.R_drewN | apply Kd.R_drew)); exact HO_8.out) hb); have n2_ := Aside0.mk (Kd.R_below (by (with_reducible repeat (first | apply Kd.R_alloc | apply Kd.R_drewN | apply Kd.R_drew)); exact HO_9.out) hb); have n3_ := Aside0.mk (Kd.R_below (by (with_reducible repeat (first | apply Kd.R_alloc | apply Kd.R_drewN | apply Kd.R_drew)); exact HO_12.out) hb); have n4_ := Aside0.mk (below_step (by repeat (first | (with_reducible first | exact HB.out | apply below_alloc | apply pw_below_drewN | apply below_drew1) | exact HB.out)) hb); clear HO_7; clear HO_8; clear HO_9; clear HO_12; clear HB; have HO_7 := n0_; have HO_8 := n1_; have HO_9 := n2_; have HO_12 := n3_; have HB := n4_; clear n0_ n1_ n2_ n3_ n4_; (try clear hb); (try clear hb2); (try clear hk); (try clear hi)))
                  go_ret
                  exact ⟨by first | rfl | (simp [errW_none, errW_some] <;> rfl) | (simp [*, errW_none, errW_some] <;> rfl), by repeat (first | (with_reducible first | exact HB.out | apply below_alloc | apply pw_below_drewN | apply below_drew1) | exact HB.out)⟩
                · rw [if_neg c31] at H
                  have c31b0 : ((l0.length : Int) == 0) = false := beq_eq_false_iff_ne.mpr c31
                  have c31b1 : ((l0.length : Int) != 0) = true := bne_iff_ne.mpr c31
                  have c31b2 : ¬ (l0 = []) := fun h_ => c31 (by rw [h_]; rfl)
                  by_cases c34 : t459 = 5
                  · rw [if_pos c34] at H
                    have c34b0 : (t459 == 5) = true := beq_iff_eq.mpr c34
                    have c34b1 : (t459 != 5) = false := bne_eq_false_iff_eq.mpr c34
                    clear c34
                    by_cases c35 : t473 = 5
                    · rw [if_pos c35] at H
                      have c35b0 : (t473 == 5) = true := beq_iff_eq.mpr c35
                      have c35b1 : (t473 != 5) = false := bne_eq_false_iff_eq.mpr c35
                      clear c35
                      replace H := Option.bind_eq_some_iff.mp H
                      obtain ⟨t477, A360, H⟩ := H
                      replace H : (some t477) = some r := H
                      have A36 := Aside0.mk A360
                      clear A360
                      obtain rfl := Option.some.inj H
                      go_wp2_with (first | (go_at_call 30; (with_reducible refine (stemmalaw03_awake.calls kj11  t477 _ A36.out).mono ?_); rintro e w37 ⟨rfl, hb⟩; have n0_ := Aside0.mk (Kd.R_below (by (with_reducible repeat (first | apply Kd.R_alloc | apply Kd.R_drewN | apply Kd.R_drew)); exact HO_7.out) hb); have n1_ := Aside0.mk (Kd.R_below (by (with_reducible repeat (first | apply Kd.R_alloc | apply Kd.R_drewN | apply Kd.R_drew)); exact HO_8.out) hb); have n2_ := Aside0.mk (Kd.R_below (by (with_reducible repeat (first | apply Kd.R_alloc | apply Kd.R_drewN | apply Kd.R_drew)); exact HO_9.out) hb); have n3_ := Aside0.mk (Kd.R_below (by (with_reducible repeat (first | apply Kd.R_alloc | apply Kd.R_drewN | apply Kd.R_drew)); exact HO_12.out) hb); have n4_ := Aside0.mk (below_step (by repeat (first | (with_reducible first | exact HB.out | apply below_alloc | apply pw_below_drewN | apply below_drew1) | exact HB.out)) hb); clear HO_7; clear HO_8; clear HO_9; clear HO_12; clear HB; have HO_7 := n0_; have HO_8 := n1_; have HO_9 := n2_; have HO_12 := n3_; have HB := n4_; clear n0_ n1_ n2_ n3_ n4_; (try clear hb); (try clear hb2); (try clear hk); (try clear hi)))
                      go_ret
                      exact ⟨by first | rfl | (simp [errW_none, errW_some] <;> rfl) | (simp [*, errW_none, errW_some] <;> rfl), by repeat (first | (with_reducible first | exact HB.out | apply below_alloc | apply pw_below_drewN | apply below_drew1) | exact HB.out)⟩
                    · rw [if_neg c35] at H
                      have c35b0 : (t473 == 5) = false := beq_eq_false_iff_ne.mpr c35
                      have c35b1 : (t473 != 5) = true := bne_iff_ne.mpr c35
                      exact absurd ((Option.some.inj H).trans hr_.out) (by decide)
                  · rw [if_neg c34] at H
                    have c34b0 : (t459 == 5) = false := beq_eq_false_iff_ne.mpr c34
                    have c34b1 : (t459 != 5) = true := bne_iff_ne.mpr c34
                    exact absurd ((Option.some.inj H).trans hr_.out) (by decide)
              · replace c30 := Bool.eq_false_iff.mpr c30
                subst c30
                have H1 : ((stemmaref03_Same.f kj11 t457 l0).bind fun t478 => (if t478 = true then (if t458 = (t442.length : Int) then (if t459 = 0 then ((stemmaref03_Same.f kj11 t471 l0).bind fun t479 => (if t479 = true then (if t472 = (t445.length : Int) then (if t473 = 0 then ((stemmalaw03_awake.f kj11).bind fun t480 => (some t480)) else (some false)) else (some false)) else (some false))) else (some false)) else (some false)) else (some false))) = some r := by rw [if_neg (show ¬ (false = true) by decide)] at H; exact H
                clear H
                have H := H1
                clear H1
                replace H := Option.bind_eq_some_iff.mp H
                obtain ⟨t478, A380, H⟩ := H
                replace H : (if t478 = true then (if t458 = (t442.length : Int) then (if t459 = 0 then ((stemmaref03_Same.f kj11 t471 l0).bind fun t479 => (if t479 = true then (if t472 = (t445.length : Int) then (if t473 = 0 then ((stemmalaw03_awake.f kj11).bind fun t480 => (some t480)) else (some false)) else (some false)) else (some false))) else (some false)) else (some false)) else (some false)) = some r := H
                have A38 := Aside0.mk A380
                clear A380
                by_cases c39 : t478 = true
                · subst c39
                  have H1 : (if t458 = (t442.length : Int) then (if t459 = 0 then ((stemmaref03_Same.f kj11 t471 l0).bind fun t479 => (if t479 = true then (if t472 = (t445.length : Int) then (if t473 = 0 then ((stemmalaw03_awake.f kj11).bind fun t480 => (some t480)) else (some false)) else (some false)) else (some false))) else (some false)) else (some false)) = some r := by rw [if_pos rfl] at H; exact H
                  clear H
                  have H := H1
                  clear H1
                  by_cases c40 : t458 = (t442.length : Int)
                  · rw [if_pos c40] at H
                    have c40b0 : (t458 == (t442.length : Int)) = true := beq_iff_eq.mpr c40
                    have c40b1 : (t458 != (t442.length : Int)) = false := bne_eq_false_iff_eq.mpr c40
                    clear c40
                    by_cases c41 : t459 = 0
                    · rw [if_pos c41] at H
                      have c41b0 : (t459 == 0) = true := beq_iff_eq.mpr c41
                      have c41b1 : (t459 != 0) = false := bne_eq_false_iff_eq.mpr c41
                      clear c41
                      replace H := Option.bind_eq_some_iff.mp H
                      obtain ⟨t479, A420, H⟩ := H
                      replace H : (if t479 = true then (if t472 = (t445.length : Int) then (if t473 = 0 then ((stemmalaw03_awake.f kj11).bind fun t480 => (some t480)) else (some false)) else (some false)) else (some false)) = some r := H
                      have A42 := Aside0.mk A420
                      clear A420
                      by_cases c43 : t479 = true
                      · subst c43
                        have H1 : (if t472 = (t445.length : Int) then (if t473 = 0 then ((stemmalaw03_awake.f kj11).bind fun t480 => (some t480)) else (some false)) else (some false)) = some r := by rw [if_pos rfl] at H; exact H
                        clear H
                        have H := H1
                        clear H1
                        by_cases c44 : t472 = (t445.length : Int)
                        · rw [if_pos c44] at H
                          have c44b0 : (t472 == (t445.length : Int)) = true := beq_iff_eq.mpr c44
                          have c44b1 : (t472 != (t445.length : Int)) = false := bne_eq_false_iff_eq.mpr c44
                          clear c44
                          by_cases c45 : t473 = 0
                          · rw [if_pos c45] at H
                            have c45b0 : (t473 == 0) = true := beq_iff_eq.mpr c45
                            have c45b1 : (t473 != 0) = false := bne_eq_false_iff_eq.mpr c45
                            clear c45
                            replace H := Option.bind_eq_some_iff.mp H
                            obtain ⟨t480, A460, H⟩ := H
                            replace H : (some t480) = some r := H
                            have A46 := Aside0.mk A460
                            clear A460
                            obtain rfl := Option.some.inj H
                            obtain ⟨Ao47, co47, eo47⟩ := Kd.R_slice HO_9.out
                            subst eo47
                            go_wp2_with (first | ((with_reducible refine gate_callee (f := 29) rfl ?_); refine goesL_ (some 66) rfl rfl Try.func29 (by kernel_rfl) rfl #[.slice Ao47 t457.length co47, .slice A0 l0.length c0] rfl (by (try simp only [List.map_toArray, List.map_cons, List.map_nil]); first | done | rfl | (simp only [List.length_drop, List.length_take]; rfl)) ?_; (with_reducible refine (stemmaref03_Same.calls kj11 _ _ t457 _ _ l0 true _ ?side1 ?side2 ?side3 ?side4 A38.out).mono ?_); (case side1 => repeat (first | exact (Kd.R_reads' HO_9.out).2.2 | (with_reducible refine Kd.C_alloc ?_ _) | (with_reducible refine Kd.C_drewN ?_ _) | (with_reducible refine Kd.C_drew ?_))); (case side2 => exact (Kd.R_reads' HO_9.out).2.1); (case side3 => repeat (first | exact (Kd.C_below HR0.out HB.out) | (with_reducible refine Kd.C_alloc ?_ _) | (with_reducible refine Kd.C_drewN ?_ _) | (with_reducible refine Kd.C_drew ?_))); (case side4 => exact HC0.out); rintro e w' ⟨rfl, ⟨nd, rfl⟩⟩; refine ⟨_, rfl, ?_⟩; obtain ⟨Ao48, co48, eo48⟩ := Kd.R_slice HO_12.out; subst eo48) | (go_at_call 29; (with_reducible refine (stemmaref03_Same.calls kj11 _ _ t471 _ _ l0 true _ ?side1 ?side2 ?side3 ?side4 A42.out).mono ?_); (case side1 => repeat (first | exact (Kd.R_reads' HO_12.out).2.2 | (with_reducible refine Kd.C_alloc ?_ _) | (with_reducible refine Kd.C_drewN ?_ _) | (with_reducible refine Kd.C_drew ?_))); (case side2 => exact (Kd.R_reads' HO_12.out).2.1); (case side3 => repeat (first | exact (Kd.C_below HR0.out (by repeat (first | (with_reducible first | exact HB.out | apply below_alloc | apply pw_below_drewN | apply below_drew1) | exact HB.out))) | (with_reducible refine Kd.C_alloc ?_ _) | (with_reducible refine Kd.C_drewN ?_ _) | (with_reducible refine Kd.C_drew ?_))); (case side4 => exact HC0.out); rintro e w' ⟨rfl, ⟨nd, rfl⟩⟩) | (go_at_call 30; (with_reducible refine (stemmalaw03_awake.calls kj11  t480 _ A46.out).mono ?_); rintro e w49 ⟨rfl, hb⟩; have n0_ := Aside0.mk (Kd.R_below (by (with_reducible repeat (first | apply Kd.R_alloc | apply Kd.R_drewN | apply Kd.R_drew)); exact HO_7.out) hb); have n1_ := Aside0.mk (Kd.R_below (by (with_reducible repeat (first | apply Kd.R_alloc | apply Kd.R_drewN | apply Kd.R_drew)); exact HO_8.out) hb); have n2_ := Aside0.mk (Kd.R_below (by (with_reducible repeat (first | apply Kd.R_alloc | apply Kd.R_drewN | apply Kd.R_drew)); exact HO_9.out) hb); have n3_ := Aside0.mk (Kd.R_below (by (with_reducible repeat (first | apply Kd.R_alloc | apply Kd.R_drewN | apply Kd.R_drew)); exact HO_12.out) hb); have n4_ := Aside0.mk (below_step (by repeat (first | (with_reducible first | exact HB.out | apply below_alloc | apply pw_below_drewN | apply below_drew1) | exact HB.out)) hb); clear HO_7; clear HO_8; clear HO_9; clear HO_12; clear HB; have HO_7 := n0_; have HO_8 := n1_; have HO_9 := n2_; have HO_12 := n3_; have HB := n4_; clear n0_ n1_ n2_ n3_ n4_; (try clear hb); (try clear hb2); (try clear hk); (try clear hi)))
                            go_ret
                            exact ⟨by first | rfl | (simp [errW_none, errW_some] <;> rfl) | (simp [*, errW_none, errW_some] <;> rfl), by repeat (first | (with_reducible first | exact HB.out | apply below_alloc | apply pw_below_drewN | apply below_drew1) | exact HB.out)⟩
                          · rw [if_neg c45] at H
                            have c45b0 : (t473 == 0) = false := beq_eq_false_iff_ne.mpr c45
                            have c45b1 : (t473 != 0) = true := bne_iff_ne.mpr c45
                            exact absurd ((Option.some.inj H).trans hr_.out) (by decide)
                        · rw [if_neg c44] at H
                          have c44b0 : (t472 == (t445.length : Int)) = false := beq_eq_false_iff_ne.mpr c44
                          have c44b1 : (t472 != (t445.length : Int)) = true := bne_iff_ne.mpr c44
                          exact absurd ((Option.some.inj H).trans hr_.out) (by decide)
                      · replace c43 := Bool.eq_false_iff.mpr c43
                        subst c43
                        have H1 : (some false) = some r := by rw [if_neg (show ¬ (false = true) by decide)] at H; exact H
                        clear H
                        have H := H1
                        clear H1
                        exact absurd ((Option.some.inj H).trans hr_.out) (by decide)
                    · rw [if_neg c41] at H
                      have c41b0 : (t459 == 0) = false := beq_eq_false_iff_ne.mpr c41
                      have c41b1 : (t459 != 0) = true := bne_iff_ne.mpr c41
                      exact absurd ((Option.some.inj H).trans hr_.out) (by decide)
                  · rw [if_neg c40] at H
                    have c40b0 : (t458 == (t442.length : Int)) = false := beq_eq_false_iff_ne.mpr c40
                    have c40b1 : (t458 != (t442.length : Int)) = true := bne_iff_ne.mpr c40
                    exact absurd ((Option.some.inj H).trans hr_.out) (by decide)
                · replace c39 := Bool.eq_false_iff.mpr c39
                  subst c39
                  have H1 : (some false) = some r := by rw [if_neg (show ¬ (false = true) by decide)] at H; exact H
                  clear H
                  have H := H1
                  clear H1
                  exact absurd ((Option.some.inj H).trans hr_.out) (by decide)
        · rw [if_neg c10] at H
          exact absurd H (by simp)
      · rw [if_neg c9] at H
        exact absurd H (by simp)
    · rw [if_neg c7] at H
      exact absurd H (by simp)
  · rw [if_neg c6] at H
    exact absurd H (by simp)

/-- THE ONE PURE STATEMENT of stemmalaw03_ColumnBack: yours. -/
def stemmalaw03_ColumnBack.Pure : Prop := ∀ (l0 : List Int) (l1 : List Int) (a2 : Int), l0.length ≤ maxLen → l0.length * 8 ≤ 140737488351232 → (∀ x ∈ l0, (Lit.int .i64 x).wf = true) → l1.length ≤ maxLen → l1.length * 1 ≤ 140737488351232 → (∀ x ∈ l1, (Lit.int .u8 x).wf = true) → (Lit.int .i64 a2).wf = true → ∃ k, stemmalaw03_ColumnBack.f k l0 l1 a2 = some true
theorem stemmalaw03_ColumnBack.walk (P : stemmalaw03_ColumnBack.Pure) (a0 : Option Addr) (len0 cap0 : Nat) (z0 : List Int) (a1 : Option Addr) (len1 cap1 : Nat) (z1 : List Int) (a2 : Int) (w : World) (w0 : (a0 = none ∧ len0 = 0 ∧ cap0 = 0 ∧ z0 = []) ∨ ∃ x, a0 = some x ∧ len0 ≤ cap0 ∧ cap0 ≤ maxLen ∧ z0.length = cap0 ∧ (∀ i, i < z0.length → w.cell? (x.add i) = some (.int .i64 (z0.getD i 0))) ∧ ∀ n ∈ z0, (Lit.int .i64 n).wf = true) (y0 : len0 * 8 ≤ 140737488351232) (w1 : (a1 = none ∧ len1 = 0 ∧ cap1 = 0 ∧ z1 = []) ∨ ∃ x, a1 = some x ∧ len1 ≤ cap1 ∧ cap1 ≤ maxLen ∧ z1.length = cap1 ∧ (∀ i, i < z1.length → w.cell? (x.add i) = some (.int .u8 (z1.getD i 0))) ∧ ∀ n ∈ z1, (Lit.int .u8 n).wf = true) (y1 : len1 * 1 ≤ 140737488351232) (w2 : (Lit.int .i64 a2).wf = true) :
    Calls Try.prog 10 #[.slice a0 len0 cap0, .slice a1 len1 cap1, .int .i64 a2] w fun e w' => e = .returned (.bool true) ∧ Below w.heap.size w w' := by
  obtain ⟨l0, rfl, hr0, hm0, hw0, hc0⟩ := ReadsInt.ofRowC w0
  obtain ⟨l1, rfl, hr1, hm1, hw1, hc1⟩ := ReadsInt.ofRowC w1
  obtain ⟨k, h⟩ := P l0 l1 a2 hm0 y0 hw0 hm1 y1 hw1 w2
  refine (stemmalaw03_ColumnBack.calls k _ _ l0 _ _ l1 a2 true w (Kd.C_of_reads (d := (0 : Int)) (h1 := fun _ => rfl) hr0) hc0 (Kd.C_of_reads (d := (0 : Int)) (h1 := fun _ => rfl) hr1) hc1 ⟨rfl⟩ h).mono ?_
  rintro e w' ⟨rfl, hd⟩
  exact ⟨rfl, hd⟩

end Go.Proofs.Ytcffooeiennmjaa.PA
