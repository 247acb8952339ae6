/- Own texts of this claim, one behind the other (wip/tools/mergelist.py). -/
import Derived.Test.YtonpiacnljcohaaDoorPAx0
import Derived.Test.YtonpiacnljcohaaDoorPAx14
import Derived.Test.YtonpiacnljcohaaDoorPAx36
import Derived.Test.YtonpiacnljcohaaDoorPAx25
import Derived.Test.YtonpiacnljcohaaDoorMaG
-- Written by a program of this session (wip/tools/myprint.py), out of the translation's print. Lean checks it.
namespace Go.Proofs.YtonpiacnljcohaaDoor.PA
open Go.RowKit Go.Proofs.YtonpiacnljcohaaDoorW.PrintWords Go.Proofs.YtonpiacnljcohaaDoorW.PrintLast Go.Proofs.YtonpiacnljcohaaDoorW.PrintMore
attribute [local go_sem] max2_int min2_int max_two min_two max_three min_three max_four min_four   -- for this text's walks alone
set_option linter.unusedVariables false
set_option linter.unusedSimpArgs false

/-! ### stemmaref19_Put: function 26 -/
def stemmaref19_Put.j0 : Nat → Bool → Int → Int → List Int → Option (List Int × Int)
  | 0, _, _, _, _ => none
  | k + 1, x5, x398000, x398001, x398002 => if x5 = true then (some (([] : List Int), 2)) else (if (x398002.length : Int) > 524288 then (some (([] : List Int), 5)) else ((stemmaref02_Uint.f k (IntKind.u64.wrap (x398000))).bind fun t398 => ((stemmaref02_Uint.f k (IntKind.u64.wrap (x398001))).bind fun t401 => (if t398.length + t401.length < 140737488355328 then ((some (t398 ++ t401 : List Int)).bind fun y404 => (if y404.length + x398002.length < 140737488355328 then ((stemmaref04_Seal.f k 3 (y404 ++ x398002)).bind fun bt410 => (some (bt410.1, bt410.2))) else (none))) else (none)))))
def stemmaref19_Put.f (k : Nat) (a0_0 : Int) (a0_1 : Int) (l0_2 : List Int) : Option (List Int × Int) := if a0_0 < 1 then (stemmaref19_Put.j0 k true a0_0 a0_1 l0_2) else (if a0_0 > 999999 then (stemmaref19_Put.j0 k true a0_0 a0_1 l0_2) else (if a0_1 < 0 then (stemmaref19_Put.j0 k true a0_0 a0_1 l0_2) else (stemmaref19_Put.j0 k (decide (a0_1 > 16777216)) a0_0 a0_1 l0_2)))
theorem stemmaref19_Put.mono_l : ∀ k, (∀ y0 y1 y2 y3, LeO (stemmaref19_Put.j0 k y0 y1 y2 y3) (stemmaref19_Put.j0 (k + 1) y0 y1 y2 y3))
  | 0 => fun _ _ _ _ r h => by simp [stemmaref19_Put.j0] at h
  | k + 1 => by
    have ih0 := stemmaref19_Put.mono_l k
    · intro y0 y1 y2 y3
      unfold stemmaref19_Put.j0
      repeat' first
      | (with_reducible exact ih0 _ _ _ _)
      | (with_reducible exact stemmaref02_Uint.mono _ _)
      | (with_reducible exact stemmaref04_Seal.mono _ _ _)
      | (with_reducible exact LeO.refl _)
      | (with_reducible exact LeO.none _)
      | (with_reducible refine LeO.ite ?_ ?_)
      | (with_reducible refine LeO.bind ?_ (fun _ => ?_))
      | exact ih0 _ _ _ _
      | exact stemmaref02_Uint.mono _ _
      | exact stemmaref04_Seal.mono _ _ _
      | exact LeO.none _
      | refine LeO.ite ?_ ?_
      | refine LeO.bind ?_ (fun _ => ?_)
theorem stemmaref19_Put.mono : ∀ a0 a1 a2 k, LeO (stemmaref19_Put.f k a0 a1 a2) (stemmaref19_Put.f (k + 1) a0 a1 a2) := by
  intro a0 a1 a2 k
  have ih0 := stemmaref19_Put.mono_l k
  unfold stemmaref19_Put.f
  repeat' first
      | (with_reducible exact ih0 _ _ _ _)
      | (with_reducible exact stemmaref02_Uint.mono _ _)
      | (with_reducible exact stemmaref04_Seal.mono _ _ _)
      | (with_reducible exact LeO.refl _)
      | (with_reducible exact LeO.none _)
      | (with_reducible refine LeO.ite ?_ ?_)
      | (with_reducible refine LeO.bind ?_ (fun _ => ?_))
      | exact ih0 _ _ _ _
      | exact stemmaref02_Uint.mono _ _
      | exact stemmaref04_Seal.mono _ _ _
      | exact LeO.none _
      | refine LeO.ite ?_ ?_
      | refine LeO.bind ?_ (fun _ => ?_)
def stemmaref19_Put.T5 : Bool × List (List Nat × List Nat) := (true, [([], []), ([0], [0]), ([1], [1]), ([2], [2]), ([], []), ([4], [4]), ([5], [5]), ([6, 3], [6]), ([3, 7, 7], [3, 7]), ([8, 8, 0, 1, 2, 3, 4, 5, 6, 7, 8], [8])])
def stemmaref19_Put.B5 : List Nat := [0, 1, 3, 7, 0, 16, 48, 127, 255, 511]
theorem stemmaref19_Put.tab5 : rtab .any (opsOf Tryd.f26 5) = stemmaref19_Put.T5 := by kernel_rfl
theorem stemmaref19_Put.bits5 : waitsOk stemmaref19_Put.T5.2 stemmaref19_Put.B5 = true := by kernel_rfl
set_option maxHeartbeats 8000000 in
set_option maxRecDepth 100000 in
theorem stemmaref19_Put.calls (k : Nat) (a0_0 : Int) (a0_1 : Int) (A0_2 : Option Addr) (c0_2 : Nat) (l0_2 : List Int) (r1 : List Int) (r2 : Int) (w : World) (hr0_2 : Kd.C (Kd.int .u8) w A0_2 l0_2.length l0_2) (hc0_2 : l0_2.length ≤ c0_2) (h : stemmaref19_Put.f k a0_0 a0_1 l0_2 = some (r1, r2)) :
    Calls Tryd.prog 26 #[.agg #[.int .i64 a0_0, .int .i64 a0_1, .slice A0_2 l0_2.length c0_2]] w fun e w' => ∃ v0_ : Value, e = .returned (.tuple #[v0_, .int .i64 r2]) ∧ Kd.R (Kd.int .u8) 5 w' w.heap.size (fun _ => True) v0_ r1 ∧ Below w.heap.size w w' := by
  have hu62 := Tryd.underlying62
  have HR0_2 := Aside0.mk hr0_2
  have HC0_2 := Aside0.mk hc0_2
  clear hr0_2 hc0_2
  have HB := Aside0.mk (Below.refl w.heap.size w)
  have H : (if a0_0 < 1 then (stemmaref19_Put.j0 k true a0_0 a0_1 l0_2) else (if a0_0 > 999999 then (stemmaref19_Put.j0 k true a0_0 a0_1 l0_2) else (if a0_1 < 0 then (stemmaref19_Put.j0 k true a0_0 a0_1 l0_2) else (stemmaref19_Put.j0 k (decide (a0_1 > 16777216)) a0_0 a0_1 l0_2)))) = some (r1, r2) := h
  clear h
  have HC2 := Aside0.mk H
  clear H
  go_enter Tryd.func26, Tryd.ntmps26
  go_upto_region 1 with (first | ((with_reducible refine gate_dst (N := 1) rfl ?_); refine box_event ?hg (N := 1) ?hd (cs := #[.int .i64 a0_0, .int .i64 a0_1, .slice A0_2 l0_2.length c0_2]) (t := 62) ?hr ?_; (case hd => rfl); (case hg => rfl); (case hr => first | (go_simp; done) | (go_simp; rfl)); intro gb397 hg w3 hbox hb; have n0_ := Aside0.mk (below_step (by repeat (first | (with_reducible first | exact HB.out | apply below_alloc | apply pw_below_drewN | apply below_drew1) | exact HB.out)) hb); have n1_ := Aside0.mk (hbox); have n2_ := Aside0.mk ((by rw [hg]; exact (below_size (by repeat (first | (with_reducible first | exact HB.out | apply below_alloc | apply pw_below_drewN | apply below_drew1) | exact HB.out))) : w.heap.size ≤ gb397)); have n3_ := Aside0.mk ((by rw [hg]; exact (below_size (by repeat (first | (with_reducible first | exact HB.out | apply below_alloc | apply pw_below_drewN | apply below_drew1) | exact HB.out))) : w.heap.size ≤ gb397)); clear HB; have HB := n0_; have BK397 := n1_; have GW397 := n2_; have GE397 := n3_; clear n0_ n1_ n2_ n3_; clear hb hbox hg))
  (try simp only [Act.put, List.setIfInBounds_toArray, List.set_cons_zero, List.set_cons_succ])
  go_cut [5] (fun v5 wc => ∃ (kq : Nat) (x5_1 : Bool), v5 = .bool x5_1 ∧ Aside0 (stemmaref19_Put.j0 kq x5_1 a0_0 a0_1 l0_2 = some (r1, r2)) ∧ Aside0 (kq ≤ k) ∧ Aside0 (wc.heap[gb397]? = some (.cells #[.int .i64 a0_0, .int .i64 a0_1, (.slice A0_2 l0_2.length c0_2)] 62 (0, 0))) ∧ Aside0 (Below w.heap.size w wc))
  case first =>
    have H := HC2.out
    clear HC2
    by_cases c4 : a0_0 < 1
    · rw [if_pos c4] at H
      have c4b0 : decide (a0_0 < 1) = true := decide_eq_true c4
      clear c4
      (first | rw [c4b0] | (simp only [i64_w, i32_w]; rw [c4b0]) | skip)
      have H' := Aside0.mk H
      clear H
      have hcz5_0 : w3.cell? ⟨gb397, 0, none⟩ = some (.int .i64 a0_0) := (blk_cell BK397.out 0).trans rfl
      have hcz5_1 : w3.cell? ⟨gb397, 1, none⟩ = some (.int .i64 a0_1) := (blk_cell BK397.out 1).trans rfl
      have hcz5_2 : w3.cell? ⟨gb397, 2, none⟩ = some (.slice A0_2 l0_2.length c0_2) := (blk_cell BK397.out 2).trans rfl
      have hfz5_0 := blk_frozen BK397.out 0
      have hfz5_1 := blk_frozen BK397.out 1
      have hfz5_2 := blk_frozen BK397.out 2
      go_wp2
      go_meet
      case rel => exact ⟨_, (true), (by first | rfl | (simp; done) | (simp [*]; done)), H', ⟨by first | omega | exact Nat.le_refl _⟩, ⟨by (with_reducible repeat (first | refine blk_drewN ?_ _ | refine blk_drew ?_ | refine blk_alloc ?_ _)); exact BK397.out⟩, ⟨by repeat (first | (with_reducible first | exact HB.out | apply below_alloc | apply pw_below_drewN | apply below_drew1 | refine below_set ?_ GE397.out) | exact HB.out)⟩⟩
    · rw [if_neg c4] at H
      have c4b0 : decide (a0_0 < 1) = false := decide_eq_false c4
      clear c4
      (first | rw [c4b0] | (simp only [i64_w, i32_w]; rw [c4b0]) | skip)
      by_cases c6 : a0_0 > 999999
      · rw [if_pos c6] at H
        have c6b0 : decide (999999 < a0_0) = true := decide_eq_true c6
        clear c6
        have H' := Aside0.mk H
        clear H
        have hcz7_0 : w3.cell? ⟨gb397, 0, none⟩ = some (.int .i64 a0_0) := (blk_cell BK397.out 0).trans rfl
        have hcz7_1 : w3.cell? ⟨gb397, 1, none⟩ = some (.int .i64 a0_1) := (blk_cell BK397.out 1).trans rfl
        have hcz7_2 : w3.cell? ⟨gb397, 2, none⟩ = some (.slice A0_2 l0_2.length c0_2) := (blk_cell BK397.out 2).trans rfl
        have hfz7_0 := blk_frozen BK397.out 0
        have hfz7_1 := blk_frozen BK397.out 1
        have hfz7_2 := blk_frozen BK397.out 2
        go_wp2
        go_meet
        case rel => exact ⟨_, (true), (by first | rfl | (simp; done) | (simp [*]; done)), H', ⟨by first | omega | exact Nat.le_refl _⟩, ⟨by (with_reducible repeat (first | refine blk_drewN ?_ _ | refine blk_drew ?_ | refine blk_alloc ?_ _)); exact BK397.out⟩, ⟨by repeat (first | (with_reducible first | exact HB.out | apply below_alloc | apply pw_below_drewN | apply below_drew1 | refine below_set ?_ GE397.out) | exact HB.out)⟩⟩
      · rw [if_neg c6] at H
        have c6b0 : decide (999999 < a0_0) = false := decide_eq_false c6
        clear c6
        by_cases c8 : a0_1 < 0
        · rw [if_pos c8] at H
          have c8b0 : decide (a0_1 < 0) = true := decide_eq_true c8
          clear c8
          have H' := Aside0.mk H
          clear H
          have hcz9_0 : w3.cell? ⟨gb397, 0, none⟩ = some (.int .i64 a0_0) := (blk_cell BK397.out 0).trans rfl
          have hcz9_1 : w3.cell? ⟨gb397, 1, none⟩ = some (.int .i64 a0_1) := (blk_cell BK397.out 1).trans rfl
          have hcz9_2 : w3.cell? ⟨gb397, 2, none⟩ = some (.slice A0_2 l0_2.length c0_2) := (blk_cell BK397.out 2).trans rfl
          have hfz9_0 := blk_frozen BK397.out 0
          have hfz9_1 := blk_frozen BK397.out 1
          have hfz9_2 := blk_frozen BK397.out 2
          go_wp2
          go_meet
          case rel => exact ⟨_, (true), (by first | rfl | (simp; done) | (simp [*]; done)), H', ⟨by first | omega | exact Nat.le_refl _⟩, ⟨by (with_reducible repeat (first | refine blk_drewN ?_ _ | refine blk_drew ?_ | refine blk_alloc ?_ _)); exact BK397.out⟩, ⟨by repeat (first | (with_reducible first | exact HB.out | apply below_alloc | apply pw_below_drewN | apply below_drew1 | refine below_set ?_ GE397.out) | exact HB.out)⟩⟩
        · rw [if_neg c8] at H
          have c8b0 : decide (a0_1 < 0) = false := decide_eq_false c8
          clear c8
          have H' := Aside0.mk H
          clear H
          have hcz10_0 : w3.cell? ⟨gb397, 0, none⟩ = some (.int .i64 a0_0) := (blk_cell BK397.out 0).trans rfl
          have hcz10_1 : w3.cell? ⟨gb397, 1, none⟩ = some (.int .i64 a0_1) := (blk_cell BK397.out 1).trans rfl
          have hcz10_2 : w3.cell? ⟨gb397, 2, none⟩ = some (.slice A0_2 l0_2.length c0_2) := (blk_cell BK397.out 2).trans rfl
          have hfz10_0 := blk_frozen BK397.out 0
          have hfz10_1 := blk_frozen BK397.out 1
          have hfz10_2 := blk_frozen BK397.out 2
          go_wp2
          go_meet
          case rel => exact ⟨_, (decide (a0_1 > 16777216)), (by first | rfl | (simp; done) | (simp [*]; done)), H', ⟨by first | omega | exact Nat.le_refl _⟩, ⟨by (with_reducible repeat (first | refine blk_drewN ?_ _ | refine blk_drew ?_ | refine blk_alloc ?_ _)); exact BK397.out⟩, ⟨by repeat (first | (with_reducible first | exact HB.out | apply below_alloc | apply pw_below_drewN | apply below_drew1 | refine below_set ?_ GE397.out) | exact HB.out)⟩⟩
  case rest =>
    clear HC2
    try clear c2
    try clear p2
    try clear c4
    try clear c4b0
    try clear c6
    try clear c6b0
    try clear c8
    try clear c8b0
    try clear hcz10_0
    try clear hcz10_1
    try clear hcz10_2
    try clear hcz5_0
    try clear hcz5_1
    try clear hcz5_2
    try clear hcz7_0
    try clear hcz7_1
    try clear hcz7_2
    try clear hcz9_0
    try clear hcz9_1
    try clear hcz9_2
    try clear hfz10_0
    try clear hfz10_1
    try clear hfz10_2
    try clear hfz5_0
    try clear hfz5_1
    try clear hfz5_2
    try clear hfz7_0
    try clear hfz7_1
    try clear hfz7_2
    try clear hfz9_0
    try clear hfz9_1
    try clear hfz9_2
    obtain ⟨kq, x5_1, rfl, HA, HJ1, BK397, HB⟩ := hcut
    cases kq with
    | zero => exact absurd HA.out (by simp [stemmaref19_Put.j0])
    | succ kj1 =>
      have H := HA.out
      clear HA
      simp only [stemmaref19_Put.j0] at H
      by_cases c11 : x5_1 = true
      · subst c11
        have H1 : (some (([] : List Int), 2)) = some (r1, r2) := by rw [if_pos rfl] at H; exact H
        clear H
        have H := H1
        clear H1
        simp only [Option.some.injEq, Prod.mk.injEq] at H
        obtain ⟨rfl, rfl⟩ := H
        go_wp2
        go_ret2
        exact ⟨_, by first | rfl | (simp [errW_none, errW_some] <;> rfl) | (simp [*, errW_none, errW_some] <;> rfl), by first | exact Kd.R_nil _ _ _ _ _ | exact Kd.N_nil _ _ _ _ _ | exact Kd.V_nil _ _ _ _ _ | exact Kd.Q_nil _ _ _ _ _ | exact Kd.S_nil _ _ _ _ _, by repeat (first | (with_reducible first | exact HB.out | apply below_alloc | apply pw_below_drewN | apply below_drew1 | refine below_set ?_ GE397.out) | exact HB.out)⟩
      · replace c11 := Bool.eq_false_iff.mpr c11
        subst c11
        have H1 : (if (l0_2.length : Int) > 524288 then (some (([] : List Int), 5)) else ((stemmaref02_Uint.f kj1 (IntKind.u64.wrap (a0_0))).bind fun t398 => ((stemmaref02_Uint.f kj1 (IntKind.u64.wrap (a0_1))).bind fun t401 => (if t398.length + t401.length < 140737488355328 then ((some (t398 ++ t401 : List Int)).bind fun y404 => (if y404.length + l0_2.length < 140737488355328 then ((stemmaref04_Seal.f kj1 3 (y404 ++ l0_2)).bind fun bt410 => (some (bt410.1, bt410.2))) else (none))) else (none))))) = some (r1, r2) := by rw [if_neg (show ¬ (false = true) by decide)] at H; exact H
        clear H
        have H := H1
        clear H1
        by_cases c12 : (l0_2.length : Int) > 524288
        · rw [if_pos c12] at H
          have c12b0 : decide (524288 < (l0_2.length : Int)) = true := decide_eq_true c12
          have c12b1 : decide (524288 < l0_2.length) = true := decide_eq_true (by omega)
          clear c12
          simp only [Option.some.injEq, Prod.mk.injEq] at H
          obtain ⟨rfl, rfl⟩ := H
          have hcz13_0 : wc.cell? ⟨gb397, 0, none⟩ = some (.int .i64 a0_0) := (blk_cell BK397.out 0).trans rfl
          have hcz13_1 : wc.cell? ⟨gb397, 1, none⟩ = some (.int .i64 a0_1) := (blk_cell BK397.out 1).trans rfl
          have hcz13_2 : wc.cell? ⟨gb397, 2, none⟩ = some (.slice A0_2 l0_2.length c0_2) := (blk_cell BK397.out 2).trans rfl
          have hfz13_0 := blk_frozen BK397.out 0
          have hfz13_1 := blk_frozen BK397.out 1
          have hfz13_2 := blk_frozen BK397.out 2
          go_wp2
          go_ret2
          exact ⟨_, by first | rfl | (simp [errW_none, errW_some] <;> rfl) | (simp [*, errW_none, errW_some] <;> rfl), by first | exact Kd.R_nil _ _ _ _ _ | exact Kd.N_nil _ _ _ _ _ | exact Kd.V_nil _ _ _ _ _ | exact Kd.Q_nil _ _ _ _ _ | exact Kd.S_nil _ _ _ _ _, by repeat (first | (with_reducible first | exact HB.out | apply below_alloc | apply pw_below_drewN | apply below_drew1 | refine below_set ?_ GE397.out) | exact HB.out)⟩
        · rw [if_neg c12] at H
          have c12b0 : decide (524288 < (l0_2.length : Int)) = false := decide_eq_false c12
          have c12b1 : decide (524288 < l0_2.length) = false := decide_eq_false (by omega)
          clear c12
          replace H := Option.bind_eq_some_iff.mp H
          obtain ⟨t398, A140, H⟩ := H
          replace H : ((stemmaref02_Uint.f kj1 (IntKind.u64.wrap (a0_1))).bind fun t401 => (if t398.length + t401.length < 140737488355328 then ((some (t398 ++ t401 : List Int)).bind fun y404 => (if y404.length + l0_2.length < 140737488355328 then ((stemmaref04_Seal.f kj1 3 (y404 ++ l0_2)).bind fun bt410 => (some (bt410.1, bt410.2))) else (none))) else (none))) = some (r1, r2) := H
          have A14 := Aside0.mk A140
          clear A140
          replace H := Option.bind_eq_some_iff.mp H
          obtain ⟨t401, A150, H⟩ := H
          replace H : (if t398.length + t401.length < 140737488355328 then ((some (t398 ++ t401 : List Int)).bind fun y404 => (if y404.length + l0_2.length < 140737488355328 then ((stemmaref04_Seal.f kj1 3 (y404 ++ l0_2)).bind fun bt410 => (some (bt410.1, bt410.2))) else (none))) else (none)) = some (r1, r2) := H
          have A15 := Aside0.mk A150
          clear A150
          by_cases c16 : t398.length + t401.length < 140737488355328
          · rw [if_pos c16] at H
            have LMc16 := Aside0.mk c16
            clear c16
            obtain ⟨y404, hy404⟩ : ∃ y_ : List Int, y_ = (t398 ++ t401) := ⟨_, rfl⟩
            replace H : (if y404.length + l0_2.length < 140737488355328 then ((stemmaref04_Seal.f kj1 3 (y404 ++ l0_2)).bind fun bt410 => (some (bt410.1, bt410.2))) else (none)) = some (r1, r2) := by first | (rw [hy404]; with_reducible exact H) | (have H2_ := (Option.bind_some _ _).symm.trans H; rw [hy404]; with_reducible exact H2_) | (have H2_ := (Option.bind_some _ _).symm.trans H; with_reducible exact H2_) | with_reducible exact H | (rw [hy404]; exact H) | exact H
            have Ny404 := Aside0.mk hy404
            clear hy404
            by_cases c17 : y404.length + l0_2.length < 140737488355328
            · rw [if_pos c17] at H
              have LMc17 := Aside0.mk c17
              clear c17
              obtain ⟨y407, hy407⟩ : ∃ y_ : List Int, y_ = (y404 ++ l0_2) := ⟨_, rfl⟩
              replace H : ((stemmaref04_Seal.f kj1 3 y407).bind fun bt410 => (some (bt410.1, bt410.2))) = some (r1, r2) := by first | (rw [hy407]; with_reducible exact H) | (have H2_ := (Option.bind_some _ _).symm.trans H; rw [hy407]; with_reducible exact H2_) | (have H2_ := (Option.bind_some _ _).symm.trans H; with_reducible exact H2_) | with_reducible exact H | (rw [hy407]; exact H) | exact H
              have Ny407 := Aside0.mk hy407
              clear hy407
              replace H := Option.bind_eq_some_iff.mp H
              obtain ⟨⟨t410, t411⟩, A180, H⟩ := H
              replace H : (some (t410, t411)) = some (r1, r2) := H
              have A18 := Aside0.mk A180
              clear A180
              simp only [Option.some.injEq, Prod.mk.injEq] at H
              obtain ⟨rfl, rfl⟩ := H
              have hcz19_0 : wc.cell? ⟨gb397, 0, none⟩ = some (.int .i64 a0_0) := (blk_cell BK397.out 0).trans rfl
              have hcz19_1 : wc.cell? ⟨gb397, 1, none⟩ = some (.int .i64 a0_1) := (blk_cell BK397.out 1).trans rfl
              have hcz19_2 : wc.cell? ⟨gb397, 2, none⟩ = some (.slice A0_2 l0_2.length c0_2) := (blk_cell BK397.out 2).trans rfl
              have hfz19_0 := blk_frozen BK397.out 0
              have hfz19_1 := blk_frozen BK397.out 1
              have hfz19_2 := blk_frozen BK397.out 2
              try go_wp2
              have n0_ := Aside0.mk (blk_drew BK397.out)
              have n1_ := Aside0.mk (below_drew1 HB.out)
              clear BK397
              clear HB
              have BK397 := n0_
              have HB := n1_
              clear n0_ n1_
              refine start_ (n := 10) (S := fun w' => w'.cell? ⟨gb397, 0, none⟩ = some (.int .i64 a0_0) ∧ w'.cell? ⟨gb397, 1, none⟩ = some (.int .i64 a0_1) ∧ w'.cell? ⟨gb397, 2, none⟩ = some (.slice A0_2 l0_2.length c0_2)) (ds := []) #[false, false, false, false, false, false, false, false, false, false] (by kernel_rfl) rfl rfl ⟨(blk_cell BK397.out 0).trans rfl, (blk_cell BK397.out 1).trans rfl, (blk_cell BK397.out 2).trans rfl⟩ (fun hHeld => ?_); refine with_tabW stemmaref19_Put.tab5 stemmaref19_Put.bits5 (fun HT_ HW_ => ?_)
              generalize wc.drew = w20 at BK397 HB hHeld ⊢
              refine pure_ (i := 0) (N := some 29) (v := ?_) (a' := ?_) #[true, false, false, false, false, false, false, false, false, false] rfl rfl (any_of HT_.out (by kernel_rfl)) (fun _ _ _ h => h) (Or.inl ⟨by rfl, ?_⟩) ?_ ?_
              rotate_left
              · intro w'
                go_simp
                with_reducible rfl
              rotate_left
              · simp only [Act.put, List.setIfInBounds_toArray, List.set_cons_zero, List.set_cons_succ, i64_w, i32_w]
                rfl
              refine pure_ (i := 4) (N := some 33) (v := ?_) (a' := ?_) #[true, false, false, false, true, false, false, false, false, false] rfl rfl (any_of HT_.out (by kernel_rfl)) (fun _ _ _ h => h) (Or.inl ⟨by rfl, ?_⟩) ?_ ?_
              rotate_left
              · intro w'
                go_simp
                with_reducible rfl
              rotate_left
              · simp only [Act.put, List.setIfInBounds_toArray, List.set_cons_zero, List.set_cons_succ, i64_w, i32_w]
                rfl
              refine take_ (i := 1) (N := some 30) (v := ?_) (a' := ?_) #[true, true, false, false, true, false, false, false, false, false] rfl rfl (take_ofW HT_.out HW_.out (by kernel_rfl)) (fun _ _ _ h => h) (Or.inl ⟨by rfl, ?_⟩) hHeld ?_ ?_
              rotate_left
              · rintro w' ⟨s0, s1, s2⟩
                go_simp
                with_reducible rfl
              rotate_left
              · simp only [Act.put, List.setIfInBounds_toArray, List.set_cons_zero, List.set_cons_succ, i64_w, i32_w]
                rfl
              refine pure_ (i := 2) (N := some 31) (v := ?_) (a' := ?_) #[true, true, true, false, true, false, false, false, false, false] rfl rfl (any_of HT_.out (by kernel_rfl)) (fun _ _ _ h => h) (Or.inl ⟨by rfl, ?_⟩) ?_ ?_
              rotate_left
              · intro w'
                go_simp
                with_reducible rfl
              rotate_left
              · simp only [Act.put, List.setIfInBounds_toArray, List.set_cons_zero, List.set_cons_succ, i64_w, i32_w]
                rfl
              refine take_ (i := 5) (N := some 34) (v := ?_) (a' := ?_) #[true, true, true, false, true, true, false, false, false, false] rfl rfl (take_ofW HT_.out HW_.out (by kernel_rfl)) (fun _ _ _ h => h) (Or.inl ⟨by rfl, ?_⟩) hHeld ?_ ?_
              rotate_left
              · rintro w' ⟨s0, s1, s2⟩
                go_simp
                with_reducible rfl
              rotate_left
              · simp only [Act.put, List.setIfInBounds_toArray, List.set_cons_zero, List.set_cons_succ, i64_w, i32_w]
                rfl
              refine pure_ (i := 6) (N := some 35) (v := ?_) (a' := ?_) #[true, true, true, false, true, true, true, false, false, false] rfl rfl (any_of HT_.out (by kernel_rfl)) (fun _ _ _ h => h) (Or.inl ⟨by rfl, ?_⟩) ?_ ?_
              rotate_left
              · intro w'
                go_simp
                with_reducible rfl
              rotate_left
              · simp only [Act.put, List.setIfInBounds_toArray, List.set_cons_zero, List.set_cons_succ, i64_w, i32_w]
                rfl
              refine one_ (i := 3) (N := some 32) #[true, true, true, true, true, true, true, false, false, false] rfl rfl (one_of HT_.out (by kernel_rfl)) (by decide) (fun K hK => ?_)
              refine goes_ Tryd.func36 (by kernel_rfl) rfl #[.int .u64 (IntKind.u64.wrap (a0_0))] (by rfl) rfl rfl (by (try simp only [List.map_toArray, List.map_cons, List.map_nil]); first | done | rfl | (simp only [List.length_drop, List.length_take]; rfl)) ?_
              with_reducible refine (stemmaref02_Uint.calls kj1 (IntKind.u64.wrap (a0_0)) t398 _ A14.out).mono ?_
              rintro e w21 ⟨v399, rfl, ho0, hb⟩
              refine ⟨_, rfl, ?_⟩
              have n0_ := Aside0.mk (Kd.R_lower ho0 (below_size (by repeat (first | (with_reducible first | exact HB.out | apply below_alloc | apply pw_below_drewN | apply below_drew1 | refine below_set ?_ GE397.out) | exact HB.out))))
              have n1_ := Aside0.mk (blk_below (g := gb397) (o := .cells #[.int .i64 a0_0, .int .i64 a0_1, .slice A0_2 l0_2.length c0_2] 62 (0, 0)) (by (with_reducible repeat (first | refine blk_drewN ?_ _ | refine blk_drew ?_ | refine blk_alloc ?_ _)); exact BK397.out) hb)
              have n2_ := Aside0.mk (below_step (by repeat (first | (with_reducible first | exact HB.out | apply below_alloc | apply pw_below_drewN | apply below_drew1 | refine below_set ?_ GE397.out) | exact HB.out)) hb)
              clear BK397
              clear HB
              have HO400 := n0_
              have BK397 := n1_
              have HB := n2_
              clear n0_ n1_ n2_
              (try clear hb)
              (try clear hb2)
              (try clear hk)
              (try clear hi)
              (try clear ho0)
              refine hK.out _ _ ⟨(blk_cell BK397.out 0).trans rfl, (blk_cell BK397.out 1).trans rfl, (blk_cell BK397.out 2).trans rfl⟩ (fun hHeld => ?_)
              clear hK K
              refine norm_ (a' := ?_) ?_ ?_
              rotate_left
              · show Act.put _ (some 32) _ = _
                simp only [Act.put, List.setIfInBounds_toArray, List.set_cons_zero, List.set_cons_succ, i64_w, i32_w]
                rfl
              refine one_ (i := 7) (N := some 36) #[true, true, true, true, true, true, true, true, false, false] rfl rfl (one_of HT_.out (by kernel_rfl)) (by decide) (fun K hK => ?_)
              refine goes_ Tryd.func36 (by kernel_rfl) rfl #[.int .u64 (IntKind.u64.wrap (a0_1))] (by rfl) rfl rfl (by (try simp only [List.map_toArray, List.map_cons, List.map_nil]); first | done | rfl | (simp only [List.length_drop, List.length_take]; rfl)) ?_
              with_reducible refine (stemmaref02_Uint.calls kj1 (IntKind.u64.wrap (a0_1)) t401 _ A15.out).mono ?_
              rintro e w22 ⟨v402, rfl, ho0, hb⟩
              refine ⟨_, rfl, ?_⟩
              have n0_ := Aside0.mk (Kd.R_elder' (by (with_reducible repeat (first | apply Kd.R_alloc | apply Kd.R_drewN | apply Kd.R_drew)); exact HO400.out) (Kd.R_base ho0) hb)
              have n1_ := Aside0.mk (Kd.R_lower (Kd.R_new' ho0 (Kd.R_lt (by (with_reducible repeat (first | apply Kd.R_alloc | apply Kd.R_drewN | apply Kd.R_drew)); exact HO400.out))) (below_size (by repeat (first | (with_reducible first | exact HB.out | apply below_alloc | apply pw_below_drewN | apply below_drew1 | refine below_set ?_ GE397.out) | exact HB.out))))
              have n2_ := Aside0.mk (blk_below (g := gb397) (o := .cells #[.int .i64 a0_0, .int .i64 a0_1, .slice A0_2 l0_2.length c0_2] 62 (0, 0)) (by (with_reducible repeat (first | refine blk_drewN ?_ _ | refine blk_drew ?_ | refine blk_alloc ?_ _)); exact BK397.out) hb)
              have n3_ := Aside0.mk (below_step (by repeat (first | (with_reducible first | exact HB.out | apply below_alloc | apply pw_below_drewN | apply below_drew1 | refine below_set ?_ GE397.out) | exact HB.out)) hb)
              clear HO400
              clear BK397
              clear HB
              have HO400 := n0_
              have HO403 := n1_
              have BK397 := n2_
              have HB := n3_
              clear n0_ n1_ n2_ n3_
              (try clear hb)
              (try clear hb2)
              (try clear hk)
              (try clear hi)
              (try clear ho0)
              obtain ⟨Ao24, co24, eo24⟩ := Kd.R_slice HO403.out
              (first | subst eo24 | (injection eo24 with f1_ f2_ f3_; have f4_ := f1_.symm; have f5_ := f3_.symm; clear f1_ f2_ f3_; subst f4_; subst f5_))
              refine hK.out _ _ ⟨(blk_cell BK397.out 0).trans rfl, (blk_cell BK397.out 1).trans rfl, (blk_cell BK397.out 2).trans rfl⟩ (fun hHeld => ?_)
              clear hK K
              refine norm_ (a' := ?_) ?_ ?_
              rotate_left
              · show Act.put _ (some 36) _ = _
                simp only [Act.put, List.setIfInBounds_toArray, List.set_cons_zero, List.set_cons_succ, i64_w, i32_w]
                rfl
              refine one_ (i := 8) (N := some 37) #[true, true, true, true, true, true, true, true, true, false] rfl rfl (one_of HT_.out (by kernel_rfl)) (by decide) (fun K hK => ?_)
              refine Kd.R_append_rows_step (Kd.int .u8) (w0 := w) w.heap.size (by rfl) (.tmp 32) (.tmp 36) 22 5 (.int .u8 0) 1 rfl Tryd.underlying22 info5 rfl (by decide) (by omega) v399 t398 t401 _ _ _ (fun k_ => some k_ ≠ (.slice Ao24 t401.length co24 : Value).ownBlock) (fun _ => False) rfl rfl ?aO ?aR (fun _ _ h => h) (fun _ h => h.elim) ?aF ?aB ?aS ?aL ?_
              (case aR => repeat (first | exact (Kd.R_reads' HO403.out).2.2 | (with_reducible refine Kd.C_alloc ?_ _) | (with_reducible refine Kd.C_drewN ?_ _) | (with_reducible refine Kd.C_drew ?_)))
              (case aB => exact (by repeat (first | (with_reducible first | exact HB.out | apply below_alloc | apply pw_below_drewN | apply below_drew1 | refine below_set ?_ GE397.out) | exact HB.out)))
              (case aF => exact (fun k_ hk => Kd.fresh' (Kd.R_lt (by (with_reducible repeat (first | apply Kd.R_alloc | apply Kd.R_drewN | apply Kd.R_drew)); exact HO403.out)) k_ hk))
              (case aO => exact (by (with_reducible repeat (first | apply Kd.R_alloc | apply Kd.R_drewN | apply Kd.R_drew)); exact Kd.R_mono HO400.out (fun _ hk => hk.2)))
              (case aS => exact (below_size (by repeat (first | (with_reducible first | exact HB.out | apply below_alloc | apply pw_below_drewN | apply below_drew1 | refine below_set ?_ GE397.out) | exact HB.out))))
              (case aL => have := LMc16.out; omega)
              intro v405 w23 ho hb hg hat
              rw [← Ny404.out] at ho
              have n0_ := Aside0.mk (blk_grown (g := gb397) (o := .cells #[.int .i64 a0_0, .int .i64 a0_1, .slice A0_2 l0_2.length c0_2] 62 (0, 0)) (by (with_reducible repeat (first | refine blk_drewN ?_ _ | refine blk_drew ?_ | refine blk_alloc ?_ _)); exact BK397.out) hg (Kd.R_ne HO400.out BK397.out (by decide)))
              have n1_ := Aside0.mk (Kd.R_after (ok := (fun _ => True)) (by (with_reducible repeat (first | apply Kd.R_alloc | apply Kd.R_drewN | apply Kd.R_drew)); exact HO403.out) hg hat)
              have n2_ := Aside0.mk (hb)
              have n3_ := Aside0.mk (ho)
              clear BK397
              clear HO403
              clear HB
              clear HO400
              have BK397 := n0_
              have HO403 := n1_
              have HB := n2_
              have HO406 := n3_
              clear n0_ n1_ n2_ n3_
              clear ho hb hg hat
              refine hK.out _ _ ⟨(blk_cell BK397.out 0).trans rfl, (blk_cell BK397.out 1).trans rfl, (blk_cell BK397.out 2).trans rfl⟩ (fun hHeld => ?_)
              clear hK K
              refine norm_ (a' := ?_) ?_ ?_
              rotate_left
              · show Act.put _ (some 37) _ = _
                simp only [Act.put, List.setIfInBounds_toArray, List.set_cons_zero, List.set_cons_succ, i64_w, i32_w]
                rfl
              refine pure_ (i := 9) (N := some 4) (v := ?_) (a' := ?_) #[true, true, true, true, true, true, true, true, true, true] rfl rfl (any_of HT_.out (by kernel_rfl)) (fun _ _ _ h => h) (Or.inl ⟨by rfl, ?_⟩) ?_ ?_
              rotate_left
              · intro w'
                go_simp
                with_reducible rfl
              rotate_left
              · simp only [Act.put, List.setIfInBounds_toArray, List.set_cons_zero, List.set_cons_succ, i64_w, i32_w]
                rfl
              refine done_ (done_of HT_.out (by kernel_rfl)) ?_
              have hcz25_0 : w23.cell? ⟨gb397, 0, none⟩ = some (.int .i64 a0_0) := (blk_cell BK397.out 0).trans rfl
              have hcz25_1 : w23.cell? ⟨gb397, 1, none⟩ = some (.int .i64 a0_1) := (blk_cell BK397.out 1).trans rfl
              have hcz25_2 : w23.cell? ⟨gb397, 2, none⟩ = some (.slice A0_2 l0_2.length c0_2) := (blk_cell BK397.out 2).trans rfl
              have hfz25_0 := blk_frozen BK397.out 0
              have hfz25_1 := blk_frozen BK397.out 1
              have hfz25_2 := blk_frozen BK397.out 2
              try go_wp2_with (first | ((with_reducible refine gate_builtin (b := .append) (xs := #[.tmp 38, .tmp 40]) rfl ?_); at_builtin; refine Kd.R_append_rows (Kd.int .u8) (w0 := w) w.heap.size rfl (.tmp 38) (.tmp 40) 22 5 (.int .u8 0) 1 rfl Tryd.underlying22 info5 rfl (by decide) (by omega) v405 y404 l0_2 _ _ _ (fun k_ => some k_ ≠ (.slice Ao24 t401.length co24 : Value).ownBlock) (fun _ => False) rfl rfl ?aO ?aR (fun _ _ h => h) (fun _ h => h.elim) ?aF ?aB ?aS ?aL ?_; (case aR => repeat (first | exact (Kd.C_below HR0_2.out HB.out) | (with_reducible refine Kd.C_alloc ?_ _) | (with_reducible refine Kd.C_drewN ?_ _) | (with_reducible refine Kd.C_drew ?_))); (case aB => exact (by repeat (first | (with_reducible first | exact HB.out | apply below_alloc | apply pw_below_drewN | apply below_drew1 | refine below_set ?_ GE397.out) | exact HB.out))); (case aF => exact (fun k_ hk => Kd.fresh' (Kd.R_lt (by (with_reducible repeat (first | apply Kd.R_alloc | apply Kd.R_drewN | apply Kd.R_drew)); exact HO403.out)) k_ hk)); (case aO => exact (by (with_reducible repeat (first | apply Kd.R_alloc | apply Kd.R_drewN | apply Kd.R_drew)); exact HO406.out)); (case aS => exact (below_size (by repeat (first | (with_reducible first | exact HB.out | apply below_alloc | apply pw_below_drewN | apply below_drew1 | refine below_set ?_ GE397.out) | exact HB.out)))); (case aL => have := LMc17.out; omega); intro v408 w26 ho hb hg hat; rw [← Ny407.out] at ho; have n0_ := Aside0.mk (blk_grown (g := gb397) (o := .cells #[.int .i64 a0_0, .int .i64 a0_1, .slice A0_2 l0_2.length c0_2] 62 (0, 0)) (by (with_reducible repeat (first | refine blk_drewN ?_ _ | refine blk_drew ?_ | refine blk_alloc ?_ _)); exact BK397.out) hg (Kd.R_ne HO406.out BK397.out (by decide))); have n1_ := Aside0.mk (Kd.R_after (ok := (fun _ => True)) (by (with_reducible repeat (first | apply Kd.R_alloc | apply Kd.R_drewN | apply Kd.R_drew)); exact HO403.out) hg hat); have n2_ := Aside0.mk (hb); have n3_ := Aside0.mk (ho); clear BK397; clear HO403; clear HB; clear HO406; have BK397 := n0_; have HO403 := n1_; have HB := n2_; have HO409 := n3_; clear n0_ n1_ n2_ n3_; clear ho hb hg hat; obtain ⟨Ao27, co27, eo27⟩ := Kd.R_slice HO409.out; subst eo27) | ((with_reducible refine gate_callee (f := 14) rfl ?_); refine goesL_ (some 42) rfl rfl Tryd.func14 (by kernel_rfl) rfl #[.int .u8 3, .slice Ao27 y407.length co27] rfl (by (try simp only [List.map_toArray, List.map_cons, List.map_nil]); first | done | rfl | (simp only [List.length_drop, List.length_take]; rfl)) ?_; (with_reducible refine (stemmaref04_Seal.calls kj1 3 _ _ y407 t410 t411 _ ?side1 ?side2 A18.out).mono ?_); (case side1 => repeat (first | exact (Kd.R_reads' HO409.out).2.2 | (with_reducible refine Kd.C_alloc ?_ _) | (with_reducible refine Kd.C_drewN ?_ _) | (with_reducible refine Kd.C_drew ?_))); (case side2 => exact (Kd.R_reads' HO409.out).2.1); rintro e w28 ⟨v412, rfl, ho0, hb⟩; refine ⟨_, rfl, ?_⟩; have n0_ := Aside0.mk (Kd.R_elder' (by (with_reducible repeat (first | apply Kd.R_alloc | apply Kd.R_drewN | apply Kd.R_drew)); exact HO403.out) (Kd.R_base ho0) hb); have n1_ := Aside0.mk (Kd.R_elder' (by (with_reducible repeat (first | apply Kd.R_alloc | apply Kd.R_drewN | apply Kd.R_drew)); exact HO409.out) (Kd.R_base ho0) hb); have n2_ := Aside0.mk (Kd.R_lower (Kd.R_new' (Kd.R_new' ho0 (Kd.R_lt (by (with_reducible repeat (first | apply Kd.R_alloc | apply Kd.R_drewN | apply Kd.R_drew)); exact HO403.out))) (Kd.R_lt (by (with_reducible repeat (first | apply Kd.R_alloc | apply Kd.R_drewN | apply Kd.R_drew)); exact HO409.out))) (below_size (by repeat (first | (with_reducible first | exact HB.out | apply below_alloc | apply pw_below_drewN | apply below_drew1 | refine below_set ?_ GE397.out) | exact HB.out)))); have n3_ := Aside0.mk (blk_below (g := gb397) (o := .cells #[.int .i64 a0_0, .int .i64 a0_1, .slice A0_2 l0_2.length c0_2] 62 (0, 0)) (by (with_reducible repeat (first | refine blk_drewN ?_ _ | refine blk_drew ?_ | refine blk_alloc ?_ _)); exact BK397.out) hb); have n4_ := Aside0.mk (below_step (by repeat (first | (with_reducible first | exact HB.out | apply below_alloc | apply pw_below_drewN | apply below_drew1 | refine below_set ?_ GE397.out) | exact HB.out)) hb); clear HO403; clear HO409; clear BK397; clear HB; have HO403 := n0_; have HO409 := n1_; have HO413 := n2_; have BK397 := n3_; have HB := n4_; clear n0_ n1_ n2_ n3_ n4_; (try clear hb); (try clear hb2); (try clear hk); (try clear hi); (try clear ho0)))
              go_ret2
              exact ⟨_, by first | rfl | (simp [errW_none, errW_some] <;> rfl) | (simp [*, errW_none, errW_some] <;> rfl), by (with_reducible repeat (first | apply Kd.R_alloc | apply Kd.R_drewN | apply Kd.R_drew)); exact Kd.R_mono HO413.out (fun _ hk => trivial), by repeat (first | (with_reducible first | exact HB.out | apply below_alloc | apply pw_below_drewN | apply below_drew1 | refine below_set ?_ GE397.out) | exact HB.out)⟩
            · rw [if_neg c17] at H
              exact absurd H (by simp)
          · rw [if_neg c16] at H
            exact absurd H (by simp)

end Go.Proofs.YtonpiacnljcohaaDoor.PA

-- Written by a program of this session (wip/tools/myprint.py), out of the translation's print. Lean checks it.
namespace Go.Proofs.YtonpiacnljcohaaDoor.PA
open Go.RowKit Go.Proofs.YtonpiacnljcohaaDoorW.PrintWords Go.Proofs.YtonpiacnljcohaaDoorW.PrintLast Go.Proofs.YtonpiacnljcohaaDoorW.PrintMore
attribute [local go_sem] max2_int min2_int max_two min_two max_three min_three max_four min_four   -- for this text's walks alone
set_option linter.unusedVariables false
set_option linter.unusedSimpArgs false

/-! ### stemmalaw19_awake: function 27 -/
def stemmalaw19_awake.f (k : Nat)  : Option (Bool) := (manifest_Put.f k 1 0 ([] : List Int)).bind fun bt414 => ((manifest_Get.f bt414.1).bind fun bt418 => (if (bt414.1.length : Int) = 8 then (if 4 ≤ (bt414.1.length : Int) then (if (strOfNums (bt414.1.take 4)).toList = ([3, 2, 1, 0] : List UInt8) then (if bt414.2 = 0 then (if bt418.2.2.2 = 0 then (if bt418.1 = 1 then (some true) else (some false)) else (some false)) else (some false)) else (some false)) else (none)) else (some false)))
theorem stemmalaw19_awake.mono : ∀ k, LeO (stemmalaw19_awake.f k ) (stemmalaw19_awake.f (k + 1) ) := by
  intro  k
  unfold stemmalaw19_awake.f
  repeat' first
      | (with_reducible exact manifest_Put.mono _ _ _ _)
      | (with_reducible exact LeO.refl _)
      | (with_reducible exact LeO.none _)
      | (with_reducible refine LeO.ite ?_ ?_)
      | (with_reducible refine LeO.bind ?_ (fun _ => ?_))
      | exact manifest_Put.mono _ _ _ _
      | exact LeO.none _
      | refine LeO.ite ?_ ?_
      | refine LeO.bind ?_ (fun _ => ?_)
set_option maxHeartbeats 8000000 in
set_option maxRecDepth 100000 in
theorem stemmalaw19_awake.calls (k : Nat)  (r : Bool) (w : World) (hG_ : Gl w) (h : stemmalaw19_awake.f k  = some r) :
    Calls Tryd.prog 27 #[] w fun e w' => e = .returned (.bool r) ∧ Below w.heap.size w w' := by
  have hu60 := Tryd.underlying60
  have HG := Aside0.mk hG_
  clear hG_
  have HB := Aside0.mk (Below.refl w.heap.size w)
  have H : ((manifest_Put.f k 1 0 ([] : List Int)).bind fun bt414 => ((manifest_Get.f bt414.1).bind fun bt418 => (if (bt414.1.length : Int) = 8 then (if 4 ≤ (bt414.1.length : Int) then (if (strOfNums (bt414.1.take 4)).toList = ([3, 2, 1, 0] : List UInt8) then (if bt414.2 = 0 then (if bt418.2.2.2 = 0 then (if bt418.1 = 1 then (some true) else (some false)) else (some false)) else (some false)) else (some false)) else (none)) else (some false)))) = some r := h
  clear h
  replace H := Option.bind_eq_some_iff.mp H
  obtain ⟨⟨t414, t417⟩, A10, H⟩ := H
  replace H : ((manifest_Get.f t414).bind fun bt418 => (if (t414.length : Int) = 8 then (if 4 ≤ (t414.length : Int) then (if (strOfNums (t414.take 4)).toList = ([3, 2, 1, 0] : List UInt8) then (if t417 = 0 then (if bt418.2.2.2 = 0 then (if bt418.1 = 1 then (some true) else (some false)) else (some false)) else (some false)) else (some false)) else (none)) else (some false))) = some r := H
  have A1 := Aside0.mk A10
  clear A10
  replace H := Option.bind_eq_some_iff.mp H
  obtain ⟨⟨t418, t419, t420, t423⟩, A20, H⟩ := H
  replace H : (if (t414.length : Int) = 8 then (if 4 ≤ (t414.length : Int) then (if (strOfNums (t414.take 4)).toList = ([3, 2, 1, 0] : List UInt8) then (if t417 = 0 then (if t423 = 0 then (if t418 = 1 then (some true) else (some false)) else (some false)) else (some false)) else (some false)) else (none)) else (some false)) = some r := H
  have A2 := Aside0.mk A20
  clear A20
  by_cases c3 : (t414.length : Int) = 8
  · rw [if_pos c3] at H
    have c3b0 : ((t414.length : Int) == 8) = true := beq_iff_eq.mpr c3
    have c3b1 : ((t414.length : Int) != 8) = false := bne_eq_false_iff_eq.mpr c3
    clear c3
    by_cases c4 : 4 ≤ (t414.length : Int)
    · rw [if_pos c4] at H
      have c4b0 := eq_true c4
      have c4b1 : decide (4 ≤ (t414.length : Int)) = true := decide_eq_true c4
      clear c4
      obtain ⟨y425, hy425⟩ : ∃ y_ : List Int, y_ = (t414.take 4) := ⟨_, rfl⟩
      replace H : (if (strOfNums y425).toList = ([3, 2, 1, 0] : List UInt8) then (if t417 = 0 then (if t423 = 0 then (if t418 = 1 then (some true) else (some false)) else (some false)) else (some false)) else (some false)) = some r := by first | (rw [hy425]; with_reducible exact H) | (have H2_ := (Option.bind_some _ _).symm.trans H; rw [hy425]; with_reducible exact H2_) | (have H2_ := (Option.bind_some _ _).symm.trans H; with_reducible exact H2_) | with_reducible exact H | (rw [hy425]; exact H) | exact H
      have Ny425 := Aside0.mk hy425
      clear hy425
      by_cases c5 : (strOfNums y425).toList = ([3, 2, 1, 0] : List UInt8)
      · rw [if_pos c5] at H
        have c5b0 : ((strOfNums y425).toList == ([3, 2, 1, 0] : List UInt8)) = true := beq_iff_eq.mpr c5
        have c5b1 : ((strOfNums y425).toList != ([3, 2, 1, 0] : List UInt8)) = false := bne_eq_false_iff_eq.mpr c5
        clear c5
        by_cases c6 : t417 = 0
        · rw [if_pos c6] at H
          have c6b0 : (t417 == 0) = true := beq_iff_eq.mpr c6
          have c6b1 : (t417 != 0) = false := bne_eq_false_iff_eq.mpr c6
          clear c6
          by_cases c7 : t423 = 0
          · rw [if_pos c7] at H
            have c7b0 : (t423 == 0) = true := beq_iff_eq.mpr c7
            have c7b1 : (t423 != 0) = false := bne_eq_false_iff_eq.mpr c7
            clear c7
            by_cases c8 : t418 = 1
            · rw [if_pos c8] at H
              have c8b0 : (t418 == 1) = true := beq_iff_eq.mpr c8
              have c8b1 : (t418 != 1) = false := bne_eq_false_iff_eq.mpr c8
              clear c8
              obtain rfl := Option.some.inj H
              go_enter Tryd.func27, Tryd.ntmps27
              go_wp2_with (first | ((with_reducible refine gate_callee (f := 25) rfl ?_); refine goesL_ (some 7) rfl rfl Tryd.func25 (by kernel_rfl) rfl #[.agg #[.int .i64 1, .int .i64 0, .slice none 0 0]] rfl (by (try simp only [List.map_toArray, List.map_cons, List.map_nil]); first | done | rfl | (simp only [List.length_drop, List.length_take]; rfl)) ?_; (refine (manifest_Put.calls k 1 0 (fun k_ => False) _ _ ([] : List Int) t414 t417 _ ?side1 ?side2 A1.out).mono ?_); (case side1 => exact Kd.V_nil _ _ _ _ _); (case side2 => first | exact HG.out | exact Gl.below HG.out (by repeat (first | (with_reducible first | exact HB.out | apply below_alloc | apply pw_below_drewN | apply below_drew1) | exact HB.out))); rintro e w9 ⟨v415, rfl, ho0, hb⟩; refine ⟨_, rfl, ?_⟩; have n0_ := Aside0.mk (Kd.R_lower (Kd.R_mono (ok' := fun k_ => True) ho0 (fun _ hk_ => trivial)) (below_size (by repeat (first | (with_reducible first | exact HB.out | apply below_alloc | apply pw_below_drewN | apply below_drew1) | exact HB.out)))); have n1_ := Aside0.mk (below_step (by repeat (first | (with_reducible first | exact HB.out | apply below_alloc | apply pw_below_drewN | apply below_drew1) | exact HB.out)) hb); clear HB; have HO416 := n0_; have HB := n1_; clear n0_ n1_; (try clear hb); (try clear hb2); (try clear hk); (try clear hi); (try clear ho0); obtain ⟨Ao10, co10, eo10⟩ := Kd.R_slice HO416.out; subst eo10) | ((with_reducible refine gate_callee (f := 28) rfl ?_); refine goesL_ (some 12) rfl rfl Tryd.func28 (by kernel_rfl) rfl #[.slice Ao10 t414.length co10] rfl (by (try simp only [List.map_toArray, List.map_cons, List.map_nil]); first | done | rfl | (simp only [List.length_drop, List.length_take]; rfl)) ?_; (with_reducible refine (manifest_Get.calls _ _ t414 t418 t419 t420 t423 _ ?side1 ?side2 ?side3 A2.out).mono ?_); (case side1 => repeat (first | exact (Kd.R_reads' HO416.out).2.2 | (with_reducible refine Kd.C_alloc ?_ _) | (with_reducible refine Kd.C_drewN ?_ _) | (with_reducible refine Kd.C_drew ?_))); (case side2 => exact (Kd.R_reads' HO416.out).2.1); (case side3 => first | exact HG.out | exact Gl.below HG.out (by repeat (first | (with_reducible first | exact HB.out | apply below_alloc | apply pw_below_drewN | apply below_drew1) | exact HB.out))); rintro e w11 ⟨v421, rfl, ho0, hb⟩; refine ⟨_, rfl, ?_⟩; have n0_ := Aside0.mk (Kd.R_elder' (by (with_reducible repeat (first | apply Kd.R_alloc | apply Kd.R_drewN | apply Kd.R_drew)); exact HO416.out) (Kd.R_base ho0) hb); have n1_ := Aside0.mk (Kd.R_lower (Kd.R_new' ho0 (Kd.R_lt (by (with_reducible repeat (first | apply Kd.R_alloc | apply Kd.R_drewN | apply Kd.R_drew)); exact HO416.out))) (below_size (by repeat (first | (with_reducible first | exact HB.out | apply below_alloc | apply pw_below_drewN | apply below_drew1) | exact HB.out)))); have n2_ := Aside0.mk (below_step (by repeat (first | (with_reducible first | exact HB.out | apply below_alloc | apply pw_below_drewN | apply below_drew1) | exact HB.out)) hb); clear HO416; clear HB; have HO416 := n0_; have HO422 := n1_; have HB := n2_; clear n0_ n1_ n2_; (try clear hb); (try clear hb2); (try clear hk); (try clear hi); (try clear ho0)) | ((with_reducible refine gate_dst (N := 3) rfl ?_); refine box_event ?hg (N := 3) ?hd (cs := #[.int .i64 0, .int .i64 0, .slice none 0 0]) (t := 60) ?hr ?_; (case hd => rfl); (case hg => rfl); (case hr => first | (go_simp; done) | (go_simp; rfl)); intro gb424 hg w12 hbox hb; have n0_ := Aside0.mk (Kd.R_below (by (with_reducible repeat (first | apply Kd.R_alloc | apply Kd.R_drewN | apply Kd.R_drew)); exact HO416.out) hb); have n1_ := Aside0.mk (Kd.R_below (by (with_reducible repeat (first | apply Kd.R_alloc | apply Kd.R_drewN | apply Kd.R_drew)); exact HO422.out) hb); have n2_ := Aside0.mk (below_step (by repeat (first | (with_reducible first | exact HB.out | apply below_alloc | apply pw_below_drewN | apply below_drew1) | exact HB.out)) hb); have n3_ := Aside0.mk (hbox); have n4_ := Aside0.mk ((by rw [hg]; exact (below_size (by repeat (first | (with_reducible first | exact HB.out | apply below_alloc | apply pw_below_drewN | apply below_drew1) | exact HB.out))) : w.heap.size ≤ gb424)); have n5_ := Aside0.mk ((by rw [hg]; exact (below_size (by repeat (first | (with_reducible first | exact HB.out | apply below_alloc | apply pw_below_drewN | apply below_drew1) | exact HB.out))) : w.heap.size ≤ gb424)); clear HO416; clear HO422; clear HB; have HO416 := n0_; have HO422 := n1_; have HB := n2_; have BK424 := n3_; have GW424 := n4_; have GE424 := n5_; clear n0_ n1_ n2_ n3_ n4_ n5_; clear hb hbox hg; have hcz13_0 : w12.cell? ⟨gb424, 0, none⟩ = some (.int .i64 0) := (blk_cell BK424.out 0).trans rfl; have hcz13_1 : w12.cell? ⟨gb424, 1, none⟩ = some (.int .i64 0) := (blk_cell BK424.out 1).trans rfl; have hcz13_2 : w12.cell? ⟨gb424, 2, none⟩ = some (.slice none 0 0) := (blk_cell BK424.out 2).trans rfl; have hfz13_0 := blk_frozen BK424.out 0; have hfz13_1 := blk_frozen BK424.out 1; have hfz13_2 := blk_frozen BK424.out 2; obtain ⟨Ao14, co14, eo14⟩ := Kd.R_slice HO422.out; subst eo14) | ((with_reducible refine gate_store (t := 60) (p := 3) rfl ?_); refine store_event (t := 60) (p := 3) (v := ?vo_w15) (w1 := (((w12.setCell ⟨gb424, 0, none⟩ (.int .i64 t418)).setCell ⟨gb424, 1, none⟩ (.int .i64 t419)).setCell ⟨gb424, 2, none⟩ (.slice Ao14 t420.length co14))) ?hg ?ho ?hn ?hr ?_; (case ho => rfl); (case hg => rfl); (case hn => rfl); (case hr => first | (go_simp; done) | (go_simp; rfl)); intro w15 hw; have n0_ : Aside0 (Kd.R (Kd.int .u8) 5 w15 w.heap.size (fun k_ => some k_ ≠ (.slice Ao14 t420.length co14 : Value).ownBlock) (.slice Ao10 t414.length co10) t414) := ⟨(by rw [hw]; exact (by (with_reducible repeat (first | apply Kd.R_alloc | apply Kd.R_drewN | apply Kd.R_drew)); exact Kd.R_mono (Kd.R_far (p := ⟨gb424, 2, none⟩) (Kd.R_far (p := ⟨gb424, 1, none⟩) (Kd.R_far (p := ⟨gb424, 0, none⟩) (Kd.R_types HO416.out BK424.out (by decide)) (fun _ hk => hk.2) (.int .i64 t418)) (fun _ hk => hk.2) (.int .i64 t419)) (fun _ hk => hk.2) (.slice Ao14 t420.length co14)) (fun _ hk => hk.1.2)))⟩; have n1_ : Aside0 (Kd.R (Kd.int .u8) 5 w15 w.heap.size (fun k_ => some k_ ≠ (.slice Ao10 t414.length co10 : Value).ownBlock) (.slice Ao14 t420.length co14) t420) := ⟨(by rw [hw]; exact (by (with_reducible repeat (first | apply Kd.R_alloc | apply Kd.R_drewN | apply Kd.R_drew)); exact Kd.R_mono (Kd.R_far (p := ⟨gb424, 2, none⟩) (Kd.R_far (p := ⟨gb424, 1, none⟩) (Kd.R_far (p := ⟨gb424, 0, none⟩) (Kd.R_types HO422.out BK424.out (by decide)) (fun _ hk => hk.2) (.int .i64 t418)) (fun _ hk => hk.2) (.int .i64 t419)) (fun _ hk => hk.2) (.slice Ao14 t420.length co14)) (fun _ hk => hk.1.2)))⟩; have n2_ : Aside0 (w15.heap[gb424]? = some (.cells #[.int .i64 t418, .int .i64 t419, .slice Ao14 t420.length co14] 60 (0, 0))) := ⟨(by rw [hw]; exact (by (with_reducible repeat (first | refine blk_drewN ?_ _ | refine blk_drew ?_ | refine blk_alloc ?_ _)); refine blk_put (cs := #[.int .i64 t418, .int .i64 t419, .slice none 0 0]) ?_ 2 _ rfl; (with_reducible repeat (first | refine blk_drewN ?_ _ | refine blk_drew ?_ | refine blk_alloc ?_ _)); refine blk_put (cs := #[.int .i64 t418, .int .i64 0, .slice none 0 0]) ?_ 1 _ rfl; (with_reducible repeat (first | refine blk_drewN ?_ _ | refine blk_drew ?_ | refine blk_alloc ?_ _)); refine blk_put (cs := #[.int .i64 0, .int .i64 0, .slice none 0 0]) ?_ 0 _ rfl; (with_reducible repeat (first | refine blk_drewN ?_ _ | refine blk_drew ?_ | refine blk_alloc ?_ _)); exact BK424.out))⟩; have n3_ : Aside0 (Below w.heap.size w w15) := ⟨(by rw [hw]; exact (by repeat (first | (with_reducible first | exact HB.out | apply below_alloc | apply pw_below_drewN | apply below_drew1 | refine below_set ?_ GE424.out) | exact HB.out)))⟩; clear hw; clear HO416; clear HO422; clear BK424; clear HB; have HO416 := n0_; have HO422 := n1_; have BK424 := n2_; have HB := n3_; clear n0_ n1_ n2_ n3_; have q16 : (4 : Int) ≤ ((t414.length : Int) : Int) := of_decide_eq_true (by first | (with_reducible assumption) | assumption); obtain ⟨i016, hi016, _, hsz16, _⟩ := info_parts info5; have hroom16 : t414.length ≤ co10 := (Kd.R_reads' HO416.out).2.1; have hC16 : Kd.C (Kd.int .u8) _ Ao10 t414.length t414 := (Kd.R_reads' HO416.out).2.2; have hcut16 := cut_to (P := Tryd.prog) 22 5 .i64 Tryd.underlying22 hi016 Ao10 t414.length co10 4 (by omega) q16 hroom16; have hr16 := Kd.C_take (m := 4) hC16 (by omega); have hy16 : y425.length = (4 : Int).toNat := (by rw [Ny425.out, List.length_take]; omega); rw [← Ny425.out] at hr16; rw [← hy16] at hcut16; have HR428 := Aside0.mk hr16; have HC428 := Aside0.mk (show y425.length ≤ co10 from by omega); clear hr16 hC16 hroom16 hi016 hsz16; have KY16 := Aside0.mk hy16; clear hy16; have KL16 := Aside0.mk (show 4 ≤ t414.length from by omega); replace q16 := eq_true q16; have hcv17 := Kd.C_string (P := Tryd.prog) (A := Ao10) (c := co10) Tryd.underlying22 Tryd.underlying5 Tryd.underlying9 (by repeat (first | (with_reducible exact HR428.out) | (with_reducible refine Kd.C_alloc ?_ _) | (with_reducible refine Kd.C_drewN ?_ _) | (with_reducible refine Kd.C_drew ?_) | exact HR428.out)); have hcd17 := fun m_ : Nat => Kd.C_string (P := Tryd.prog) (A := Ao10) (c := co10) Tryd.underlying22 Tryd.underlying5 Tryd.underlying9 (Kd.C_drewN (by repeat (first | (with_reducible exact HR428.out) | (with_reducible refine Kd.C_alloc ?_ _) | (with_reducible refine Kd.C_drewN ?_ _) | (with_reducible refine Kd.C_drew ?_) | exact HR428.out)) m_); have hcz18_0 : w15.cell? ⟨gb424, 0, none⟩ = some (.int .i64 t418) := (blk_cell BK424.out 0).trans rfl; have hcz18_1 : w15.cell? ⟨gb424, 1, none⟩ = some (.int .i64 t419) := (blk_cell BK424.out 1).trans rfl; have hcz18_2 : w15.cell? ⟨gb424, 2, none⟩ = some (.slice Ao14 t420.length co14) := (blk_cell BK424.out 2).trans rfl; have hfz18_0 := blk_frozen BK424.out 0; have hfz18_1 := blk_frozen BK424.out 1; have hfz18_2 := blk_frozen BK424.out 2))
              go_ret
              exact ⟨by first | rfl | (simp [errW_none, errW_some] <;> rfl) | (simp [*, errW_none, errW_some] <;> rfl), by repeat (first | (with_reducible first | exact HB.out | apply below_alloc | apply pw_below_drewN | apply below_drew1 | refine below_set ?_ GE424.out) | exact HB.out)⟩
            · rw [if_neg c8] at H
              have c8b0 : (t418 == 1) = false := beq_eq_false_iff_ne.mpr c8
              have c8b1 : (t418 != 1) = true := bne_iff_ne.mpr c8
              obtain rfl := Option.some.inj H
              go_enter Tryd.func27, Tryd.ntmps27
              go_wp2_with (first | ((with_reducible refine gate_callee (f := 25) rfl ?_); refine goesL_ (some 7) rfl rfl Tryd.func25 (by kernel_rfl) rfl #[.agg #[.int .i64 1, .int .i64 0, .slice none 0 0]] rfl (by (try simp only [List.map_toArray, List.map_cons, List.map_nil]); first | done | rfl | (simp only [List.length_drop, List.length_take]; rfl)) ?_; (refine (manifest_Put.calls k 1 0 (fun k_ => False) _ _ ([] : List Int) t414 t417 _ ?side1 ?side2 A1.out).mono ?_); (case side1 => exact Kd.V_nil _ _ _ _ _); (case side2 => first | exact HG.out | exact Gl.below HG.out (by repeat (first | (with_reducible first | exact HB.out | apply below_alloc | apply pw_below_drewN | apply below_drew1) | exact HB.out))); rintro e w19 ⟨v415, rfl, ho0, hb⟩; refine ⟨_, rfl, ?_⟩; have n0_ := Aside0.mk (Kd.R_lower (Kd.R_mono (ok' := fun k_ => True) ho0 (fun _ hk_ => trivial)) (below_size (by repeat (first | (with_reducible first | exact HB.out | apply below_alloc | apply pw_below_drewN | apply below_drew1) | exact HB.out)))); have n1_ := Aside0.mk (below_step (by repeat (first | (with_reducible first | exact HB.out | apply below_alloc | apply pw_below_drewN | apply below_drew1) | exact HB.out)) hb); clear HB; have HO416 := n0_; have HB := n1_; clear n0_ n1_; (try clear hb); (try clear hb2); (try clear hk); (try clear hi); (try clear ho0); obtain ⟨Ao20, co20, eo20⟩ := Kd.R_slice HO416.out; subst eo20) | ((with_reducible refine gate_callee (f := 28) rfl ?_); refine goesL_ (some 12) rfl rfl Tryd.func28 (by kernel_rfl) rfl #[.slice Ao20 t414.length co20] rfl (by (try simp only [List.map_toArray, List.map_cons, List.map_nil]); first | done | rfl | (simp only [List.length_drop, List.length_take]; rfl)) ?_; (with_reducible refine (manifest_Get.calls _ _ t414 t418 t419 t420 t423 _ ?side1 ?side2 ?side3 A2.out).mono ?_); (case side1 => repeat (first | exact (Kd.R_reads' HO416.out).2.2 | (with_reducible refine Kd.C_alloc ?_ _) | (with_reducible refine Kd.C_drewN ?_ _) | (with_reducible refine Kd.C_drew ?_))); (case side2 => exact (Kd.R_reads' HO416.out).2.1); (case side3 => first | exact HG.out | exact Gl.below HG.out (by repeat (first | (with_reducible first | exact HB.out | apply below_alloc | apply pw_below_drewN | apply below_drew1) | exact HB.out))); rintro e w21 ⟨v421, rfl, ho0, hb⟩; refine ⟨_, rfl, ?_⟩; have n0_ := Aside0.mk (Kd.R_elder' (by (with_reducible repeat (first | apply Kd.R_alloc | apply Kd.R_drewN | apply Kd.R_drew)); exact HO416.out) (Kd.R_base ho0) hb); have n1_ := Aside0.mk (Kd.R_lower (Kd.R_new' ho0 (Kd.R_lt (by (with_reducible repeat (first | apply Kd.R_alloc | apply Kd.R_drewN | apply Kd.R_drew)); exact HO416.out))) (below_size (by repeat (first | (with_reducible first | exact HB.out | apply below_alloc | apply pw_below_drewN | apply below_drew1) | exact HB.out)))); have n2_ := Aside0.mk (below_step (by repeat (first | (with_reducible first | exact HB.out | apply below_alloc | apply pw_below_drewN | apply below_drew1) | exact HB.out)) hb); clear HO416; clear HB; have HO416 := n0_; have HO422 := n1_; have HB := n2_; clear n0_ n1_ n2_; (try clear hb); (try clear hb2); (try clear hk); (try clear hi); (try clear ho0)) | ((with_reducible refine gate_dst (N := 3) rfl ?_); refine box_event ?hg (N := 3) ?hd (cs := #[.int .i64 0, .int .i64 0, .slice none 0 0]) (t := 60) ?hr ?_; (case hd => rfl); (case hg => rfl); (case hr => first | (go_simp; done) | (go_simp; rfl)); intro gb424 hg w22 hbox hb; have n0_ := Aside0.mk (Kd.R_below (by (with_reducible repeat (first | apply Kd.R_alloc | apply Kd.R_drewN | apply Kd.R_drew)); exact HO416.out) hb); have n1_ := Aside0.mk (Kd.R_below (by (with_reducible repeat (first | apply Kd.R_alloc | apply Kd.R_drewN | apply Kd.R_drew)); exact HO422.out) hb); have n2_ := Aside0.mk (below_step (by repeat (first | (with_reducible first | exact HB.out | apply below_alloc | apply pw_below_drewN | apply below_drew1) | exact HB.out)) hb); have n3_ := Aside0.mk (hbox); have n4_ := Aside0.mk ((by rw [hg]; exact (below_size (by repeat (first | (with_reducible first | exact HB.out | apply below_alloc | apply pw_below_drewN | apply below_drew1) | exact HB.out))) : w.heap.size ≤ gb424)); have n5_ := Aside0.mk ((by rw [hg]; exact (below_size (by repeat (first | (with_reducible first | exact HB.out | apply below_alloc | apply pw_below_drewN | apply below_drew1) | exact HB.out))) : w.heap.size ≤ gb424)); clear HO416; clear HO422; clear HB; have HO416 := n0_; have HO422 := n1_; have HB := n2_; have BK424 := n3_; have GW424 := n4_; have GE424 := n5_; clear n0_ n1_ n2_ n3_ n4_ n5_; clear hb hbox hg; have hcz23_0 : w22.cell? ⟨gb424, 0, none⟩ = some (.int .i64 0) := (blk_cell BK424.out 0).trans rfl; have hcz23_1 : w22.cell? ⟨gb424, 1, none⟩ = some (.int .i64 0) := (blk_cell BK424.out 1).trans rfl; have hcz23_2 : w22.cell? ⟨gb424, 2, none⟩ = some (.slice none 0 0) := (blk_cell BK424.out 2).trans rfl; have hfz23_0 := blk_frozen BK424.out 0; have hfz23_1 := blk_frozen BK424.out 1; have hfz23_2 := blk_frozen BK424.out 2; obtain ⟨Ao24, co24, eo24⟩ := Kd.R_slice HO422.out; subst eo24) | ((with_reducible refine gate_store (t := 60) (p := 3) rfl ?_); refine store_event (t := 60) (p := 3) (v := ?vo_w25) (w1 := (((w22.setCell ⟨gb424, 0, none⟩ (.int .i64 t418)).setCell ⟨gb424, 1, none⟩ (.int .i64 t419)).setCell ⟨gb424, 2, none⟩ (.slice Ao24 t420.length co24))) ?hg ?ho ?hn ?hr ?_; (case ho => rfl); (case hg => rfl); (case hn => rfl); (case hr => first | (go_simp; done) | (go_simp; rfl)); intro w25 hw; have n0_ : Aside0 (Kd.R (Kd.int .u8) 5 w25 w.heap.size (fun k_ => some k_ ≠ (.slice Ao24 t420.length co24 : Value).ownBlock) (.slice Ao20 t414.length co20) t414) := ⟨(by rw [hw]; exact (by (with_reducible repeat (first | apply Kd.R_alloc | apply Kd.R_drewN | apply Kd.R_drew)); exact Kd.R_mono (Kd.R_far (p := ⟨gb424, 2, none⟩) (Kd.R_far (p := ⟨gb424, 1, none⟩) (Kd.R_far (p := ⟨gb424, 0, none⟩) (Kd.R_types HO416.out BK424.out (by decide)) (fun _ hk => hk.2) (.int .i64 t418)) (fun _ hk => hk.2) (.int .i64 t419)) (fun _ hk => hk.2) (.slice Ao24 t420.length co24)) (fun _ hk => hk.1.2)))⟩; have n1_ : Aside0 (Kd.R (Kd.int .u8) 5 w25 w.heap.size (fun k_ => some k_ ≠ (.slice Ao20 t414.length co20 : Value).ownBlock) (.slice Ao24 t420.length co24) t420) := ⟨(by rw [hw]; exact (by (with_reducible repeat (first | apply Kd.R_alloc | apply Kd.R_drewN | apply Kd.R_drew)); exact Kd.R_mono (Kd.R_far (p := ⟨gb424, 2, none⟩) (Kd.R_far (p := ⟨gb424, 1, none⟩) (Kd.R_far (p := ⟨gb424, 0, none⟩) (Kd.R_types HO422.out BK424.out (by decide)) (fun _ hk => hk.2) (.int .i64 t418)) (fun _ hk => hk.2) (.int .i64 t419)) (fun _ hk => hk.2) (.slice Ao24 t420.length co24)) (fun _ hk => hk.1.2)))⟩; have n2_ : Aside0 (w25.heap[gb424]? = some (.cells #[.int .i64 t418, .int .i64 t419, .slice Ao24 t420.length co24] 60 (0, 0))) := ⟨(by rw [hw]; exact (by (with_reducible repeat (first | refine blk_drewN ?_ _ | refine blk_drew ?_ | refine blk_alloc ?_ _)); refine blk_put (cs := #[.int .i64 t418, .int .i64 t419, .slice none 0 0]) ?_ 2 _ rfl; (with_reducible repeat (first | refine blk_drewN ?_ _ | refine blk_drew ?_ | refine blk_alloc ?_ _)); refine blk_put (cs := #[.int .i64 t418, .int .i64 0, .slice none 0 0]) ?_ 1 _ rfl; (with_reducible repeat (first | refine blk_drewN ?_ _ | refine blk_drew ?_ | refine blk_alloc ?_ _)); refine blk_put (cs := #[.int .i64 0, .int .i64 0, .slice none 0 0]) ?_ 0 _ rfl; (with_reducible repeat (first | refine blk_drewN ?_ _ | refine blk_drew ?_ | refine blk_alloc ?_ _)); exact BK424.out))⟩; have n3_ : Aside0 (Below w.heap.size w w25) := ⟨(by rw [hw]; exact (by repeat (first | (with_reducible first | exact HB.out | apply below_alloc | apply pw_below_drewN | apply below_drew1 | refine below_set ?_ GE424.out) | exact HB.out)))⟩; clear hw; clear HO416; clear HO422; clear BK424; clear HB; have HO416 := n0_; have HO422 := n1_; have BK424 := n2_; have HB := n3_; clear n0_ n1_ n2_ n3_; have q26 : (4 : Int) ≤ ((t414.length : Int) : Int) := of_decide_eq_true (by first | (with_reducible assumption) | assumption); obtain ⟨i026, hi026, _, hsz26, _⟩ := info_parts info5; have hroom26 : t414.length ≤ co20 := (Kd.R_reads' HO416.out).2.1; have hC26 : Kd.C (Kd.int .u8) _ Ao20 t414.length t414 := (Kd.R_reads' HO416.out).2.2; have hcut26 := cut_to (P := Tryd.prog) 22 5 .i64 Tryd.underlying22 hi026 Ao20 t414.length co20 4 (by omega) q26 hroom26; have hr26 := Kd.C_take (m := 4) hC26 (by omega); have hy26 : y425.length = (4 : Int).toNat := (by rw [Ny425.out, List.length_take]; omega); rw [← Ny425.out] at hr26; rw [← hy26] at hcut26; have HR428 := Aside0.mk hr26; have HC428 := Aside0.mk (show y425.length ≤ co20 from by omega); clear hr26 hC26 hroom26 hi026 hsz26; have KY26 := Aside0.mk hy26; clear hy26; have KL26 := Aside0.mk (show 4 ≤ t414.length from by omega); replace q26 := eq_true q26; have hcv27 := Kd.C_string (P := Tryd.prog) (A := Ao20) (c := co20) Tryd.underlying22 Tryd.underlying5 Tryd.underlying9 (by repeat (first | (with_reducible exact HR428.out) | (with_reducible refine Kd.C_alloc ?_ _) | (with_reducible refine Kd.C_drewN ?_ _) | (with_reducible refine Kd.C_drew ?_) | exact HR428.out)); have hcd27 := fun m_ : Nat => Kd.C_string (P := Tryd.prog) (A := Ao20) (c := co20) Tryd.underlying22 Tryd.underlying5 Tryd.underlying9 (Kd.C_drewN (by repeat (first | (with_reducible exact HR428.out) | (with_reducible refine Kd.C_alloc ?_ _) | (with_reducible refine Kd.C_drewN ?_ _) | (with_reducible refine Kd.C_drew ?_) | exact HR428.out)) m_); have hcz28_0 : w25.cell? ⟨gb424, 0, none⟩ = some (.int .i64 t418) := (blk_cell BK424.out 0).trans rfl; have hcz28_1 : w25.cell? ⟨gb424, 1, none⟩ = some (.int .i64 t419) := (blk_cell BK424.out 1).trans rfl; have hcz28_2 : w25.cell? ⟨gb424, 2, none⟩ = some (.slice Ao24 t420.length co24) := (blk_cell BK424.out 2).trans rfl; have hfz28_0 := blk_frozen BK424.out 0; have hfz28_1 := blk_frozen BK424.out 1; have hfz28_2 := blk_frozen BK424.out 2))
              go_ret
              exact ⟨by first | rfl | (simp [errW_none, errW_some] <;> rfl) | (simp [*, errW_none, errW_some] <;> rfl), by repeat (first | (with_reducible first | exact HB.out | apply below_alloc | apply pw_below_drewN | apply below_drew1 | refine below_set ?_ GE424.out) | exact HB.out)⟩
          · rw [if_neg c7] at H
            have c7b0 : (t423 == 0) = false := beq_eq_false_iff_ne.mpr c7
            have c7b1 : (t423 != 0) = true := bne_iff_ne.mpr c7
            obtain rfl := Option.some.inj H
            go_enter Tryd.func27, Tryd.ntmps27
            go_wp2_with (first | ((with_reducible refine gate_callee (f := 25) rfl ?_); refine goesL_ (some 7) rfl rfl Tryd.func25 (by kernel_rfl) rfl #[.agg #[.int .i64 1, .int .i64 0, .slice none 0 0]] rfl (by (try simp only [List.map_toArray, List.map_cons, List.map_nil]); first | done | rfl | (simp only [List.length_drop, List.length_take]; rfl)) ?_; (refine (manifest_Put.calls k 1 0 (fun k_ => False) _ _ ([] : List Int) t414 t417 _ ?side1 ?side2 A1.out).mono ?_); (case side1 => exact Kd.V_nil _ _ _ _ _); (case side2 => first | exact HG.out | exact Gl.below HG.out (by repeat (first | (with_reducible first | exact HB.out | apply below_alloc | apply pw_below_drewN | apply below_drew1) | exact HB.out))); rintro e w29 ⟨v415, rfl, ho0, hb⟩; refine ⟨_, rfl, ?_⟩; have n0_ := Aside0.mk (Kd.R_lower (Kd.R_mono (ok' := fun k_ => True) ho0 (fun _ hk_ => trivial)) (below_size (by repeat (first | (with_reducible first | exact HB.out | apply below_alloc | apply pw_below_drewN | apply below_drew1) | exact HB.out)))); have n1_ := Aside0.mk (below_step (by repeat (first | (with_reducible first | exact HB.out | apply below_alloc | apply pw_below_drewN | apply below_drew1) | exact HB.out)) hb); clear HB; have HO416 := n0_; have HB := n1_; clear n0_ n1_; (try clear hb); (try clear hb2); (try clear hk); (try clear hi); (try clear ho0); obtain ⟨Ao30, co30, eo30⟩ := Kd.R_slice HO416.out; subst eo30) | ((with_reducible refine gate_callee (f := 28) rfl ?_); refine goesL_ (some 12) rfl rfl Tryd.func28 (by kernel_rfl) rfl #[.slice Ao30 t414.length co30] rfl (by (try simp only [List.map_toArray, List.map_cons, List.map_nil]); first | done | rfl | (simp only [List.length_drop, List.length_take]; rfl)) ?_; (with_reducible refine (manifest_Get.calls _ _ t414 t418 t419 t420 t423 _ ?side1 ?side2 ?side3 A2.out).mono ?_); (case side1 => repeat (first | exact (Kd.R_reads' HO416.out).2.2 | (with_reducible refine Kd.C_alloc ?_ _) | (with_reducible refine Kd.C_drewN ?_ _) | (with_reducible refine Kd.C_drew ?_))); (case side2 => exact (Kd.R_reads' HO416.out).2.1); (case side3 => first | exact HG.out | exact Gl.below HG.out (by repeat (first | (with_reducible first | exact HB.out | apply below_alloc | apply pw_below_drewN | apply below_drew1) | exact HB.out))); rintro e w31 ⟨v421, rfl, ho0, hb⟩; refine ⟨_, rfl, ?_⟩; have n0_ := Aside0.mk (Kd.R_elder' (by (with_reducible repeat (first | apply Kd.R_alloc | apply Kd.R_drewN | apply Kd.R_drew)); exact HO416.out) (Kd.R_base ho0) hb); have n1_ := Aside0.mk (Kd.R_lower (Kd.R_new' ho0 (Kd.R_lt (by (with_reducible repeat (first | apply Kd.R_alloc | apply Kd.R_drewN | apply Kd.R_drew)); exact HO416.out))) (below_size (by repeat (first | (with_reducible first | exact HB.out | apply below_alloc | apply pw_below_drewN | apply below_drew1) | exact HB.out)))); have n2_ := Aside0.mk (below_step (by repeat (first | (with_reducible first | exact HB.out | apply below_alloc | apply pw_below_drewN | apply below_drew1) | exact HB.out)) hb); clear HO416; clear HB; have HO416 := n0_; have HO422 := n1_; have HB := n2_; clear n0_ n1_ n2_; (try clear hb); (try clear hb2); (try clear hk); (try clear hi); (try clear ho0)) | ((with_reducible refine gate_dst (N := 3) rfl ?_); refine box_event ?hg (N := 3) ?hd (cs := #[.int .i64 0, .int .i64 0, .slice none 0 0]) (t := 60) ?hr ?_; (case hd => rfl); (case hg => rfl); (case hr => first | (go_simp; done) | (go_simp; rfl)); intro gb424 hg w32 hbox hb; have n0_ := Aside0.mk (Kd.R_below (by (with_reducible repeat (first | apply Kd.R_alloc | apply Kd.R_drewN | apply Kd.R_drew)); exact HO416.out) hb); have n1_ := Aside0.mk (Kd.R_below (by (with_reducible repeat (first | apply Kd.R_alloc | apply Kd.R_drewN | apply Kd.R_drew)); exact HO422.out) hb); have n2_ := Aside0.mk (below_step (by repeat (first | (with_reducible first | exact HB.out | apply below_alloc | apply pw_below_drewN | apply below_drew1) | exact HB.out)) hb); have n3_ := Aside0.mk (hbox); have n4_ := Aside0.mk ((by rw [hg]; exact (below_size (by repeat (first | (with_reducible first | exact HB.out | apply below_alloc | apply pw_below_drewN | apply below_drew1) | exact HB.out))) : w.heap.size ≤ gb424)); have n5_ := Aside0.mk ((by rw [hg]; exact (below_size (by repeat (first | (with_reducible first | exact HB.out | apply below_alloc | apply pw_below_drewN | apply below_drew1) | exact HB.out))) : w.heap.size ≤ gb424)); clear HO416; clear HO422; clear HB; have HO416 := n0_; have HO422 := n1_; have HB := n2_; have BK424 := n3_; have GW424 := n4_; have GE424 := n5_; clear n0_ n1_ n2_ n3_ n4_ n5_; clear hb hbox hg; have hcz33_0 : w32.cell? ⟨gb424, 0, none⟩ = some (.int .i64 0) := (blk_cell BK424.out 0).trans rfl; have hcz33_1 : w32.cell? ⟨gb424, 1, none⟩ = some (.int .i64 0) := (blk_cell BK424.out 1).trans rfl; have hcz33_2 : w32.cell? ⟨gb424, 2, none⟩ = some (.slice none 0 0) := (blk_cell BK424.out 2).trans rfl; have hfz33_0 := blk_frozen BK424.out 0; have hfz33_1 := blk_frozen BK424.out 1; have hfz33_2 := blk_frozen BK424.out 2; obtain ⟨Ao34, co34, eo34⟩ := Kd.R_slice HO422.out; subst eo34) | ((with_reducible refine gate_store (t := 60) (p := 3) rfl ?_); refine store_event (t := 60) (p := 3) (v := ?vo_w35) (w1 := (((w32.setCell ⟨gb424, 0, none⟩ (.int .i64 t418)).setCell ⟨gb424, 1, none⟩ (.int .i64 t419)).setCell ⟨gb424, 2, none⟩ (.slice Ao34 t420.length co34))) ?hg ?ho ?hn ?hr ?_; (case ho => rfl); (case hg => rfl); (case hn => rfl); (case hr => first | (go_simp; done) | (go_simp; rfl)); intro w35 hw; have n0_ : Aside0 (Kd.R (Kd.int .u8) 5 w35 w.heap.size (fun k_ => some k_ ≠ (.slice Ao34 t420.length co34 : Value).ownBlock) (.slice Ao30 t414.length co30) t414) := ⟨(by rw [hw]; exact (by (with_reducible repeat (first | apply Kd.R_alloc | apply Kd.R_drewN | apply Kd.R_drew)); exact Kd.R_mono (Kd.R_far (p := ⟨gb424, 2, none⟩) (Kd.R_far (p := ⟨gb424, 1, none⟩) (Kd.R_far (p := ⟨gb424, 0, none⟩) (Kd.R_types HO416.out BK424.out (by decide)) (fun _ hk => hk.2) (.int .i64 t418)) (fun _ hk => hk.2) (.int .i64 t419)) (fun _ hk => hk.2) (.slice Ao34 t420.length co34)) (fun _ hk => hk.1.2)))⟩; have n1_ : Aside0 (Kd.R (Kd.int .u8) 5 w35 w.heap.size (fun k_ => some k_ ≠ (.slice Ao30 t414.length co30 : Value).ownBlock) (.slice Ao34 t420.length co34) t420) := ⟨(by rw [hw]; exact (by (with_reducible repeat (first | apply Kd.R_alloc | apply Kd.R_drewN | apply Kd.R_drew)); exact Kd.R_mono (Kd.R_far (p := ⟨gb424, 2, none⟩) (Kd.R_far (p := ⟨gb424, 1, none⟩) (Kd.R_far (p := ⟨gb424, 0, none⟩) (Kd.R_types HO422.out BK424.out (by decide)) (fun _ hk => hk.2) (.int .i64 t418)) (fun _ hk => hk.2) (.int .i64 t419)) (fun _ hk => hk.2) (.slice Ao34 t420.length co34)) (fun _ hk => hk.1.2)))⟩; have n2_ : Aside0 (w35.heap[gb424]? = some (.cells #[.int .i64 t418, .int .i64 t419, .slice Ao34 t420.length co34] 60 (0, 0))) := ⟨(by rw [hw]; exact (by (with_reducible repeat (first | refine blk_drewN ?_ _ | refine blk_drew ?_ | refine blk_alloc ?_ _)); refine blk_put (cs := #[.int .i64 t418, .int .i64 t419, .slice none 0 0]) ?_ 2 _ rfl; (with_reducible repeat (first | refine blk_drewN ?_ _ | refine blk_drew ?_ | refine blk_alloc ?_ _)); refine blk_put (cs := #[.int .i64 t418, .int .i64 0, .slice none 0 0]) ?_ 1 _ rfl; (with_reducible repeat (first | refine blk_drewN ?_ _ | refine blk_drew ?_ | refine blk_alloc ?_ _)); refine blk_put (cs := #[.int .i64 0, .int .i64 0, .slice none 0 0]) ?_ 0 _ rfl; (with_reducible repeat (first | refine blk_drewN ?_ _ | refine blk_drew ?_ | refine blk_alloc ?_ _)); exact BK424.out))⟩; have n3_ : Aside0 (Below w.heap.size w w35) := ⟨(by rw [hw]; exact (by repeat (first | (with_reducible first | exact HB.out | apply below_alloc | apply pw_below_drewN | apply below_drew1 | refine below_set ?_ GE424.out) | exact HB.out)))⟩; clear hw; clear HO416; clear HO422; clear BK424; clear HB; have HO416 := n0_; have HO422 := n1_; have BK424 := n2_; have HB := n3_; clear n0_ n1_ n2_ n3_; have q36 : (4 : Int) ≤ ((t414.length : Int) : Int) := of_decide_eq_true (by first | (with_reducible assumption) | assumption); obtain ⟨i036, hi036, _, hsz36, _⟩ := info_parts info5; have hroom36 : t414.length ≤ co30 := (Kd.R_reads' HO416.out).2.1; have hC36 : Kd.C (Kd.int .u8) _ Ao30 t414.length t414 := (Kd.R_reads' HO416.out).2.2; have hcut36 := cut_to (P := Tryd.prog) 22 5 .i64 Tryd.underlying22 hi036 Ao30 t414.length co30 4 (by omega) q36 hroom36; have hr36 := Kd.C_take (m := 4) hC36 (by omega); have hy36 : y425.length = (4 : Int).toNat := (by rw [Ny425.out, List.length_take]; omega); rw [← Ny425.out] at hr36; rw [← hy36] at hcut36; have HR428 := Aside0.mk hr36; have HC428 := Aside0.mk (show y425.length ≤ co30 from by omega); clear hr36 hC36 hroom36 hi036 hsz36; have KY36 := Aside0.mk hy36; clear hy36; have KL36 := Aside0.mk (show 4 ≤ t414.length from by omega); replace q36 := eq_true q36; have hcv37 := Kd.C_string (P := Tryd.prog) (A := Ao30) (c := co30) Tryd.underlying22 Tryd.underlying5 Tryd.underlying9 (by repeat (first | (with_reducible exact HR428.out) | (with_reducible refine Kd.C_alloc ?_ _) | (with_reducible refine Kd.C_drewN ?_ _) | (with_reducible refine Kd.C_drew ?_) | exact HR428.out)); have hcd37 := fun m_ : Nat => Kd.C_string (P := Tryd.prog) (A := Ao30) (c := co30) Tryd.underlying22 Tryd.underlying5 Tryd.underlying9 (Kd.C_drewN (by repeat (first | (with_reducible exact HR428.out) | (with_reducible refine Kd.C_alloc ?_ _) | (with_reducible refine Kd.C_drewN ?_ _) | (with_reducible refine Kd.C_drew ?_) | exact HR428.out)) m_)))
            go_ret
            exact ⟨by first | rfl | (simp [errW_none, errW_some] <;> rfl) | (simp [*, errW_none, errW_some] <;> rfl), by repeat (first | (with_reducible first | exact HB.out | apply below_alloc | apply pw_below_drewN | apply below_drew1 | refine below_set ?_ GE424.out) | exact HB.out)⟩
        · rw [if_neg c6] at H
          have c6b0 : (t417 == 0) = false := beq_eq_false_iff_ne.mpr c6
          have c6b1 : (t417 != 0) = true := bne_iff_ne.mpr c6
          obtain rfl := Option.some.inj H
          go_enter Tryd.func27, Tryd.ntmps27
          go_wp2_with (first | ((with_reducible refine gate_callee (f := 25) rfl ?_); refine goesL_ (some 7) rfl rfl Tryd.func25 (by kernel_rfl) rfl #[.agg #[.int .i64 1, .int .i64 0, .slice none 0 0]] rfl (by (try simp only [List.map_toArray, List.map_cons, List.map_nil]); first | done | rfl | (simp only [List.length_drop, List.length_take]; rfl)) ?_; (refine (manifest_Put.calls k 1 0 (fun k_ => False) _ _ ([] : List Int) t414 t417 _ ?side1 ?side2 A1.out).mono ?_); (case side1 => exact Kd.V_nil _ _ _ _ _); (case side2 => first | exact HG.out | exact Gl.below HG.out (by repeat (first | (with_reducible first | exact HB.out | apply below_alloc | apply pw_below_drewN | apply below_drew1) | exact HB.out))); rintro e w38 ⟨v415, rfl, ho0, hb⟩; refine ⟨_, rfl, ?_⟩; have n0_ := Aside0.mk (Kd.R_lower (Kd.R_mono (ok' := fun k_ => True) ho0 (fun _ hk_ => trivial)) (below_size (by repeat (first | (with_reducible first | exact HB.out | apply below_alloc | apply pw_below_drewN | apply below_drew1) | exact HB.out)))); have n1_ := Aside0.mk (below_step (by repeat (first | (with_reducible first | exact HB.out | apply below_alloc | apply pw_below_drewN | apply below_drew1) | exact HB.out)) hb); clear HB; have HO416 := n0_; have HB := n1_; clear n0_ n1_; (try clear hb); (try clear hb2); (try clear hk); (try clear hi); (try clear ho0); obtain ⟨Ao39, co39, eo39⟩ := Kd.R_slice HO416.out; subst eo39) | ((with_reducible refine gate_callee (f := 28) rfl ?_); refine goesL_ (some 12) rfl rfl Tryd.func28 (by kernel_rfl) rfl #[.slice Ao39 t414.length co39] rfl (by (try simp only [List.map_toArray, List.map_cons, List.map_nil]); first | done | rfl | (simp only [List.length_drop, List.length_take]; rfl)) ?_; (with_reducible refine (manifest_Get.calls _ _ t414 t418 t419 t420 t423 _ ?side1 ?side2 ?side3 A2.out).mono ?_); (case side1 => repeat (first | exact (Kd.R_reads' HO416.out).2.2 | (with_reducible refine Kd.C_alloc ?_ _) | (with_reducible refine Kd.C_drewN ?_ _) | (with_reducible refine Kd.C_drew ?_))); (case side2 => exact (Kd.R_reads' HO416.out).2.1); (case side3 => first | exact HG.out | exact Gl.below HG.out (by repeat (first | (with_reducible first | exact HB.out | apply below_alloc | apply pw_below_drewN | apply below_drew1) | exact HB.out))); rintro e w40 ⟨v421, rfl, ho0, hb⟩; refine ⟨_, rfl, ?_⟩; have n0_ := Aside0.mk (Kd.R_elder' (by (with_reducible repeat (first | apply Kd.R_alloc | apply Kd.R_drewN | apply Kd.R_drew)); exact HO416.out) (Kd.R_base ho0) hb); have n1_ := Aside0.mk (Kd.R_lower (Kd.R_new' ho0 (Kd.R_lt (by (with_reducible repeat (first | apply Kd.R_alloc | apply Kd.R_drewN | apply Kd.R_drew)); exact HO416.out))) (below_size (by repeat (first | (with_reducible first | exact HB.out | apply below_alloc | apply pw_below_drewN | apply below_drew1) | exact HB.out)))); have n2_ := Aside0.mk (below_step (by repeat (first | (with_reducible first | exact HB.out | apply below_alloc | apply pw_below_drewN | apply below_drew1) | exact HB.out)) hb); clear HO416; clear HB; have HO416 := n0_; have HO422 := n1_; have HB := n2_; clear n0_ n1_ n2_; (try clear hb); (try clear hb2); (try clear hk); (try clear hi); (try clear ho0)) | ((with_reducible refine gate_dst (N := 3) rfl ?_); refine box_event ?hg (N := 3) ?hd (cs := #[.int .i64 0, .int .i64 0, .slice none 0 0]) (t := 60) ?hr ?_; (case hd => rfl); (case hg => rfl); (case hr => first | (go_simp; done) | (go_simp; rfl)); intro gb424 hg w41 hbox hb; have n0_ := Aside0.mk (Kd.R_below (by (with_reducible repeat (first | apply Kd.R_alloc | apply Kd.R_drewN | apply Kd.R_drew)); exact HO416.out) hb); have n1_ := Aside0.mk (Kd.R_below (by (with_reducible repeat (first | apply Kd.R_alloc | apply Kd.R_drewN | apply Kd.R_drew)); exact HO422.out) hb); have n2_ := Aside0.mk (below_step (by repeat (first | (with_reducible first | exact HB.out | apply below_alloc | apply pw_below_drewN | apply below_drew1) | exact HB.out)) hb); have n3_ := Aside0.mk (hbox); have n4_ := Aside0.mk ((by rw [hg]; exact (below_size (by repeat (first | (with_reducible first | exact HB.out | apply below_alloc | apply pw_below_drewN | apply below_drew1) | exact HB.out))) : w.heap.size ≤ gb424)); have n5_ := Aside0.mk ((by rw [hg]; exact (below_size (by repeat (first | (with_reducible first | exact HB.out | apply below_alloc | apply pw_below_drewN | apply below_drew1) | exact HB.out))) : w.heap.size ≤ gb424)); clear HO416; clear HO422; clear HB; have HO416 := n0_; have HO422 := n1_; have HB := n2_; have BK424 := n3_; have GW424 := n4_; have GE424 := n5_; clear n0_ n1_ n2_ n3_ n4_ n5_; clear hb hbox hg; have hcz42_0 : w41.cell? ⟨gb424, 0, none⟩ = some (.int .i64 0) := (blk_cell BK424.out 0).trans rfl; have hcz42_1 : w41.cell? ⟨gb424, 1, none⟩ = some (.int .i64 0) := (blk_cell BK424.out 1).trans rfl; have hcz42_2 : w41.cell? ⟨gb424, 2, none⟩ = some (.slice none 0 0) := (blk_cell BK424.out 2).trans rfl; have hfz42_0 := blk_frozen BK424.out 0; have hfz42_1 := blk_frozen BK424.out 1; have hfz42_2 := blk_frozen BK424.out 2; obtain ⟨Ao43, co43, eo43⟩ := Kd.R_slice HO422.out; subst eo43) | ((with_reducible refine gate_store (t := 60) (p := 3) rfl ?_); refine store_event (t := 60) (p := 3) (v := ?vo_w44) (w1 := (((w41.setCell ⟨gb424, 0, none⟩ (.int .i64 t418)).setCell ⟨gb424, 1, none⟩ (.int .i64 t419)).setCell ⟨gb424, 2, none⟩ (.slice Ao43 t420.length co43))) ?hg ?ho ?hn ?hr ?_; (case ho => rfl); (case hg => rfl); (case hn => rfl); (case hr => first | (go_simp; done) | (go_simp; rfl)); intro w44 hw; have n0_ : Aside0 (Kd.R (Kd.int .u8) 5 w44 w.heap.size (fun k_ => some k_ ≠ (.slice Ao43 t420.length co43 : Value).ownBlock) (.slice Ao39 t414.length co39) t414) := ⟨(by rw [hw]; exact (by (with_reducible repeat (first | apply Kd.R_alloc | apply Kd.R_drewN | apply Kd.R_drew)); exact Kd.R_mono (Kd.R_far (p := ⟨gb424, 2, none⟩) (Kd.R_far (p := ⟨gb424, 1, none⟩) (Kd.R_far (p := ⟨gb424, 0, none⟩) (Kd.R_types HO416.out BK424.out (by decide)) (fun _ hk => hk.2) (.int .i64 t418)) (fun _ hk => hk.2) (.int .i64 t419)) (fun _ hk => hk.2) (.slice Ao43 t420.length co43)) (fun _ hk => hk.1.2)))⟩; have n1_ : Aside0 (Kd.R (Kd.int .u8) 5 w44 w.heap.size (fun k_ => some k_ ≠ (.slice Ao39 t414.length co39 : Value).ownBlock) (.slice Ao43 t420.length co43) t420) := ⟨(by rw [hw]; exact (by (with_reducible repeat (first | apply Kd.R_alloc | apply Kd.R_drewN | apply Kd.R_drew)); exact Kd.R_mono (Kd.R_far (p := ⟨gb424, 2, none⟩) (Kd.R_far (p := ⟨gb424, 1, none⟩) (Kd.R_far (p := ⟨gb424, 0, none⟩) (Kd.R_types HO422.out BK424.out (by decide)) (fun _ hk => hk.2) (.int .i64 t418)) (fun _ hk => hk.2) (.int .i64 t419)) (fun _ hk => hk.2) (.slice Ao43 t420.length co43)) (fun _ hk => hk.1.2)))⟩; have n2_ : Aside0 (w44.heap[gb424]? = some (.cells #[.int .i64 t418, .int .i64 t419, .slice Ao43 t420.length co43] 60 (0, 0))) := ⟨(by rw [hw]; exact (by (with_reducible repeat (first | refine blk_drewN ?_ _ | refine blk_drew ?_ | refine blk_alloc ?_ _)); refine blk_put (cs := #[.int .i64 t418, .int .i64 t419, .slice none 0 0]) ?_ 2 _ rfl; (with_reducible repeat (first | refine blk_drewN ?_ _ | refine blk_drew ?_ | refine blk_alloc ?_ _)); refine blk_put (cs := #[.int .i64 t418, .int .i64 0, .slice none 0 0]) ?_ 1 _ rfl; (with_reducible repeat (first | refine blk_drewN ?_ _ | refine blk_drew ?_ | refine blk_alloc ?_ _)); refine blk_put (cs := #[.int .i64 0, .int .i64 0, .slice none 0 0]) ?_ 0 _ rfl; (with_reducible repeat (first | refine blk_drewN ?_ _ | refine blk_drew ?_ | refine blk_alloc ?_ _)); exact BK424.out))⟩; have n3_ : Aside0 (Below w.heap.size w w44) := ⟨(by rw [hw]; exact (by repeat (first | (with_reducible first | exact HB.out | apply below_alloc | apply pw_below_drewN | apply below_drew1 | refine below_set ?_ GE424.out) | exact HB.out)))⟩; clear hw; clear HO416; clear HO422; clear BK424; clear HB; have HO416 := n0_; have HO422 := n1_; have BK424 := n2_; have HB := n3_; clear n0_ n1_ n2_ n3_; have q45 : (4 : Int) ≤ ((t414.length : Int) : Int) := of_decide_eq_true (by first | (with_reducible assumption) | assumption); obtain ⟨i045, hi045, _, hsz45, _⟩ := info_parts info5; have hroom45 : t414.length ≤ co39 := (Kd.R_reads' HO416.out).2.1; have hC45 : Kd.C (Kd.int .u8) _ Ao39 t414.length t414 := (Kd.R_reads' HO416.out).2.2; have hcut45 := cut_to (P := Tryd.prog) 22 5 .i64 Tryd.underlying22 hi045 Ao39 t414.length co39 4 (by omega) q45 hroom45; have hr45 := Kd.C_take (m := 4) hC45 (by omega); have hy45 : y425.length = (4 : Int).toNat := (by rw [Ny425.out, List.length_take]; omega); rw [← Ny425.out] at hr45; rw [← hy45] at hcut45; have HR428 := Aside0.mk hr45; have HC428 := Aside0.mk (show y425.length ≤ co39 from by omega); clear hr45 hC45 hroom45 hi045 hsz45; have KY45 := Aside0.mk hy45; clear hy45; have KL45 := Aside0.mk (show 4 ≤ t414.length from by omega); replace q45 := eq_true q45; have hcv46 := Kd.C_string (P := Tryd.prog) (A := Ao39) (c := co39) Tryd.underlying22 Tryd.underlying5 Tryd.underlying9 (by repeat (first | (with_reducible exact HR428.out) | (with_reducible refine Kd.C_alloc ?_ _) | (with_reducible refine Kd.C_drewN ?_ _) | (with_reducible refine Kd.C_drew ?_) | exact HR428.out)); have hcd46 := fun m_ : Nat => Kd.C_string (P := Tryd.prog) (A := Ao39) (c := co39) Tryd.underlying22 Tryd.underlying5 Tryd.underlying9 (Kd.C_drewN (by repeat (first | (with_reducible exact HR428.out) | (with_reducible refine Kd.C_alloc ?_ _) | (with_reducible refine Kd.C_drewN ?_ _) | (with_reducible refine Kd.C_drew ?_) | exact HR428.out)) m_)))
          go_ret
          exact ⟨by first | rfl | (simp [errW_none, errW_some] <;> rfl) | (simp [*, errW_none, errW_some] <;> rfl), by repeat (first | (with_reducible first | exact HB.out | apply below_alloc | apply pw_below_drewN | apply below_drew1 | refine below_set ?_ GE424.out) | exact HB.out)⟩
      · rw [if_neg c5] at H
        have c5b0 : ((strOfNums y425).toList == ([3, 2, 1, 0] : List UInt8)) = false := beq_eq_false_iff_ne.mpr c5
        have c5b1 : ((strOfNums y425).toList != ([3, 2, 1, 0] : List UInt8)) = true := bne_iff_ne.mpr c5
        obtain rfl := Option.some.inj H
        go_enter Tryd.func27, Tryd.ntmps27
        go_wp2_with (first | ((with_reducible refine gate_callee (f := 25) rfl ?_); refine goesL_ (some 7) rfl rfl Tryd.func25 (by kernel_rfl) rfl #[.agg #[.int .i64 1, .int .i64 0, .slice none 0 0]] rfl (by (try simp only [List.map_toArray, List.map_cons, List.map_nil]); first | done | rfl | (simp only [List.length_drop, List.length_take]; rfl)) ?_; (refine (manifest_Put.calls k 1 0 (fun k_ => False) _ _ ([] : List Int) t414 t417 _ ?side1 ?side2 A1.out).mono ?_); (case side1 => exact Kd.V_nil _ _ _ _ _); (case side2 => first | exact HG.out | exact Gl.below HG.out (by repeat (first | (with_reducible first | exact HB.out | apply below_alloc | apply pw_below_drewN | apply below_drew1) | exact HB.out))); rintro e w47 ⟨v415, rfl, ho0, hb⟩; refine ⟨_, rfl, ?_⟩; have n0_ := Aside0.mk (Kd.R_lower (Kd.R_mono (ok' := fun k_ => True) ho0 (fun _ hk_ => trivial)) (below_size (by repeat (first | (with_reducible first | exact HB.out | apply below_alloc | apply pw_below_drewN | apply below_drew1) | exact HB.out)))); have n1_ := Aside0.mk (below_step (by repeat (first | (with_reducible first | exact HB.out | apply below_alloc | apply pw_below_drewN | apply below_drew1) | exact HB.out)) hb); clear HB; have HO416 := n0_; have HB := n1_; clear n0_ n1_; (try clear hb); (try clear hb2); (try clear hk); (try clear hi); (try clear ho0); obtain ⟨Ao48, co48, eo48⟩ := Kd.R_slice HO416.out; subst eo48) | ((with_reducible refine gate_callee (f := 28) rfl ?_); refine goesL_ (some 12) rfl rfl Tryd.func28 (by kernel_rfl) rfl #[.slice Ao48 t414.length co48] rfl (by (try simp only [List.map_toArray, List.map_cons, List.map_nil]); first | done | rfl | (simp only [List.length_drop, List.length_take]; rfl)) ?_; (with_reducible refine (manifest_Get.calls _ _ t414 t418 t419 t420 t423 _ ?side1 ?side2 ?side3 A2.out).mono ?_); (case side1 => repeat (first | exact (Kd.R_reads' HO416.out).2.2 | (with_reducible refine Kd.C_alloc ?_ _) | (with_reducible refine Kd.C_drewN ?_ _) | (with_reducible refine Kd.C_drew ?_))); (case side2 => exact (Kd.R_reads' HO416.out).2.1); (case side3 => first | exact HG.out | exact Gl.below HG.out (by repeat (first | (with_reducible first | exact HB.out | apply below_alloc | apply pw_below_drewN | apply below_drew1) | exact HB.out))); rintro e w49 ⟨v421, rfl, ho0, hb⟩; refine ⟨_, rfl, ?_⟩; have n0_ := Aside0.mk (Kd.R_elder' (by (with_reducible repeat (first | apply Kd.R_alloc | apply Kd.R_drewN | apply Kd.R_drew)); exact HO416.out) (Kd.R_base ho0) hb); have n1_ := Aside0.mk (Kd.R_lower (Kd.R_new' ho0 (Kd.R_lt (by (with_reducible repeat (first | apply Kd.R_alloc | apply Kd.R_drewN | apply Kd.R_drew)); exact HO416.out))) (below_size (by repeat (first | (with_reducible first | exact HB.out | apply below_alloc | apply pw_below_drewN | apply below_drew1) | exact HB.out)))); have n2_ := Aside0.mk (below_step (by repeat (first | (with_reducible first | exact HB.out | apply below_alloc | apply pw_below_drewN | apply below_drew1) | exact HB.out)) hb); clear HO416; clear HB; have HO416 := n0_; have HO422 := n1_; have HB := n2_; clear n0_ n1_ n2_; (try clear hb); (try clear hb2); (try clear hk); (try clear hi); (try clear ho0)) | ((with_reducible refine gate_dst (N := 3) rfl ?_); refine box_event ?hg (N := 3) ?hd (cs := #[.int .i64 0, .int .i64 0, .slice none 0 0]) (t := 60) ?hr ?_; (case hd => rfl); (case hg => rfl); (case hr => first | (go_simp; done) | (go_simp; rfl)); intro gb424 hg w50 hbox hb; have n0_ := Aside0.mk (Kd.R_below (by (with_reducible repeat (first | apply Kd.R_alloc | apply Kd.R_drewN | apply Kd.R_drew)); exact HO416.out) hb); have n1_ := Aside0.mk (Kd.R_below (by (with_reducible repeat (first | apply Kd.R_alloc | apply Kd.R_drewN | apply Kd.R_drew)); exact HO422.out) hb); have n2_ := Aside0.mk (below_step (by repeat (first | (with_reducible first | exact HB.out | apply below_alloc | apply pw_below_drewN | apply below_drew1) | exact HB.out)) hb); have n3_ := Aside0.mk (hbox); have n4_ := Aside0.mk ((by rw [hg]; exact (below_size (by repeat (first | (with_reducible first | exact HB.out | apply below_alloc | apply pw_below_drewN | apply below_drew1) | exact HB.out))) : w.heap.size ≤ gb424)); have n5_ := Aside0.mk ((by rw [hg]; exact (below_size (by repeat (first | (with_reducible first | exact HB.out | apply below_alloc | apply pw_below_drewN | apply below_drew1) | exact HB.out))) : w.heap.size ≤ gb424)); clear HO416; clear HO422; clear HB; have HO416 := n0_; have HO422 := n1_; have HB := n2_; have BK424 := n3_; have GW424 := n4_; have GE424 := n5_; clear n0_ n1_ n2_ n3_ n4_ n5_; clear hb hbox hg; have hcz51_0 : w50.cell? ⟨gb424, 0, none⟩ = some (.int .i64 0) := (blk_cell BK424.out 0).trans rfl; have hcz51_1 : w50.cell? ⟨gb424, 1, none⟩ = some (.int .i64 0) := (blk_cell BK424.out 1).trans rfl; have hcz51_2 : w50.cell? ⟨gb424, 2, none⟩ = some (.slice none 0 0) := (blk_cell BK424.out 2).trans rfl; have hfz51_0 := blk_frozen BK424.out 0; have hfz51_1 := blk_frozen BK424.out 1; have hfz51_2 := blk_frozen BK424.out 2; obtain ⟨Ao52, co52, eo52⟩ := Kd.R_slice HO422.out; subst eo52) | ((with_reducible refine gate_store (t := 60) (p := 3) rfl ?_); refine store_event (t := 60) (p := 3) (v := ?vo_w53) (w1 := (((w50.setCell ⟨gb424, 0, none⟩ (.int .i64 t418)).setCell ⟨gb424, 1, none⟩ (.int .i64 t419)).setCell ⟨gb424, 2, none⟩ (.slice Ao52 t420.length co52))) ?hg ?ho ?hn ?hr ?_; (case ho => rfl); (case hg => rfl); (case hn => rfl); (case hr => first | (go_simp; done) | (go_simp; rfl)); intro w53 hw; have n0_ : Aside0 (Kd.R (Kd.int .u8) 5 w53 w.heap.size (fun k_ => some k_ ≠ (.slice Ao52 t420.length co52 : Value).ownBlock) (.slice Ao48 t414.length co48) t414) := ⟨(by rw [hw]; exact (by (with_reducible repeat (first | apply Kd.R_alloc | apply Kd.R_drewN | apply Kd.R_drew)); exact Kd.R_mono (Kd.R_far (p := ⟨gb424, 2, none⟩) (Kd.R_far (p := ⟨gb424, 1, none⟩) (Kd.R_far (p := ⟨gb424, 0, none⟩) (Kd.R_types HO416.out BK424.out (by decide)) (fun _ hk => hk.2) (.int .i64 t418)) (fun _ hk => hk.2) (.int .i64 t419)) (fun _ hk => hk.2) (.slice Ao52 t420.length co52)) (fun _ hk => hk.1.2)))⟩; have n1_ : Aside0 (Kd.R (Kd.int .u8) 5 w53 w.heap.size (fun k_ => some k_ ≠ (.slice Ao48 t414.length co48 : Value).ownBlock) (.slice Ao52 t420.length co52) t420) := ⟨(by rw [hw]; exact (by (with_reducible repeat (first | apply Kd.R_alloc | apply Kd.R_drewN | apply Kd.R_drew)); exact Kd.R_mono (Kd.R_far (p := ⟨gb424, 2, none⟩) (Kd.R_far (p := ⟨gb424, 1, none⟩) (Kd.R_far (p := ⟨gb424, 0, none⟩) (Kd.R_types HO422.out BK424.out (by decide)) (fun _ hk => hk.2) (.int .i64 t418)) (fun _ hk => hk.2) (.int .i64 t419)) (fun _ hk => hk.2) (.slice Ao52 t420.length co52)) (fun _ hk => hk.1.2)))⟩; have n2_ : Aside0 (w53.heap[gb424]? = some (.cells #[.int .i64 t418, .int .i64 t419, .slice Ao52 t420.length co52] 60 (0, 0))) := ⟨(by rw [hw]; exact (by (with_reducible repeat (first | refine blk_drewN ?_ _ | refine blk_drew ?_ | refine blk_alloc ?_ _)); refine blk_put (cs := #[.int .i64 t418, .int .i64 t419, .slice none 0 0]) ?_ 2 _ rfl; (with_reducible repeat (first | refine blk_drewN ?_ _ | refine blk_drew ?_ | refine blk_alloc ?_ _)); refine blk_put (cs := #[.int .i64 t418, .int .i64 0, .slice none 0 0]) ?_ 1 _ rfl; (with_reducible repeat (first | refine blk_drewN ?_ _ | refine blk_drew ?_ | refine blk_alloc ?_ _)); refine blk_put (cs := #[.int .i64 0, .int .i64 0, .slice none 0 0]) ?_ 0 _ rfl; (with_reducible repeat (first | refine blk_drewN ?_ _ | refine blk_drew ?_ | refine blk_alloc ?_ _)); exact BK424.out))⟩; have n3_ : Aside0 (Below w.heap.size w w53) := ⟨(by rw [hw]; exact (by repeat (first | (with_reducible first | exact HB.out | apply below_alloc | apply pw_below_drewN | apply below_drew1 | refine below_set ?_ GE424.out) | exact HB.out)))⟩; clear hw; clear HO416; clear HO422; clear BK424; clear HB; have HO416 := n0_; have HO422 := n1_; have BK424 := n2_; have HB := n3_; clear n0_ n1_ n2_ n3_; have q54 : (4 : Int) ≤ ((t414.length : Int) : Int) := of_decide_eq_true (by first | (with_reducible assumption) | assumption); obtain ⟨i054, hi054, _, hsz54, _⟩ := info_parts info5; have hroom54 : t414.length ≤ co48 := (Kd.R_reads' HO416.out).2.1; have hC54 : Kd.C (Kd.int .u8) _ Ao48 t414.length t414 := (Kd.R_reads' HO416.out).2.2; have hcut54 := cut_to (P := Tryd.prog) 22 5 .i64 Tryd.underlying22 hi054 Ao48 t414.length co48 4 (by omega) q54 hroom54; have hr54 := Kd.C_take (m := 4) hC54 (by omega); have hy54 : y425.length = (4 : Int).toNat := (by rw [Ny425.out, List.length_take]; omega); rw [← Ny425.out] at hr54; rw [← hy54] at hcut54; have HR428 := Aside0.mk hr54; have HC428 := Aside0.mk (show y425.length ≤ co48 from by omega); clear hr54 hC54 hroom54 hi054 hsz54; have KY54 := Aside0.mk hy54; clear hy54; have KL54 := Aside0.mk (show 4 ≤ t414.length from by omega); replace q54 := eq_true q54; have hcv55 := Kd.C_string (P := Tryd.prog) (A := Ao48) (c := co48) Tryd.underlying22 Tryd.underlying5 Tryd.underlying9 (by repeat (first | (with_reducible exact HR428.out) | (with_reducible refine Kd.C_alloc ?_ _) | (with_reducible refine Kd.C_drewN ?_ _) | (with_reducible refine Kd.C_drew ?_) | exact HR428.out)); have hcd55 := fun m_ : Nat => Kd.C_string (P := Tryd.prog) (A := Ao48) (c := co48) Tryd.underlying22 Tryd.underlying5 Tryd.underlying9 (Kd.C_drewN (by repeat (first | (with_reducible exact HR428.out) | (with_reducible refine Kd.C_alloc ?_ _) | (with_reducible refine Kd.C_drewN ?_ _) | (with_reducible refine Kd.C_drew ?_) | exact HR428.out)) m_)))
        go_ret
        exact ⟨by first | rfl | (simp [errW_none, errW_some] <;> rfl) | (simp [*, errW_none, errW_some] <;> rfl), by repeat (first | (with_reducible first | exact HB.out | apply below_alloc | apply pw_below_drewN | apply below_drew1 | refine below_set ?_ GE424.out) | exact HB.out)⟩
    · rw [if_neg c4] at H
      exact absurd H (by simp)
  · rw [if_neg c3] at H
    have c3b0 : ((t414.length : Int) == 8) = false := beq_eq_false_iff_ne.mpr c3
    have c3b1 : ((t414.length : Int) != 8) = true := bne_iff_ne.mpr c3
    obtain rfl := Option.some.inj H
    go_enter Tryd.func27, Tryd.ntmps27
    go_wp2_with (first | ((with_reducible refine gate_callee (f := 25) rfl ?_); refine goesL_ (some 7) rfl rfl Tryd.func25 (by kernel_rfl) rfl #[.agg #[.int .i64 1, .int .i64 0, .slice none 0 0]] rfl (by (try simp only [List.map_toArray, List.map_cons, List.map_nil]); first | done | rfl | (simp only [List.length_drop, List.length_take]; rfl)) ?_; (refine (manifest_Put.calls k 1 0 (fun k_ => False) _ _ ([] : List Int) t414 t417 _ ?side1 ?side2 A1.out).mono ?_); (case side1 => exact Kd.V_nil _ _ _ _ _); (case side2 => first | exact HG.out | exact Gl.below HG.out (by repeat (first | (with_reducible first | exact HB.out | apply below_alloc | apply pw_below_drewN | apply below_drew1) | exact HB.out))); rintro e w56 ⟨v415, rfl, ho0, hb⟩; refine ⟨_, rfl, ?_⟩; have n0_ := Aside0.mk (Kd.R_lower (Kd.R_mono (ok' := fun k_ => True) ho0 (fun _ hk_ => trivial)) (below_size (by repeat (first | (with_reducible first | exact HB.out | apply below_alloc | apply pw_below_drewN | apply below_drew1) | exact HB.out)))); have n1_ := Aside0.mk (below_step (by repeat (first | (with_reducible first | exact HB.out | apply below_alloc | apply pw_below_drewN | apply below_drew1) | exact HB.out)) hb); clear HB; have HO416 := n0_; have HB := n1_; clear n0_ n1_; (try clear hb); (try clear hb2); (try clear hk); (try clear hi); (try clear ho0); obtain ⟨Ao57, co57, eo57⟩ := Kd.R_slice HO416.out; subst eo57) | ((with_reducible refine gate_callee (f := 28) rfl ?_); refine goesL_ (some 12) rfl rfl Tryd.func28 (by kernel_rfl) rfl #[.slice Ao57 t414.length co57] rfl (by (try simp only [List.map_toArray, List.map_cons, List.map_nil]); first | done | rfl | (simp only [List.length_drop, List.length_take]; rfl)) ?_; (with_reducible refine (manifest_Get.calls _ _ t414 t418 t419 t420 t423 _ ?side1 ?side2 ?side3 A2.out).mono ?_); (case side1 => repeat (first | exact (Kd.R_reads' HO416.out).2.2 | (with_reducible refine Kd.C_alloc ?_ _) | (with_reducible refine Kd.C_drewN ?_ _) | (with_reducible refine Kd.C_drew ?_))); (case side2 => exact (Kd.R_reads' HO416.out).2.1); (case side3 => first | exact HG.out | exact Gl.below HG.out (by repeat (first | (with_reducible first | exact HB.out | apply below_alloc | apply pw_below_drewN | apply below_drew1) | exact HB.out))); rintro e w58 ⟨v421, rfl, ho0, hb⟩; refine ⟨_, rfl, ?_⟩; have n0_ := Aside0.mk (Kd.R_elder' (by (with_reducible repeat (first | apply Kd.R_alloc | apply Kd.R_drewN | apply Kd.R_drew)); exact HO416.out) (Kd.R_base ho0) hb); have n1_ := Aside0.mk (Kd.R_lower (Kd.R_new' ho0 (Kd.R_lt (by (with_reducible repeat (first | apply Kd.R_alloc | apply Kd.R_drewN | apply Kd.R_drew)); exact HO416.out))) (below_size (by repeat (first | (with_reducible first | exact HB.out | apply below_alloc | apply pw_below_drewN | apply below_drew1) | exact HB.out)))); have n2_ := Aside0.mk (below_step (by repeat (first | (with_reducible first | exact HB.out | apply below_alloc | apply pw_below_drewN | apply below_drew1) | exact HB.out)) hb); clear HO416; clear HB; have HO416 := n0_; have HO422 := n1_; have HB := n2_; clear n0_ n1_ n2_; (try clear hb); (try clear hb2); (try clear hk); (try clear hi); (try clear ho0)) | ((with_reducible refine gate_dst (N := 3) rfl ?_); refine box_event ?hg (N := 3) ?hd (cs := #[.int .i64 0, .int .i64 0, .slice none 0 0]) (t := 60) ?hr ?_; (case hd => rfl); (case hg => rfl); (case hr => first | (go_simp; done) | (go_simp; rfl)); intro gb424 hg w59 hbox hb; have n0_ := Aside0.mk (Kd.R_below (by (with_reducible repeat (first | apply Kd.R_alloc | apply Kd.R_drewN | apply Kd.R_drew)); exact HO416.out) hb); have n1_ := Aside0.mk (Kd.R_below (by (with_reducible repeat (first | apply Kd.R_alloc | apply Kd.R_drewN | apply Kd.R_drew)); exact HO422.out) hb); have n2_ := Aside0.mk (below_step (by repeat (first | (with_reducible first | exact HB.out | apply below_alloc | apply pw_below_drewN | apply below_drew1) | exact HB.out)) hb); have n3_ := Aside0.mk (hbox); have n4_ := Aside0.mk ((by rw [hg]; exact (below_size (by repeat (first | (with_reducible first | exact HB.out | apply below_alloc | apply pw_below_drewN | apply below_drew1) | exact HB.out))) : w.heap.size ≤ gb424)); have n5_ := Aside0.mk ((by rw [hg]; exact (below_size (by repeat (first | (with_reducible first | exact HB.out | apply below_alloc | apply pw_below_drewN | apply below_drew1) | exact HB.out))) : w.heap.size ≤ gb424)); clear HO416; clear HO422; clear HB; have HO416 := n0_; have HO422 := n1_; have HB := n2_; have BK424 := n3_; have GW424 := n4_; have GE424 := n5_; clear n0_ n1_ n2_ n3_ n4_ n5_; clear hb hbox hg; have hcz60_0 : w59.cell? ⟨gb424, 0, none⟩ = some (.int .i64 0) := (blk_cell BK424.out 0).trans rfl; have hcz60_1 : w59.cell? ⟨gb424, 1, none⟩ = some (.int .i64 0) := (blk_cell BK424.out 1).trans rfl; have hcz60_2 : w59.cell? ⟨gb424, 2, none⟩ = some (.slice none 0 0) := (blk_cell BK424.out 2).trans rfl; have hfz60_0 := blk_frozen BK424.out 0; have hfz60_1 := blk_frozen BK424.out 1; have hfz60_2 := blk_frozen BK424.out 2; obtain ⟨Ao61, co61, eo61⟩ := Kd.R_slice HO422.out; subst eo61))
    go_ret
    exact ⟨by first | rfl | (simp [errW_none, errW_some] <;> rfl) | (simp [*, errW_none, errW_some] <;> rfl), by repeat (first | (with_reducible first | exact HB.out | apply below_alloc | apply pw_below_drewN | apply below_drew1 | refine below_set ?_ GE424.out) | exact HB.out)⟩

end Go.Proofs.YtonpiacnljcohaaDoor.PA

-- Written by a program of this session (wip/tools/myprint.py), out of the translation's print. Lean checks it.
namespace Go.Proofs.YtonpiacnljcohaaDoor.PA
open Go.RowKit Go.Proofs.YtonpiacnljcohaaDoorW.PrintWords Go.Proofs.YtonpiacnljcohaaDoorW.PrintLast Go.Proofs.YtonpiacnljcohaaDoorW.PrintMore
attribute [local go_sem] max2_int min2_int max_two min_two max_three min_three max_four min_four   -- for this text's walks alone
set_option linter.unusedVariables false
set_option linter.unusedSimpArgs false

/-! ### stemmalaw19_ManifestPuts: function 9 -/
def stemmalaw19_ManifestPuts.f (k : Nat) (a0 : Int) (a1 : Int) (l2 : List Int) : Option (Bool) := (some (([] : List Int) : List Int)).bind fun y429 => (if y429.length + l2.length < 140737488355328 then ((manifest_Put.f k a0 a1 (y429 ++ l2)).bind fun bt435 => ((stemmaref19_Put.f k a0 a1 l2).bind fun bt439 => (if (strOfNums bt435.1).toList = (strOfNums bt439.1).toList then (if bt435.2 = bt439.2 then ((stemmalaw19_awake.f k).bind fun t443 => (some t443)) else (some false)) else (some false)))) else (none))
theorem stemmalaw19_ManifestPuts.mono : ∀ a0 a1 a2 k, LeO (stemmalaw19_ManifestPuts.f k a0 a1 a2) (stemmalaw19_ManifestPuts.f (k + 1) a0 a1 a2) := by
  intro a0 a1 a2 k
  unfold stemmalaw19_ManifestPuts.f
  repeat' first
      | (with_reducible exact manifest_Put.mono _ _ _ _)
      | (with_reducible exact stemmalaw19_awake.mono _)
      | (with_reducible exact stemmaref19_Put.mono _ _ _ _)
      | (with_reducible exact LeO.refl _)
      | (with_reducible exact LeO.none _)
      | (with_reducible refine LeO.ite ?_ ?_)
      | (with_reducible refine LeO.bind ?_ (fun _ => ?_))
      | exact manifest_Put.mono _ _ _ _
      | exact stemmalaw19_awake.mono _
      | exact stemmaref19_Put.mono _ _ _ _
      | exact LeO.none _
      | refine LeO.ite ?_ ?_
      | refine LeO.bind ?_ (fun _ => ?_)
set_option maxHeartbeats 8000000 in
set_option maxRecDepth 100000 in
theorem stemmalaw19_ManifestPuts.calls (k : Nat) (a0 : Int) (a1 : Int) (A2 : Option Addr) (c2 : Nat) (l2 : List Int) (r : Bool) (w : World) (hr2 : Kd.C (Kd.int .u8) w A2 l2.length l2) (hc2 : l2.length ≤ c2) (hr_ : Aside0 (r = true)) (hG_ : Gl w) (h : stemmalaw19_ManifestPuts.f k a0 a1 l2 = some r) :
    Calls Tryd.prog 9 #[.int .i64 a0, .int .i64 a1, .slice A2 l2.length c2] w fun e w' => e = .returned (.bool r) ∧ Below w.heap.size w w' := by
  have hu60 := Tryd.underlying60
  have hu62 := Tryd.underlying62
  have HG := Aside0.mk hG_
  clear hG_
  have HR2 := Aside0.mk hr2
  have HC2 := Aside0.mk hc2
  clear hr2 hc2
  have HB := Aside0.mk (Below.refl w.heap.size w)
  have H : ((some (([] : List Int) : List Int)).bind fun y429 => (if y429.length + l2.length < 140737488355328 then ((manifest_Put.f k a0 a1 (y429 ++ l2)).bind fun bt435 => ((stemmaref19_Put.f k a0 a1 l2).bind fun bt439 => (if (strOfNums bt435.1).toList = (strOfNums bt439.1).toList then (if bt435.2 = bt439.2 then ((stemmalaw19_awake.f k).bind fun t443 => (some t443)) else (some false)) else (some false)))) else (none))) = some r := h
  clear h
  obtain ⟨y429, hy429⟩ : ∃ y_ : List Int, y_ = (([] : List Int)) := ⟨_, rfl⟩
  replace H : (if y429.length + l2.length < 140737488355328 then ((manifest_Put.f k a0 a1 (y429 ++ l2)).bind fun bt435 => ((stemmaref19_Put.f k a0 a1 l2).bind fun bt439 => (if (strOfNums bt435.1).toList = (strOfNums bt439.1).toList then (if bt435.2 = bt439.2 then ((stemmalaw19_awake.f k).bind fun t443 => (some t443)) else (some false)) else (some false)))) else (none)) = some r := by first | (rw [hy429]; with_reducible exact H) | (have H2_ := (Option.bind_some _ _).symm.trans H; rw [hy429]; with_reducible exact H2_) | (have H2_ := (Option.bind_some _ _).symm.trans H; with_reducible exact H2_) | with_reducible exact H | (rw [hy429]; exact H) | exact H
  have Ny429 := Aside0.mk hy429
  clear hy429
  by_cases c4 : y429.length + l2.length < 140737488355328
  · rw [if_pos c4] at H
    have LMc4 := Aside0.mk c4
    clear c4
    obtain ⟨y432, hy432⟩ : ∃ y_ : List Int, y_ = (y429 ++ l2) := ⟨_, rfl⟩
    replace H : ((manifest_Put.f k a0 a1 y432).bind fun bt435 => ((stemmaref19_Put.f k a0 a1 l2).bind fun bt439 => (if (strOfNums bt435.1).toList = (strOfNums bt439.1).toList then (if bt435.2 = bt439.2 then ((stemmalaw19_awake.f k).bind fun t443 => (some t443)) else (some false)) else (some false)))) = some r := by first | (rw [hy432]; with_reducible exact H) | (have H2_ := (Option.bind_some _ _).symm.trans H; rw [hy432]; with_reducible exact H2_) | (have H2_ := (Option.bind_some _ _).symm.trans H; with_reducible exact H2_) | with_reducible exact H | (rw [hy432]; exact H) | exact H
    have Ny432 := Aside0.mk hy432
    clear hy432
    replace H := Option.bind_eq_some_iff.mp H
    obtain ⟨⟨t435, t438⟩, A50, H⟩ := H
    replace H : ((stemmaref19_Put.f k a0 a1 l2).bind fun bt439 => (if (strOfNums t435).toList = (strOfNums bt439.1).toList then (if t438 = bt439.2 then ((stemmalaw19_awake.f k).bind fun t443 => (some t443)) else (some false)) else (some false))) = some r := H
    have A5 := Aside0.mk A50
    clear A50
    replace H := Option.bind_eq_some_iff.mp H
    obtain ⟨⟨t439, t442⟩, A60, H⟩ := H
    replace H : (if (strOfNums t435).toList = (strOfNums t439).toList then (if t438 = t442 then ((stemmalaw19_awake.f k).bind fun t443 => (some t443)) else (some false)) else (some false)) = some r := H
    have A6 := Aside0.mk A60
    clear A60
    by_cases c7 : (strOfNums t435).toList = (strOfNums t439).toList
    · rw [if_pos c7] at H
      have c7b0 : ((strOfNums t435).toList == (strOfNums t439).toList) = true := beq_iff_eq.mpr c7
      have c7b1 : ((strOfNums t435).toList != (strOfNums t439).toList) = false := bne_eq_false_iff_eq.mpr c7
      clear c7
      by_cases c8 : t438 = t442
      · rw [if_pos c8] at H
        have c8b0 : (t438 == t442) = true := beq_iff_eq.mpr c8
        have c8b1 : (t438 != t442) = false := bne_eq_false_iff_eq.mpr c8
        clear c8
        replace H := Option.bind_eq_some_iff.mp H
        obtain ⟨t443, A90, H⟩ := H
        replace H : (some t443) = some r := H
        have A9 := Aside0.mk A90
        clear A90
        obtain rfl := Option.some.inj H
        go_enter Tryd.func9, Tryd.ntmps9
        go_wp2_with (first | ((with_reducible refine gate_dst (N := 14) rfl ?_); refine Kd.R_lit (Kd.int .u8) _ 5 ?hg (N := 14) ?hd (xs := ([] : List Int)) (inner := []) (ok := fun _ => True) (okp := fun _ => True) ?hr ?hp (fun _ hk => hk) trivial (Below.refl _ _) (Nat.le_refl _) (by simp) ?_; (case hd => rfl); (case hg => rfl); (case hr => first | (go_simp; done) | (go_simp; rfl)); (case hp => exact (Reps.none _ _)); intro v430 w10 ho11 hb hg_ hnew_; clear hg_ hnew_; (first | rw [← Ny429.out] at ho11 | (simp only [Int.reduceToNat] at ho11; rw [← Ny429.out] at ho11)); have n0_ := Aside0.mk (Kd.R_lower ho11 (below_size (by repeat (first | (with_reducible first | exact HB.out | apply below_alloc | apply pw_below_drewN | apply below_drew1) | exact HB.out)))); have n1_ := Aside0.mk (below_step (by repeat (first | (with_reducible first | exact HB.out | apply below_alloc | apply pw_below_drewN | apply below_drew1) | exact HB.out)) hb); clear HB; have HO431 := n0_; have HB := n1_; clear n0_ n1_; clear hb ho11) | ((with_reducible refine gate_builtin (b := .append) (xs := #[.tmp 14, .tmp 15]) rfl ?_); at_builtin; refine Kd.R_append_rows (Kd.int .u8) (w0 := w) w.heap.size rfl (.tmp 14) (.tmp 15) 22 5 (.int .u8 0) 1 rfl Tryd.underlying22 info5 rfl (by decide) (by omega) v430 y429 l2 _ _ _ (fun _ => True) (fun _ => False) rfl rfl ?aO ?aR (fun _ _ h => h) (fun _ h => h.elim) ?aF ?aB ?aS ?aL ?_; (case aR => repeat (first | exact (Kd.C_below HR2.out HB.out) | (with_reducible refine Kd.C_alloc ?_ _) | (with_reducible refine Kd.C_drewN ?_ _) | (with_reducible refine Kd.C_drew ?_))); (case aB => exact (by repeat (first | (with_reducible first | exact HB.out | apply below_alloc | apply pw_below_drewN | apply below_drew1) | exact HB.out))); (case aF => exact (fun _ _ => trivial)); (case aO => exact (by (with_reducible repeat (first | apply Kd.R_alloc | apply Kd.R_drewN | apply Kd.R_drew)); exact HO431.out)); (case aS => exact (below_size (by repeat (first | (with_reducible first | exact HB.out | apply below_alloc | apply pw_below_drewN | apply below_drew1) | exact HB.out)))); (case aL => have := LMc4.out; omega); intro v433 w12 ho hb hg hat; rw [← Ny432.out] at ho; have n0_ := Aside0.mk (hb); have n1_ := Aside0.mk (ho); clear HB; clear HO431; have HB := n0_; have HO434 := n1_; clear n0_ n1_; clear ho hb hg hat; obtain ⟨Ao13, co13, eo13⟩ := Kd.R_slice HO434.out; subst eo13) | ((with_reducible refine gate_callee (f := 25) rfl ?_); refine goesL_ (some 18) rfl rfl Tryd.func25 (by kernel_rfl) rfl #[.agg #[.int .i64 a0, .int .i64 a1, .slice Ao13 y432.length co13]] rfl (by (try simp only [List.map_toArray, List.map_cons, List.map_nil]); first | done | rfl | (simp only [List.length_drop, List.length_take]; rfl)) ?_; (with_reducible refine (manifest_Put.calls k a0 a1 (fun k_ => some k_ = (.slice Ao13 y432.length co13 : Value).ownBlock) _ _ y432 t435 t438 _ ?side1 ?side2 A5.out).mono ?_); (case side1 => exact Kd.R_V (Kd.R_tight rfl (HO434.out))); (case side2 => first | exact HG.out | exact Gl.below HG.out (by repeat (first | (with_reducible first | exact HB.out | apply below_alloc | apply pw_below_drewN | apply below_drew1) | exact HB.out))); rintro e w14 ⟨v436, rfl, ho0, hb⟩; refine ⟨_, rfl, ?_⟩; have n0_ := Aside0.mk (Kd.R_elder' (by (with_reducible repeat (first | apply Kd.R_alloc | apply Kd.R_drewN | apply Kd.R_drew)); exact HO434.out) (Kd.R_base ho0) hb); have n1_ := Aside0.mk (Kd.R_lower (Kd.R_new' (Kd.R_mono (ok' := fun k_ => True) ho0 (fun _ hk_ => trivial)) (Kd.R_lt (by (with_reducible repeat (first | apply Kd.R_alloc | apply Kd.R_drewN | apply Kd.R_drew)); exact HO434.out))) (below_size (by repeat (first | (with_reducible first | exact HB.out | apply below_alloc | apply pw_below_drewN | apply below_drew1) | exact HB.out)))); have n2_ := Aside0.mk (below_step (by repeat (first | (with_reducible first | exact HB.out | apply below_alloc | apply pw_below_drewN | apply below_drew1) | exact HB.out)) hb); clear HO434; clear HB; have HO434 := n0_; have HO437 := n1_; have HB := n2_; clear n0_ n1_ n2_; (try clear hb); (try clear hb2); (try clear hk); (try clear hi); (try clear ho0)) | ((with_reducible refine gate_callee (f := 26) rfl ?_); refine goesL_ (some 26) rfl rfl Tryd.func26 (by kernel_rfl) rfl #[.agg #[.int .i64 a0, .int .i64 a1, .slice A2 l2.length c2]] rfl (by (try simp only [List.map_toArray, List.map_cons, List.map_nil]); first | done | rfl | (simp only [List.length_drop, List.length_take]; rfl)) ?_; (with_reducible refine (stemmaref19_Put.calls k a0 a1 _ _ l2 t439 t442 _ ?side1 ?side2 A6.out).mono ?_); (case side1 => repeat (first | exact (Kd.C_below HR2.out HB.out) | (with_reducible refine Kd.C_alloc ?_ _) | (with_reducible refine Kd.C_drewN ?_ _) | (with_reducible refine Kd.C_drew ?_))); (case side2 => exact HC2.out); rintro e w15 ⟨v440, rfl, ho0, hb⟩; refine ⟨_, rfl, ?_⟩; have n0_ := Aside0.mk (Kd.R_elder' (by (with_reducible repeat (first | apply Kd.R_alloc | apply Kd.R_drewN | apply Kd.R_drew)); exact HO434.out) (Kd.R_base ho0) hb); have n1_ := Aside0.mk (Kd.R_elder' (by (with_reducible repeat (first | apply Kd.R_alloc | apply Kd.R_drewN | apply Kd.R_drew)); exact HO437.out) (Kd.R_base ho0) hb); have n2_ := Aside0.mk (Kd.R_lower (Kd.R_new' (Kd.R_new' ho0 (Kd.R_lt (by (with_reducible repeat (first | apply Kd.R_alloc | apply Kd.R_drewN | apply Kd.R_drew)); exact HO434.out))) (Kd.R_lt (by (with_reducible repeat (first | apply Kd.R_alloc | apply Kd.R_drewN | apply Kd.R_drew)); exact HO437.out))) (below_size (by repeat (first | (with_reducible first | exact HB.out | apply below_alloc | apply pw_below_drewN | apply below_drew1) | exact HB.out)))); have n3_ := Aside0.mk (below_step (by repeat (first | (with_reducible first | exact HB.out | apply below_alloc | apply pw_below_drewN | apply below_drew1) | exact HB.out)) hb); clear HO434; clear HO437; clear HB; have HO434 := n0_; have HO437 := n1_; have HO441 := n2_; have HB := n3_; clear n0_ n1_ n2_ n3_; (try clear hb); (try clear hb2); (try clear hk); (try clear hi); (try clear ho0); have hcv16 := own_string (P := Tryd.prog) Tryd.underlying22 Tryd.underlying5 Tryd.underlying9 (Kd.own_of_R HO437.out); have hcd16 := fun m_ : Nat => own_string (P := Tryd.prog) Tryd.underlying22 Tryd.underlying5 Tryd.underlying9 (Kd.own_of_R (Kd.R_drewN HO437.out m_)); have hcv17 := own_string (P := Tryd.prog) Tryd.underlying22 Tryd.underlying5 Tryd.underlying9 (Kd.own_of_R HO441.out); have hcd17 := fun m_ : Nat => own_string (P := Tryd.prog) Tryd.underlying22 Tryd.underlying5 Tryd.underlying9 (Kd.own_of_R (Kd.R_drewN HO441.out m_))) | (go_at_call 27; (with_reducible refine (stemmalaw19_awake.calls k  t443 _ ?side1 A9.out).mono ?_); (case side1 => first | exact HG.out | exact Gl.below HG.out (by repeat (first | (with_reducible first | exact HB.out | apply below_alloc | apply pw_below_drewN | apply below_drew1) | exact HB.out))); rintro e w18 ⟨rfl, hb⟩; have n0_ := Aside0.mk (Kd.R_below (by (with_reducible repeat (first | apply Kd.R_alloc | apply Kd.R_drewN | apply Kd.R_drew)); exact HO434.out) hb); have n1_ := Aside0.mk (Kd.R_below (by (with_reducible repeat (first | apply Kd.R_alloc | apply Kd.R_drewN | apply Kd.R_drew)); exact HO437.out) hb); have n2_ := Aside0.mk (Kd.R_below (by (with_reducible repeat (first | apply Kd.R_alloc | apply Kd.R_drewN | apply Kd.R_drew)); exact HO441.out) hb); have n3_ := Aside0.mk (below_step (by repeat (first | (with_reducible first | exact HB.out | apply below_alloc | apply pw_below_drewN | apply below_drew1) | exact HB.out)) hb); clear HO434; clear HO437; clear HO441; clear HB; have HO434 := n0_; have HO437 := n1_; have HO441 := n2_; have HB := n3_; clear n0_ n1_ n2_ n3_; (try clear hb); (try clear hb2); (try clear hk); (try clear hi)))
        go_ret
        exact ⟨by first | rfl | (simp [errW_none, errW_some] <;> rfl) | (simp [*, errW_none, errW_some] <;> rfl), by repeat (first | (with_reducible first | exact HB.out | apply below_alloc | apply pw_below_drewN | apply below_drew1) | exact HB.out)⟩
      · rw [if_neg c8] at H
        have c8b0 : (t438 == t442) = false := beq_eq_false_iff_ne.mpr c8
        have c8b1 : (t438 != t442) = true := bne_iff_ne.mpr c8
        exact absurd ((Option.some.inj H).trans hr_.out) (by decide)
    · rw [if_neg c7] at H
      have c7b0 : ((strOfNums t435).toList == (strOfNums t439).toList) = false := beq_eq_false_iff_ne.mpr c7
      have c7b1 : ((strOfNums t435).toList != (strOfNums t439).toList) = true := bne_iff_ne.mpr c7
      exact absurd ((Option.some.inj H).trans hr_.out) (by decide)
  · rw [if_neg c4] at H
    exact absurd H (by simp)

end Go.Proofs.YtonpiacnljcohaaDoor.PA

/- Manifests: what is laid is read; the reference lays the same; the closed case. -/
set_option linter.unusedVariables false
set_option linter.unusedSimpArgs false
namespace Go.Proofs.YtonpiacnljcohaaDoor.MaT
open Go Go.RowKit Go.Proofs.YtonpiacnljcohaaDoor.PA Go.Proofs.YtonpiacnljcohaaDoorW.PrintWords Go.Proofs.YtonpiacnljcohaaDoor.LebT Go.Proofs.YtonpiacnljcohaaDoor.LebP Go.Proofs.YtonpiacnljcohaaDoor.ColT Go.Proofs.YtonpiacnljcohaaDoor.FrT Go.Proofs.YtonpiacnljcohaaDoor.Rdr
theorem rd_head' (x : Int) (r : List Int) : rd (x :: r) 0 = x := rfl
theorem opn_sealed' (a : Int) (l r : List Int) (ha0 : a ≠ 0) (hl : l.length ≤ 1048576) : opn (sealed a l ++ r) = (a, l, ((sealed a l).length : Int), 0) := by
  have hb : sealed a l ++ r = a :: (putU l.length ++ (l ++ (le4 (crcN (head a l)) ++ r))) := by simp [sealed, head]
  have hp := putU_len64 (n := l.length) (by omega)
  have hpp := putU_len_pos l.length
  have hg : gU 0 0 ((sealed a l ++ r).drop 1) = ((l.length : Int), ((putU l.length).length : Int), 0) := by
    rw [hb, List.drop_one, List.tail_cons]
    have := gU_put l.length 0 0 (l ++ (le4 (crcN (head a l)) ++ r)) (by omega) (by simp) (by simp; omega)
    simpa using this
  have hh : (head a l).length = 1 + (putU l.length).length + l.length := by simp [head]; omega
  have hs : (sealed a l).length = (head a l).length + 4 := by simp [sealed, le4_len]
  unfold opn
  rw [hg]
  have e1 : (1 + ((putU l.length).length : Int) + (l.length : Int)).toNat = (head a l).length := by omega
  have e2 : (1 + ((putU l.length).length : Int) + (l.length : Int) + 4).toNat = (sealed a l).length := by omega
  have e3 : (1 + ((putU l.length).length : Int)).toNat = (a :: putU l.length).length := by simp; omega
  have t1 : (sealed a l ++ r).take (head a l).length = head a l := by
    unfold sealed
    rw [List.append_assoc, List.take_left']
    rfl
  have t2 : (sealed a l ++ r).take (sealed a l).length = sealed a l := List.take_left' rfl
  simp only [e1, e2, e3, t1, t2, if_true]
  rw [if_neg (by rw [List.length_append]; omega), if_neg (by rw [hb, rd_head']; exact ha0), if_neg (by omega), if_neg (by rw [List.length_append]; omega), if_pos (show sealed a l = head a l ++ le4 (crcN (head a l)) from rfl)]
  rw [hb, rd_head']
  have t3 : (head a l).drop (a :: putU l.length).length = l := by
    unfold head
    rw [← List.cons_append, List.drop_left']
    rfl
  rw [t3]
  simp only [Prod.mk.injEq, true_and, and_true]
  omega
theorem rput_j0 (a b : Int) (l : List Int) (hl : ∀ x ∈ l, isByte x) (k : Nat) (hk : 12000000 ≤ k) (x : Bool) (h : x = false → 1 ≤ a ∧ a ≤ 999999 ∧ 0 ≤ b ∧ b ≤ 16777216) :
    stemmaref19_Put.j0 k x a b l = some (if x = true then ([], 2) else if (l.length : Int) > 524288 then ([], 5) else (sealed 3 (body a b l), 0)) := by
  obtain ⟨k, rfl⟩ : ∃ k', k = k' + 1 := ⟨k - 1, by omega⟩
  rw [stemmaref19_Put.j0]
  cases x with
  | true => rfl
  | false =>
    obtain ⟨h1, h2, h3, h4⟩ := h rfl
    clear h
    simp only [Bool.false_eq_true, if_false]
    by_cases hl2 : (l.length : Int) > 524288
    · rw [if_pos hl2, if_pos hl2]
    rw [if_neg hl2, if_neg hl2, wrap_u64 (by omega) (by omega), wrap_u64 (by omega) (by omega), rUint_f (by omega) (by omega) (by omega), Option.bind_some, rUint_f (by omega) (by omega) (by omega), Option.bind_some]
    have hlen := body_len (a := a) (b := b) (l := l) (by omega) (by omega) (by omega)
    have hp1 := putU_len64 (n := a.toNat) (by omega)
    have hp2 := putU_len64 (n := b.toNat) (by omega)
    have e : putU a.toNat ++ putU b.toNat ++ l = body a b l := by simp [body]
    rw [if_pos (by omega), Option.bind_some, if_pos (by rw [List.length_append]; omega), e, rseal_f 3 _ ⟨by omega, by omega⟩ (body_bytes hl) (by omega), Option.bind_some, sealR, if_neg (by omega), if_neg (by omega)]
theorem rput_f (a b : Int) (l : List Int) (hl : ∀ x ∈ l, isByte x) {k : Nat} (hk : 12000000 ≤ k) : stemmaref19_Put.f k a b l = some (mput a b l) := by
  unfold stemmaref19_Put.f mput
  by_cases h1 : a < 1
  · rw [if_pos h1, rput_j0 a b l hl k hk true (by simp), if_pos rfl, if_pos (Or.inl h1)]
  rw [if_neg h1]
  by_cases h2 : a > 999999
  · rw [if_pos h2, rput_j0 a b l hl k hk true (by simp), if_pos rfl, if_pos (Or.inr (Or.inl h2))]
  rw [if_neg h2]
  by_cases h3 : b < 0
  · rw [if_pos h3, rput_j0 a b l hl k hk true (by simp), if_pos rfl, if_pos (Or.inr (Or.inr (Or.inl h3)))]
  rw [if_neg h3]
  rw [rput_j0 a b l hl k hk _ (fun h => by have := of_decide_eq_false h; omega)]
  by_cases h4 : b > 16777216
  · rw [if_pos (decide_eq_true h4), if_pos (Or.inr (Or.inr (Or.inr h4)))]
  · rw [if_neg (by simp; omega), if_neg (show ¬ (a < 1 ∨ a > 999999 ∨ b < 0 ∨ b > 16777216) by omega)]
theorem rdU_put (most : Int) (a : Int) (r : List Int) (h0 : 0 ≤ a) (h1 : a ≤ most) (h2 : most < 18446744073709551616) : rdU most (putU a.toNat ++ r) 0 = (a, r, 0) := by
  have hg : gU 0 0 (putU a.toNat ++ r) = (a, ((putU a.toNat).length : Int), 0) := by
    have := gU_put a.toNat 0 0 r (by omega) (by simp) (by simp; omega)
    simp at this
    rw [this, show max a 0 = a by omega]
  unfold rdU
  rw [hg]
  rw [if_pos ⟨rfl, rfl, h1⟩]
  simp
theorem mget_put (a b : Int) (l : List Int) (h1 : 1 ≤ a) (h2 : a ≤ 999999) (h3 : 0 ≤ b) (h4 : b ≤ 16777216) (h5 : l.length ≤ 524288) : mget (sealed 3 (body a b l)) = (a, b, l, 0) := by
  have hlen := body_len (a := a) (b := b) (l := l) (by omega) (by omega) h5
  have ho := opn_sealed' 3 (body a b l) [] (by omega) (by omega)
  rw [List.append_nil] at ho
  have r1 := rdU_put 999999 a (putU b.toNat ++ l) (by omega) h2 (by omega)
  have r2 := rdU_put 16777216 b l h3 h4 (by omega)
  have hp : mput a b l = (sealed 3 (body a b l), 0) := by
    unfold mput
    rw [if_neg (by omega), if_neg (by omega)]
  unfold mget
  rw [ho]
  simp only [and_self, if_true]
  rw [show rdU 999999 (body a b l) 0 = (a, putU b.toNat ++ l, 0) from r1]
  simp only
  rw [r2]
  simp only
  rw [hp]
  simp only [and_self, if_true]
theorem mput_1 : (mput 1 0 []) = (sealed 3 [1, 0], 0) := by
  unfold mput body
  rw [if_neg (by omega), if_neg (by simp)]
  rw [show ((1 : Int).toNat) = 1 from rfl, show ((0 : Int).toNat) = 0 from rfl, putU_small (by omega), putU_small (by omega)]
  rfl
theorem mget_1 : mget (sealed 3 [1, 0]) = (1, 0, [], 0) := by
  have := mget_put 1 0 [] (by omega) (by omega) (by omega) (by omega) (by simp)
  unfold body at this
  rw [show ((1 : Int).toNat) = 1 from rfl, show ((0 : Int).toNat) = 0 from rfl, putU_small (by omega), putU_small (by omega)] at this
  exact this
theorem sealed_1 : sealed 3 [1, 0] = [3, 2, 1, 0] ++ le4 (crcN (head 3 [1, 0])) := by
  unfold sealed head
  rw [show ([1, 0] : List Int).length = 2 from rfl, putU_small (by omega)]
  rfl
theorem awake19_f {k : Nat} (hk : 30 ≤ k) : stemmalaw19_awake.f k = some true := by
  unfold stemmalaw19_awake.f
  rw [put_f 1 0 [] (by intro x hx; cases hx) hk, Option.bind_some, mput_1]
  have hb : bytesB (sealed 3 [1, 0]) = true := by
    rw [bytesB_iff]
    have := mput_bytes 1 0 (l := []) (by intro x hx; cases hx)
    rw [mput_1] at this
    exact this
  have hl : (sealed 3 [1, 0]).length = 8 := by rw [sealed_1]; rfl
  have hg : manifest_Get.f (sealed 3 [1, 0]) = some (1, 0, [], 0) := by
    unfold manifest_Get.f
    rw [if_pos ⟨by rw [hl]; omega, hb⟩, mget_1]
  have ht : (sealed 3 [1, 0]).take 4 = [3, 2, 1, 0] := by rw [sealed_1]; rfl
  have hs : (strOfNums [3, 2, 1, 0]).toList = ([3, 2, 1, 0] : List UInt8) := by decide +kernel
  simp only
  rw [hg, Option.bind_some, hl, ht, if_pos (show ((8 : Nat) : Int) = 8 from rfl), if_pos (show (4 : Int) ≤ ((8 : Nat) : Int) by decide), if_pos hs]
  simp only [if_true]
theorem mput_len (a b : Int) {l : List Int} : (mput a b l).1.length ≤ 524330 := by
  unfold mput
  split
  · simp
  split
  · simp
  · rename_i h1 h2
    have hlen := body_len (a := a) (b := b) (l := l) (by omega) (by omega) (by omega)
    have hh := putU_len64 (n := (body a b l).length) (by omega)
    simp only [sealed, head, List.length_append, List.length_cons, le4_len]
    omega
end Go.Proofs.YtonpiacnljcohaaDoor.MaT

/- Any manifest has the bytes that the document says. -/
set_option linter.unusedVariables false
set_option linter.unusedSimpArgs false
namespace Go.Proofs.YtonpiacnljcohaaDoor.Pure
open Go Go.RowKit Go.Proofs.YtonpiacnljcohaaDoor.PA Go.Proofs.YtonpiacnljcohaaDoorW.PrintWords Go.Proofs.YtonpiacnljcohaaDoor.LebT Go.Proofs.YtonpiacnljcohaaDoor.LebP Go.Proofs.YtonpiacnljcohaaDoor.FrT Go.Proofs.YtonpiacnljcohaaDoor.MaT
theorem ManifestPuts (a0 : Int) (a1 : Int) (a2 : (List Int)) (q0 : (Lit.int .i64 a0).wf = true) (q1 : (Lit.int .i64 a1).wf = true) (q2 : a2.length ≤ maxLen ∧ ∀ y22 ∈ a2, (Lit.int .u8 y22).wf = true) (b2 : a2.length * 1 ≤ 140737488351232) : ∃ k, PA.stemmalaw19_ManifestPuts.f k a0 a1 a2 = some true := by
  have hb : ∀ y ∈ a2, isByte y := fun y hy => wf_u8 (q2.2 y hy)
  have hl : a2.length ≤ 140737488351232 := by omega
  refine ⟨12000000, ?_⟩
  unfold stemmalaw19_ManifestPuts.f
  simp only [Option.bind_some, List.nil_append, List.length_nil]
  rw [if_pos (by omega), put_f a0 a1 a2 hb (by omega), rput_f a0 a1 a2 hb (by omega)]
  simp only [Option.bind_some, if_true]
  rw [awake19_f (by omega), Option.bind_some]
end Go.Proofs.YtonpiacnljcohaaDoor.Pure
