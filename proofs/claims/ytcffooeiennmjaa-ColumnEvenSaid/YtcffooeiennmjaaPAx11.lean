-- Written by a program of this session (wip/tools/myprint.py), out of the translation's print. Lean checks it.
import Derived.Test.YtcffooeiennmjaaPAx0
import Derived.Test.YtcffooeiennmjaaPAx27
import Derived.Test.YtcffooeiennmjaaPAx29
import Derived.Test.YtcffooeiennmjaaPAx30
import Derived.Test.YtcffooeiennmjaaPAx40
namespace Go.Proofs.Ytcffooeiennmjaa.PA
open Go.RowKit Go.Proofs.YtcffooeiennmjaaW.PrintWords Go.Proofs.YtcffooeiennmjaaW.PrintLast Go.Proofs.YtcffooeiennmjaaW.PrintMore
attribute [local go_sem] max2_int min2_int max_two min_two max_three min_three max_four min_four   -- for this text's walks alone
set_option linter.unusedVariables false
set_option linter.unusedSimpArgs false

/-! ### stemmalaw03_ColumnEven: function 11 -/
def stemmalaw03_ColumnEven.l0 : Nat → Int → Int → Int → List Int → Int → Option (Bool)
  | 0, _, _, _, _, _ => none
  | k + 1, x0, x1, x2, x7, x8 => if x8 < (wrap64 (x2)) then (if x7.length < 17592186044416 then (stemmalaw03_ColumnEven.l0 k (wrap64 (x0 + x1)) x1 x2 (x7 ++ [x0]) (wrap64 (x8 + 1))) else (none)) else ((column_Deltas.f k x7).bind fun t484 => ((column_GetDeltas.f k t484 255).bind fun bt487 => (if (t484.length : Int) ≥ 1 then (if (t484.length : Int) ≤ 25 then (if bt487.2.2 = 0 then (if bt487.2.1 = (t484.length : Int) then ((stemmaref03_Same.f k bt487.1 x7).bind fun t492 => (if t492 = true then ((stemmalaw03_awake.f k).bind fun t493 => (some t493)) else (some false))) else (some false)) else (some false)) else (some false)) else (some false))))
def stemmalaw03_ColumnEven.f (k : Nat) (a0 : Int) (a1 : Int) (a2 : Int) : Option (Bool) := stemmalaw03_ColumnEven.l0 k a0 a1 a2 ([] : List Int) 0
theorem stemmalaw03_ColumnEven.mono_l : ∀ k, (∀ y0 y1 y2 y3 y4, LeO (stemmalaw03_ColumnEven.l0 k y0 y1 y2 y3 y4) (stemmalaw03_ColumnEven.l0 (k + 1) y0 y1 y2 y3 y4))
  | 0 => fun _ _ _ _ _ r h => by simp [stemmalaw03_ColumnEven.l0] at h
  | k + 1 => by
    have ih0 := stemmalaw03_ColumnEven.mono_l k
    · intro y0 y1 y2 y3 y4
      unfold stemmalaw03_ColumnEven.l0
      repeat' first
      | (with_reducible exact ih0 _ _ _ _ _)
      | (with_reducible exact column_Deltas.mono _ _)
      | (with_reducible exact column_GetDeltas.mono _ _ _)
      | (with_reducible exact stemmalaw03_awake.mono _)
      | (with_reducible exact stemmaref03_Same.mono _ _ _)
      | (with_reducible exact LeO.refl _)
      | (with_reducible exact LeO.none _)
      | (with_reducible refine LeO.ite ?_ ?_)
      | (with_reducible refine LeO.bind ?_ (fun _ => ?_))
      | exact ih0 _ _ _ _ _
      | exact column_Deltas.mono _ _
      | exact column_GetDeltas.mono _ _ _
      | exact stemmalaw03_awake.mono _
      | exact stemmaref03_Same.mono _ _ _
      | exact LeO.none _
      | refine LeO.ite ?_ ?_
      | refine LeO.bind ?_ (fun _ => ?_)
theorem stemmalaw03_ColumnEven.mono : ∀ a0 a1 a2 k, LeO (stemmalaw03_ColumnEven.f k a0 a1 a2) (stemmalaw03_ColumnEven.f (k + 1) a0 a1 a2) := by
  intro a0 a1 a2 k
  have ih0 := stemmalaw03_ColumnEven.mono_l k
  unfold stemmalaw03_ColumnEven.f
  repeat' first
      | (with_reducible exact ih0 _ _ _ _ _)
      | (with_reducible exact column_Deltas.mono _ _)
      | (with_reducible exact column_GetDeltas.mono _ _ _)
      | (with_reducible exact stemmalaw03_awake.mono _)
      | (with_reducible exact stemmaref03_Same.mono _ _ _)
      | (with_reducible exact LeO.refl _)
      | (with_reducible exact LeO.none _)
      | (with_reducible refine LeO.ite ?_ ?_)
      | (with_reducible refine LeO.bind ?_ (fun _ => ?_))
      | exact ih0 _ _ _ _ _
      | exact column_Deltas.mono _ _
      | exact column_GetDeltas.mono _ _ _
      | exact stemmalaw03_awake.mono _
      | exact stemmaref03_Same.mono _ _ _
      | exact LeO.none _
      | refine LeO.ite ?_ ?_
      | refine LeO.bind ?_ (fun _ => ?_)
set_option maxHeartbeats 8000000 in
set_option maxRecDepth 100000 in
theorem stemmalaw03_ColumnEven.calls (k : Nat) (a0 : Int) (a1 : Int) (a2 : Int) (r : Bool) (w : World) (hr_ : Aside0 (r = true)) (h : stemmalaw03_ColumnEven.f k a0 a1 a2 = some r) :
    Calls Try.prog 11 #[.int .i64 a0, .int .i64 a1, .int .u8 a2] w fun e w' => e = .returned (.bool r) ∧ Below w.heap.size w w' := by
  have HB := Aside0.mk (Below.refl w.heap.size w)
  have H : (stemmalaw03_ColumnEven.l0 k a0 a1 a2 ([] : List Int) 0) = some r := h
  clear h
  have H' := Aside0.mk H
  clear H
  go_enter Try.func11, Try.ntmps11
  go_wp2
  go_loopg [0, 7, 8] k (fun kq v0 v7 v8 w' => ∃ (x0_1 : Int) (x7_1 : List Int) (x8_1 : Int), v0 = .int .i64 x0_1 ∧ v8 = .int .i64 x8_1 ∧ Aside0 (stemmalaw03_ColumnEven.l0 kq x0_1 a1 a2 x7_1 x8_1 = some r) ∧ Aside0 (kq ≤ k) ∧ Aside0 (Kd.R (Kd.int .i64) 2 w' w.heap.size (fun _ => True) v7 x7_1) ∧ Aside0 (Below w.heap.size w w'))
  case atStart => exact ⟨(a0), (([] : List Int)), (0), (by first | rfl | (simp; done) | (simp [*]; done)), (by first | rfl | (simp; done) | (simp [*]; done)), H', ⟨Nat.le_refl _⟩, ⟨by first | exact Kd.R_nil _ _ _ _ _ | exact Kd.N_nil _ _ _ _ _ | exact Kd.V_nil _ _ _ _ _ | exact Kd.Q_nil _ _ _ _ _ | exact Kd.S_nil _ _ _ _ _⟩, ⟨by repeat (first | (with_reducible first | exact HB.out | apply below_alloc | apply pw_below_drewN | apply below_drew1) | exact HB.out)⟩⟩
  case round =>
    clear H'
    try clear c1
    try clear p2
    obtain ⟨x0_1, x7_1, x8_1, rfl, rfl, HA, HK1, HO_7, HB⟩ := hrel
    cases gk with
    | zero => exact absurd HA.out (by simp [stemmalaw03_ColumnEven.l0])
    | succ k1 =>
      have H := HA.out
      clear HA
      simp only [stemmalaw03_ColumnEven.l0] at H
      by_cases c4 : x8_1 < (wrap64 (a2))
      · rw [if_pos c4] at H
        have c4b0 : decide (x8_1 < (wrap64 (a2))) = true := decide_eq_true c4
        clear c4
        by_cases c5 : x7_1.length < 17592186044416
        · rw [if_pos c5] at H
          have LMc5 := Aside0.mk c5
          clear c5
          obtain ⟨y481, hy481⟩ : ∃ y_ : List Int, y_ = (x7_1 ++ [x0_1]) := ⟨_, rfl⟩
          replace H : (stemmalaw03_ColumnEven.l0 k1 (wrap64 (x0_1 + a1)) a1 a2 y481 (wrap64 (x8_1 + 1))) = some r := by first | (rw [hy481]; with_reducible exact H) | (have H2_ := (Option.bind_some _ _).symm.trans H; rw [hy481]; with_reducible exact H2_) | (have H2_ := (Option.bind_some _ _).symm.trans H; with_reducible exact H2_) | with_reducible exact H | (rw [hy481]; exact H) | exact H
          have Ny481 := Aside0.mk hy481
          clear hy481
          have H' := Aside0.mk H
          clear H
          go_wp2_with (first | ((with_reducible refine gate_builtin (b := .append) (xs := #[.tmp 19, .tmp 21]) rfl ?_); (try (refine gate_guard (by rfl) ?_; dsimp only)); at_builtin; refine Kd.R_append (Kd.int .i64) (w0 := w) w.heap.size rfl (.tmp 19) (.tmp 21) 40 2 (.int .i64 0) 8 rfl Try.underlying40 info2 rfl (by decide) (by omega) u7 x7_1 x0_1 [.int .i64 x0_1] (fun _ => True) (fun _ => False) rfl rfl ?aP (fun _ hk => hk.elim) ?aF ?aO ?aB ?aS ?aL ?_; (case aP => exact rfl); (case aB => exact (by repeat (first | (with_reducible first | exact HB.out | apply below_alloc | apply pw_below_drewN | apply below_drew1) | exact HB.out))); (case aF => exact (fun _ _ => trivial)); (case aO => exact (by (with_reducible repeat (first | apply Kd.R_alloc | apply Kd.R_drewN | apply Kd.R_drew)); exact HO_7.out)); (case aS => exact (below_size (by repeat (first | (with_reducible first | exact HB.out | apply below_alloc | apply pw_below_drewN | apply below_drew1) | exact HB.out)))); (case aL => have := LMc5.out; omega); intro v482 w6 ho hb hg hat; rw [← Ny481.out] at ho; have n0_ := Aside0.mk (hb); have n1_ := Aside0.mk (ho); clear HB; clear HO_7; have HB := n0_; have HO483 := n1_; clear n0_ n1_; clear ho hb hg hat))
          go_roundg k1
          case measure => have := HK1.out; omega
          case rel => exact ⟨(wrap64 (x0_1 + a1)), (y481), (wrap64 (x8_1 + 1)), (by first | rfl | (simp; done) | (simp [*]; done)), (by first | rfl | (simp; done) | (simp [*]; done)), H', ⟨by have := HK1.out; omega⟩, ⟨by (with_reducible repeat (first | apply Kd.R_alloc | apply Kd.R_drewN | apply Kd.R_drew)); exact HO483.out⟩, ⟨by repeat (first | (with_reducible first | exact HB.out | apply below_alloc | apply pw_below_drewN | apply below_drew1) | exact HB.out)⟩⟩
        · rw [if_neg c5] at H
          exact absurd H (by simp)
      · rw [if_neg c4] at H
        have c4b0 : decide (x8_1 < (wrap64 (a2))) = false := decide_eq_false c4
        clear c4
        replace H := Option.bind_eq_some_iff.mp H
        obtain ⟨t484, A70, H⟩ := H
        replace H : ((column_GetDeltas.f k1 t484 255).bind fun bt487 => (if (t484.length : Int) ≥ 1 then (if (t484.length : Int) ≤ 25 then (if bt487.2.2 = 0 then (if bt487.2.1 = (t484.length : Int) then ((stemmaref03_Same.f k1 bt487.1 x7_1).bind fun t492 => (if t492 = true then ((stemmalaw03_awake.f k1).bind fun t493 => (some t493)) else (some false))) else (some false)) else (some false)) else (some false)) else (some false))) = some r := H
        have A7 := Aside0.mk A70
        clear A70
        replace H := Option.bind_eq_some_iff.mp H
        obtain ⟨⟨t487, t488, t489⟩, A80, H⟩ := H
        replace H : (if (t484.length : Int) ≥ 1 then (if (t484.length : Int) ≤ 25 then (if t489 = 0 then (if t488 = (t484.length : Int) then ((stemmaref03_Same.f k1 t487 x7_1).bind fun t492 => (if t492 = true then ((stemmalaw03_awake.f k1).bind fun t493 => (some t493)) else (some false))) else (some false)) else (some false)) else (some false)) else (some false)) = some r := H
        have A8 := Aside0.mk A80
        clear A80
        by_cases c9 : (t484.length : Int) ≥ 1
        · rw [if_pos c9] at H
          have c9b0 : decide (1 ≤ (t484.length : Int)) = true := decide_eq_true c9
          have c9b1 : decide (1 ≤ t484.length) = true := decide_eq_true (by omega)
          clear c9
          by_cases c10 : (t484.length : Int) ≤ 25
          · rw [if_pos c10] at H
            have c10b0 : decide ((t484.length : Int) ≤ 25) = true := decide_eq_true c10
            have c10b1 : decide (t484.length ≤ 25) = true := decide_eq_true (by omega)
            clear c10
            by_cases c11 : t489 = 0
            · rw [if_pos c11] at H
              have c11b0 : (t489 == 0) = true := beq_iff_eq.mpr c11
              have c11b1 : (t489 != 0) = false := bne_eq_false_iff_eq.mpr c11
              clear c11
              by_cases c12 : t488 = (t484.length : Int)
              · rw [if_pos c12] at H
                have c12b0 : (t488 == (t484.length : Int)) = true := beq_iff_eq.mpr c12
                have c12b1 : (t488 != (t484.length : Int)) = false := bne_eq_false_iff_eq.mpr c12
                clear c12
                replace H := Option.bind_eq_some_iff.mp H
                obtain ⟨t492, A130, H⟩ := H
                replace H : (if t492 = true then ((stemmalaw03_awake.f k1).bind fun t493 => (some t493)) else (some false)) = some r := H
                have A13 := Aside0.mk A130
                clear A130
                by_cases c14 : t492 = true
                · subst c14
                  have H1 : ((stemmalaw03_awake.f k1).bind fun t493 => (some t493)) = some r := by rw [if_pos rfl] at H; exact H
                  clear H
                  have H := H1
                  clear H1
                  replace H := Option.bind_eq_some_iff.mp H
                  obtain ⟨t493, A150, H⟩ := H
                  replace H : (some t493) = some r := H
                  have A15 := Aside0.mk A150
                  clear A150
                  obtain rfl := Option.some.inj H
                  obtain ⟨Ao16, co16, eo16⟩ := Kd.R_slice HO_7.out
                  subst eo16
                  go_wp2_with (first | ((with_reducible refine gate_callee (f := 40) rfl ?_); refine goesL_ (some 27) rfl rfl Try.func40 (by kernel_rfl) rfl #[.slice Ao16 x7_1.length co16] rfl (by (try simp only [List.map_toArray, List.map_cons, List.map_nil]); first | done | rfl | (simp only [List.length_drop, List.length_take]; rfl)) ?_; (with_reducible refine (column_Deltas.calls k1 _ _ x7_1 t484 _ ?side1 ?side2 A7.out).mono ?_); (case side1 => repeat (first | exact (Kd.R_reads' HO_7.out).2.2 | (with_reducible refine Kd.C_alloc ?_ _) | (with_reducible refine Kd.C_drewN ?_ _) | (with_reducible refine Kd.C_drew ?_))); (case side2 => exact (Kd.R_reads' HO_7.out).2.1); rintro e w17 ⟨v485, rfl, ho0, hb⟩; refine ⟨_, rfl, ?_⟩; have n0_ := Aside0.mk (Kd.R_below (by (with_reducible repeat (first | apply Kd.R_alloc | apply Kd.R_drewN | apply Kd.R_drew)); exact HO_7.out) hb); have n1_ := Aside0.mk (Kd.R_lower ho0 (below_size (by repeat (first | (with_reducible first | exact HB.out | apply below_alloc | apply pw_below_drewN | apply below_drew1) | exact HB.out)))); have n2_ := Aside0.mk (below_step (by repeat (first | (with_reducible first | exact HB.out | apply below_alloc | apply pw_below_drewN | apply below_drew1) | exact HB.out)) hb); clear HO_7; clear HB; have HO_7 := n0_; have HO486 := n1_; have HB := n2_; clear n0_ n1_ n2_; (try clear hb); (try clear hb2); (try clear hk); (try clear hi); (try clear ho0); obtain ⟨Ao18, co18, eo18⟩ := Kd.R_slice HO486.out; subst eo18) | ((with_reducible refine gate_callee (f := 27) rfl ?_); refine goesL_ (some 30) rfl rfl Try.func27 (by kernel_rfl) rfl #[.slice Ao18 t484.length co18, .int .i64 255] rfl (by (try simp only [List.map_toArray, List.map_cons, List.map_nil]); first | done | rfl | (simp only [List.length_drop, List.length_take]; rfl)) ?_; (with_reducible refine (column_GetDeltas.calls k1 _ _ t484 255 t487 t488 t489 _ ?side1 ?side2 A8.out).mono ?_); (case side1 => repeat (first | exact (Kd.R_reads' HO486.out).2.2 | (with_reducible refine Kd.C_alloc ?_ _) | (with_reducible refine Kd.C_drewN ?_ _) | (with_reducible refine Kd.C_drew ?_))); (case side2 => exact (Kd.R_reads' HO486.out).2.1); rintro e w19 ⟨v490, rfl, ho0, hb⟩; refine ⟨_, rfl, ?_⟩; have n0_ := Aside0.mk (Kd.R_elder' (by (with_reducible repeat (first | apply Kd.R_alloc | apply Kd.R_drewN | apply Kd.R_drew)); exact HO_7.out) (Kd.R_base ho0) hb); have n1_ := Aside0.mk (Kd.R_below (by (with_reducible repeat (first | apply Kd.R_alloc | apply Kd.R_drewN | apply Kd.R_drew)); exact HO486.out) hb); have n2_ := Aside0.mk (Kd.R_lower (Kd.R_new' ho0 (Kd.R_lt (by (with_reducible repeat (first | apply Kd.R_alloc | apply Kd.R_drewN | apply Kd.R_drew)); exact HO_7.out))) (below_size (by repeat (first | (with_reducible first | exact HB.out | apply below_alloc | apply pw_below_drewN | apply below_drew1) | exact HB.out)))); have n3_ := Aside0.mk (below_step (by repeat (first | (with_reducible first | exact HB.out | apply below_alloc | apply pw_below_drewN | apply below_drew1) | exact HB.out)) hb); clear HO_7; clear HO486; clear HB; have HO_7 := n0_; have HO486 := n1_; have HO491 := n2_; have HB := n3_; clear n0_ n1_ n2_ n3_; (try clear hb); (try clear hb2); (try clear hk); (try clear hi); (try clear ho0); obtain ⟨Ao20, co20, eo20⟩ := Kd.R_slice HO491.out; subst eo20) | (go_at_call 29; (with_reducible refine (stemmaref03_Same.calls k1 _ _ t487 _ _ x7_1 true _ ?side1 ?side2 ?side3 ?side4 A13.out).mono ?_); (case side1 => repeat (first | exact (Kd.R_reads' HO491.out).2.2 | (with_reducible refine Kd.C_alloc ?_ _) | (with_reducible refine Kd.C_drewN ?_ _) | (with_reducible refine Kd.C_drew ?_))); (case side2 => exact (Kd.R_reads' HO491.out).2.1); (case side3 => repeat (first | exact (Kd.R_reads' HO_7.out).2.2 | (with_reducible refine Kd.C_alloc ?_ _) | (with_reducible refine Kd.C_drewN ?_ _) | (with_reducible refine Kd.C_drew ?_))); (case side4 => exact (Kd.R_reads' HO_7.out).2.1); rintro e w' ⟨rfl, ⟨nd, rfl⟩⟩) | (go_at_call 30; (with_reducible refine (stemmalaw03_awake.calls k1  t493 _ A15.out).mono ?_); rintro e w21 ⟨rfl, hb⟩; have n0_ := Aside0.mk (Kd.R_below (by (with_reducible repeat (first | apply Kd.R_alloc | apply Kd.R_drewN | apply Kd.R_drew)); exact HO_7.out) hb); have n1_ := Aside0.mk (Kd.R_below (by (with_reducible repeat (first | apply Kd.R_alloc | apply Kd.R_drewN | apply Kd.R_drew)); exact HO486.out) hb); have n2_ := Aside0.mk (Kd.R_below (by (with_reducible repeat (first | apply Kd.R_alloc | apply Kd.R_drewN | apply Kd.R_drew)); exact HO491.out) hb); have n3_ := Aside0.mk (below_step (by repeat (first | (with_reducible first | exact HB.out | apply below_alloc | apply pw_below_drewN | apply below_drew1) | exact HB.out)) hb); clear HO_7; clear HO486; clear HO491; clear HB; have HO_7 := n0_; have HO486 := n1_; have HO491 := n2_; have HB := n3_; clear n0_ n1_ n2_ n3_; (try clear hb); (try clear hb2); (try clear hk); (try clear hi)))
                  go_ret
                  exact ⟨by first | rfl | (simp [errW_none, errW_some] <;> rfl) | (simp [*, errW_none, errW_some] <;> rfl), by repeat (first | (with_reducible first | exact HB.out | apply below_alloc | apply pw_below_drewN | apply below_drew1) | exact HB.out)⟩
                · replace c14 := Bool.eq_false_iff.mpr c14
                  subst c14
                  have H1 : (some false) = some r := by rw [if_neg (show ¬ (false = true) by decide)] at H; exact H
                  clear H
                  have H := H1
                  clear H1
                  exact absurd ((Option.some.inj H).trans hr_.out) (by decide)
              · rw [if_neg c12] at H
                have c12b0 : (t488 == (t484.length : Int)) = false := beq_eq_false_iff_ne.mpr c12
                have c12b1 : (t488 != (t484.length : Int)) = true := bne_iff_ne.mpr c12
                exact absurd ((Option.some.inj H).trans hr_.out) (by decide)
            · rw [if_neg c11] at H
              have c11b0 : (t489 == 0) = false := beq_eq_false_iff_ne.mpr c11
              have c11b1 : (t489 != 0) = true := bne_iff_ne.mpr c11
              exact absurd ((Option.some.inj H).trans hr_.out) (by decide)
          · rw [if_neg c10] at H
            have c10b0 : decide ((t484.length : Int) ≤ 25) = false := decide_eq_false c10
            have c10b1 : decide (t484.length ≤ 25) = false := decide_eq_false (by omega)
            clear c10
            exact absurd ((Option.some.inj H).trans hr_.out) (by decide)
        · rw [if_neg c9] at H
          have c9b0 : decide (1 ≤ (t484.length : Int)) = false := decide_eq_false c9
          have c9b1 : decide (1 ≤ t484.length) = false := decide_eq_false (by omega)
          clear c9
          exact absurd ((Option.some.inj H).trans hr_.out) (by decide)

/-- THE ONE PURE STATEMENT of stemmalaw03_ColumnEven: yours. -/
def stemmalaw03_ColumnEven.Pure : Prop := ∀ (a0 : Int) (a1 : Int) (a2 : Int), (Lit.int .i64 a0).wf = true → (Lit.int .i64 a1).wf = true → (Lit.int .u8 a2).wf = true → ∃ k, stemmalaw03_ColumnEven.f k a0 a1 a2 = some true
theorem stemmalaw03_ColumnEven.walk (P : stemmalaw03_ColumnEven.Pure) (a0 : Int) (a1 : Int) (a2 : Int) (w : World) (w0 : (Lit.int .i64 a0).wf = true) (w1 : (Lit.int .i64 a1).wf = true) (w2 : (Lit.int .u8 a2).wf = true) :
    Calls Try.prog 11 #[.int .i64 a0, .int .i64 a1, .int .u8 a2] w fun e w' => e = .returned (.bool true) ∧ Below w.heap.size w w' := by
  obtain ⟨k, h⟩ := P a0 a1 a2 w0 w1 w2
  refine (stemmalaw03_ColumnEven.calls k a0 a1 a2 true w ⟨rfl⟩ h).mono ?_
  rintro e w' ⟨rfl, hd⟩
  exact ⟨rfl, hd⟩

end Go.Proofs.Ytcffooeiennmjaa.PA
