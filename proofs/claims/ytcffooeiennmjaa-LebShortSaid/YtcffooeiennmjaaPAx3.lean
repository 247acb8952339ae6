-- Written by a program of this session (wip/tools/myprint.py), out of the translation's print. Lean checks it.
import Derived.Test.YtcffooeiennmjaaPAx0
import Derived.Test.YtcffooeiennmjaaPAx15
import Derived.Test.YtcffooeiennmjaaPAx16
namespace Go.Proofs.Ytcffooeiennmjaa.PA
open Go.RowKit Go.Proofs.YtcffooeiennmjaaW.PrintWords Go.Proofs.YtcffooeiennmjaaW.PrintLast Go.Proofs.YtcffooeiennmjaaW.PrintMore
attribute [local go_sem] max2_int min2_int max_two min_two max_three min_three max_four min_four   -- for this text's walks alone
set_option linter.unusedVariables false
set_option linter.unusedSimpArgs false

/-! ### stemmalaw02_LebShort: function 3 -/
def stemmalaw02_LebShort.j0 : Nat → Int → Int → Bool → Option (Bool)
  | 0, _, _, _ => none
  | k + 1, x0, x3, x13 => if x13 = true then (some false) else (if x3 > 1 then (if 0 ≤ (IntKind.u64.wrap (wrap64 (7 * (wrap64 (x3 - 1))))) then (if x0 ≥ (shl .u64 1 (IntKind.u64.wrap (wrap64 (7 * (wrap64 (x3 - 1)))))) then (if x3 ≥ 10 then ((stemmalaw02_awake.f k).bind fun t135 => (some t135)) else (if 0 ≤ (IntKind.u64.wrap (wrap64 (7 * x3))) then (if (shr .u64 x0 (IntKind.u64.wrap (wrap64 (7 * x3)))) = 0 then ((stemmalaw02_awake.f k).bind fun t136 => (some t136)) else (some false)) else (none))) else (some false)) else (none)) else (if x0 ≥ 0 then (if x3 ≥ 10 then ((stemmalaw02_awake.f k).bind fun t137 => (some t137)) else (if 0 ≤ (IntKind.u64.wrap (wrap64 (7 * x3))) then (if (shr .u64 x0 (IntKind.u64.wrap (wrap64 (7 * x3)))) = 0 then ((stemmalaw02_awake.f k).bind fun t138 => (some t138)) else (some false)) else (none))) else (some false)))
def stemmalaw02_LebShort.f (k : Nat) (a0 : Int) : Option (Bool) := (leb_Uint.f k a0).bind fun t132 => (if (t132.length : Int) < 1 then (stemmalaw02_LebShort.j0 k a0 (t132.length : Int) true) else (stemmalaw02_LebShort.j0 k a0 (t132.length : Int) (decide ((t132.length : Int) > 10))))
theorem stemmalaw02_LebShort.mono_l : ∀ k, (∀ y0 y1 y2, LeO (stemmalaw02_LebShort.j0 k y0 y1 y2) (stemmalaw02_LebShort.j0 (k + 1) y0 y1 y2))
  | 0 => fun _ _ _ r h => by simp [stemmalaw02_LebShort.j0] at h
  | k + 1 => by
    have ih0 := stemmalaw02_LebShort.mono_l k
    · intro y0 y1 y2
      unfold stemmalaw02_LebShort.j0
      repeat' first
      | (with_reducible exact ih0 _ _ _)
      | (with_reducible exact leb_Uint.mono _ _)
      | (with_reducible exact stemmalaw02_awake.mono _)
      | (with_reducible exact LeO.refl _)
      | (with_reducible exact LeO.none _)
      | (with_reducible refine LeO.ite ?_ ?_)
      | (with_reducible refine LeO.bind ?_ (fun _ => ?_))
      | exact ih0 _ _ _
      | exact leb_Uint.mono _ _
      | exact stemmalaw02_awake.mono _
      | exact LeO.none _
      | refine LeO.ite ?_ ?_
      | refine LeO.bind ?_ (fun _ => ?_)
theorem stemmalaw02_LebShort.mono : ∀ a0 k, LeO (stemmalaw02_LebShort.f k a0) (stemmalaw02_LebShort.f (k + 1) a0) := by
  intro a0 k
  have ih0 := stemmalaw02_LebShort.mono_l k
  unfold stemmalaw02_LebShort.f
  repeat' first
      | (with_reducible exact ih0 _ _ _)
      | (with_reducible exact leb_Uint.mono _ _)
      | (with_reducible exact stemmalaw02_awake.mono _)
      | (with_reducible exact LeO.refl _)
      | (with_reducible exact LeO.none _)
      | (with_reducible refine LeO.ite ?_ ?_)
      | (with_reducible refine LeO.bind ?_ (fun _ => ?_))
      | exact ih0 _ _ _
      | exact leb_Uint.mono _ _
      | exact stemmalaw02_awake.mono _
      | exact LeO.none _
      | refine LeO.ite ?_ ?_
      | refine LeO.bind ?_ (fun _ => ?_)
set_option maxHeartbeats 8000000 in
set_option maxRecDepth 100000 in
theorem stemmalaw02_LebShort.calls (k : Nat) (a0 : Int) (r : Bool) (w : World) (hr_ : Aside0 (r = true)) (h : stemmalaw02_LebShort.f k a0 = some r) :
    Calls Try.prog 3 #[.int .u64 a0] w fun e w' => e = .returned (.bool r) ∧ Below w.heap.size w w' := by
  have HB := Aside0.mk (Below.refl w.heap.size w)
  have H : ((leb_Uint.f k a0).bind fun t132 => (if (t132.length : Int) < 1 then (stemmalaw02_LebShort.j0 k a0 (t132.length : Int) true) else (stemmalaw02_LebShort.j0 k a0 (t132.length : Int) (decide ((t132.length : Int) > 10))))) = some r := h
  clear h
  replace H := Option.bind_eq_some_iff.mp H
  obtain ⟨t132, A20, H⟩ := H
  replace H : (if (t132.length : Int) < 1 then (stemmalaw02_LebShort.j0 k a0 (t132.length : Int) true) else (stemmalaw02_LebShort.j0 k a0 (t132.length : Int) (decide ((t132.length : Int) > 10)))) = some r := H
  have A2 := Aside0.mk A20
  clear A20
  have HC3 := Aside0.mk H
  clear H
  go_enter Try.func3, Try.ntmps3
  go_upto_region 2 with (first | ((with_reducible refine gate_callee (f := 15) rfl ?_); refine goesL_ (some 6) rfl rfl Try.func15 (by kernel_rfl) rfl #[.int .u64 a0] rfl (by (try simp only [List.map_toArray, List.map_cons, List.map_nil]); first | done | rfl | (simp only [List.length_drop, List.length_take]; rfl)) ?_; (with_reducible refine (leb_Uint.calls k a0 t132 _ A2.out).mono ?_); rintro e w4 ⟨v133, rfl, ho0, hb⟩; refine ⟨_, rfl, ?_⟩; have n0_ := Aside0.mk (Kd.R_lower ho0 (below_size (by repeat (first | (with_reducible first | exact HB.out | apply below_alloc | apply pw_below_drewN | apply below_drew1) | exact HB.out)))); have n1_ := Aside0.mk (below_step (by repeat (first | (with_reducible first | exact HB.out | apply below_alloc | apply pw_below_drewN | apply below_drew1) | exact HB.out)) hb); clear HB; have HO134 := n0_; have HB := n1_; clear n0_ n1_; (try clear hb); (try clear hb2); (try clear hk); (try clear hi); (try clear ho0); obtain ⟨Ao5, co5, eo5⟩ := Kd.R_slice HO134.out; subst eo5))
  (try simp only [Act.put, List.setIfInBounds_toArray, List.set_cons_zero, List.set_cons_succ])
  go_cut [13] (fun v13 wc => ∃ (kq : Nat) (x13_2 : Bool), v13 = .bool x13_2 ∧ Aside0 (stemmalaw02_LebShort.j0 kq a0 (t132.length : Int) x13_2 = some r) ∧ Aside0 (kq ≤ k) ∧ Aside0 (Below w.heap.size w wc))
  case first =>
    have H := HC3.out
    clear HC3
    by_cases c6 : (t132.length : Int) < 1
    · rw [if_pos c6] at H
      have c6b0 : decide ((t132.length : Int) < 1) = true := decide_eq_true c6
      have c6b1 : decide (t132.length < 1) = true := decide_eq_true (by omega)
      clear c6
      (first | rw [c6b0] | (simp only [i64_w, i32_w]; rw [c6b0]) | skip)
      have H' := Aside0.mk H
      clear H
      go_wp2
      go_meet
      case rel => exact ⟨_, (true), (by first | rfl | (simp; done) | (simp [*]; done)), H', ⟨by first | omega | exact Nat.le_refl _⟩, ⟨by repeat (first | (with_reducible first | exact HB.out | apply below_alloc | apply pw_below_drewN | apply below_drew1) | exact HB.out)⟩⟩
    · rw [if_neg c6] at H
      have c6b0 : decide ((t132.length : Int) < 1) = false := decide_eq_false c6
      have c6b1 : decide (t132.length < 1) = false := decide_eq_false (by omega)
      clear c6
      (first | rw [c6b0] | (simp only [i64_w, i32_w]; rw [c6b0]) | skip)
      have H' := Aside0.mk H
      clear H
      go_wp2
      go_meet
      case rel => exact ⟨_, (decide ((t132.length : Int) > 10)), (by first | rfl | (simp; done) | (simp [*]; done)), H', ⟨by first | omega | exact Nat.le_refl _⟩, ⟨by repeat (first | (with_reducible first | exact HB.out | apply below_alloc | apply pw_below_drewN | apply below_drew1) | exact HB.out)⟩⟩
  case rest =>
    clear HC3
    try clear c1
    try clear p2
    try clear c3
    try clear c6
    try clear c6b0
    try clear c6b1
    obtain ⟨kq, x13_2, rfl, HA, HJ2, HB⟩ := hcut
    cases kq with
    | zero => exact absurd HA.out (by simp [stemmalaw02_LebShort.j0])
    | succ kj2 =>
      have H := HA.out
      clear HA
      simp only [stemmalaw02_LebShort.j0] at H
      by_cases c7 : x13_2 = true
      · subst c7
        have H1 : (some false) = some r := by rw [if_pos rfl] at H; exact H
        clear H
        have H := H1
        clear H1
        exact absurd ((Option.some.inj H).trans hr_.out) (by decide)
      · replace c7 := Bool.eq_false_iff.mpr c7
        subst c7
        have H1 : (if (t132.length : Int) > 1 then (if 0 ≤ (IntKind.u64.wrap (wrap64 (7 * (wrap64 ((t132.length : Int) - 1))))) then (if a0 ≥ (shl .u64 1 (IntKind.u64.wrap (wrap64 (7 * (wrap64 ((t132.length : Int) - 1)))))) then (if (t132.length : Int) ≥ 10 then ((stemmalaw02_awake.f kj2).bind fun t135 => (some t135)) else (if 0 ≤ (IntKind.u64.wrap (wrap64 (7 * (t132.length : Int)))) then (if (shr .u64 a0 (IntKind.u64.wrap (wrap64 (7 * (t132.length : Int))))) = 0 then ((stemmalaw02_awake.f kj2).bind fun t136 => (some t136)) else (some false)) else (none))) else (some false)) else (none)) else (if a0 ≥ 0 then (if (t132.length : Int) ≥ 10 then ((stemmalaw02_awake.f kj2).bind fun t137 => (some t137)) else (if 0 ≤ (IntKind.u64.wrap (wrap64 (7 * (t132.length : Int)))) then (if (shr .u64 a0 (IntKind.u64.wrap (wrap64 (7 * (t132.length : Int))))) = 0 then ((stemmalaw02_awake.f kj2).bind fun t138 => (some t138)) else (some false)) else (none))) else (some false))) = some r := by rw [if_neg (show ¬ (false = true) by decide)] at H; exact H
        clear H
        have H := H1
        clear H1
        by_cases c8 : (t132.length : Int) > 1
        · rw [if_pos c8] at H
          have c8b0 : decide (1 < (t132.length : Int)) = true := decide_eq_true c8
          have c8b1 : decide (1 < t132.length) = true := decide_eq_true (by omega)
          clear c8
          obtain ⟨ji9, hji9⟩ : ∃ j_ : Int, (IntKind.u64.wrap (wrap64 (7 * (wrap64 ((t132.length : Int) - 1))))) = j_ := ⟨_, rfl⟩
          replace H : (if 0 ≤ (ji9) then (if a0 ≥ (shl .u64 1 (ji9)) then (if (t132.length : Int) ≥ 10 then ((stemmalaw02_awake.f kj2).bind fun t135 => (some t135)) else (if 0 ≤ (IntKind.u64.wrap (wrap64 (7 * (t132.length : Int)))) then (if (shr .u64 a0 (IntKind.u64.wrap (wrap64 (7 * (t132.length : Int))))) = 0 then ((stemmalaw02_awake.f kj2).bind fun t136 => (some t136)) else (some false)) else (none))) else (some false)) else (none)) = some r := by first | (rw [hji9] at H; exact H) | (simp only [hji9] at H ⊢; exact H)
          by_cases c10 : 0 ≤ (ji9)
          · rw [if_pos c10] at H
            have c10b0 := eq_true c10
            have c10b1 : decide (0 ≤ (ji9)) = true := decide_eq_true c10
            clear c10
            obtain ⟨ji11, hji11⟩ : ∃ j_ : Int, (shl .u64 1 (ji9)) = j_ := ⟨_, rfl⟩
            replace H : (if a0 ≥ (ji11) then (if (t132.length : Int) ≥ 10 then ((stemmalaw02_awake.f kj2).bind fun t135 => (some t135)) else (if 0 ≤ (IntKind.u64.wrap (wrap64 (7 * (t132.length : Int)))) then (if (shr .u64 a0 (IntKind.u64.wrap (wrap64 (7 * (t132.length : Int))))) = 0 then ((stemmalaw02_awake.f kj2).bind fun t136 => (some t136)) else (some false)) else (none))) else (some false)) = some r := by first | (rw [hji11] at H; exact H) | (simp only [hji11] at H ⊢; exact H)
            have hji11_ : (IntKind.u64.wrap (1 * 2 ^ min (ji9).toNat 64)) = ji11 := hji11
            have hji11z : (ji9) ≤ 64 → (IntKind.u64.wrap (1 * 2 ^ (ji9).toNat)) = ji11 := shl_small hji11
            have hji11u : (IntKind.u64.wrap (2 ^ min (ji9).toNat 64)) = ji11 := by have h_ := hji11_; rw [Int.one_mul] at h_; exact h_
            have hji11v : (ji9) ≤ 64 → (IntKind.u64.wrap (2 ^ (ji9).toNat)) = ji11 := fun hle_ => by have h_ := hji11z hle_; rw [Int.one_mul] at h_; exact h_
            by_cases c12 : a0 ≥ (ji11)
            · rw [if_pos c12] at H
              have c12b0 : decide ((ji11) ≤ a0) = true := decide_eq_true c12
              clear c12
              by_cases c13 : (t132.length : Int) ≥ 10
              · rw [if_pos c13] at H
                have c13b0 : decide (10 ≤ (t132.length : Int)) = true := decide_eq_true c13
                have c13b1 : decide (10 ≤ t132.length) = true := decide_eq_true (by omega)
                clear c13
                replace H := Option.bind_eq_some_iff.mp H
                obtain ⟨t135, A140, H⟩ := H
                replace H : (some t135) = some r := H
                have A14 := Aside0.mk A140
                clear A140
                obtain rfl := Option.some.inj H
                go_wp2_with (first | (go_at_call 16; (with_reducible refine (stemmalaw02_awake.calls kj2  t135 _ A14.out).mono ?_); rintro e w15 ⟨rfl, hb⟩; have n0_ := Aside0.mk (below_step (by repeat (first | (with_reducible first | exact HB.out | apply below_alloc | apply pw_below_drewN | apply below_drew1) | exact HB.out)) hb); clear HB; have HB := n0_; clear n0_; (try clear hb); (try clear hb2); (try clear hk); (try clear hi)))
                go_ret
                exact ⟨by first | rfl | (simp [errW_none, errW_some] <;> rfl) | (simp only [← hji9, ← hji11]; first | rfl | (simp [errW_none, errW_some] <;> rfl)) | (simp [*, errW_none, errW_some] <;> rfl), by repeat (first | (with_reducible first | exact HB.out | apply below_alloc | apply pw_below_drewN | apply below_drew1) | exact HB.out)⟩
              · rw [if_neg c13] at H
                have c13b0 : decide (10 ≤ (t132.length : Int)) = false := decide_eq_false c13
                have c13b1 : decide (10 ≤ t132.length) = false := decide_eq_false (by omega)
                clear c13
                obtain ⟨ji16, hji16⟩ : ∃ j_ : Int, (IntKind.u64.wrap (wrap64 (7 * (t132.length : Int)))) = j_ := ⟨_, rfl⟩
                replace H : (if 0 ≤ (ji16) then (if (shr .u64 a0 (ji16)) = 0 then ((stemmalaw02_awake.f kj2).bind fun t136 => (some t136)) else (some false)) else (none)) = some r := by first | (rw [hji16] at H; exact H) | (simp only [hji16] at H ⊢; exact H)
                by_cases c17 : 0 ≤ (ji16)
                · rw [if_pos c17] at H
                  have c17b0 := eq_true c17
                  have c17b1 : decide (0 ≤ (ji16)) = true := decide_eq_true c17
                  clear c17
                  obtain ⟨ji18, hji18⟩ : ∃ j_ : Int, (shr .u64 a0 (ji16)) = j_ := ⟨_, rfl⟩
                  replace H : (if (ji18) = 0 then ((stemmalaw02_awake.f kj2).bind fun t136 => (some t136)) else (some false)) = some r := by first | (rw [hji18] at H; exact H) | (simp only [hji18] at H ⊢; exact H)
                  have hji18_ : (a0 / 2 ^ min (ji16).toNat 64) = ji18 := hji18
                  have hji18z : (ji16) ≤ 64 → (a0 / 2 ^ (ji16).toNat) = ji18 := shr_small hji18
                  by_cases c19 : (ji18) = 0
                  · rw [if_pos c19] at H
                    have c19b0 : ((ji18) == 0) = true := beq_iff_eq.mpr c19
                    have c19b1 : ((ji18) != 0) = false := bne_eq_false_iff_eq.mpr c19
                    clear c19
                    replace H := Option.bind_eq_some_iff.mp H
                    obtain ⟨t136, A200, H⟩ := H
                    replace H : (some t136) = some r := H
                    have A20 := Aside0.mk A200
                    clear A200
                    obtain rfl := Option.some.inj H
                    go_wp2_with (first | (go_at_call 16; (with_reducible refine (stemmalaw02_awake.calls kj2  t136 _ A20.out).mono ?_); rintro e w21 ⟨rfl, hb⟩; have n0_ := Aside0.mk (below_step (by repeat (first | (with_reducible first | exact HB.out | apply below_alloc | apply pw_below_drewN | apply below_drew1) | exact HB.out)) hb); clear HB; have HB := n0_; clear n0_; (try clear hb); (try clear hb2); (try clear hk); (try clear hi)))
                    go_ret
                    exact ⟨by first | rfl | (simp [errW_none, errW_some] <;> rfl) | (simp only [← hji9, ← hji11, ← hji16, ← hji18]; first | rfl | (simp [errW_none, errW_some] <;> rfl)) | (simp [*, errW_none, errW_some] <;> rfl), by repeat (first | (with_reducible first | exact HB.out | apply below_alloc | apply pw_below_drewN | apply below_drew1) | exact HB.out)⟩
                  · rw [if_neg c19] at H
                    have c19b0 : ((ji18) == 0) = false := beq_eq_false_iff_ne.mpr c19
                    have c19b1 : ((ji18) != 0) = true := bne_iff_ne.mpr c19
                    exact absurd ((Option.some.inj H).trans hr_.out) (by decide)
                · rw [if_neg c17] at H
                  exact absurd H (by simp)
            · rw [if_neg c12] at H
              have c12b0 : decide ((ji11) ≤ a0) = false := decide_eq_false c12
              clear c12
              exact absurd ((Option.some.inj H).trans hr_.out) (by decide)
          · rw [if_neg c10] at H
            exact absurd H (by simp)
        · rw [if_neg c8] at H
          have c8b0 : decide (1 < (t132.length : Int)) = false := decide_eq_false c8
          have c8b1 : decide (1 < t132.length) = false := decide_eq_false (by omega)
          clear c8
          by_cases c22 : a0 ≥ 0
          · rw [if_pos c22] at H
            have c22b0 : decide (0 ≤ a0) = true := decide_eq_true c22
            clear c22
            by_cases c23 : (t132.length : Int) ≥ 10
            · rw [if_pos c23] at H
              have c23b0 : decide (10 ≤ (t132.length : Int)) = true := decide_eq_true c23
              have c23b1 : decide (10 ≤ t132.length) = true := decide_eq_true (by omega)
              clear c23
              replace H := Option.bind_eq_some_iff.mp H
              obtain ⟨t137, A240, H⟩ := H
              replace H : (some t137) = some r := H
              have A24 := Aside0.mk A240
              clear A240
              obtain rfl := Option.some.inj H
              go_wp2_with (first | (go_at_call 16; (with_reducible refine (stemmalaw02_awake.calls kj2  t137 _ A24.out).mono ?_); rintro e w25 ⟨rfl, hb⟩; have n0_ := Aside0.mk (below_step (by repeat (first | (with_reducible first | exact HB.out | apply below_alloc | apply pw_below_drewN | apply below_drew1) | exact HB.out)) hb); clear HB; have HB := n0_; clear n0_; (try clear hb); (try clear hb2); (try clear hk); (try clear hi)))
              go_ret
              exact ⟨by first | rfl | (simp [errW_none, errW_some] <;> rfl) | (simp [*, errW_none, errW_some] <;> rfl), by repeat (first | (with_reducible first | exact HB.out | apply below_alloc | apply pw_below_drewN | apply below_drew1) | exact HB.out)⟩
            · rw [if_neg c23] at H
              have c23b0 : decide (10 ≤ (t132.length : Int)) = false := decide_eq_false c23
              have c23b1 : decide (10 ≤ t132.length) = false := decide_eq_false (by omega)
              clear c23
              obtain ⟨ji26, hji26⟩ : ∃ j_ : Int, (IntKind.u64.wrap (wrap64 (7 * (t132.length : Int)))) = j_ := ⟨_, rfl⟩
              replace H : (if 0 ≤ (ji26) then (if (shr .u64 a0 (ji26)) = 0 then ((stemmalaw02_awake.f kj2).bind fun t138 => (some t138)) else (some false)) else (none)) = some r := by first | (rw [hji26] at H; exact H) | (simp only [hji26] at H ⊢; exact H)
              by_cases c27 : 0 ≤ (ji26)
              · rw [if_pos c27] at H
                have c27b0 := eq_true c27
                have c27b1 : decide (0 ≤ (ji26)) = true := decide_eq_true c27
                clear c27
                obtain ⟨ji28, hji28⟩ : ∃ j_ : Int, (shr .u64 a0 (ji26)) = j_ := ⟨_, rfl⟩
                replace H : (if (ji28) = 0 then ((stemmalaw02_awake.f kj2).bind fun t138 => (some t138)) else (some false)) = some r := by first | (rw [hji28] at H; exact H) | (simp only [hji28] at H ⊢; exact H)
                have hji28_ : (a0 / 2 ^ min (ji26).toNat 64) = ji28 := hji28
                have hji28z : (ji26) ≤ 64 → (a0 / 2 ^ (ji26).toNat) = ji28 := shr_small hji28
                by_cases c29 : (ji28) = 0
                · rw [if_pos c29] at H
                  have c29b0 : ((ji28) == 0) = true := beq_iff_eq.mpr c29
                  have c29b1 : ((ji28) != 0) = false := bne_eq_false_iff_eq.mpr c29
                  clear c29
                  replace H := Option.bind_eq_some_iff.mp H
                  obtain ⟨t138, A300, H⟩ := H
                  replace H : (some t138) = some r := H
                  have A30 := Aside0.mk A300
                  clear A300
                  obtain rfl := Option.some.inj H
                  go_wp2_with (first | (go_at_call 16; (with_reducible refine (stemmalaw02_awake.calls kj2  t138 _ A30.out).mono ?_); rintro e w31 ⟨rfl, hb⟩; have n0_ := Aside0.mk (below_step (by repeat (first | (with_reducible first | exact HB.out | apply below_alloc | apply pw_below_drewN | apply below_drew1) | exact HB.out)) hb); clear HB; have HB := n0_; clear n0_; (try clear hb); (try clear hb2); (try clear hk); (try clear hi)))
                  go_ret
                  exact ⟨by first | rfl | (simp [errW_none, errW_some] <;> rfl) | (simp only [← hji26, ← hji28]; first | rfl | (simp [errW_none, errW_some] <;> rfl)) | (simp [*, errW_none, errW_some] <;> rfl), by repeat (first | (with_reducible first | exact HB.out | apply below_alloc | apply pw_below_drewN | apply below_drew1) | exact HB.out)⟩
                · rw [if_neg c29] at H
                  have c29b0 : ((ji28) == 0) = false := beq_eq_false_iff_ne.mpr c29
                  have c29b1 : ((ji28) != 0) = true := bne_iff_ne.mpr c29
                  exact absurd ((Option.some.inj H).trans hr_.out) (by decide)
              · rw [if_neg c27] at H
                exact absurd H (by simp)
          · rw [if_neg c22] at H
            have c22b0 : decide (0 ≤ a0) = false := decide_eq_false c22
            clear c22
            exact absurd ((Option.some.inj H).trans hr_.out) (by decide)

/-- THE ONE PURE STATEMENT of stemmalaw02_LebShort: yours. -/
def stemmalaw02_LebShort.Pure : Prop := ∀ (a0 : Int), (Lit.int .u64 a0).wf = true → ∃ k, stemmalaw02_LebShort.f k a0 = some true
theorem stemmalaw02_LebShort.walk (P : stemmalaw02_LebShort.Pure) (a0 : Int) (w : World) (w0 : (Lit.int .u64 a0).wf = true) :
    Calls Try.prog 3 #[.int .u64 a0] w fun e w' => e = .returned (.bool true) ∧ Below w.heap.size w w' := by
  obtain ⟨k, h⟩ := P a0 w0
  refine (stemmalaw02_LebShort.calls k a0 true w ⟨rfl⟩ h).mono ?_
  rintro e w' ⟨rfl, hd⟩
  exact ⟨rfl, hd⟩

end Go.Proofs.Ytcffooeiennmjaa.PA
