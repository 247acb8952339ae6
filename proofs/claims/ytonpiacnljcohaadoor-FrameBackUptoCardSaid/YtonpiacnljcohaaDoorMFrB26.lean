/- Own texts of this claim, one behind the other (wip/tools/merge.py). -/
import Derived.Test.YtonpiacnljcohaaDoorMFrB21
import Derived.Test.YtonpiacnljcohaaDoorMFrB23
import Derived.Test.YtonpiacnljcohaaDoorMFrB24
import Derived.Test.YtonpiacnljcohaaDoorMFrB25
-- Written by a program of this session (wip/tools/myprint.py), out of the translation's print. Lean checks it.
namespace Go.Proofs.YtonpiacnljcohaaDoor.PA
open Go.RowKit Go.Proofs.YtonpiacnljcohaaDoorW.PrintWords Go.Proofs.YtonpiacnljcohaaDoorW.PrintLast Go.Proofs.YtonpiacnljcohaaDoorW.PrintMore
attribute [local go_sem] max2_int min2_int max_two min_two max_three min_three max_four min_four   -- for this text's walks alone
set_option linter.unusedVariables false
set_option linter.unusedSimpArgs false

/-! ### stemmalaw04_FrameBack: function 6 -/
mutual
def stemmalaw04_FrameBack.j1 : Nat → List (S52) → Int → List Int → List Int → Bool → Option (Bool)
  | 0, _, _, _, _, _ => none
  | k + 1, x0, x1, x5, x6, x66 => if x66 = true then (some false) else (if (wrap64 ((x5.length : Int) + 1)) = 0 then (none) else (stemmalaw04_FrameBack.l1 k x0 x5 x6 (Int.tmod (wrap64 (x1)) (wrap64 ((x5.length : Int) + 1))) 0 0 0))
def stemmalaw04_FrameBack.l1 : Nat → List (S52) → List Int → List Int → Int → Int → Int → Int → Option (Bool)
  | 0, _, _, _, _, _, _, _ => none
  | k + 1, x0, x5, x6, x12, x13, x14, x15 => if x15 < (x6.length : Int) then (if 0 ≤ x15 then (if (rd x6 x15) ≤ x12 then (stemmalaw04_FrameBack.l1 k x0 x5 x6 x12 (wrap64 (x15 + 1)) (rd x6 x15) (wrap64 (x15 + 1))) else (if 0 ≤ x12 then (if x12 ≤ (x5.length : Int) then ((frame_Scan.f k (x5.take (x12 : Int).toNat)).bind fun bt335 => (if (bt335.1.length : Int) = x13 then ((stemmalaw04_whole.f k bt335.1 x0).bind fun t340 => (if t340 = true then (if bt335.2.1 = x14 then (if ((bt335.2.2 == 0) == (x14 == x12)) = true then (if bt335.2.2 = 0 then ((stemmalaw04_awake.f k).bind fun t341 => (some t341)) else (if bt335.2.2 = 3 then ((stemmalaw04_awake.f k).bind fun t342 => (some t342)) else (some false))) else (some false)) else (some false)) else (some false))) else (some false))) else (none)) else (none))) else (none)) else (if 0 ≤ x12 then (if x12 ≤ (x5.length : Int) then ((frame_Scan.f k (x5.take (x12 : Int).toNat)).bind fun bt347 => (if (bt347.1.length : Int) = x13 then ((stemmalaw04_whole.f k bt347.1 x0).bind fun t352 => (if t352 = true then (if bt347.2.1 = x14 then (if ((bt347.2.2 == 0) == (x14 == x12)) = true then (if bt347.2.2 = 0 then ((stemmalaw04_awake.f k).bind fun t353 => (some t353)) else (if bt347.2.2 = 3 then ((stemmalaw04_awake.f k).bind fun t354 => (some t354)) else (some false))) else (some false)) else (some false)) else (some false))) else (some false))) else (none)) else (none))
def stemmalaw04_FrameBack.l0 : Nat → List (S52) → Int → Option (Bool)
  | 0, _, _ => none
  | k + 1, x0, x8 => if x8 < (x0.length : Int) then (if 0 ≤ x8 then (if (((rd_T52 x0 x8).f1).length : Int) > 1048576 then ((stemmalaw04_awake.f k).bind fun t322 => (some t322)) else (stemmalaw04_FrameBack.l0 k x0 (wrap64 (x8 + 1)))) else (none)) else (some false)
end
def stemmalaw04_FrameBack.f (k : Nat) (l0 : List (S52)) (a1 : Int) : Option (Bool) := (stemmalaw04_laid.f k l0).bind fun bt314 => (if bt314.2.2 = true then ((frame_Scan.f k bt314.1).bind fun bt323 => (if (bt323.1.length : Int) = (l0.length : Int) then ((stemmalaw04_whole.f k bt323.1 l0).bind fun t328 => (if t328 = true then (if bt323.2.1 = (bt314.1.length : Int) then (stemmalaw04_FrameBack.j1 k l0 a1 bt314.1 bt314.2.1 (bt323.2.2 != 0)) else (stemmalaw04_FrameBack.j1 k l0 a1 bt314.1 bt314.2.1 true)) else (stemmalaw04_FrameBack.j1 k l0 a1 bt314.1 bt314.2.1 true))) else (stemmalaw04_FrameBack.j1 k l0 a1 bt314.1 bt314.2.1 true))) else (stemmalaw04_FrameBack.l0 k l0 0))
theorem stemmalaw04_FrameBack.mono_l : ∀ k, (∀ y0 y1 y2 y3 y4, LeO (stemmalaw04_FrameBack.j1 k y0 y1 y2 y3 y4) (stemmalaw04_FrameBack.j1 (k + 1) y0 y1 y2 y3 y4)) ∧ (∀ y0 y1 y2 y3 y4 y5 y6, LeO (stemmalaw04_FrameBack.l1 k y0 y1 y2 y3 y4 y5 y6) (stemmalaw04_FrameBack.l1 (k + 1) y0 y1 y2 y3 y4 y5 y6)) ∧ (∀ y0 y1, LeO (stemmalaw04_FrameBack.l0 k y0 y1) (stemmalaw04_FrameBack.l0 (k + 1) y0 y1))
  | 0 => ⟨fun _ _ _ _ _ r h => by simp [stemmalaw04_FrameBack.j1] at h, fun _ _ _ _ _ _ _ r h => by simp [stemmalaw04_FrameBack.l1] at h, fun _ _ r h => by simp [stemmalaw04_FrameBack.l0] at h⟩
  | k + 1 => by
    obtain ⟨ih0, ih1, ih2⟩ := stemmalaw04_FrameBack.mono_l k
    refine ⟨?_, ?_, ?_⟩
    · intro y0 y1 y2 y3 y4
      unfold stemmalaw04_FrameBack.j1
      repeat' first
      | (with_reducible exact ih0 _ _ _ _ _)
      | (with_reducible exact ih1 _ _ _ _ _ _ _)
      | (with_reducible exact ih2 _ _)
      | (with_reducible exact frame_Scan.mono _ _)
      | (with_reducible exact stemmalaw04_awake.mono _)
      | (with_reducible exact stemmalaw04_laid.mono _ _)
      | (with_reducible exact stemmalaw04_whole.mono _ _ _)
      | (with_reducible exact LeO.refl _)
      | (with_reducible exact LeO.none _)
      | (with_reducible refine LeO.ite ?_ ?_)
      | (with_reducible refine LeO.bind ?_ (fun _ => ?_))
      | exact ih0 _ _ _ _ _
      | exact ih1 _ _ _ _ _ _ _
      | exact ih2 _ _
      | exact frame_Scan.mono _ _
      | exact stemmalaw04_awake.mono _
      | exact stemmalaw04_laid.mono _ _
      | exact stemmalaw04_whole.mono _ _ _
      | exact LeO.none _
      | refine LeO.ite ?_ ?_
      | refine LeO.bind ?_ (fun _ => ?_)
    · intro y0 y1 y2 y3 y4 y5 y6
      unfold stemmalaw04_FrameBack.l1
      repeat' first
      | (with_reducible exact ih0 _ _ _ _ _)
      | (with_reducible exact ih1 _ _ _ _ _ _ _)
      | (with_reducible exact ih2 _ _)
      | (with_reducible exact frame_Scan.mono _ _)
      | (with_reducible exact stemmalaw04_awake.mono _)
      | (with_reducible exact stemmalaw04_laid.mono _ _)
      | (with_reducible exact stemmalaw04_whole.mono _ _ _)
      | (with_reducible exact LeO.refl _)
      | (with_reducible exact LeO.none _)
      | (with_reducible refine LeO.ite ?_ ?_)
      | (with_reducible refine LeO.bind ?_ (fun _ => ?_))
      | exact ih0 _ _ _ _ _
      | exact ih1 _ _ _ _ _ _ _
      | exact ih2 _ _
      | exact frame_Scan.mono _ _
      | exact stemmalaw04_awake.mono _
      | exact stemmalaw04_laid.mono _ _
      | exact stemmalaw04_whole.mono _ _ _
      | exact LeO.none _
      | refine LeO.ite ?_ ?_
      | refine LeO.bind ?_ (fun _ => ?_)
    · intro y0 y1
      unfold stemmalaw04_FrameBack.l0
      repeat' first
      | (with_reducible exact ih0 _ _ _ _ _)
      | (with_reducible exact ih1 _ _ _ _ _ _ _)
      | (with_reducible exact ih2 _ _)
      | (with_reducible exact frame_Scan.mono _ _)
      | (with_reducible exact stemmalaw04_awake.mono _)
      | (with_reducible exact stemmalaw04_laid.mono _ _)
      | (with_reducible exact stemmalaw04_whole.mono _ _ _)
      | (with_reducible exact LeO.refl _)
      | (with_reducible exact LeO.none _)
      | (with_reducible refine LeO.ite ?_ ?_)
      | (with_reducible refine LeO.bind ?_ (fun _ => ?_))
      | exact ih0 _ _ _ _ _
      | exact ih1 _ _ _ _ _ _ _
      | exact ih2 _ _
      | exact frame_Scan.mono _ _
      | exact stemmalaw04_awake.mono _
      | exact stemmalaw04_laid.mono _ _
      | exact stemmalaw04_whole.mono _ _ _
      | exact LeO.none _
      | refine LeO.ite ?_ ?_
      | refine LeO.bind ?_ (fun _ => ?_)
theorem stemmalaw04_FrameBack.mono : ∀ a0 a1 k, LeO (stemmalaw04_FrameBack.f k a0 a1) (stemmalaw04_FrameBack.f (k + 1) a0 a1) := by
  intro a0 a1 k
  obtain ⟨ih0, ih1, ih2⟩ := stemmalaw04_FrameBack.mono_l k
  unfold stemmalaw04_FrameBack.f
  repeat' first
      | (with_reducible exact ih0 _ _ _ _ _)
      | (with_reducible exact ih1 _ _ _ _ _ _ _)
      | (with_reducible exact ih2 _ _)
      | (with_reducible exact frame_Scan.mono _ _)
      | (with_reducible exact stemmalaw04_awake.mono _)
      | (with_reducible exact stemmalaw04_laid.mono _ _)
      | (with_reducible exact stemmalaw04_whole.mono _ _ _)
      | (with_reducible exact LeO.refl _)
      | (with_reducible exact LeO.none _)
      | (with_reducible refine LeO.ite ?_ ?_)
      | (with_reducible refine LeO.bind ?_ (fun _ => ?_))
      | exact ih0 _ _ _ _ _
      | exact ih1 _ _ _ _ _ _ _
      | exact ih2 _ _
      | exact frame_Scan.mono _ _
      | exact stemmalaw04_awake.mono _
      | exact stemmalaw04_laid.mono _ _
      | exact stemmalaw04_whole.mono _ _ _
      | exact LeO.none _
      | refine LeO.ite ?_ ?_
      | refine LeO.bind ?_ (fun _ => ?_)
set_option maxHeartbeats 8000000 in
set_option maxRecDepth 100000 in
theorem stemmalaw04_FrameBack.calls (k : Nat) (A0 : Option Addr) (c0 : Nat) (l0 : List (S52)) (a1 : Int) (r : Bool) (w : World) (hr0 : Kd.C k52 w A0 l0.length l0) (hc0 : l0.length ≤ c0) (hr_ : Aside0 (r = true)) (hG_ : Gl w) (h : stemmalaw04_FrameBack.f k l0 a1 = some r) :
    Calls Tryd.prog 6 #[.slice A0 l0.length c0, .int .u16 a1] w fun e w' => e = .returned (.bool r) ∧ Below w.heap.size w w' := by
  have HG := Aside0.mk hG_
  clear hG_
  have HR0 := Aside0.mk hr0
  have HC0 := Aside0.mk hc0
  clear hr0 hc0
  have HB := Aside0.mk (Below.refl w.heap.size w)
  have H : ((stemmalaw04_laid.f k l0).bind fun bt314 => (if bt314.2.2 = true then ((frame_Scan.f k bt314.1).bind fun bt323 => (if (bt323.1.length : Int) = (l0.length : Int) then ((stemmalaw04_whole.f k bt323.1 l0).bind fun t328 => (if t328 = true then (if bt323.2.1 = (bt314.1.length : Int) then (stemmalaw04_FrameBack.j1 k l0 a1 bt314.1 bt314.2.1 (bt323.2.2 != 0)) else (stemmalaw04_FrameBack.j1 k l0 a1 bt314.1 bt314.2.1 true)) else (stemmalaw04_FrameBack.j1 k l0 a1 bt314.1 bt314.2.1 true))) else (stemmalaw04_FrameBack.j1 k l0 a1 bt314.1 bt314.2.1 true))) else (stemmalaw04_FrameBack.l0 k l0 0))) = some r := h
  clear h
  replace H := Option.bind_eq_some_iff.mp H
  obtain ⟨⟨t314, t315, t316⟩, A30, H⟩ := H
  replace H : (if t316 = true then ((frame_Scan.f k t314).bind fun bt323 => (if (bt323.1.length : Int) = (l0.length : Int) then ((stemmalaw04_whole.f k bt323.1 l0).bind fun t328 => (if t328 = true then (if bt323.2.1 = (t314.length : Int) then (stemmalaw04_FrameBack.j1 k l0 a1 t314 t315 (bt323.2.2 != 0)) else (stemmalaw04_FrameBack.j1 k l0 a1 t314 t315 true)) else (stemmalaw04_FrameBack.j1 k l0 a1 t314 t315 true))) else (stemmalaw04_FrameBack.j1 k l0 a1 t314 t315 true))) else (stemmalaw04_FrameBack.l0 k l0 0)) = some r := H
  have A3 := Aside0.mk A30
  clear A30
  by_cases c4 : t316 = true
  · subst c4
    have H1 : ((frame_Scan.f k t314).bind fun bt323 => (if (bt323.1.length : Int) = (l0.length : Int) then ((stemmalaw04_whole.f k bt323.1 l0).bind fun t328 => (if t328 = true then (if bt323.2.1 = (t314.length : Int) then (stemmalaw04_FrameBack.j1 k l0 a1 t314 t315 (bt323.2.2 != 0)) else (stemmalaw04_FrameBack.j1 k l0 a1 t314 t315 true)) else (stemmalaw04_FrameBack.j1 k l0 a1 t314 t315 true))) else (stemmalaw04_FrameBack.j1 k l0 a1 t314 t315 true))) = some r := by rw [if_pos rfl] at H; exact H
    clear H
    have H := H1
    clear H1
    replace H := Option.bind_eq_some_iff.mp H
    obtain ⟨⟨t323, t324, t325⟩, A50, H⟩ := H
    replace H : (if (t323.length : Int) = (l0.length : Int) then ((stemmalaw04_whole.f k t323 l0).bind fun t328 => (if t328 = true then (if t324 = (t314.length : Int) then (stemmalaw04_FrameBack.j1 k l0 a1 t314 t315 (t325 != 0)) else (stemmalaw04_FrameBack.j1 k l0 a1 t314 t315 true)) else (stemmalaw04_FrameBack.j1 k l0 a1 t314 t315 true))) else (stemmalaw04_FrameBack.j1 k l0 a1 t314 t315 true)) = some r := H
    have A5 := Aside0.mk A50
    clear A50
    have HC6 := Aside0.mk H
    clear H
    go_enter Tryd.func6, Tryd.ntmps6
    go_upto_region 10 with (first | ((with_reducible refine gate_callee (f := 23) rfl ?_); refine goesL_ (some 20) rfl rfl Tryd.func23 (by kernel_rfl) rfl #[.slice A0 l0.length c0] rfl (by (try simp only [List.map_toArray, List.map_cons, List.map_nil]); first | done | rfl | (simp only [List.length_drop, List.length_take]; rfl)) ?_; (with_reducible refine (stemmalaw04_laid.calls k _ _ l0 t314 t315 true _ ?side1 ?side2 ?side3 A3.out).mono ?_); (case side1 => repeat (first | exact HR0.out | (with_reducible refine Kd.C_alloc ?_ _) | (with_reducible refine Kd.C_drewN ?_ _) | (with_reducible refine Kd.C_drew ?_))); (case side2 => exact HC0.out); (case side3 => first | exact HG.out | exact Gl.below HG.out (by repeat (first | (with_reducible first | exact HB.out | apply below_alloc | apply pw_below_drewN | apply below_drew1) | exact HB.out))); rintro e w7 ⟨v317, v319, rfl, ho0, ho1, hb⟩; refine ⟨_, rfl, ?_⟩; have n0_ := Aside0.mk (Kd.R_lower ho0 (below_size (by repeat (first | (with_reducible first | exact HB.out | apply below_alloc | apply pw_below_drewN | apply below_drew1) | exact HB.out)))); have n1_ := Aside0.mk (Kd.R_lower ho1 (below_size (by repeat (first | (with_reducible first | exact HB.out | apply below_alloc | apply pw_below_drewN | apply below_drew1) | exact HB.out)))); have n2_ := Aside0.mk (below_step (by repeat (first | (with_reducible first | exact HB.out | apply below_alloc | apply pw_below_drewN | apply below_drew1) | exact HB.out)) hb); clear HB; have HO318 := n0_; have HO320 := n1_; have HB := n2_; clear n0_ n1_ n2_; (try clear hb); (try clear hb2); (try clear hk); (try clear hi); (try clear ho0); (try clear ho1); obtain ⟨Ao8, co8, eo8⟩ := Kd.R_slice HO318.out; subst eo8) | ((with_reducible refine gate_callee (f := 20) rfl ?_); refine goesL_ (some 42) rfl rfl Tryd.func20 (by kernel_rfl) rfl #[.slice Ao8 t314.length co8] rfl (by (try simp only [List.map_toArray, List.map_cons, List.map_nil]); first | done | rfl | (simp only [List.length_drop, List.length_take]; rfl)) ?_; (with_reducible refine (frame_Scan.calls k _ _ t314 t323 t324 t325 _ ?side1 ?side2 ?side3 A5.out).mono ?_); (case side1 => repeat (first | exact (Kd.R_reads' HO318.out).2.2 | (with_reducible refine Kd.C_alloc ?_ _) | (with_reducible refine Kd.C_drewN ?_ _) | (with_reducible refine Kd.C_drew ?_))); (case side2 => exact (Kd.R_reads' HO318.out).2.1); (case side3 => first | exact HG.out | exact Gl.below HG.out (by repeat (first | (with_reducible first | exact HB.out | apply below_alloc | apply pw_below_drewN | apply below_drew1) | exact HB.out))); rintro e w9 ⟨v326, rfl, ho0, hb⟩; refine ⟨_, rfl, ?_⟩; have n0_ := Aside0.mk (Kd.R_below (by (with_reducible repeat (first | apply Kd.R_alloc | apply Kd.R_drewN | apply Kd.R_drew)); exact HO318.out) hb); have n1_ := Aside0.mk (Kd.R_below (by (with_reducible repeat (first | apply Kd.R_alloc | apply Kd.R_drewN | apply Kd.R_drew)); exact HO320.out) hb); have n2_ := Aside0.mk (Kd.S_lower (Kd.S_new' ho0 (Kd.R_lt (by (with_reducible repeat (first | apply Kd.R_alloc | apply Kd.R_drewN | apply Kd.R_drew)); exact HO318.out))) (below_size (by repeat (first | (with_reducible first | exact HB.out | apply below_alloc | apply pw_below_drewN | apply below_drew1) | exact HB.out)))); have n3_ := Aside0.mk (below_step (by repeat (first | (with_reducible first | exact HB.out | apply below_alloc | apply pw_below_drewN | apply below_drew1) | exact HB.out)) hb); clear HO318; clear HO320; clear HB; have HO318 := n0_; have HO320 := n1_; have HO327 := n2_; have HB := n3_; clear n0_ n1_ n2_ n3_; (try clear hb); (try clear hb2); (try clear hk); (try clear hi); (try clear ho0)))
    (try simp only [Act.put, List.setIfInBounds_toArray, List.set_cons_zero, List.set_cons_succ])
    go_cut [66] (fun v66 wc => ∃ (kq : Nat) (x66_5 : Bool), v66 = .bool x66_5 ∧ Aside0 (stemmalaw04_FrameBack.j1 kq l0 a1 t314 t315 x66_5 = some r) ∧ Aside0 (kq ≤ k) ∧ Aside0 (Kd.R (Kd.int .u8) 5 wc w.heap.size (fun _ => True) (.slice Ao8 t314.length co8) t314) ∧ Aside0 (Kd.R (Kd.int .i64) 3 wc w.heap.size (fun _ => True) v319 t315) ∧ Aside0 (Below w.heap.size w wc))
    case first =>
      have H := HC6.out
      clear HC6
      by_cases c10 : (t323.length : Int) = (l0.length : Int)
      · rw [if_pos c10] at H
        have c10b0 : ((t323.length : Int) == (l0.length : Int)) = true := beq_iff_eq.mpr c10
        have c10b1 : ((t323.length : Int) != (l0.length : Int)) = false := bne_eq_false_iff_eq.mpr c10
        have c10b2 : (t323.length == l0.length) = true := by first | simpa using c10 | (simp at c10 ⊢; omega)
        clear c10
        (first | rw [c10b0] | (simp only [i64_w, i32_w]; rw [c10b0]) | skip)
        replace H := Option.bind_eq_some_iff.mp H
        obtain ⟨t328, A110, H⟩ := H
        replace H : (if t328 = true then (if t324 = (t314.length : Int) then (stemmalaw04_FrameBack.j1 k l0 a1 t314 t315 (t325 != 0)) else (stemmalaw04_FrameBack.j1 k l0 a1 t314 t315 true)) else (stemmalaw04_FrameBack.j1 k l0 a1 t314 t315 true)) = some r := H
        have A11 := Aside0.mk A110
        clear A110
        by_cases c12 : t328 = true
        · subst c12
          have H1 : (if t324 = (t314.length : Int) then (stemmalaw04_FrameBack.j1 k l0 a1 t314 t315 (t325 != 0)) else (stemmalaw04_FrameBack.j1 k l0 a1 t314 t315 true)) = some r := by rw [if_pos rfl] at H; exact H
          clear H
          have H := H1
          clear H1
          by_cases c13 : t324 = (t314.length : Int)
          · rw [if_pos c13] at H
            have c13b0 : (t324 == (t314.length : Int)) = true := beq_iff_eq.mpr c13
            have c13b1 : (t324 != (t314.length : Int)) = false := bne_eq_false_iff_eq.mpr c13
            clear c13
            have H' := Aside0.mk H
            clear H
            obtain ⟨Ao14, co14, eo14⟩ := Kd.S_slice HO327.out
            subst eo14
            go_wp2_with (first | (go_at_call 24; (with_reducible refine (stemmalaw04_whole.calls k _ _ t323 _ _ l0 true _ ?side1 ?side2 ?side3 ?side4 A11.out).mono ?_); (case side1 => repeat (first | exact (Kd.S_reads' HO327.out).2.2 | (with_reducible refine Kd.C_alloc ?_ _) | (with_reducible refine Kd.C_drewN ?_ _) | (with_reducible refine Kd.C_drew ?_))); (case side2 => exact (Kd.S_reads' HO327.out).2.1); (case side3 => repeat (first | exact (Kd.C_below HR0.out HB.out) | (with_reducible refine Kd.C_alloc ?_ _) | (with_reducible refine Kd.C_drewN ?_ _) | (with_reducible refine Kd.C_drew ?_))); (case side4 => exact HC0.out); rintro e w15 ⟨rfl, hb⟩; have n0_ := Aside0.mk (Kd.R_below (by (with_reducible repeat (first | apply Kd.R_alloc | apply Kd.R_drewN | apply Kd.R_drew)); exact HO318.out) hb); have n1_ := Aside0.mk (Kd.R_below (by (with_reducible repeat (first | apply Kd.R_alloc | apply Kd.R_drewN | apply Kd.R_drew)); exact HO320.out) hb); have n2_ := Aside0.mk (Kd.S_below (by (with_reducible repeat (first | apply Kd.S_alloc | apply Kd.S_drewN | apply Kd.S_drew)); exact HO327.out) hb); have n3_ := Aside0.mk (below_step (by repeat (first | (with_reducible first | exact HB.out | apply below_alloc | apply pw_below_drewN | apply below_drew1) | exact HB.out)) hb); clear HO318; clear HO320; clear HO327; clear HB; have HO318 := n0_; have HO320 := n1_; have HO327 := n2_; have HB := n3_; clear n0_ n1_ n2_ n3_; (try clear hb); (try clear hb2); (try clear hk); (try clear hi)))
            go_meet
            case rel => exact ⟨_, ((t325 != 0)), (by first | rfl | (simp; done) | (simp [*]; done)), H', ⟨by first | omega | exact Nat.le_refl _⟩, ⟨by (with_reducible repeat (first | apply Kd.R_alloc | apply Kd.R_drewN | apply Kd.R_drew)); exact HO318.out⟩, ⟨by (with_reducible repeat (first | apply Kd.R_alloc | apply Kd.R_drewN | apply Kd.R_drew)); exact HO320.out⟩, ⟨by repeat (first | (with_reducible first | exact HB.out | apply below_alloc | apply pw_below_drewN | apply below_drew1) | exact HB.out)⟩⟩
          · rw [if_neg c13] at H
            have c13b0 : (t324 == (t314.length : Int)) = false := beq_eq_false_iff_ne.mpr c13
            have c13b1 : (t324 != (t314.length : Int)) = true := bne_iff_ne.mpr c13
            have H' := Aside0.mk H
            clear H
            obtain ⟨Ao16, co16, eo16⟩ := Kd.S_slice HO327.out
            subst eo16
            go_wp2_with (first | (go_at_call 24; (with_reducible refine (stemmalaw04_whole.calls k _ _ t323 _ _ l0 true _ ?side1 ?side2 ?side3 ?side4 A11.out).mono ?_); (case side1 => repeat (first | exact (Kd.S_reads' HO327.out).2.2 | (with_reducible refine Kd.C_alloc ?_ _) | (with_reducible refine Kd.C_drewN ?_ _) | (with_reducible refine Kd.C_drew ?_))); (case side2 => exact (Kd.S_reads' HO327.out).2.1); (case side3 => repeat (first | exact (Kd.C_below HR0.out HB.out) | (with_reducible refine Kd.C_alloc ?_ _) | (with_reducible refine Kd.C_drewN ?_ _) | (with_reducible refine Kd.C_drew ?_))); (case side4 => exact HC0.out); rintro e w17 ⟨rfl, hb⟩; have n0_ := Aside0.mk (Kd.R_below (by (with_reducible repeat (first | apply Kd.R_alloc | apply Kd.R_drewN | apply Kd.R_drew)); exact HO318.out) hb); have n1_ := Aside0.mk (Kd.R_below (by (with_reducible repeat (first | apply Kd.R_alloc | apply Kd.R_drewN | apply Kd.R_drew)); exact HO320.out) hb); have n2_ := Aside0.mk (Kd.S_below (by (with_reducible repeat (first | apply Kd.S_alloc | apply Kd.S_drewN | apply Kd.S_drew)); exact HO327.out) hb); have n3_ := Aside0.mk (below_step (by repeat (first | (with_reducible first | exact HB.out | apply below_alloc | apply pw_below_drewN | apply below_drew1) | exact HB.out)) hb); clear HO318; clear HO320; clear HO327; clear HB; have HO318 := n0_; have HO320 := n1_; have HO327 := n2_; have HB := n3_; clear n0_ n1_ n2_ n3_; (try clear hb); (try clear hb2); (try clear hk); (try clear hi)))
            go_meet
            case rel => exact ⟨_, (true), (by first | rfl | (simp; done) | (simp [*]; done)), H', ⟨by first | omega | exact Nat.le_refl _⟩, ⟨by (with_reducible repeat (first | apply Kd.R_alloc | apply Kd.R_drewN | apply Kd.R_drew)); exact HO318.out⟩, ⟨by (with_reducible repeat (first | apply Kd.R_alloc | apply Kd.R_drewN | apply Kd.R_drew)); exact HO320.out⟩, ⟨by repeat (first | (with_reducible first | exact HB.out | apply below_alloc | apply pw_below_drewN | apply below_drew1) | exact HB.out)⟩⟩
        · replace c12 := Bool.eq_false_iff.mpr c12
          subst c12
          have H1 : (stemmalaw04_FrameBack.j1 k l0 a1 t314 t315 true) = some r := by rw [if_neg (show ¬ (false = true) by decide)] at H; exact H
          clear H
          have H := H1
          clear H1
          have H' := Aside0.mk H
          clear H
          obtain ⟨Ao18, co18, eo18⟩ := Kd.S_slice HO327.out
          subst eo18
          go_wp2_with (first | (go_at_call 24; (with_reducible refine (stemmalaw04_whole.calls k _ _ t323 _ _ l0 false _ ?side1 ?side2 ?side3 ?side4 A11.out).mono ?_); (case side1 => repeat (first | exact (Kd.S_reads' HO327.out).2.2 | (with_reducible refine Kd.C_alloc ?_ _) | (with_reducible refine Kd.C_drewN ?_ _) | (with_reducible refine Kd.C_drew ?_))); (case side2 => exact (Kd.S_reads' HO327.out).2.1); (case side3 => repeat (first | exact (Kd.C_below HR0.out HB.out) | (with_reducible refine Kd.C_alloc ?_ _) | (with_reducible refine Kd.C_drewN ?_ _) | (with_reducible refine Kd.C_drew ?_))); (case side4 => exact HC0.out); rintro e w19 ⟨rfl, hb⟩; have n0_ := Aside0.mk (Kd.R_below (by (with_reducible repeat (first | apply Kd.R_alloc | apply Kd.R_drewN | apply Kd.R_drew)); exact HO318.out) hb); have n1_ := Aside0.mk (Kd.R_below (by (with_reducible repeat (first | apply Kd.R_alloc | apply Kd.R_drewN | apply Kd.R_drew)); exact HO320.out) hb); have n2_ := Aside0.mk (Kd.S_below (by (with_reducible repeat (first | apply Kd.S_alloc | apply Kd.S_drewN | apply Kd.S_drew)); exact HO327.out) hb); have n3_ := Aside0.mk (below_step (by repeat (first | (with_reducible first | exact HB.out | apply below_alloc | apply pw_below_drewN | apply below_drew1) | exact HB.out)) hb); clear HO318; clear HO320; clear HO327; clear HB; have HO318 := n0_; have HO320 := n1_; have HO327 := n2_; have HB := n3_; clear n0_ n1_ n2_ n3_; (try clear hb); (try clear hb2); (try clear hk); (try clear hi)))
          go_meet
          case rel => exact ⟨_, (true), (by first | rfl | (simp; done) | (simp [*]; done)), H', ⟨by first | omega | exact Nat.le_refl _⟩, ⟨by (with_reducible repeat (first | apply Kd.R_alloc | apply Kd.R_drewN | apply Kd.R_drew)); exact HO318.out⟩, ⟨by (with_reducible repeat (first | apply Kd.R_alloc | apply Kd.R_drewN | apply Kd.R_drew)); exact HO320.out⟩, ⟨by repeat (first | (with_reducible first | exact HB.out | apply below_alloc | apply pw_below_drewN | apply below_drew1) | exact HB.out)⟩⟩
      · rw [if_neg c10] at H
        have c10b0 : ((t323.length : Int) == (l0.length : Int)) = false := beq_eq_false_iff_ne.mpr c10
        have c10b1 : ((t323.length : Int) != (l0.length : Int)) = true := bne_iff_ne.mpr c10
        have c10b2 : (t323.length == l0.length) = false := by first | simpa using c10 | (simp at c10 ⊢; omega)
        (first | rw [c10b0] | (simp only [i64_w, i32_w]; rw [c10b0]) | skip)
        have H' := Aside0.mk H
        clear H
        obtain ⟨Ao20, co20, eo20⟩ := Kd.S_slice HO327.out
        subst eo20
        go_wp2
        go_meet
        case rel => exact ⟨_, (true), (by first | rfl | (simp; done) | (simp [*]; done)), H', ⟨by first | omega | exact Nat.le_refl _⟩, ⟨by (with_reducible repeat (first | apply Kd.R_alloc | apply Kd.R_drewN | apply Kd.R_drew)); exact HO318.out⟩, ⟨by (with_reducible repeat (first | apply Kd.R_alloc | apply Kd.R_drewN | apply Kd.R_drew)); exact HO320.out⟩, ⟨by repeat (first | (with_reducible first | exact HB.out | apply below_alloc | apply pw_below_drewN | apply below_drew1) | exact HB.out)⟩⟩
    case rest =>
      clear HC6
      try clear c1
      try clear c2
      try clear p2
      try clear c4
      try clear c6
      try clear c10
      try clear c10b0
      try clear c10b1
      try clear c10b2
      try clear c12
      try clear c13
      try clear c13b0
      try clear c13b1
      try clear c20
      obtain ⟨kq, x66_5, rfl, HA, HJ5, HO_5, HO_6, HB⟩ := hcut
      cases kq with
      | zero => exact absurd HA.out (by simp [stemmalaw04_FrameBack.j1])
      | succ kj5 =>
        have H := HA.out
        clear HA
        simp only [stemmalaw04_FrameBack.j1] at H
        by_cases c21 : x66_5 = true
        · subst c21
          have H1 : (some false) = some r := by rw [if_pos rfl] at H; exact H
          clear H
          have H := H1
          clear H1
          exact absurd ((Option.some.inj H).trans hr_.out) (by decide)
        · replace c21 := Bool.eq_false_iff.mpr c21
          subst c21
          have H1 : (if (wrap64 ((t314.length : Int) + 1)) = 0 then (none) else (stemmalaw04_FrameBack.l1 kj5 l0 t314 t315 (Int.tmod (wrap64 (a1)) (wrap64 ((t314.length : Int) + 1))) 0 0 0)) = some r := by rw [if_neg (show ¬ (false = true) by decide)] at H; exact H
          clear H
          have H := H1
          clear H1
          by_cases c22 : (wrap64 ((t314.length : Int) + 1)) = 0
          · rw [if_pos c22] at H
            exact absurd H (by simp)
          · rw [if_neg c22] at H
            have c22b0 : ((wrap64 ((t314.length : Int) + 1)) == 0) = false := beq_eq_false_iff_ne.mpr c22
            have c22b1 : ((wrap64 ((t314.length : Int) + 1)) != 0) = true := bne_iff_ne.mpr c22
            have H' := Aside0.mk H
            clear H
            go_wp2
            go_loopg [13, 14, 15] kj5 (fun kq v13 v14 v15 w' => ∃ (x13_2 : Int) (x14_2 : Int) (x15_2 : Int), v13 = .int .i64 x13_2 ∧ v14 = .int .i64 x14_2 ∧ v15 = .int .i64 x15_2 ∧ Aside0 (stemmalaw04_FrameBack.l1 kq l0 t314 t315 (Int.tmod (wrap64 (a1)) (wrap64 ((t314.length : Int) + 1))) x13_2 x14_2 x15_2 = some r) ∧ Aside0 (kq ≤ kj5) ∧ Aside0 (Kd.R (Kd.int .u8) 5 w' w.heap.size (fun _ => True) (.slice Ao8 t314.length co8) t314) ∧ Aside0 (Kd.R (Kd.int .i64) 3 w' w.heap.size (fun _ => True) v319 t315) ∧ Aside0 (Below w.heap.size w w'))
            case atStart => exact ⟨(0), (0), (0), (by first | rfl | (simp; done) | (simp [*]; done)), (by first | rfl | (simp; done) | (simp [*]; done)), (by first | rfl | (simp; done) | (simp [*]; done)), H', ⟨Nat.le_refl _⟩, ⟨by (with_reducible repeat (first | apply Kd.R_alloc | apply Kd.R_drewN | apply Kd.R_drew)); exact HO_5.out⟩, ⟨by (with_reducible repeat (first | apply Kd.R_alloc | apply Kd.R_drewN | apply Kd.R_drew)); exact HO_6.out⟩, ⟨by repeat (first | (with_reducible first | exact HB.out | apply below_alloc | apply pw_below_drewN | apply below_drew1) | exact HB.out)⟩⟩
            case round =>
              clear H'
              try clear c1
              try clear c2
              try clear p2
              try clear c4
              try clear c6
              try clear p6
              try clear c10
              try clear c10b0
              try clear c10b1
              try clear c10b2
              try clear c12
              try clear c13
              try clear c13b0
              try clear c13b1
              try clear c20
              try clear c21
              try clear c22
              try clear c22b0
              try clear c22b1
              try clear p2
              obtain ⟨x13_2, x14_2, x15_2, rfl, rfl, rfl, HA, HK2, HO_5, HO_6, HB⟩ := hrel
              cases gk with
              | zero => exact absurd HA.out (by simp [stemmalaw04_FrameBack.l1])
              | succ k2 =>
                have H := HA.out
                clear HA
                simp only [stemmalaw04_FrameBack.l1] at H
                by_cases c23 : x15_2 < (t315.length : Int)
                · rw [if_pos c23] at H
                  have c23b0 : decide (x15_2 < (t315.length : Int)) = true := decide_eq_true c23
                  clear c23
                  by_cases c24 : 0 ≤ x15_2
                  · rw [if_pos c24] at H
                    have c24b0 : decide (0 ≤ x15_2) = true := decide_eq_true c24
                    clear c24
                    by_cases c25 : (rd t315 x15_2) ≤ (Int.tmod (wrap64 (a1)) (wrap64 ((t314.length : Int) + 1)))
                    · rw [if_pos c25] at H
                      have c25b0 : decide ((rd t315 x15_2) ≤ (Int.tmod (wrap64 (a1)) (wrap64 ((t314.length : Int) + 1)))) = true := decide_eq_true c25
                      clear c25
                      have H' := Aside0.mk H
                      clear H
                      obtain ⟨Ao26, co26, eo26⟩ := Kd.R_slice HO_6.out
                      subst eo26
                      have p329 : 0 ≤ (x15_2 : Int) := of_decide_eq_true (by first | (with_reducible assumption) | assumption)
                      have q329 : x15_2 < (t315.length : Int) := of_decide_eq_true (by first | (with_reducible assumption) | assumption)
                      obtain ⟨ad329, e329, hx329_0⟩ := Kd.at_int (Kd.R_reads' HO_6.out).2.2 x15_2 p329 q329
                      cases e329
                      replace p329 := eq_true p329
                      replace q329 := eq_true q329
                      have p330 : 0 ≤ (x15_2 : Int) := of_decide_eq_true (by first | (with_reducible assumption) | assumption)
                      have q330 : x15_2 < (t315.length : Int) := of_decide_eq_true (by first | (with_reducible assumption) | assumption)
                      obtain ⟨ad330, e330, hx330_0⟩ := Kd.at_int (Kd.R_reads' HO_6.out).2.2 x15_2 p330 q330
                      obtain rfl : ad329 = ad330 := (by injection e330)
                      replace p330 := eq_true p330
                      replace q330 := eq_true q330
                      go_wp2
                      go_roundg k2
                      case measure => have := HJ5.out; have := HK2.out; omega
                      case rel => exact ⟨(wrap64 (x15_2 + 1)), (rd t315 x15_2), (wrap64 (x15_2 + 1)), (by first | rfl | (simp; done) | (simp [*]; done)), (by first | rfl | (simp; done) | (simp [*]; done)), (by first | rfl | (simp; done) | (simp [*]; done)), H', ⟨by have := HJ5.out; have := HK2.out; omega⟩, ⟨by (with_reducible repeat (first | apply Kd.R_alloc | apply Kd.R_drewN | apply Kd.R_drew)); exact HO_5.out⟩, ⟨by (with_reducible repeat (first | apply Kd.R_alloc | apply Kd.R_drewN | apply Kd.R_drew)); exact HO_6.out⟩, ⟨by repeat (first | (with_reducible first | exact HB.out | apply below_alloc | apply pw_below_drewN | apply below_drew1) | exact HB.out)⟩⟩
                    · rw [if_neg c25] at H
                      have c25b0 : decide ((rd t315 x15_2) ≤ (Int.tmod (wrap64 (a1)) (wrap64 ((t314.length : Int) + 1)))) = false := decide_eq_false c25
                      clear c25
                      obtain ⟨ji27, hji27⟩ : ∃ j_ : Int, (Int.tmod (wrap64 (a1)) (wrap64 ((t314.length : Int) + 1))) = j_ := ⟨_, rfl⟩
                      replace H : (if 0 ≤ (ji27) then (if (ji27) ≤ (t314.length : Int) then ((frame_Scan.f k2 (t314.take ((ji27) : Int).toNat)).bind fun bt335 => (if (bt335.1.length : Int) = x13_2 then ((stemmalaw04_whole.f k2 bt335.1 l0).bind fun t340 => (if t340 = true then (if bt335.2.1 = x14_2 then (if ((bt335.2.2 == 0) == (x14_2 == (ji27))) = true then (if bt335.2.2 = 0 then ((stemmalaw04_awake.f k2).bind fun t341 => (some t341)) else (if bt335.2.2 = 3 then ((stemmalaw04_awake.f k2).bind fun t342 => (some t342)) else (some false))) else (some false)) else (some false)) else (some false))) else (some false))) else (none)) else (none)) = some r := by first | (rw [hji27] at H; exact H) | (simp only [hji27] at H ⊢; exact H)
                      (try rw [hji27] at c25b0)
                      by_cases c28 : 0 ≤ (ji27)
                      · rw [if_pos c28] at H
                        have c28b0 := eq_true c28
                        have c28b1 : decide (0 ≤ (ji27)) = true := decide_eq_true c28
                        clear c28
                        by_cases c29 : (ji27) ≤ (t314.length : Int)
                        · rw [if_pos c29] at H
                          have c29b0 := eq_true c29
                          have c29b1 : decide ((ji27) ≤ (t314.length : Int)) = true := decide_eq_true c29
                          clear c29
                          obtain ⟨y331, hy331⟩ : ∃ y_ : List Int, y_ = (t314.take ((ji27) : Int).toNat) := ⟨_, rfl⟩
                          replace H : ((frame_Scan.f k2 y331).bind fun bt335 => (if (bt335.1.length : Int) = x13_2 then ((stemmalaw04_whole.f k2 bt335.1 l0).bind fun t340 => (if t340 = true then (if bt335.2.1 = x14_2 then (if ((bt335.2.2 == 0) == (x14_2 == (ji27))) = true then (if bt335.2.2 = 0 then ((stemmalaw04_awake.f k2).bind fun t341 => (some t341)) else (if bt335.2.2 = 3 then ((stemmalaw04_awake.f k2).bind fun t342 => (some t342)) else (some false))) else (some false)) else (some false)) else (some false))) else (some false))) = some r := by first | (rw [hy331]; with_reducible exact H) | (have H2_ := (Option.bind_some _ _).symm.trans H; rw [hy331]; with_reducible exact H2_) | (have H2_ := (Option.bind_some _ _).symm.trans H; with_reducible exact H2_) | with_reducible exact H | (rw [hy331]; exact H) | exact H
                          have Ny331 := Aside0.mk hy331
                          clear hy331
                          replace H := Option.bind_eq_some_iff.mp H
                          obtain ⟨⟨t335, t336, t337⟩, A300, H⟩ := H
                          replace H : (if (t335.length : Int) = x13_2 then ((stemmalaw04_whole.f k2 t335 l0).bind fun t340 => (if t340 = true then (if t336 = x14_2 then (if ((t337 == 0) == (x14_2 == (ji27))) = true then (if t337 = 0 then ((stemmalaw04_awake.f k2).bind fun t341 => (some t341)) else (if t337 = 3 then ((stemmalaw04_awake.f k2).bind fun t342 => (some t342)) else (some false))) else (some false)) else (some false)) else (some false))) else (some false)) = some r := H
                          have A30 := Aside0.mk A300
                          clear A300
                          by_cases c31 : (t335.length : Int) = x13_2
                          · rw [if_pos c31] at H
                            have c31b0 : ((t335.length : Int) == x13_2) = true := beq_iff_eq.mpr c31
                            have c31b1 : ((t335.length : Int) != x13_2) = false := bne_eq_false_iff_eq.mpr c31
                            clear c31
                            replace H := Option.bind_eq_some_iff.mp H
                            obtain ⟨t340, A320, H⟩ := H
                            replace H : (if t340 = true then (if t336 = x14_2 then (if ((t337 == 0) == (x14_2 == (ji27))) = true then (if t337 = 0 then ((stemmalaw04_awake.f k2).bind fun t341 => (some t341)) else (if t337 = 3 then ((stemmalaw04_awake.f k2).bind fun t342 => (some t342)) else (some false))) else (some false)) else (some false)) else (some false)) = some r := H
                            have A32 := Aside0.mk A320
                            clear A320
                            by_cases c33 : t340 = true
                            · subst c33
                              have H1 : (if t336 = x14_2 then (if ((t337 == 0) == (x14_2 == (ji27))) = true then (if t337 = 0 then ((stemmalaw04_awake.f k2).bind fun t341 => (some t341)) else (if t337 = 3 then ((stemmalaw04_awake.f k2).bind fun t342 => (some t342)) else (some false))) else (some false)) else (some false)) = some r := by rw [if_pos rfl] at H; exact H
                              clear H
                              have H := H1
                              clear H1
                              by_cases c34 : t336 = x14_2
                              · rw [if_pos c34] at H
                                have c34b0 : (t336 == x14_2) = true := beq_iff_eq.mpr c34
                                have c34b1 : (t336 != x14_2) = false := bne_eq_false_iff_eq.mpr c34
                                clear c34
                                by_cases c35 : ((t337 == 0) == (x14_2 == (ji27))) = true
                                · rw [if_pos c35] at H
                                  have c35b0 : ((t337 == 0) == (x14_2 == (ji27))) = true := c35
                                  (try (have c35b1 : decide ((t337 == 0) = (x14_2 == (ji27))) = true := by simpa using c35))
                                  (try (have c35b2 : ((t337 == 0) == (x14_2 == (ji27))) = true := by simpa using c35))
                                  clear c35
                                  by_cases c36 : t337 = 0
                                  · rw [if_pos c36] at H
                                    have c36b0 : (t337 == 0) = true := beq_iff_eq.mpr c36
                                    have c36d : (x14_2 == (ji27)) = true := by simpa [c36b0] using c35b0
                                    have c36b1 : (t337 != 0) = false := bne_eq_false_iff_eq.mpr c36
                                    clear c36
                                    replace H := Option.bind_eq_some_iff.mp H
                                    obtain ⟨t341, A370, H⟩ := H
                                    replace H : (some t341) = some r := H
                                    have A37 := Aside0.mk A370
                                    clear A370
                                    obtain rfl := Option.some.inj H
                                    obtain ⟨Ao38, co38, eo38⟩ := Kd.R_slice HO_6.out
                                    subst eo38
                                    have p329 : 0 ≤ (x15_2 : Int) := of_decide_eq_true (by first | (with_reducible assumption) | assumption)
                                    have q329 : x15_2 < (t315.length : Int) := of_decide_eq_true (by first | (with_reducible assumption) | assumption)
                                    obtain ⟨ad329, e329, hx329_0⟩ := Kd.at_int (Kd.R_reads' HO_6.out).2.2 x15_2 p329 q329
                                    cases e329
                                    replace p329 := eq_true p329
                                    replace q329 := eq_true q329
                                    have q39 : ((ji27) : Int) ≤ ((t314.length : Int) : Int) := of_decide_eq_true (by first | (with_reducible assumption) | assumption)
                                    obtain ⟨i039, hi039, _, hsz39, _⟩ := info_parts info5
                                    have hroom39 : t314.length ≤ co8 := (Kd.R_reads' HO_5.out).2.1
                                    have hC39 : Kd.C (Kd.int .u8) _ Ao8 t314.length t314 := (Kd.R_reads' HO_5.out).2.2
                                    have hcut39 := cut_to (P := Tryd.prog) 22 5 .i64 Tryd.underlying22 hi039 Ao8 t314.length co8 (ji27) (of_decide_eq_true (by first | (with_reducible assumption) | assumption)) q39 hroom39
                                    have hr39 := Kd.C_take (m := ((ji27) : Int).toNat) hC39 (by omega)
                                    have hy39 : y331.length = ((ji27) : Int).toNat := (by rw [Ny331.out, List.length_take]; omega)
                                    rw [← Ny331.out] at hr39
                                    rw [← hy39] at hcut39
                                    have HR334 := Aside0.mk hr39
                                    have HC334 := Aside0.mk (show y331.length ≤ co8 from by omega)
                                    clear hr39 hC39 hroom39 hi039 hsz39
                                    have KY39 := Aside0.mk hy39
                                    clear hy39
                                    have KL39 := Aside0.mk (show ((ji27) : Int).toNat ≤ t314.length from by omega)
                                    replace q39 := eq_true q39
                                    go_wp2_with (first | ((with_reducible refine gate_callee (f := 20) rfl ?_); refine goesL_ (some 97) rfl rfl Tryd.func20 (by kernel_rfl) rfl #[.slice Ao8 y331.length co8] rfl (by (try simp only [List.map_toArray, List.map_cons, List.map_nil]); first | done | rfl | (simp only [List.length_drop, List.length_take]; rfl)) ?_; (with_reducible refine (frame_Scan.calls k2 _ _ y331 t335 t336 t337 _ ?side1 ?side2 ?side3 A30.out).mono ?_); (case side1 => repeat (first | exact (by repeat (first | (with_reducible exact HR334.out) | (with_reducible refine Kd.C_alloc ?_ _) | (with_reducible refine Kd.C_drewN ?_ _) | (with_reducible refine Kd.C_drew ?_) | exact HR334.out)) | (with_reducible refine Kd.C_alloc ?_ _) | (with_reducible refine Kd.C_drewN ?_ _) | (with_reducible refine Kd.C_drew ?_))); (case side2 => exact HC334.out); (case side3 => first | exact HG.out | exact Gl.below HG.out (by repeat (first | (with_reducible first | exact HB.out | apply below_alloc | apply pw_below_drewN | apply below_drew1) | exact HB.out))); rintro e w40 ⟨v338, rfl, ho0, hb⟩; refine ⟨_, rfl, ?_⟩; have n0_ := Aside0.mk (Kd.R_below (by (with_reducible repeat (first | apply Kd.R_alloc | apply Kd.R_drewN | apply Kd.R_drew)); exact HO_5.out) hb); have n1_ := Aside0.mk (Kd.R_below (by (with_reducible repeat (first | apply Kd.R_alloc | apply Kd.R_drewN | apply Kd.R_drew)); exact HO_6.out) hb); have n2_ := Aside0.mk (Kd.S_lower (Kd.S_new' ho0 (Kd.R_lt (by (with_reducible repeat (first | apply Kd.R_alloc | apply Kd.R_drewN | apply Kd.R_drew)); exact HO_5.out))) (below_size (by repeat (first | (with_reducible first | exact HB.out | apply below_alloc | apply pw_below_drewN | apply below_drew1) | exact HB.out)))); have n3_ := Aside0.mk (Kd.C_below (by repeat (first | (with_reducible exact HR334.out) | (with_reducible refine Kd.C_alloc ?_ _) | (with_reducible refine Kd.C_drewN ?_ _) | (with_reducible refine Kd.C_drew ?_) | exact HR334.out)) hb); have n4_ := Aside0.mk (below_step (by repeat (first | (with_reducible first | exact HB.out | apply below_alloc | apply pw_below_drewN | apply below_drew1) | exact HB.out)) hb); clear HO_5; clear HO_6; clear HR334; clear HB; have HO_5 := n0_; have HO_6 := n1_; have HO339 := n2_; have HR334 := n3_; have HB := n4_; clear n0_ n1_ n2_ n3_ n4_; (try clear hb); (try clear hb2); (try clear hk); (try clear hi); (try clear ho0); obtain ⟨Ao41, co41, eo41⟩ := Kd.S_slice HO339.out; subst eo41) | (go_at_call 24; (with_reducible refine (stemmalaw04_whole.calls k2 _ _ t335 _ _ l0 true _ ?side1 ?side2 ?side3 ?side4 A32.out).mono ?_); (case side1 => repeat (first | exact (Kd.S_reads' HO339.out).2.2 | (with_reducible refine Kd.C_alloc ?_ _) | (with_reducible refine Kd.C_drewN ?_ _) | (with_reducible refine Kd.C_drew ?_))); (case side2 => exact (Kd.S_reads' HO339.out).2.1); (case side3 => repeat (first | exact (Kd.C_below HR0.out HB.out) | (with_reducible refine Kd.C_alloc ?_ _) | (with_reducible refine Kd.C_drewN ?_ _) | (with_reducible refine Kd.C_drew ?_))); (case side4 => exact HC0.out); rintro e w42 ⟨rfl, hb⟩; have n0_ := Aside0.mk (Kd.R_below (by (with_reducible repeat (first | apply Kd.R_alloc | apply Kd.R_drewN | apply Kd.R_drew)); exact HO_5.out) hb); have n1_ := Aside0.mk (Kd.R_below (by (with_reducible repeat (first | apply Kd.R_alloc | apply Kd.R_drewN | apply Kd.R_drew)); exact HO_6.out) hb); have n2_ := Aside0.mk (Kd.S_below (by (with_reducible repeat (first | apply Kd.S_alloc | apply Kd.S_drewN | apply Kd.S_drew)); exact HO339.out) hb); have n3_ := Aside0.mk (Kd.C_below (by repeat (first | (with_reducible exact HR334.out) | (with_reducible refine Kd.C_alloc ?_ _) | (with_reducible refine Kd.C_drewN ?_ _) | (with_reducible refine Kd.C_drew ?_) | exact HR334.out)) hb); have n4_ := Aside0.mk (below_step (by repeat (first | (with_reducible first | exact HB.out | apply below_alloc | apply pw_below_drewN | apply below_drew1) | exact HB.out)) hb); clear HO_5; clear HO_6; clear HO339; clear HR334; clear HB; have HO_5 := n0_; have HO_6 := n1_; have HO339 := n2_; have HR334 := n3_; have HB := n4_; clear n0_ n1_ n2_ n3_ n4_; (try clear hb); (try clear hb2); (try clear hk); (try clear hi)) | (go_at_call 17; (with_reducible refine (stemmalaw04_awake.calls k2  t341 _ ?side1 A37.out).mono ?_); (case side1 => first | exact HG.out | exact Gl.below HG.out (by repeat (first | (with_reducible first | exact HB.out | apply below_alloc | apply pw_below_drewN | apply below_drew1) | exact HB.out))); rintro e w43 ⟨rfl, hb⟩; have n0_ := Aside0.mk (Kd.R_below (by (with_reducible repeat (first | apply Kd.R_alloc | apply Kd.R_drewN | apply Kd.R_drew)); exact HO_5.out) hb); have n1_ := Aside0.mk (Kd.R_below (by (with_reducible repeat (first | apply Kd.R_alloc | apply Kd.R_drewN | apply Kd.R_drew)); exact HO_6.out) hb); have n2_ := Aside0.mk (Kd.S_below (by (with_reducible repeat (first | apply Kd.S_alloc | apply Kd.S_drewN | apply Kd.S_drew)); exact HO339.out) hb); have n3_ := Aside0.mk (Kd.C_below (by repeat (first | (with_reducible exact HR334.out) | (with_reducible refine Kd.C_alloc ?_ _) | (with_reducible refine Kd.C_drewN ?_ _) | (with_reducible refine Kd.C_drew ?_) | exact HR334.out)) hb); have n4_ := Aside0.mk (below_step (by repeat (first | (with_reducible first | exact HB.out | apply below_alloc | apply pw_below_drewN | apply below_drew1) | exact HB.out)) hb); clear HO_5; clear HO_6; clear HO339; clear HR334; clear HB; have HO_5 := n0_; have HO_6 := n1_; have HO339 := n2_; have HR334 := n3_; have HB := n4_; clear n0_ n1_ n2_ n3_ n4_; (try clear hb); (try clear hb2); (try clear hk); (try clear hi)))
                                    go_ret
                                    exact ⟨by first | rfl | (simp [errW_none, errW_some] <;> rfl) | (simp only [← hji27]; first | rfl | (simp [errW_none, errW_some] <;> rfl)) | (simp [*, errW_none, errW_some] <;> rfl), by repeat (first | (with_reducible first | exact HB.out | apply below_alloc | apply pw_below_drewN | apply below_drew1) | exact HB.out)⟩
                                  · rw [if_neg c36] at H
                                    have c36b0 : (t337 == 0) = false := beq_eq_false_iff_ne.mpr c36
                                    have c36d : (x14_2 == (ji27)) = false := by simpa [c36b0] using c35b0
                                    have c36b1 : (t337 != 0) = true := bne_iff_ne.mpr c36
                                    by_cases c44 : t337 = 3
                                    · rw [if_pos c44] at H
                                      have c44b0 : (t337 == 3) = true := beq_iff_eq.mpr c44
                                      have c44b1 : (t337 != 3) = false := bne_eq_false_iff_eq.mpr c44
                                      clear c44
                                      replace H := Option.bind_eq_some_iff.mp H
                                      obtain ⟨t342, A450, H⟩ := H
                                      replace H : (some t342) = some r := H
                                      have A45 := Aside0.mk A450
                                      clear A450
                                      obtain rfl := Option.some.inj H
                                      obtain ⟨Ao46, co46, eo46⟩ := Kd.R_slice HO_6.out
                                      subst eo46
                                      have p329 : 0 ≤ (x15_2 : Int) := of_decide_eq_true (by first | (with_reducible assumption) | assumption)
                                      have q329 : x15_2 < (t315.length : Int) := of_decide_eq_true (by first | (with_reducible assumption) | assumption)
                                      obtain ⟨ad329, e329, hx329_0⟩ := Kd.at_int (Kd.R_reads' HO_6.out).2.2 x15_2 p329 q329
                                      cases e329
                                      replace p329 := eq_true p329
                                      replace q329 := eq_true q329
                                      have q47 : ((ji27) : Int) ≤ ((t314.length : Int) : Int) := of_decide_eq_true (by first | (with_reducible assumption) | assumption)
                                      obtain ⟨i047, hi047, _, hsz47, _⟩ := info_parts info5
                                      have hroom47 : t314.length ≤ co8 := (Kd.R_reads' HO_5.out).2.1
                                      have hC47 : Kd.C (Kd.int .u8) _ Ao8 t314.length t314 := (Kd.R_reads' HO_5.out).2.2
                                      have hcut47 := cut_to (P := Tryd.prog) 22 5 .i64 Tryd.underlying22 hi047 Ao8 t314.length co8 (ji27) (of_decide_eq_true (by first | (with_reducible assumption) | assumption)) q47 hroom47
                                      have hr47 := Kd.C_take (m := ((ji27) : Int).toNat) hC47 (by omega)
                                      have hy47 : y331.length = ((ji27) : Int).toNat := (by rw [Ny331.out, List.length_take]; omega)
                                      rw [← Ny331.out] at hr47
                                      rw [← hy47] at hcut47
                                      have HR334 := Aside0.mk hr47
                                      have HC334 := Aside0.mk (show y331.length ≤ co8 from by omega)
                                      clear hr47 hC47 hroom47 hi047 hsz47
                                      have KY47 := Aside0.mk hy47
                                      clear hy47
                                      have KL47 := Aside0.mk (show ((ji27) : Int).toNat ≤ t314.length from by omega)
                                      replace q47 := eq_true q47
                                      go_wp2_with (first | ((with_reducible refine gate_callee (f := 20) rfl ?_); refine goesL_ (some 97) rfl rfl Tryd.func20 (by kernel_rfl) rfl #[.slice Ao8 y331.length co8] rfl (by (try simp only [List.map_toArray, List.map_cons, List.map_nil]); first | done | rfl | (simp only [List.length_drop, List.length_take]; rfl)) ?_; (with_reducible refine (frame_Scan.calls k2 _ _ y331 t335 t336 t337 _ ?side1 ?side2 ?side3 A30.out).mono ?_); (case side1 => repeat (first | exact (by repeat (first | (with_reducible exact HR334.out) | (with_reducible refine Kd.C_alloc ?_ _) | (with_reducible refine Kd.C_drewN ?_ _) | (with_reducible refine Kd.C_drew ?_) | exact HR334.out)) | (with_reducible refine Kd.C_alloc ?_ _) | (with_reducible refine Kd.C_drewN ?_ _) | (with_reducible refine Kd.C_drew ?_))); (case side2 => exact HC334.out); (case side3 => first | exact HG.out | exact Gl.below HG.out (by repeat (first | (with_reducible first | exact HB.out | apply below_alloc | apply pw_below_drewN | apply below_drew1) | exact HB.out))); rintro e w48 ⟨v338, rfl, ho0, hb⟩; refine ⟨_, rfl, ?_⟩; have n0_ := Aside0.mk (Kd.R_below (by (with_reducible repeat (first | apply Kd.R_alloc | apply Kd.R_drewN | apply Kd.R_drew)); exact HO_5.out) hb); have n1_ := Aside0.mk (Kd.R_below (by (with_reducible repeat (first | apply Kd.R_alloc | apply Kd.R_drewN | apply Kd.R_drew)); exact HO_6.out) hb); have n2_ := Aside0.mk (Kd.S_lower (Kd.S_new' ho0 (Kd.R_lt (by (with_reducible repeat (first | apply Kd.R_alloc | apply Kd.R_drewN | apply Kd.R_drew)); exact HO_5.out))) (below_size (by repeat (first | (with_reducible first | exact HB.out | apply below_alloc | apply pw_below_drewN | apply below_drew1) | exact HB.out)))); have n3_ := Aside0.mk (Kd.C_below (by repeat (first | (with_reducible exact HR334.out) | (with_reducible refine Kd.C_alloc ?_ _) | (with_reducible refine Kd.C_drewN ?_ _) | (with_reducible refine Kd.C_drew ?_) | exact HR334.out)) hb); have n4_ := Aside0.mk (below_step (by repeat (first | (with_reducible first | exact HB.out | apply below_alloc | apply pw_below_drewN | apply below_drew1) | exact HB.out)) hb); clear HO_5; clear HO_6; clear HR334; clear HB; have HO_5 := n0_; have HO_6 := n1_; have HO339 := n2_; have HR334 := n3_; have HB := n4_; clear n0_ n1_ n2_ n3_ n4_; (try clear hb); (try clear hb2); (try clear hk); (try clear hi); (try clear ho0); obtain ⟨Ao49, co49, eo49⟩ := Kd.S_slice HO339.out; subst eo49) | (go_at_call 24; (with_reducible refine (stemmalaw04_whole.calls k2 _ _ t335 _ _ l0 true _ ?side1 ?side2 ?side3 ?side4 A32.out).mono ?_); (case side1 => repeat (first | exact (Kd.S_reads' HO339.out).2.2 | (with_reducible refine Kd.C_alloc ?_ _) | (with_reducible refine Kd.C_drewN ?_ _) | (with_reducible refine Kd.C_drew ?_))); (case side2 => exact (Kd.S_reads' HO339.out).2.1); (case side3 => repeat (first | exact (Kd.C_below HR0.out HB.out) | (with_reducible refine Kd.C_alloc ?_ _) | (with_reducible refine Kd.C_drewN ?_ _) | (with_reducible refine Kd.C_drew ?_))); (case side4 => exact HC0.out); rintro e w50 ⟨rfl, hb⟩; have n0_ := Aside0.mk (Kd.R_below (by (with_reducible repeat (first | apply Kd.R_alloc | apply Kd.R_drewN | apply Kd.R_drew)); exact HO_5.out) hb); have n1_ := Aside0.mk (Kd.R_below (by (with_reducible repeat (first | apply Kd.R_alloc | apply Kd.R_drewN | apply Kd.R_drew)); exact HO_6.out) hb); have n2_ := Aside0.mk (Kd.S_below (by (with_reducible repeat (first | apply Kd.S_alloc | apply Kd.S_drewN | apply Kd.S_drew)); exact HO339.out) hb); have n3_ := Aside0.mk (Kd.C_below (by repeat (first | (with_reducible exact HR334.out) | (with_reducible refine Kd.C_alloc ?_ _) | (with_reducible refine Kd.C_drewN ?_ _) | (with_reducible refine Kd.C_drew ?_) | exact HR334.out)) hb); have n4_ := Aside0.mk (below_step (by repeat (first | (with_reducible first | exact HB.out | apply below_alloc | apply pw_below_drewN | apply below_drew1) | exact HB.out)) hb); clear HO_5; clear HO_6; clear HO339; clear HR334; clear HB; have HO_5 := n0_; have HO_6 := n1_; have HO339 := n2_; have HR334 := n3_; have HB := n4_; clear n0_ n1_ n2_ n3_ n4_; (try clear hb); (try clear hb2); (try clear hk); (try clear hi)) | (go_at_call 17; (with_reducible refine (stemmalaw04_awake.calls k2  t342 _ ?side1 A45.out).mono ?_); (case side1 => first | exact HG.out | exact Gl.below HG.out (by repeat (first | (with_reducible first | exact HB.out | apply below_alloc | apply pw_below_drewN | apply below_drew1) | exact HB.out))); rintro e w51 ⟨rfl, hb⟩; have n0_ := Aside0.mk (Kd.R_below (by (with_reducible repeat (first | apply Kd.R_alloc | apply Kd.R_drewN | apply Kd.R_drew)); exact HO_5.out) hb); have n1_ := Aside0.mk (Kd.R_below (by (with_reducible repeat (first | apply Kd.R_alloc | apply Kd.R_drewN | apply Kd.R_drew)); exact HO_6.out) hb); have n2_ := Aside0.mk (Kd.S_below (by (with_reducible repeat (first | apply Kd.S_alloc | apply Kd.S_drewN | apply Kd.S_drew)); exact HO339.out) hb); have n3_ := Aside0.mk (Kd.C_below (by repeat (first | (with_reducible exact HR334.out) | (with_reducible refine Kd.C_alloc ?_ _) | (with_reducible refine Kd.C_drewN ?_ _) | (with_reducible refine Kd.C_drew ?_) | exact HR334.out)) hb); have n4_ := Aside0.mk (below_step (by repeat (first | (with_reducible first | exact HB.out | apply below_alloc | apply pw_below_drewN | apply below_drew1) | exact HB.out)) hb); clear HO_5; clear HO_6; clear HO339; clear HR334; clear HB; have HO_5 := n0_; have HO_6 := n1_; have HO339 := n2_; have HR334 := n3_; have HB := n4_; clear n0_ n1_ n2_ n3_ n4_; (try clear hb); (try clear hb2); (try clear hk); (try clear hi)))
                                      go_ret
                                      exact ⟨by first | rfl | (simp [errW_none, errW_some] <;> rfl) | (simp only [← hji27]; first | rfl | (simp [errW_none, errW_some] <;> rfl)) | (simp [*, errW_none, errW_some] <;> rfl), by repeat (first | (with_reducible first | exact HB.out | apply below_alloc | apply pw_below_drewN | apply below_drew1) | exact HB.out)⟩
                                    · rw [if_neg c44] at H
                                      have c44b0 : (t337 == 3) = false := beq_eq_false_iff_ne.mpr c44
                                      have c44b1 : (t337 != 3) = true := bne_iff_ne.mpr c44
                                      exact absurd ((Option.some.inj H).trans hr_.out) (by decide)
                                · rw [if_neg c35] at H
                                  have c35b0 : ((t337 == 0) == (x14_2 == (ji27))) = false := by simpa using c35
                                  (try (have c35b1 : decide ((t337 == 0) = (x14_2 == (ji27))) = false := by simpa using c35))
                                  (try (have c35b2 : ((t337 == 0) == (x14_2 == (ji27))) = false := by simpa using c35))
                                  (try (have c35b3 : ¬ ((t337 == 0) = (x14_2 == (ji27))) := by simpa using c35))
                                  clear c35
                                  exact absurd ((Option.some.inj H).trans hr_.out) (by decide)
                              · rw [if_neg c34] at H
                                have c34b0 : (t336 == x14_2) = false := beq_eq_false_iff_ne.mpr c34
                                have c34b1 : (t336 != x14_2) = true := bne_iff_ne.mpr c34
                                exact absurd ((Option.some.inj H).trans hr_.out) (by decide)
                            · replace c33 := Bool.eq_false_iff.mpr c33
                              subst c33
                              have H1 : (some false) = some r := by rw [if_neg (show ¬ (false = true) by decide)] at H; exact H
                              clear H
                              have H := H1
                              clear H1
                              exact absurd ((Option.some.inj H).trans hr_.out) (by decide)
                          · rw [if_neg c31] at H
                            have c31b0 : ((t335.length : Int) == x13_2) = false := beq_eq_false_iff_ne.mpr c31
                            have c31b1 : ((t335.length : Int) != x13_2) = true := bne_iff_ne.mpr c31
                            exact absurd ((Option.some.inj H).trans hr_.out) (by decide)
                        · rw [if_neg c29] at H
                          exact absurd H (by simp)
                      · rw [if_neg c28] at H
                        exact absurd H (by simp)
                  · rw [if_neg c24] at H
                    exact absurd H (by simp)
                · rw [if_neg c23] at H
                  have c23b0 : decide (x15_2 < (t315.length : Int)) = false := decide_eq_false c23
                  clear c23
                  obtain ⟨ji52, hji52⟩ : ∃ j_ : Int, (Int.tmod (wrap64 (a1)) (wrap64 ((t314.length : Int) + 1))) = j_ := ⟨_, rfl⟩
                  (try rw [hji52] at hji27)
                  (try rw [hji52] at hji27w)
                  replace H : (if 0 ≤ (ji52) then (if (ji52) ≤ (t314.length : Int) then ((frame_Scan.f k2 (t314.take ((ji52) : Int).toNat)).bind fun bt347 => (if (bt347.1.length : Int) = x13_2 then ((stemmalaw04_whole.f k2 bt347.1 l0).bind fun t352 => (if t352 = true then (if bt347.2.1 = x14_2 then (if ((bt347.2.2 == 0) == (x14_2 == (ji52))) = true then (if bt347.2.2 = 0 then ((stemmalaw04_awake.f k2).bind fun t353 => (some t353)) else (if bt347.2.2 = 3 then ((stemmalaw04_awake.f k2).bind fun t354 => (some t354)) else (some false))) else (some false)) else (some false)) else (some false))) else (some false))) else (none)) else (none)) = some r := by first | (rw [hji52] at H; exact H) | (simp only [hji52] at H ⊢; exact H)
                  by_cases c53 : 0 ≤ (ji52)
                  · rw [if_pos c53] at H
                    have c53b0 := eq_true c53
                    have c53b1 : decide (0 ≤ (ji52)) = true := decide_eq_true c53
                    clear c53
                    by_cases c54 : (ji52) ≤ (t314.length : Int)
                    · rw [if_pos c54] at H
                      have c54b0 := eq_true c54
                      have c54b1 : decide ((ji52) ≤ (t314.length : Int)) = true := decide_eq_true c54
                      clear c54
                      obtain ⟨y343, hy343⟩ : ∃ y_ : List Int, y_ = (t314.take ((ji52) : Int).toNat) := ⟨_, rfl⟩
                      replace H : ((frame_Scan.f k2 y343).bind fun bt347 => (if (bt347.1.length : Int) = x13_2 then ((stemmalaw04_whole.f k2 bt347.1 l0).bind fun t352 => (if t352 = true then (if bt347.2.1 = x14_2 then (if ((bt347.2.2 == 0) == (x14_2 == (ji52))) = true then (if bt347.2.2 = 0 then ((stemmalaw04_awake.f k2).bind fun t353 => (some t353)) else (if bt347.2.2 = 3 then ((stemmalaw04_awake.f k2).bind fun t354 => (some t354)) else (some false))) else (some false)) else (some false)) else (some false))) else (some false))) = some r := by first | (rw [hy343]; with_reducible exact H) | (have H2_ := (Option.bind_some _ _).symm.trans H; rw [hy343]; with_reducible exact H2_) | (have H2_ := (Option.bind_some _ _).symm.trans H; with_reducible exact H2_) | with_reducible exact H | (rw [hy343]; exact H) | exact H
                      have Ny343 := Aside0.mk hy343
                      clear hy343
                      replace H := Option.bind_eq_some_iff.mp H
                      obtain ⟨⟨t347, t348, t349⟩, A550, H⟩ := H
                      replace H : (if (t347.length : Int) = x13_2 then ((stemmalaw04_whole.f k2 t347 l0).bind fun t352 => (if t352 = true then (if t348 = x14_2 then (if ((t349 == 0) == (x14_2 == (ji52))) = true then (if t349 = 0 then ((stemmalaw04_awake.f k2).bind fun t353 => (some t353)) else (if t349 = 3 then ((stemmalaw04_awake.f k2).bind fun t354 => (some t354)) else (some false))) else (some false)) else (some false)) else (some false))) else (some false)) = some r := H
                      have A55 := Aside0.mk A550
                      clear A550
                      by_cases c56 : (t347.length : Int) = x13_2
                      · rw [if_pos c56] at H
                        have c56b0 : ((t347.length : Int) == x13_2) = true := beq_iff_eq.mpr c56
                        have c56b1 : ((t347.length : Int) != x13_2) = false := bne_eq_false_iff_eq.mpr c56
                        clear c56
                        replace H := Option.bind_eq_some_iff.mp H
                        obtain ⟨t352, A570, H⟩ := H
                        replace H : (if t352 = true then (if t348 = x14_2 then (if ((t349 == 0) == (x14_2 == (ji52))) = true then (if t349 = 0 then ((stemmalaw04_awake.f k2).bind fun t353 => (some t353)) else (if t349 = 3 then ((stemmalaw04_awake.f k2).bind fun t354 => (some t354)) else (some false))) else (some false)) else (some false)) else (some false)) = some r := H
                        have A57 := Aside0.mk A570
                        clear A570
                        by_cases c58 : t352 = true
                        · subst c58
                          have H1 : (if t348 = x14_2 then (if ((t349 == 0) == (x14_2 == (ji52))) = true then (if t349 = 0 then ((stemmalaw04_awake.f k2).bind fun t353 => (some t353)) else (if t349 = 3 then ((stemmalaw04_awake.f k2).bind fun t354 => (some t354)) else (some false))) else (some false)) else (some false)) = some r := by rw [if_pos rfl] at H; exact H
                          clear H
                          have H := H1
                          clear H1
                          by_cases c59 : t348 = x14_2
                          · rw [if_pos c59] at H
                            have c59b0 : (t348 == x14_2) = true := beq_iff_eq.mpr c59
                            have c59b1 : (t348 != x14_2) = false := bne_eq_false_iff_eq.mpr c59
                            clear c59
                            by_cases c60 : ((t349 == 0) == (x14_2 == (ji52))) = true
                            · rw [if_pos c60] at H
                              have c60b0 : ((t349 == 0) == (x14_2 == (ji52))) = true := c60
                              (try (have c60b1 : decide ((t349 == 0) = (x14_2 == (ji52))) = true := by simpa using c60))
                              (try (have c60b2 : ((t349 == 0) == (x14_2 == (ji52))) = true := by simpa using c60))
                              clear c60
                              by_cases c61 : t349 = 0
                              · rw [if_pos c61] at H
                                have c61b0 : (t349 == 0) = true := beq_iff_eq.mpr c61
                                have c61d : (x14_2 == (ji52)) = true := by simpa [c61b0] using c60b0
                                have c61b1 : (t349 != 0) = false := bne_eq_false_iff_eq.mpr c61
                                clear c61
                                replace H := Option.bind_eq_some_iff.mp H
                                obtain ⟨t353, A620, H⟩ := H
                                replace H : (some t353) = some r := H
                                have A62 := Aside0.mk A620
                                clear A620
                                obtain rfl := Option.some.inj H
                                obtain ⟨Ao63, co63, eo63⟩ := Kd.R_slice HO_6.out
                                subst eo63
                                have q64 : ((ji52) : Int) ≤ ((t314.length : Int) : Int) := of_decide_eq_true (by first | (with_reducible assumption) | assumption)
                                obtain ⟨i064, hi064, _, hsz64, _⟩ := info_parts info5
                                have hroom64 : t314.length ≤ co8 := (Kd.R_reads' HO_5.out).2.1
                                have hC64 : Kd.C (Kd.int .u8) _ Ao8 t314.length t314 := (Kd.R_reads' HO_5.out).2.2
                                have hcut64 := cut_to (P := Tryd.prog) 22 5 .i64 Tryd.underlying22 hi064 Ao8 t314.length co8 (ji52) (of_decide_eq_true (by first | (with_reducible assumption) | assumption)) q64 hroom64
                                have hr64 := Kd.C_take (m := ((ji52) : Int).toNat) hC64 (by omega)
                                have hy64 : y343.length = ((ji52) : Int).toNat := (by rw [Ny343.out, List.length_take]; omega)
                                rw [← Ny343.out] at hr64
                                rw [← hy64] at hcut64
                                have HR346 := Aside0.mk hr64
                                have HC346 := Aside0.mk (show y343.length ≤ co8 from by omega)
                                clear hr64 hC64 hroom64 hi064 hsz64
                                have KY64 := Aside0.mk hy64
                                clear hy64
                                have KL64 := Aside0.mk (show ((ji52) : Int).toNat ≤ t314.length from by omega)
                                replace q64 := eq_true q64
                                go_wp2_with (first | ((with_reducible refine gate_callee (f := 20) rfl ?_); refine goesL_ (some 97) rfl rfl Tryd.func20 (by kernel_rfl) rfl #[.slice Ao8 y343.length co8] rfl (by (try simp only [List.map_toArray, List.map_cons, List.map_nil]); first | done | rfl | (simp only [List.length_drop, List.length_take]; rfl)) ?_; (with_reducible refine (frame_Scan.calls k2 _ _ y343 t347 t348 t349 _ ?side1 ?side2 ?side3 A55.out).mono ?_); (case side1 => repeat (first | exact (by repeat (first | (with_reducible exact HR346.out) | (with_reducible refine Kd.C_alloc ?_ _) | (with_reducible refine Kd.C_drewN ?_ _) | (with_reducible refine Kd.C_drew ?_) | exact HR346.out)) | (with_reducible refine Kd.C_alloc ?_ _) | (with_reducible refine Kd.C_drewN ?_ _) | (with_reducible refine Kd.C_drew ?_))); (case side2 => exact HC346.out); (case side3 => first | exact HG.out | exact Gl.below HG.out (by repeat (first | (with_reducible first | exact HB.out | apply below_alloc | apply pw_below_drewN | apply below_drew1) | exact HB.out))); rintro e w65 ⟨v350, rfl, ho0, hb⟩; refine ⟨_, rfl, ?_⟩; have n0_ := Aside0.mk (Kd.R_below (by (with_reducible repeat (first | apply Kd.R_alloc | apply Kd.R_drewN | apply Kd.R_drew)); exact HO_5.out) hb); have n1_ := Aside0.mk (Kd.R_below (by (with_reducible repeat (first | apply Kd.R_alloc | apply Kd.R_drewN | apply Kd.R_drew)); exact HO_6.out) hb); have n2_ := Aside0.mk (Kd.S_lower (Kd.S_new' ho0 (Kd.R_lt (by (with_reducible repeat (first | apply Kd.R_alloc | apply Kd.R_drewN | apply Kd.R_drew)); exact HO_5.out))) (below_size (by repeat (first | (with_reducible first | exact HB.out | apply below_alloc | apply pw_below_drewN | apply below_drew1) | exact HB.out)))); have n3_ := Aside0.mk (Kd.C_below (by repeat (first | (with_reducible exact HR346.out) | (with_reducible refine Kd.C_alloc ?_ _) | (with_reducible refine Kd.C_drewN ?_ _) | (with_reducible refine Kd.C_drew ?_) | exact HR346.out)) hb); have n4_ := Aside0.mk (below_step (by repeat (first | (with_reducible first | exact HB.out | apply below_alloc | apply pw_below_drewN | apply below_drew1) | exact HB.out)) hb); clear HO_5; clear HO_6; clear HR346; clear HB; have HO_5 := n0_; have HO_6 := n1_; have HO351 := n2_; have HR346 := n3_; have HB := n4_; clear n0_ n1_ n2_ n3_ n4_; (try clear hb); (try clear hb2); (try clear hk); (try clear hi); (try clear ho0); obtain ⟨Ao66, co66, eo66⟩ := Kd.S_slice HO351.out; subst eo66) | (go_at_call 24; (with_reducible refine (stemmalaw04_whole.calls k2 _ _ t347 _ _ l0 true _ ?side1 ?side2 ?side3 ?side4 A57.out).mono ?_); (case side1 => repeat (first | exact (Kd.S_reads' HO351.out).2.2 | (with_reducible refine Kd.C_alloc ?_ _) | (with_reducible refine Kd.C_drewN ?_ _) | (with_reducible refine Kd.C_drew ?_))); (case side2 => exact (Kd.S_reads' HO351.out).2.1); (case side3 => repeat (first | exact (Kd.C_below HR0.out HB.out) | (with_reducible refine Kd.C_alloc ?_ _) | (with_reducible refine Kd.C_drewN ?_ _) | (with_reducible refine Kd.C_drew ?_))); (case side4 => exact HC0.out); rintro e w67 ⟨rfl, hb⟩; have n0_ := Aside0.mk (Kd.R_below (by (with_reducible repeat (first | apply Kd.R_alloc | apply Kd.R_drewN | apply Kd.R_drew)); exact HO_5.out) hb); have n1_ := Aside0.mk (Kd.R_below (by (with_reducible repeat (first | apply Kd.R_alloc | apply Kd.R_drewN | apply Kd.R_drew)); exact HO_6.out) hb); have n2_ := Aside0.mk (Kd.S_below (by (with_reducible repeat (first | apply Kd.S_alloc | apply Kd.S_drewN | apply Kd.S_drew)); exact HO351.out) hb); have n3_ := Aside0.mk (Kd.C_below (by repeat (first | (with_reducible exact HR346.out) | (with_reducible refine Kd.C_alloc ?_ _) | (with_reducible refine Kd.C_drewN ?_ _) | (with_reducible refine Kd.C_drew ?_) | exact HR346.out)) hb); have n4_ := Aside0.mk (below_step (by repeat (first | (with_reducible first | exact HB.out | apply below_alloc | apply pw_below_drewN | apply below_drew1) | exact HB.out)) hb); clear HO_5; clear HO_6; clear HO351; clear HR346; clear HB; have HO_5 := n0_; have HO_6 := n1_; have HO351 := n2_; have HR346 := n3_; have HB := n4_; clear n0_ n1_ n2_ n3_ n4_; (try clear hb); (try clear hb2); (try clear hk); (try clear hi)) | (go_at_call 17; (with_reducible refine (stemmalaw04_awake.calls k2  t353 _ ?side1 A62.out).mono ?_); (case side1 => first | exact HG.out | exact Gl.below HG.out (by repeat (first | (with_reducible first | exact HB.out | apply below_alloc | apply pw_below_drewN | apply below_drew1) | exact HB.out))); rintro e w68 ⟨rfl, hb⟩; have n0_ := Aside0.mk (Kd.R_below (by (with_reducible repeat (first | apply Kd.R_alloc | apply Kd.R_drewN | apply Kd.R_drew)); exact HO_5.out) hb); have n1_ := Aside0.mk (Kd.R_below (by (with_reducible repeat (first | apply Kd.R_alloc | apply Kd.R_drewN | apply Kd.R_drew)); exact HO_6.out) hb); have n2_ := Aside0.mk (Kd.S_below (by (with_reducible repeat (first | apply Kd.S_alloc | apply Kd.S_drewN | apply Kd.S_drew)); exact HO351.out) hb); have n3_ := Aside0.mk (Kd.C_below (by repeat (first | (with_reducible exact HR346.out) | (with_reducible refine Kd.C_alloc ?_ _) | (with_reducible refine Kd.C_drewN ?_ _) | (with_reducible refine Kd.C_drew ?_) | exact HR346.out)) hb); have n4_ := Aside0.mk (below_step (by repeat (first | (with_reducible first | exact HB.out | apply below_alloc | apply pw_below_drewN | apply below_drew1) | exact HB.out)) hb); clear HO_5; clear HO_6; clear HO351; clear HR346; clear HB; have HO_5 := n0_; have HO_6 := n1_; have HO351 := n2_; have HR346 := n3_; have HB := n4_; clear n0_ n1_ n2_ n3_ n4_; (try clear hb); (try clear hb2); (try clear hk); (try clear hi)))
                                go_ret
                                exact ⟨by first | rfl | (simp [errW_none, errW_some] <;> rfl) | (simp only [← hji52]; first | rfl | (simp [errW_none, errW_some] <;> rfl)) | (simp [*, errW_none, errW_some] <;> rfl), by repeat (first | (with_reducible first | exact HB.out | apply below_alloc | apply pw_below_drewN | apply below_drew1) | exact HB.out)⟩
                              · rw [if_neg c61] at H
                                have c61b0 : (t349 == 0) = false := beq_eq_false_iff_ne.mpr c61
                                have c61d : (x14_2 == (ji52)) = false := by simpa [c61b0] using c60b0
                                have c61b1 : (t349 != 0) = true := bne_iff_ne.mpr c61
                                by_cases c69 : t349 = 3
                                · rw [if_pos c69] at H
                                  have c69b0 : (t349 == 3) = true := beq_iff_eq.mpr c69
                                  have c69b1 : (t349 != 3) = false := bne_eq_false_iff_eq.mpr c69
                                  clear c69
                                  replace H := Option.bind_eq_some_iff.mp H
                                  obtain ⟨t354, A700, H⟩ := H
                                  replace H : (some t354) = some r := H
                                  have A70 := Aside0.mk A700
                                  clear A700
                                  obtain rfl := Option.some.inj H
                                  obtain ⟨Ao71, co71, eo71⟩ := Kd.R_slice HO_6.out
                                  subst eo71
                                  have q72 : ((ji52) : Int) ≤ ((t314.length : Int) : Int) := of_decide_eq_true (by first | (with_reducible assumption) | assumption)
                                  obtain ⟨i072, hi072, _, hsz72, _⟩ := info_parts info5
                                  have hroom72 : t314.length ≤ co8 := (Kd.R_reads' HO_5.out).2.1
                                  have hC72 : Kd.C (Kd.int .u8) _ Ao8 t314.length t314 := (Kd.R_reads' HO_5.out).2.2
                                  have hcut72 := cut_to (P := Tryd.prog) 22 5 .i64 Tryd.underlying22 hi072 Ao8 t314.length co8 (ji52) (of_decide_eq_true (by first | (with_reducible assumption) | assumption)) q72 hroom72
                                  have hr72 := Kd.C_take (m := ((ji52) : Int).toNat) hC72 (by omega)
                                  have hy72 : y343.length = ((ji52) : Int).toNat := (by rw [Ny343.out, List.length_take]; omega)
                                  rw [← Ny343.out] at hr72
                                  rw [← hy72] at hcut72
                                  have HR346 := Aside0.mk hr72
                                  have HC346 := Aside0.mk (show y343.length ≤ co8 from by omega)
                                  clear hr72 hC72 hroom72 hi072 hsz72
                                  have KY72 := Aside0.mk hy72
                                  clear hy72
                                  have KL72 := Aside0.mk (show ((ji52) : Int).toNat ≤ t314.length from by omega)
                                  replace q72 := eq_true q72
                                  go_wp2_with (first | ((with_reducible refine gate_callee (f := 20) rfl ?_); refine goesL_ (some 97) rfl rfl Tryd.func20 (by kernel_rfl) rfl #[.slice Ao8 y343.length co8] rfl (by (try simp only [List.map_toArray, List.map_cons, List.map_nil]); first | done | rfl | (simp only [List.length_drop, List.length_take]; rfl)) ?_; (with_reducible refine (frame_Scan.calls k2 _ _ y343 t347 t348 t349 _ ?side1 ?side2 ?side3 A55.out).mono ?_); (case side1 => repeat (first | exact (by repeat (first | (with_reducible exact HR346.out) | (with_reducible refine Kd.C_alloc ?_ _) | (with_reducible refine Kd.C_drewN ?_ _) | (with_reducible refine Kd.C_drew ?_) | exact HR346.out)) | (with_reducible refine Kd.C_alloc ?_ _) | (with_reducible refine Kd.C_drewN ?_ _) | (with_reducible refine Kd.C_drew ?_))); (case side2 => exact HC346.out); (case side3 => first | exact HG.out | exact Gl.below HG.out (by repeat (first | (with_reducible first | exact HB.out | apply below_alloc | apply pw_below_drewN | apply below_drew1) | exact HB.out))); rintro e w73 ⟨v350, rfl, ho0, hb⟩; refine ⟨_, rfl, ?_⟩; have n0_ := Aside0.mk (Kd.R_below (by (with_reducible repeat (first | apply Kd.R_alloc | apply Kd.R_drewN | apply Kd.R_drew)); exact HO_5.out) hb); have n1_ := Aside0.mk (Kd.R_below (by (with_reducible repeat (first | apply Kd.R_alloc | apply Kd.R_drewN | apply Kd.R_drew)); exact HO_6.out) hb); have n2_ := Aside0.mk (Kd.S_lower (Kd.S_new' ho0 (Kd.R_lt (by (with_reducible repeat (first | apply Kd.R_alloc | apply Kd.R_drewN | apply Kd.R_drew)); exact HO_5.out))) (below_size (by repeat (first | (with_reducible first | exact HB.out | apply below_alloc | apply pw_below_drewN | apply below_drew1) | exact HB.out)))); have n3_ := Aside0.mk (Kd.C_below (by repeat (first | (with_reducible exact HR346.out) | (with_reducible refine Kd.C_alloc ?_ _) | (with_reducible refine Kd.C_drewN ?_ _) | (with_reducible refine Kd.C_drew ?_) | exact HR346.out)) hb); have n4_ := Aside0.mk (below_step (by repeat (first | (with_reducible first | exact HB.out | apply below_alloc | apply pw_below_drewN | apply below_drew1) | exact HB.out)) hb); clear HO_5; clear HO_6; clear HR346; clear HB; have HO_5 := n0_; have HO_6 := n1_; have HO351 := n2_; have HR346 := n3_; have HB := n4_; clear n0_ n1_ n2_ n3_ n4_; (try clear hb); (try clear hb2); (try clear hk); (try clear hi); (try clear ho0); obtain ⟨Ao74, co74, eo74⟩ := Kd.S_slice HO351.out; subst eo74) | (go_at_call 24; (with_reducible refine (stemmalaw04_whole.calls k2 _ _ t347 _ _ l0 true _ ?side1 ?side2 ?side3 ?side4 A57.out).mono ?_); (case side1 => repeat (first | exact (Kd.S_reads' HO351.out).2.2 | (with_reducible refine Kd.C_alloc ?_ _) | (with_reducible refine Kd.C_drewN ?_ _) | (with_reducible refine Kd.C_drew ?_))); (case side2 => exact (Kd.S_reads' HO351.out).2.1); (case side3 => repeat (first | exact (Kd.C_below HR0.out HB.out) | (with_reducible refine Kd.C_alloc ?_ _) | (with_reducible refine Kd.C_drewN ?_ _) | (with_reducible refine Kd.C_drew ?_))); (case side4 => exact HC0.out); rintro e w75 ⟨rfl, hb⟩; have n0_ := Aside0.mk (Kd.R_below (by (with_reducible repeat (first | apply Kd.R_alloc | apply Kd.R_drewN | apply Kd.R_drew)); exact HO_5.out) hb); have n1_ := Aside0.mk (Kd.R_below (by (with_reducible repeat (first | apply Kd.R_alloc | apply Kd.R_drewN | apply Kd.R_drew)); exact HO_6.out) hb); have n2_ := Aside0.mk (Kd.S_below (by (with_reducible repeat (first | apply Kd.S_alloc | apply Kd.S_drewN | apply Kd.S_drew)); exact HO351.out) hb); have n3_ := Aside0.mk (Kd.C_below (by repeat (first | (with_reducible exact HR346.out) | (with_reducible refine Kd.C_alloc ?_ _) | (with_reducible refine Kd.C_drewN ?_ _) | (with_reducible refine Kd.C_drew ?_) | exact HR346.out)) hb); have n4_ := Aside0.mk (below_step (by repeat (first | (with_reducible first | exact HB.out | apply below_alloc | apply pw_below_drewN | apply below_drew1) | exact HB.out)) hb); clear HO_5; clear HO_6; clear HO351; clear HR346; clear HB; have HO_5 := n0_; have HO_6 := n1_; have HO351 := n2_; have HR346 := n3_; have HB := n4_; clear n0_ n1_ n2_ n3_ n4_; (try clear hb); (try clear hb2); (try clear hk); (try clear hi)) | (go_at_call 17; (with_reducible refine (stemmalaw04_awake.calls k2  t354 _ ?side1 A70.out).mono ?_); (case side1 => first | exact HG.out | exact Gl.below HG.out (by repeat (first | (with_reducible first | exact HB.out | apply below_alloc | apply pw_below_drewN | apply below_drew1) | exact HB.out))); rintro e w76 ⟨rfl, hb⟩; have n0_ := Aside0.mk (Kd.R_below (by (with_reducible repeat (first | apply Kd.R_alloc | apply Kd.R_drewN | apply Kd.R_drew)); exact HO_5.out) hb); have n1_ := Aside0.mk (Kd.R_below (by (with_reducible repeat (first | apply Kd.R_alloc | apply Kd.R_drewN | apply Kd.R_drew)); exact HO_6.out) hb); have n2_ := Aside0.mk (Kd.S_below (by (with_reducible repeat (first | apply Kd.S_alloc | apply Kd.S_drewN | apply Kd.S_drew)); exact HO351.out) hb); have n3_ := Aside0.mk (Kd.C_below (by repeat (first | (with_reducible exact HR346.out) | (with_reducible refine Kd.C_alloc ?_ _) | (with_reducible refine Kd.C_drewN ?_ _) | (with_reducible refine Kd.C_drew ?_) | exact HR346.out)) hb); have n4_ := Aside0.mk (below_step (by repeat (first | (with_reducible first | exact HB.out | apply below_alloc | apply pw_below_drewN | apply below_drew1) | exact HB.out)) hb); clear HO_5; clear HO_6; clear HO351; clear HR346; clear HB; have HO_5 := n0_; have HO_6 := n1_; have HO351 := n2_; have HR346 := n3_; have HB := n4_; clear n0_ n1_ n2_ n3_ n4_; (try clear hb); (try clear hb2); (try clear hk); (try clear hi)))
                                  go_ret
                                  exact ⟨by first | rfl | (simp [errW_none, errW_some] <;> rfl) | (simp only [← hji52]; first | rfl | (simp [errW_none, errW_some] <;> rfl)) | (simp [*, errW_none, errW_some] <;> rfl), by repeat (first | (with_reducible first | exact HB.out | apply below_alloc | apply pw_below_drewN | apply below_drew1) | exact HB.out)⟩
                                · rw [if_neg c69] at H
                                  have c69b0 : (t349 == 3) = false := beq_eq_false_iff_ne.mpr c69
                                  have c69b1 : (t349 != 3) = true := bne_iff_ne.mpr c69
                                  exact absurd ((Option.some.inj H).trans hr_.out) (by decide)
                            · rw [if_neg c60] at H
                              have c60b0 : ((t349 == 0) == (x14_2 == (ji52))) = false := by simpa using c60
                              (try (have c60b1 : decide ((t349 == 0) = (x14_2 == (ji52))) = false := by simpa using c60))
                              (try (have c60b2 : ((t349 == 0) == (x14_2 == (ji52))) = false := by simpa using c60))
                              (try (have c60b3 : ¬ ((t349 == 0) = (x14_2 == (ji52))) := by simpa using c60))
                              clear c60
                              exact absurd ((Option.some.inj H).trans hr_.out) (by decide)
                          · rw [if_neg c59] at H
                            have c59b0 : (t348 == x14_2) = false := beq_eq_false_iff_ne.mpr c59
                            have c59b1 : (t348 != x14_2) = true := bne_iff_ne.mpr c59
                            exact absurd ((Option.some.inj H).trans hr_.out) (by decide)
                        · replace c58 := Bool.eq_false_iff.mpr c58
                          subst c58
                          have H1 : (some false) = some r := by rw [if_neg (show ¬ (false = true) by decide)] at H; exact H
                          clear H
                          have H := H1
                          clear H1
                          exact absurd ((Option.some.inj H).trans hr_.out) (by decide)
                      · rw [if_neg c56] at H
                        have c56b0 : ((t347.length : Int) == x13_2) = false := beq_eq_false_iff_ne.mpr c56
                        have c56b1 : ((t347.length : Int) != x13_2) = true := bne_iff_ne.mpr c56
                        exact absurd ((Option.some.inj H).trans hr_.out) (by decide)
                    · rw [if_neg c54] at H
                      exact absurd H (by simp)
                  · rw [if_neg c53] at H
                    exact absurd H (by simp)
  · replace c4 := Bool.eq_false_iff.mpr c4
    subst c4
    have H1 : (stemmalaw04_FrameBack.l0 k l0 0) = some r := by rw [if_neg (show ¬ (false = true) by decide)] at H; exact H
    clear H
    have H := H1
    clear H1
    have H' := Aside0.mk H
    clear H
    go_enter Tryd.func6, Tryd.ntmps6
    go_wp2_with (first | ((with_reducible refine gate_callee (f := 23) rfl ?_); refine goesL_ (some 20) rfl rfl Tryd.func23 (by kernel_rfl) rfl #[.slice A0 l0.length c0] rfl (by (try simp only [List.map_toArray, List.map_cons, List.map_nil]); first | done | rfl | (simp only [List.length_drop, List.length_take]; rfl)) ?_; (with_reducible refine (stemmalaw04_laid.calls k _ _ l0 t314 t315 false _ ?side1 ?side2 ?side3 A3.out).mono ?_); (case side1 => repeat (first | exact HR0.out | (with_reducible refine Kd.C_alloc ?_ _) | (with_reducible refine Kd.C_drewN ?_ _) | (with_reducible refine Kd.C_drew ?_))); (case side2 => exact HC0.out); (case side3 => first | exact HG.out | exact Gl.below HG.out (by repeat (first | (with_reducible first | exact HB.out | apply below_alloc | apply pw_below_drewN | apply below_drew1) | exact HB.out))); rintro e w77 ⟨v317, v319, rfl, ho0, ho1, hb⟩; refine ⟨_, rfl, ?_⟩; have n0_ := Aside0.mk (Kd.R_lower ho0 (below_size (by repeat (first | (with_reducible first | exact HB.out | apply below_alloc | apply pw_below_drewN | apply below_drew1) | exact HB.out)))); have n1_ := Aside0.mk (Kd.R_lower ho1 (below_size (by repeat (first | (with_reducible first | exact HB.out | apply below_alloc | apply pw_below_drewN | apply below_drew1) | exact HB.out)))); have n2_ := Aside0.mk (below_step (by repeat (first | (with_reducible first | exact HB.out | apply below_alloc | apply pw_below_drewN | apply below_drew1) | exact HB.out)) hb); clear HB; have HO318 := n0_; have HO320 := n1_; have HB := n2_; clear n0_ n1_ n2_; (try clear hb); (try clear hb2); (try clear hk); (try clear hi); (try clear ho0); (try clear ho1)))
    go_loopg [8] k (fun kq v8 w' => ∃ (x8_1 : Int), v8 = .int .i64 x8_1 ∧ Aside0 (stemmalaw04_FrameBack.l0 kq l0 x8_1 = some r) ∧ Aside0 (kq ≤ k) ∧ Aside0 (Below w.heap.size w w'))
    case atStart => exact ⟨(0), (by first | rfl | (simp; done) | (simp [*]; done)), H', ⟨Nat.le_refl _⟩, ⟨by repeat (first | (with_reducible first | exact HB.out | apply below_alloc | apply pw_below_drewN | apply below_drew1) | exact HB.out)⟩⟩
    case round =>
      clear H'
      try clear c1
      try clear c2
      try clear p2
      try clear c3
      try clear p3
      try clear q3
      try clear hx3
      try clear c4
      try clear q4
      try clear c5
      try clear c6
      try clear p6
      try clear q6
      try clear q7
      try clear c10
      try clear c10b0
      try clear c10b1
      try clear c10b2
      try clear c12
      try clear c13
      try clear c13b0
      try clear c13b1
      try clear c20
      try clear c21
      try clear c22
      try clear c22b0
      try clear c22b1
      try clear c23
      try clear c23b0
      try clear c24
      try clear c24b0
      try clear c25
      try clear c25b0
      try clear c28
      try clear c28b0
      try clear c28b1
      try clear c29
      try clear c29b0
      try clear c29b1
      try clear c31
      try clear c31b0
      try clear c31b1
      try clear p32
      try clear q32
      try clear hx32
      try clear c33
      try clear p33
      try clear q33
      try clear hx33
      try clear c34
      try clear c34b0
      try clear c34b1
      try clear c35
      try clear c35b0
      try clear c35b1
      try clear c35b2
      try clear c36
      try clear c36b0
      try clear c36b1
      try clear q39
      try clear c44
      try clear c44b0
      try clear c44b1
      try clear q47
      try clear c53
      try clear c53b0
      try clear c53b1
      try clear c54
      try clear c54b0
      try clear c54b1
      try clear c56
      try clear c56b0
      try clear c56b1
      try clear c58
      try clear c59
      try clear c59b0
      try clear c59b1
      try clear c60
      try clear c60b0
      try clear c60b1
      try clear c60b2
      try clear c61
      try clear c61b0
      try clear c61b1
      try clear p64
      try clear q64
      try clear c69
      try clear c69b0
      try clear c69b1
      try clear q72
      try clear hx329_0
      try clear hx330_0
      try clear p2
      try clear p329
      try clear p330
      try clear p6
      try clear q329
      try clear q330
      try clear q39
      try clear q47
      try clear q64
      try clear q72
      obtain ⟨x8_1, rfl, HA, HK1, HB⟩ := hrel
      cases gk with
      | zero => exact absurd HA.out (by simp [stemmalaw04_FrameBack.l0])
      | succ k1 =>
        have H := HA.out
        clear HA
        simp only [stemmalaw04_FrameBack.l0] at H
        by_cases c78 : x8_1 < (l0.length : Int)
        · rw [if_pos c78] at H
          have c78b0 : decide (x8_1 < (l0.length : Int)) = true := decide_eq_true c78
          clear c78
          by_cases c79 : 0 ≤ x8_1
          · rw [if_pos c79] at H
            have c79b0 : decide (0 ≤ x8_1) = true := decide_eq_true c79
            clear c79
            by_cases c80 : (((rd_T52 l0 x8_1).f1).length : Int) > 1048576
            · rw [if_pos c80] at H
              have c80b0 : decide (1048576 < (((rd_T52 l0 x8_1).f1).length : Int)) = true := decide_eq_true c80
              have c80b1 : decide (1048576 < ((rd_T52 l0 x8_1).f1).length) = true := decide_eq_true (by omega)
              clear c80
              replace H := Option.bind_eq_some_iff.mp H
              obtain ⟨t322, A810, H⟩ := H
              replace H : (some t322) = some r := H
              have A81 := Aside0.mk A810
              clear A810
              obtain rfl := Option.some.inj H
              have p321 : 0 ≤ (x8_1 : Int) := of_decide_eq_true (by first | (with_reducible assumption) | assumption)
              have q321 : x8_1 < (l0.length : Int) := of_decide_eq_true (by first | (with_reducible assumption) | assumption)
              obtain ⟨ad321, A321_1, c321_1, e321, hx321_0, hx321_1, hl321_1, hi321_1⟩ := at_T52 HR0.out x8_1 p321 q321
              cases e321
              replace hx321_0 := (HB.out.cell (World.block_lt_of_cell? w _ hx321_0)).trans hx321_0
              replace hx321_1 := (HB.out.cell (World.block_lt_of_cell? w _ hx321_1)).trans hx321_1
              have HR321_1 := Aside0.mk hi321_1
              have HC321_1 := Aside0.mk hl321_1
              clear hi321_1 hl321_1
              replace p321 := eq_true p321
              replace q321 := eq_true q321
              go_wp2_with (first | ((with_reducible refine gate_callee (f := 17) rfl ?_); refine goesL_ (some 39) rfl rfl Tryd.func17 (by kernel_rfl) rfl #[] rfl (by (try simp only [List.map_toArray, List.map_cons, List.map_nil]); first | done | rfl | (simp only [List.length_drop, List.length_take]; rfl)) ?_; (with_reducible refine (stemmalaw04_awake.calls k1  t322 _ ?side1 A81.out).mono ?_); (case side1 => first | exact HG.out | exact Gl.below HG.out (by repeat (first | (with_reducible first | exact HB.out | apply below_alloc | apply pw_below_drewN | apply below_drew1) | exact HB.out))); rintro e w82 ⟨rfl, hb⟩; refine ⟨_, rfl, ?_⟩; have n0_ := Aside0.mk (below_step (by repeat (first | (with_reducible first | exact HB.out | apply below_alloc | apply pw_below_drewN | apply below_drew1) | exact HB.out)) hb); clear HB; have HB := n0_; clear n0_; (try clear hb); (try clear hb2); (try clear hk); (try clear hi)))
              go_ret
              exact ⟨by first | rfl | (simp [errW_none, errW_some] <;> rfl) | (simp [*, errW_none, errW_some] <;> rfl), by repeat (first | (with_reducible first | exact HB.out | apply below_alloc | apply pw_below_drewN | apply below_drew1) | exact HB.out)⟩
            · rw [if_neg c80] at H
              have c80b0 : decide (1048576 < (((rd_T52 l0 x8_1).f1).length : Int)) = false := decide_eq_false c80
              have c80b1 : decide (1048576 < ((rd_T52 l0 x8_1).f1).length) = false := decide_eq_false (by omega)
              clear c80
              have H' := Aside0.mk H
              clear H
              have p321 : 0 ≤ (x8_1 : Int) := of_decide_eq_true (by first | (with_reducible assumption) | assumption)
              have q321 : x8_1 < (l0.length : Int) := of_decide_eq_true (by first | (with_reducible assumption) | assumption)
              obtain ⟨ad321, A321_1, c321_1, e321, hx321_0, hx321_1, hl321_1, hi321_1⟩ := at_T52 HR0.out x8_1 p321 q321
              cases e321
              replace hx321_0 := (HB.out.cell (World.block_lt_of_cell? w _ hx321_0)).trans hx321_0
              replace hx321_1 := (HB.out.cell (World.block_lt_of_cell? w _ hx321_1)).trans hx321_1
              have HR321_1 := Aside0.mk hi321_1
              have HC321_1 := Aside0.mk hl321_1
              clear hi321_1 hl321_1
              replace p321 := eq_true p321
              replace q321 := eq_true q321
              go_wp2
              go_roundg k1
              case measure => have := HK1.out; omega
              case rel => exact ⟨(wrap64 (x8_1 + 1)), (by first | rfl | (simp; done) | (simp [*]; done)), H', ⟨by have := HK1.out; omega⟩, ⟨by repeat (first | (with_reducible first | exact HB.out | apply below_alloc | apply pw_below_drewN | apply below_drew1) | exact HB.out)⟩⟩
          · rw [if_neg c79] at H
            exact absurd H (by simp)
        · rw [if_neg c78] at H
          have c78b0 : decide (x8_1 < (l0.length : Int)) = false := decide_eq_false c78
          clear c78
          exact absurd ((Option.some.inj H).trans hr_.out) (by decide)

end Go.Proofs.YtonpiacnljcohaaDoor.PA
