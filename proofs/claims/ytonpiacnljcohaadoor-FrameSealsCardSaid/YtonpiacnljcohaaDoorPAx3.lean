-- Written by a program of this session (wip/tools/myprint.py), out of the translation's print. Lean checks it.
import Derived.Test.YtonpiacnljcohaaDoorPAx0
import Derived.Test.YtonpiacnljcohaaDoorPAx13
import Derived.Test.YtonpiacnljcohaaDoorPAx14
import Derived.Test.YtonpiacnljcohaaDoorPAx16
import Derived.Test.YtonpiacnljcohaaDoorPAx17
import Derived.Test.YtonpiacnljcohaaDoorFrC
namespace Go.Proofs.YtonpiacnljcohaaDoor.PA
open Go.RowKit Go.Proofs.YtonpiacnljcohaaDoorW.PrintWords Go.Proofs.YtonpiacnljcohaaDoorW.PrintLast Go.Proofs.YtonpiacnljcohaaDoorW.PrintMore
attribute [local go_sem] max2_int min2_int max_two min_two max_three min_three max_four min_four   -- for this text's walks alone
set_option linter.unusedVariables false
set_option linter.unusedSimpArgs false

/-! ### stemmalaw04_FrameSeals: function 3 -/
def stemmalaw04_FrameSeals.f (k : Nat) (a0 : Int) (l1 : List Int) : Option (Bool) := (some (([] : List Int) : List Int)).bind fun y187 => (if y187.length + l1.length < 140737488355328 then ((some (y187 ++ l1 : List Int)).bind fun y190 => ((frame_Seal.f k a0 y190).bind fun bt193 => ((stemmaref04_Seal.f k a0 l1).bind fun bt197 => (if (strOfNums bt193.1).toList = (strOfNums bt197.1).toList then (if bt193.2 = bt197.2 then ((frame_Crc.f y190).bind fun t201 => ((stemmaref04_Crc.f k l1).bind fun t202 => (if t201 = t202 then (if (strOfNums y190).toList = (strOfNums l1).toList then ((stemmalaw04_awake.f k).bind fun t203 => (some t203)) else (some false)) else (some false)))) else (some false)) else (some false))))) else (none))
theorem stemmalaw04_FrameSeals.mono : ∀ a0 a1 k, LeO (stemmalaw04_FrameSeals.f k a0 a1) (stemmalaw04_FrameSeals.f (k + 1) a0 a1) := by
  intro a0 a1 k
  unfold stemmalaw04_FrameSeals.f
  repeat' first
      | (with_reducible exact frame_Seal.mono _ _ _)
      | (with_reducible exact stemmalaw04_awake.mono _)
      | (with_reducible exact stemmaref04_Crc.mono _ _)
      | (with_reducible exact stemmaref04_Seal.mono _ _ _)
      | (with_reducible exact LeO.refl _)
      | (with_reducible exact LeO.none _)
      | (with_reducible refine LeO.ite ?_ ?_)
      | (with_reducible refine LeO.bind ?_ (fun _ => ?_))
      | exact frame_Seal.mono _ _ _
      | exact stemmalaw04_awake.mono _
      | exact stemmaref04_Crc.mono _ _
      | exact stemmaref04_Seal.mono _ _ _
      | exact LeO.none _
      | refine LeO.ite ?_ ?_
      | refine LeO.bind ?_ (fun _ => ?_)
set_option maxHeartbeats 8000000 in
set_option maxRecDepth 100000 in
theorem stemmalaw04_FrameSeals.calls (k : Nat) (a0 : Int) (A1 : Option Addr) (c1 : Nat) (l1 : List Int) (r : Bool) (w : World) (hr1 : Kd.C (Kd.int .u8) w A1 l1.length l1) (hc1 : l1.length ≤ c1) (hr_ : Aside0 (r = true)) (hG_ : Gl w) (h : stemmalaw04_FrameSeals.f k a0 l1 = some r) :
    Calls Tryd.prog 3 #[.int .u8 a0, .slice A1 l1.length c1] w fun e w' => e = .returned (.bool r) ∧ Below w.heap.size w w' := by
  have HG := Aside0.mk hG_
  clear hG_
  have HR1 := Aside0.mk hr1
  have HC1 := Aside0.mk hc1
  clear hr1 hc1
  have HB := Aside0.mk (Below.refl w.heap.size w)
  have H : ((some (([] : List Int) : List Int)).bind fun y187 => (if y187.length + l1.length < 140737488355328 then ((some (y187 ++ l1 : List Int)).bind fun y190 => ((frame_Seal.f k a0 y190).bind fun bt193 => ((stemmaref04_Seal.f k a0 l1).bind fun bt197 => (if (strOfNums bt193.1).toList = (strOfNums bt197.1).toList then (if bt193.2 = bt197.2 then ((frame_Crc.f y190).bind fun t201 => ((stemmaref04_Crc.f k l1).bind fun t202 => (if t201 = t202 then (if (strOfNums y190).toList = (strOfNums l1).toList then ((stemmalaw04_awake.f k).bind fun t203 => (some t203)) else (some false)) else (some false)))) else (some false)) else (some false))))) else (none))) = some r := h
  clear h
  obtain ⟨y187, hy187⟩ : ∃ y_ : List Int, y_ = (([] : List Int)) := ⟨_, rfl⟩
  replace H : (if y187.length + l1.length < 140737488355328 then ((some (y187 ++ l1 : List Int)).bind fun y190 => ((frame_Seal.f k a0 y190).bind fun bt193 => ((stemmaref04_Seal.f k a0 l1).bind fun bt197 => (if (strOfNums bt193.1).toList = (strOfNums bt197.1).toList then (if bt193.2 = bt197.2 then ((frame_Crc.f y190).bind fun t201 => ((stemmaref04_Crc.f k l1).bind fun t202 => (if t201 = t202 then (if (strOfNums y190).toList = (strOfNums l1).toList then ((stemmalaw04_awake.f k).bind fun t203 => (some t203)) else (some false)) else (some false)))) else (some false)) else (some false))))) else (none)) = some r := by first | (rw [hy187]; with_reducible exact H) | (have H2_ := (Option.bind_some _ _).symm.trans H; rw [hy187]; with_reducible exact H2_) | (have H2_ := (Option.bind_some _ _).symm.trans H; with_reducible exact H2_) | with_reducible exact H | (rw [hy187]; exact H) | exact H
  have Ny187 := Aside0.mk hy187
  clear hy187
  by_cases c3 : y187.length + l1.length < 140737488355328
  · rw [if_pos c3] at H
    have LMc3 := Aside0.mk c3
    clear c3
    obtain ⟨y190, hy190⟩ : ∃ y_ : List Int, y_ = (y187 ++ l1) := ⟨_, rfl⟩
    replace H : ((frame_Seal.f k a0 y190).bind fun bt193 => ((stemmaref04_Seal.f k a0 l1).bind fun bt197 => (if (strOfNums bt193.1).toList = (strOfNums bt197.1).toList then (if bt193.2 = bt197.2 then ((frame_Crc.f y190).bind fun t201 => ((stemmaref04_Crc.f k l1).bind fun t202 => (if t201 = t202 then (if (strOfNums y190).toList = (strOfNums l1).toList then ((stemmalaw04_awake.f k).bind fun t203 => (some t203)) else (some false)) else (some false)))) else (some false)) else (some false)))) = some r := by first | (rw [hy190]; with_reducible exact H) | (have H2_ := (Option.bind_some _ _).symm.trans H; rw [hy190]; with_reducible exact H2_) | (have H2_ := (Option.bind_some _ _).symm.trans H; with_reducible exact H2_) | with_reducible exact H | (rw [hy190]; exact H) | exact H
    have Ny190 := Aside0.mk hy190
    clear hy190
    replace H := Option.bind_eq_some_iff.mp H
    obtain ⟨⟨t193, t196⟩, A40, H⟩ := H
    replace H : ((stemmaref04_Seal.f k a0 l1).bind fun bt197 => (if (strOfNums t193).toList = (strOfNums bt197.1).toList then (if t196 = bt197.2 then ((frame_Crc.f y190).bind fun t201 => ((stemmaref04_Crc.f k l1).bind fun t202 => (if t201 = t202 then (if (strOfNums y190).toList = (strOfNums l1).toList then ((stemmalaw04_awake.f k).bind fun t203 => (some t203)) else (some false)) else (some false)))) else (some false)) else (some false))) = some r := H
    have A4 := Aside0.mk A40
    clear A40
    replace H := Option.bind_eq_some_iff.mp H
    obtain ⟨⟨t197, t198⟩, A50, H⟩ := H
    replace H : (if (strOfNums t193).toList = (strOfNums t197).toList then (if t196 = t198 then ((frame_Crc.f y190).bind fun t201 => ((stemmaref04_Crc.f k l1).bind fun t202 => (if t201 = t202 then (if (strOfNums y190).toList = (strOfNums l1).toList then ((stemmalaw04_awake.f k).bind fun t203 => (some t203)) else (some false)) else (some false)))) else (some false)) else (some false)) = some r := H
    have A5 := Aside0.mk A50
    clear A50
    by_cases c6 : (strOfNums t193).toList = (strOfNums t197).toList
    · rw [if_pos c6] at H
      have c6b0 : ((strOfNums t193).toList == (strOfNums t197).toList) = true := beq_iff_eq.mpr c6
      have c6b1 : ((strOfNums t193).toList != (strOfNums t197).toList) = false := bne_eq_false_iff_eq.mpr c6
      clear c6
      by_cases c7 : t196 = t198
      · rw [if_pos c7] at H
        have c7b0 : (t196 == t198) = true := beq_iff_eq.mpr c7
        have c7b1 : (t196 != t198) = false := bne_eq_false_iff_eq.mpr c7
        clear c7
        replace H := Option.bind_eq_some_iff.mp H
        obtain ⟨t201, A80, H⟩ := H
        replace H : ((stemmaref04_Crc.f k l1).bind fun t202 => (if t201 = t202 then (if (strOfNums y190).toList = (strOfNums l1).toList then ((stemmalaw04_awake.f k).bind fun t203 => (some t203)) else (some false)) else (some false))) = some r := H
        have A8 := Aside0.mk A80
        clear A80
        replace H := Option.bind_eq_some_iff.mp H
        obtain ⟨t202, A90, H⟩ := H
        replace H : (if t201 = t202 then (if (strOfNums y190).toList = (strOfNums l1).toList then ((stemmalaw04_awake.f k).bind fun t203 => (some t203)) else (some false)) else (some false)) = some r := H
        have A9 := Aside0.mk A90
        clear A90
        by_cases c10 : t201 = t202
        · rw [if_pos c10] at H
          have c10b0 : (t201 == t202) = true := beq_iff_eq.mpr c10
          have c10b1 : (t201 != t202) = false := bne_eq_false_iff_eq.mpr c10
          clear c10
          by_cases c11 : (strOfNums y190).toList = (strOfNums l1).toList
          · rw [if_pos c11] at H
            have c11b0 : ((strOfNums y190).toList == (strOfNums l1).toList) = true := beq_iff_eq.mpr c11
            have c11b1 : ((strOfNums y190).toList != (strOfNums l1).toList) = false := bne_eq_false_iff_eq.mpr c11
            clear c11
            replace H := Option.bind_eq_some_iff.mp H
            obtain ⟨t203, A120, H⟩ := H
            replace H : (some t203) = some r := H
            have A12 := Aside0.mk A120
            clear A120
            obtain rfl := Option.some.inj H
            go_enter Tryd.func3, Tryd.ntmps3
            go_wp2_with (first | ((with_reducible refine gate_dst (N := 10) rfl ?_); refine Kd.R_lit (Kd.int .u8) _ 5 ?hg (N := 10) ?hd (xs := ([] : List Int)) (inner := []) (ok := fun _ => True) (okp := fun _ => True) ?hr ?hp (fun _ hk => hk) trivial (Below.refl _ _) (Nat.le_refl _) (by simp) ?_; (case hd => rfl); (case hg => rfl); (case hr => first | (go_simp; done) | (go_simp; rfl)); (case hp => exact (Reps.none _ _)); intro v188 w13 ho14 hb hg_ hnew_; clear hg_ hnew_; (first | rw [← Ny187.out] at ho14 | (simp only [Int.reduceToNat] at ho14; rw [← Ny187.out] at ho14)); have n0_ := Aside0.mk (Kd.R_lower ho14 (below_size (by repeat (first | (with_reducible first | exact HB.out | apply below_alloc | apply pw_below_drewN | apply below_drew1) | exact HB.out)))); have n1_ := Aside0.mk (below_step (by repeat (first | (with_reducible first | exact HB.out | apply below_alloc | apply pw_below_drewN | apply below_drew1) | exact HB.out)) hb); clear HB; have HO189 := n0_; have HB := n1_; clear n0_ n1_; clear hb ho14) | ((with_reducible refine gate_builtin (b := .append) (xs := #[.tmp 10, .tmp 11]) rfl ?_); at_builtin; refine Kd.R_append_rows (Kd.int .u8) (w0 := w) w.heap.size rfl (.tmp 10) (.tmp 11) 22 5 (.int .u8 0) 1 rfl Tryd.underlying22 info5 rfl (by decide) (by omega) v188 y187 l1 _ _ _ (fun _ => True) (fun _ => False) rfl rfl ?aO ?aR (fun _ _ h => h) (fun _ h => h.elim) ?aF ?aB ?aS ?aL ?_; (case aR => repeat (first | exact (Kd.C_below HR1.out HB.out) | (with_reducible refine Kd.C_alloc ?_ _) | (with_reducible refine Kd.C_drewN ?_ _) | (with_reducible refine Kd.C_drew ?_))); (case aB => exact (by repeat (first | (with_reducible first | exact HB.out | apply below_alloc | apply pw_below_drewN | apply below_drew1) | exact HB.out))); (case aF => exact (fun _ _ => trivial)); (case aO => exact (by (with_reducible repeat (first | apply Kd.R_alloc | apply Kd.R_drewN | apply Kd.R_drew)); exact HO189.out)); (case aS => exact (below_size (by repeat (first | (with_reducible first | exact HB.out | apply below_alloc | apply pw_below_drewN | apply below_drew1) | exact HB.out)))); (case aL => have := LMc3.out; omega); intro v191 w15 ho hb hg hat; rw [← Ny190.out] at ho; have n0_ := Aside0.mk (hb); have n1_ := Aside0.mk (ho); clear HB; clear HO189; have HB := n0_; have HO192 := n1_; clear n0_ n1_; clear ho hb hg hat; obtain ⟨Ao16, co16, eo16⟩ := Kd.R_slice HO192.out; subst eo16) | ((with_reducible refine gate_callee (f := 13) rfl ?_); refine goesL_ (some 16) rfl rfl Tryd.func13 (by kernel_rfl) rfl #[.int .u8 a0, .slice Ao16 y190.length co16] rfl (by (try simp only [List.map_toArray, List.map_cons, List.map_nil]); first | done | rfl | (simp only [List.length_drop, List.length_take]; rfl)) ?_; (with_reducible refine (frame_Seal.calls k a0 (fun k_ => some k_ = (.slice Ao16 y190.length co16 : Value).ownBlock) _ _ y190 t193 t196 _ ?side1 ?side2 A4.out).mono ?_); (case side1 => exact Kd.R_V (Kd.R_tight rfl (HO192.out))); (case side2 => first | exact HG.out | exact Gl.below HG.out (by repeat (first | (with_reducible first | exact HB.out | apply below_alloc | apply pw_below_drewN | apply below_drew1) | exact HB.out))); rintro e w17 ⟨v194, rfl, ho0, hb⟩; refine ⟨_, rfl, ?_⟩; have n0_ := Aside0.mk (Kd.R_elder' (by (with_reducible repeat (first | apply Kd.R_alloc | apply Kd.R_drewN | apply Kd.R_drew)); exact HO192.out) (Kd.R_base ho0) hb); have n1_ := Aside0.mk (Kd.R_lower (Kd.R_new' (Kd.R_mono (ok' := fun k_ => True) ho0 (fun _ hk_ => trivial)) (Kd.R_lt (by (with_reducible repeat (first | apply Kd.R_alloc | apply Kd.R_drewN | apply Kd.R_drew)); exact HO192.out))) (below_size (by repeat (first | (with_reducible first | exact HB.out | apply below_alloc | apply pw_below_drewN | apply below_drew1) | exact HB.out)))); have n2_ := Aside0.mk (below_step (by repeat (first | (with_reducible first | exact HB.out | apply below_alloc | apply pw_below_drewN | apply below_drew1) | exact HB.out)) hb); clear HO192; clear HB; have HO192 := n0_; have HO195 := n1_; have HB := n2_; clear n0_ n1_ n2_; (try clear hb); (try clear hb2); (try clear hk); (try clear hi); (try clear ho0)) | ((with_reducible refine gate_callee (f := 14) rfl ?_); refine goesL_ (some 22) rfl rfl Tryd.func14 (by kernel_rfl) rfl #[.int .u8 a0, .slice A1 l1.length c1] rfl (by (try simp only [List.map_toArray, List.map_cons, List.map_nil]); first | done | rfl | (simp only [List.length_drop, List.length_take]; rfl)) ?_; (with_reducible refine (stemmaref04_Seal.calls k a0 _ _ l1 t197 t198 _ ?side1 ?side2 A5.out).mono ?_); (case side1 => repeat (first | exact (Kd.C_below HR1.out HB.out) | (with_reducible refine Kd.C_alloc ?_ _) | (with_reducible refine Kd.C_drewN ?_ _) | (with_reducible refine Kd.C_drew ?_))); (case side2 => exact HC1.out); rintro e w18 ⟨v199, rfl, ho0, hb⟩; refine ⟨_, rfl, ?_⟩; have n0_ := Aside0.mk (Kd.R_elder' (by (with_reducible repeat (first | apply Kd.R_alloc | apply Kd.R_drewN | apply Kd.R_drew)); exact HO192.out) (Kd.R_base ho0) hb); have n1_ := Aside0.mk (Kd.R_elder' (by (with_reducible repeat (first | apply Kd.R_alloc | apply Kd.R_drewN | apply Kd.R_drew)); exact HO195.out) (Kd.R_base ho0) hb); have n2_ := Aside0.mk (Kd.R_lower (Kd.R_new' (Kd.R_new' ho0 (Kd.R_lt (by (with_reducible repeat (first | apply Kd.R_alloc | apply Kd.R_drewN | apply Kd.R_drew)); exact HO192.out))) (Kd.R_lt (by (with_reducible repeat (first | apply Kd.R_alloc | apply Kd.R_drewN | apply Kd.R_drew)); exact HO195.out))) (below_size (by repeat (first | (with_reducible first | exact HB.out | apply below_alloc | apply pw_below_drewN | apply below_drew1) | exact HB.out)))); have n3_ := Aside0.mk (below_step (by repeat (first | (with_reducible first | exact HB.out | apply below_alloc | apply pw_below_drewN | apply below_drew1) | exact HB.out)) hb); clear HO192; clear HO195; clear HB; have HO192 := n0_; have HO195 := n1_; have HO200 := n2_; have HB := n3_; clear n0_ n1_ n2_ n3_; (try clear hb); (try clear hb2); (try clear hk); (try clear hi); (try clear ho0); have hcv19 := own_string (P := Tryd.prog) Tryd.underlying22 Tryd.underlying5 Tryd.underlying9 (Kd.own_of_R HO195.out); have hcd19 := fun m_ : Nat => own_string (P := Tryd.prog) Tryd.underlying22 Tryd.underlying5 Tryd.underlying9 (Kd.own_of_R (Kd.R_drewN HO195.out m_)); have hcv20 := own_string (P := Tryd.prog) Tryd.underlying22 Tryd.underlying5 Tryd.underlying9 (Kd.own_of_R HO200.out); have hcd20 := fun m_ : Nat => own_string (P := Tryd.prog) Tryd.underlying22 Tryd.underlying5 Tryd.underlying9 (Kd.own_of_R (Kd.R_drewN HO200.out m_))) | (go_at_call 15; (with_reducible refine (frame_Crc.calls _ _ y190 t201 _ ?side1 ?side2 ?side3 A8.out).mono ?_); (case side1 => repeat (first | exact (Kd.R_reads' HO192.out).2.2 | (with_reducible refine Kd.C_alloc ?_ _) | (with_reducible refine Kd.C_drewN ?_ _) | (with_reducible refine Kd.C_drew ?_))); (case side2 => exact (Kd.R_reads' HO192.out).2.1); (case side3 => first | exact HG.out | exact Gl.below HG.out (by repeat (first | (with_reducible first | exact HB.out | apply below_alloc | apply pw_below_drewN | apply below_drew1) | exact HB.out))); rintro e w' ⟨rfl, ⟨nd, rfl⟩⟩) | (go_at_call 16; (with_reducible refine (stemmaref04_Crc.calls k _ _ l1 t202 _ ?side1 ?side2 A9.out).mono ?_); (case side1 => repeat (first | exact (Kd.C_below HR1.out (by repeat (first | (with_reducible first | exact HB.out | apply below_alloc | apply pw_below_drewN | apply below_drew1) | exact HB.out))) | (with_reducible refine Kd.C_alloc ?_ _) | (with_reducible refine Kd.C_drewN ?_ _) | (with_reducible refine Kd.C_drew ?_))); (case side2 => exact HC1.out); rintro e w' ⟨rfl, ⟨nd, rfl⟩⟩; have hcv21 := own_string (P := Tryd.prog) Tryd.underlying22 Tryd.underlying5 Tryd.underlying9 (Kd.own_of_R HO192.out); have hcd21 := fun m_ : Nat => own_string (P := Tryd.prog) Tryd.underlying22 Tryd.underlying5 Tryd.underlying9 (Kd.own_of_R (Kd.R_drewN HO192.out m_)); have hcv22 := Kd.C_string (P := Tryd.prog) (A := A1) (c := c1) Tryd.underlying22 Tryd.underlying5 Tryd.underlying9 (Kd.C_below HR1.out HB.out); have hcd22 := fun m_ : Nat => Kd.C_string (P := Tryd.prog) (A := A1) (c := c1) Tryd.underlying22 Tryd.underlying5 Tryd.underlying9 (Kd.C_drewN (Kd.C_below HR1.out HB.out) m_)) | (go_at_call 17; (with_reducible refine (stemmalaw04_awake.calls k  t203 _ ?side1 A12.out).mono ?_); (case side1 => first | exact HG.out | exact Gl.below HG.out (by repeat (first | (with_reducible first | exact HB.out | apply below_alloc | apply pw_below_drewN | apply below_drew1) | exact HB.out))); rintro e w23 ⟨rfl, hb⟩; have n0_ := Aside0.mk (Kd.R_below (by (with_reducible repeat (first | apply Kd.R_alloc | apply Kd.R_drewN | apply Kd.R_drew)); exact HO192.out) hb); have n1_ := Aside0.mk (Kd.R_below (by (with_reducible repeat (first | apply Kd.R_alloc | apply Kd.R_drewN | apply Kd.R_drew)); exact HO195.out) hb); have n2_ := Aside0.mk (Kd.R_below (by (with_reducible repeat (first | apply Kd.R_alloc | apply Kd.R_drewN | apply Kd.R_drew)); exact HO200.out) hb); have n3_ := Aside0.mk (below_step (by repeat (first | (with_reducible first | exact HB.out | apply below_alloc | apply pw_below_drewN | apply below_drew1) | exact HB.out)) hb); clear HO192; clear HO195; clear HO200; clear HB; have HO192 := n0_; have HO195 := n1_; have HO200 := n2_; have HB := n3_; clear n0_ n1_ n2_ n3_; (try clear hb); (try clear hb2); (try clear hk); (try clear hi)))
            go_ret
            exact ⟨by first | rfl | (simp [errW_none, errW_some] <;> rfl) | (simp [*, errW_none, errW_some] <;> rfl), by repeat (first | (with_reducible first | exact HB.out | apply below_alloc | apply pw_below_drewN | apply below_drew1) | exact HB.out)⟩
          · rw [if_neg c11] at H
            have c11b0 : ((strOfNums y190).toList == (strOfNums l1).toList) = false := beq_eq_false_iff_ne.mpr c11
            have c11b1 : ((strOfNums y190).toList != (strOfNums l1).toList) = true := bne_iff_ne.mpr c11
            exact absurd ((Option.some.inj H).trans hr_.out) (by decide)
        · rw [if_neg c10] at H
          have c10b0 : (t201 == t202) = false := beq_eq_false_iff_ne.mpr c10
          have c10b1 : (t201 != t202) = true := bne_iff_ne.mpr c10
          exact absurd ((Option.some.inj H).trans hr_.out) (by decide)
      · rw [if_neg c7] at H
        have c7b0 : (t196 == t198) = false := beq_eq_false_iff_ne.mpr c7
        have c7b1 : (t196 != t198) = true := bne_iff_ne.mpr c7
        exact absurd ((Option.some.inj H).trans hr_.out) (by decide)
    · rw [if_neg c6] at H
      have c6b0 : ((strOfNums t193).toList == (strOfNums t197).toList) = false := beq_eq_false_iff_ne.mpr c6
      have c6b1 : ((strOfNums t193).toList != (strOfNums t197).toList) = true := bne_iff_ne.mpr c6
      exact absurd ((Option.some.inj H).trans hr_.out) (by decide)
  · rw [if_neg c3] at H
    exact absurd H (by simp)

end Go.Proofs.YtonpiacnljcohaaDoor.PA
