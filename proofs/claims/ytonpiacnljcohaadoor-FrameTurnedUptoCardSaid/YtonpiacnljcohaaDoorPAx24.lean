-- Written by a program of this session (wip/tools/myprint.py), out of the translation's print. Lean checks it.
import Derived.Test.YtonpiacnljcohaaDoorPAx0
namespace Go.Proofs.YtonpiacnljcohaaDoor.PA
open Go.RowKit Go.Proofs.YtonpiacnljcohaaDoorW.PrintWords Go.Proofs.YtonpiacnljcohaaDoorW.PrintLast Go.Proofs.YtonpiacnljcohaaDoorW.PrintMore
attribute [local go_sem] max2_int min2_int max_two min_two max_three min_three max_four min_four   -- for this text's walks alone
set_option linter.unusedVariables false
set_option linter.unusedSimpArgs false

/-! ### stemmalaw04_whole: function 24 -/
def stemmalaw04_whole.l0 : Nat → List (S33) → List (S52) → Int → Option (Bool)
  | 0, _, _, _ => none
  | k + 1, x0, x1, x5 => if x5 < (x0.length : Int) then (if 0 ≤ x5 then (if x5 < (x1.length : Int) then (if ((rd_T33 x0 x5).f0) = (mx ((rd_T52 x1 x5).f0) 1) then (if (strOfNums ((rd_T33 x0 x5).f1)).toList = (strOfNums ((rd_T52 x1 x5).f1)).toList then (stemmalaw04_whole.l0 k x0 x1 (wrap64 (x5 + 1))) else (some false)) else (some false)) else (none)) else (none)) else (some true)
def stemmalaw04_whole.f (k : Nat) (l0 : List (S33)) (l1 : List (S52)) : Option (Bool) := if (l0.length : Int) > (l1.length : Int) then (some false) else (stemmalaw04_whole.l0 k l0 l1 0)
theorem stemmalaw04_whole.mono_l : ∀ k, (∀ y0 y1 y2, LeO (stemmalaw04_whole.l0 k y0 y1 y2) (stemmalaw04_whole.l0 (k + 1) y0 y1 y2))
  | 0 => fun _ _ _ r h => by simp [stemmalaw04_whole.l0] at h
  | k + 1 => by
    have ih0 := stemmalaw04_whole.mono_l k
    · intro y0 y1 y2
      unfold stemmalaw04_whole.l0
      repeat' first
      | (with_reducible exact ih0 _ _ _)
      | (with_reducible exact LeO.refl _)
      | (with_reducible exact LeO.none _)
      | (with_reducible refine LeO.ite ?_ ?_)
      | (with_reducible refine LeO.bind ?_ (fun _ => ?_))
      | exact ih0 _ _ _
      | exact LeO.none _
      | refine LeO.ite ?_ ?_
      | refine LeO.bind ?_ (fun _ => ?_)
theorem stemmalaw04_whole.mono : ∀ a0 a1 k, LeO (stemmalaw04_whole.f k a0 a1) (stemmalaw04_whole.f (k + 1) a0 a1) := by
  intro a0 a1 k
  have ih0 := stemmalaw04_whole.mono_l k
  unfold stemmalaw04_whole.f
  repeat' first
      | (with_reducible exact ih0 _ _ _)
      | (with_reducible exact LeO.refl _)
      | (with_reducible exact LeO.none _)
      | (with_reducible refine LeO.ite ?_ ?_)
      | (with_reducible refine LeO.bind ?_ (fun _ => ?_))
      | exact ih0 _ _ _
      | exact LeO.none _
      | refine LeO.ite ?_ ?_
      | refine LeO.bind ?_ (fun _ => ?_)
set_option maxHeartbeats 8000000 in
set_option maxRecDepth 100000 in
theorem stemmalaw04_whole.calls (k : Nat) (A0 : Option Addr) (c0 : Nat) (l0 : List (S33)) (A1 : Option Addr) (c1 : Nat) (l1 : List (S52)) (r : Bool) (w : World) (hr0 : Kd.C k33 w A0 l0.length l0) (hc0 : l0.length ≤ c0) (hr1 : Kd.C k52 w A1 l1.length l1) (hc1 : l1.length ≤ c1) (h : stemmalaw04_whole.f k l0 l1 = some r) :
    Calls Tryd.prog 24 #[.slice A0 l0.length c0, .slice A1 l1.length c1] w fun e w' => e = .returned (.bool r) ∧ Below w.heap.size w w' := by
  have HR0 := Aside0.mk hr0
  have HC0 := Aside0.mk hc0
  clear hr0 hc0
  have HR1 := Aside0.mk hr1
  have HC1 := Aside0.mk hc1
  clear hr1 hc1
  have HB := Aside0.mk (Below.refl w.heap.size w)
  have H : (if (l0.length : Int) > (l1.length : Int) then (some false) else (stemmalaw04_whole.l0 k l0 l1 0)) = some r := h
  clear h
  by_cases c3 : (l0.length : Int) > (l1.length : Int)
  · rw [if_pos c3] at H
    have c3b0 : decide ((l1.length : Int) < (l0.length : Int)) = true := decide_eq_true c3
    have c3b1 : decide (l1.length < l0.length) = true := decide_eq_true (Int.ofNat_lt.mp c3)
    clear c3
    obtain rfl := Option.some.inj H
    go_enter Tryd.func24, Tryd.ntmps24
    go_wp2
    repeat (go_quiet (fail); try go_wp2)
    go_ret
    exact ⟨by first | rfl | (simp [errW_none, errW_some] <;> rfl) | (simp [*, errW_none, errW_some] <;> rfl), by repeat (first | (with_reducible first | exact HB.out | apply below_alloc | apply pw_below_drewN | apply below_drew1) | exact HB.out)⟩
  · rw [if_neg c3] at H
    have c3b0 : decide ((l1.length : Int) < (l0.length : Int)) = false := decide_eq_false c3
    have c3b1 : decide (l1.length < l0.length) = false := decide_eq_false (fun h => c3 (Int.ofNat_lt.mpr h))
    clear c3
    have H' := Aside0.mk H
    clear H
    go_enter Tryd.func24, Tryd.ntmps24
    go_wp2
    repeat (go_quiet (fail); try go_wp2)
    go_loopg [5] k (fun kq v5 w' => ∃ (x5_1 : Int), v5 = .int .i64 x5_1 ∧ Aside0 (stemmalaw04_whole.l0 kq l0 l1 x5_1 = some r) ∧ Aside0 (kq ≤ k) ∧ Aside0 (Below w.heap.size w w'))
    case atStart => exact ⟨(0), (by first | rfl | (simp; done) | (simp [*]; done)), H', ⟨Nat.le_refl _⟩, ⟨by repeat (first | (with_reducible first | exact HB.out | apply below_alloc | apply pw_below_drewN | apply below_drew1) | exact HB.out)⟩⟩
    case round =>
      clear H'
      try clear c1
      try clear c2
      try clear p2
      try clear c3
      try clear c3b0
      try clear c3b1
      obtain ⟨x5_1, rfl, HA, HK1, HB⟩ := hrel
      cases gk with
      | zero => exact absurd HA.out (by simp [stemmalaw04_whole.l0])
      | succ k1 =>
        have H := HA.out
        clear HA
        simp only [stemmalaw04_whole.l0] at H
        by_cases c4 : x5_1 < (l0.length : Int)
        · rw [if_pos c4] at H
          have c4b0 : decide (x5_1 < (l0.length : Int)) = true := decide_eq_true c4
          clear c4
          by_cases c5 : 0 ≤ x5_1
          · rw [if_pos c5] at H
            have c5b0 : decide (0 ≤ x5_1) = true := decide_eq_true c5
            clear c5
            by_cases c6 : x5_1 < (l1.length : Int)
            · rw [if_pos c6] at H
              have c6b0 : decide (x5_1 < (l1.length : Int)) = true := decide_eq_true c6
              clear c6
              obtain ⟨ji7, hji7⟩ : ∃ j_ : Int, (mx ((rd_T52 l1 x5_1).f0) 1) = j_ := ⟨_, rfl⟩
              replace H : (if ((rd_T33 l0 x5_1).f0) = (ji7) then (if (strOfNums ((rd_T33 l0 x5_1).f1)).toList = (strOfNums ((rd_T52 l1 x5_1).f1)).toList then (stemmalaw04_whole.l0 k1 l0 l1 (wrap64 (x5_1 + 1))) else (some false)) else (some false)) = some r := by first | (rw [hji7] at H; exact H) | (simp only [hji7] at H ⊢; exact H)
              have hji7_ : (if ((rd_T52 l1 x5_1).f0) < 1 then 1 else ((rd_T52 l1 x5_1).f0)) = ji7 := hji7
              by_cases c8 : ((rd_T33 l0 x5_1).f0) = (ji7)
              · rw [if_pos c8] at H
                have c8b0 : (((rd_T33 l0 x5_1).f0) == (ji7)) = true := beq_iff_eq.mpr c8
                have c8b1 : (((rd_T33 l0 x5_1).f0) != (ji7)) = false := bne_eq_false_iff_eq.mpr c8
                clear c8
                by_cases c9 : (strOfNums ((rd_T33 l0 x5_1).f1)).toList = (strOfNums ((rd_T52 l1 x5_1).f1)).toList
                · rw [if_pos c9] at H
                  have c9b0 : ((strOfNums ((rd_T33 l0 x5_1).f1)).toList == (strOfNums ((rd_T52 l1 x5_1).f1)).toList) = true := beq_iff_eq.mpr c9
                  have c9b1 : ((strOfNums ((rd_T33 l0 x5_1).f1)).toList != (strOfNums ((rd_T52 l1 x5_1).f1)).toList) = false := bne_eq_false_iff_eq.mpr c9
                  clear c9
                  have H' := Aside0.mk H
                  clear H
                  have p310 : 0 ≤ (x5_1 : Int) := of_decide_eq_true (by first | (with_reducible assumption) | assumption)
                  have q310 : x5_1 < (l0.length : Int) := of_decide_eq_true (by first | (with_reducible assumption) | assumption)
                  obtain ⟨ad310, A310_1, c310_1, e310, hx310_0, hx310_1, hl310_1, hi310_1⟩ := at_T33 HR0.out x5_1 p310 q310
                  cases e310
                  replace hx310_0 := (HB.out.cell (World.block_lt_of_cell? w _ hx310_0)).trans hx310_0
                  replace hx310_1 := (HB.out.cell (World.block_lt_of_cell? w _ hx310_1)).trans hx310_1
                  have HR310_1 := Aside0.mk hi310_1
                  have HC310_1 := Aside0.mk hl310_1
                  clear hi310_1 hl310_1
                  replace p310 := eq_true p310
                  replace q310 := eq_true q310
                  have p311 : 0 ≤ (x5_1 : Int) := of_decide_eq_true (by first | (with_reducible assumption) | assumption)
                  have q311 : x5_1 < (l1.length : Int) := of_decide_eq_true (by first | (with_reducible assumption) | assumption)
                  obtain ⟨ad311, A311_1, c311_1, e311, hx311_0, hx311_1, hl311_1, hi311_1⟩ := at_T52 HR1.out x5_1 p311 q311
                  cases e311
                  replace hx311_0 := (HB.out.cell (World.block_lt_of_cell? w _ hx311_0)).trans hx311_0
                  replace hx311_1 := (HB.out.cell (World.block_lt_of_cell? w _ hx311_1)).trans hx311_1
                  have HR311_1 := Aside0.mk hi311_1
                  have HC311_1 := Aside0.mk hl311_1
                  clear hi311_1 hl311_1
                  replace p311 := eq_true p311
                  replace q311 := eq_true q311
                  have p312 : 0 ≤ (x5_1 : Int) := of_decide_eq_true (by first | (with_reducible assumption) | assumption)
                  have q312 : x5_1 < (l0.length : Int) := of_decide_eq_true (by first | (with_reducible assumption) | assumption)
                  obtain ⟨ad312, A312_1, c312_1, e312, hx312_0, hx312_1, hl312_1, hi312_1⟩ := at_T33 HR0.out x5_1 p312 q312
                  obtain rfl : ad310 = ad312 := (by injection e312)
                  replace hx312_0 := (HB.out.cell (World.block_lt_of_cell? w _ hx312_0)).trans hx312_0
                  replace hx312_1 := (HB.out.cell (World.block_lt_of_cell? w _ hx312_1)).trans hx312_1
                  have HR312_1 := Aside0.mk hi312_1
                  have HC312_1 := Aside0.mk hl312_1
                  clear hi312_1 hl312_1
                  replace p312 := eq_true p312
                  replace q312 := eq_true q312
                  have ea_ := Option.some.inj (hx310_1.symm.trans hx312_1)
                  injection ea_ with ea_ en_ ec_
                  subst ea_
                  subst ec_
                  clear en_
                  have hcv10 := Kd.C_string (P := Tryd.prog) (A := A310_1) (c := c310_1) Tryd.underlying22 Tryd.underlying5 Tryd.underlying9 (Kd.C_below HR312_1.out HB.out)
                  have hcd10 := fun m_ : Nat => Kd.C_string (P := Tryd.prog) (A := A310_1) (c := c310_1) Tryd.underlying22 Tryd.underlying5 Tryd.underlying9 (Kd.C_drewN (Kd.C_below HR312_1.out HB.out) m_)
                  have p313 : 0 ≤ (x5_1 : Int) := of_decide_eq_true (by first | (with_reducible assumption) | assumption)
                  have q313 : x5_1 < (l1.length : Int) := of_decide_eq_true (by first | (with_reducible assumption) | assumption)
                  obtain ⟨ad313, A313_1, c313_1, e313, hx313_0, hx313_1, hl313_1, hi313_1⟩ := at_T52 HR1.out x5_1 p313 q313
                  obtain rfl : ad311 = ad313 := (by injection e313)
                  replace hx313_0 := (HB.out.cell (World.block_lt_of_cell? w _ hx313_0)).trans hx313_0
                  replace hx313_1 := (HB.out.cell (World.block_lt_of_cell? w _ hx313_1)).trans hx313_1
                  have HR313_1 := Aside0.mk hi313_1
                  have HC313_1 := Aside0.mk hl313_1
                  clear hi313_1 hl313_1
                  replace p313 := eq_true p313
                  replace q313 := eq_true q313
                  have ea_ := Option.some.inj (hx311_1.symm.trans hx313_1)
                  injection ea_ with ea_ en_ ec_
                  subst ea_
                  subst ec_
                  clear en_
                  have hcv11 := Kd.C_string (P := Tryd.prog) (A := A311_1) (c := c311_1) Tryd.underlying22 Tryd.underlying5 Tryd.underlying9 (Kd.C_below HR313_1.out HB.out)
                  have hcd11 := fun m_ : Nat => Kd.C_string (P := Tryd.prog) (A := A311_1) (c := c311_1) Tryd.underlying22 Tryd.underlying5 Tryd.underlying9 (Kd.C_drewN (Kd.C_below HR313_1.out HB.out) m_)
                  go_wp2
                  repeat (go_quiet (fail); try go_wp2)
                  go_roundg k1
                  case measure => have := HK1.out; omega
                  case rel => exact ⟨(wrap64 (x5_1 + 1)), (by first | rfl | (simp; done) | (simp [*]; done)), H', ⟨by have := HK1.out; omega⟩, ⟨by repeat (first | (with_reducible first | exact HB.out | apply below_alloc | apply pw_below_drewN | apply below_drew1) | exact HB.out)⟩⟩
                · rw [if_neg c9] at H
                  have c9b0 : ((strOfNums ((rd_T33 l0 x5_1).f1)).toList == (strOfNums ((rd_T52 l1 x5_1).f1)).toList) = false := beq_eq_false_iff_ne.mpr c9
                  have c9b1 : ((strOfNums ((rd_T33 l0 x5_1).f1)).toList != (strOfNums ((rd_T52 l1 x5_1).f1)).toList) = true := bne_iff_ne.mpr c9
                  obtain rfl := Option.some.inj H
                  have p310 : 0 ≤ (x5_1 : Int) := of_decide_eq_true (by first | (with_reducible assumption) | assumption)
                  have q310 : x5_1 < (l0.length : Int) := of_decide_eq_true (by first | (with_reducible assumption) | assumption)
                  obtain ⟨ad310, A310_1, c310_1, e310, hx310_0, hx310_1, hl310_1, hi310_1⟩ := at_T33 HR0.out x5_1 p310 q310
                  cases e310
                  replace hx310_0 := (HB.out.cell (World.block_lt_of_cell? w _ hx310_0)).trans hx310_0
                  replace hx310_1 := (HB.out.cell (World.block_lt_of_cell? w _ hx310_1)).trans hx310_1
                  have HR310_1 := Aside0.mk hi310_1
                  have HC310_1 := Aside0.mk hl310_1
                  clear hi310_1 hl310_1
                  replace p310 := eq_true p310
                  replace q310 := eq_true q310
                  have p311 : 0 ≤ (x5_1 : Int) := of_decide_eq_true (by first | (with_reducible assumption) | assumption)
                  have q311 : x5_1 < (l1.length : Int) := of_decide_eq_true (by first | (with_reducible assumption) | assumption)
                  obtain ⟨ad311, A311_1, c311_1, e311, hx311_0, hx311_1, hl311_1, hi311_1⟩ := at_T52 HR1.out x5_1 p311 q311
                  cases e311
                  replace hx311_0 := (HB.out.cell (World.block_lt_of_cell? w _ hx311_0)).trans hx311_0
                  replace hx311_1 := (HB.out.cell (World.block_lt_of_cell? w _ hx311_1)).trans hx311_1
                  have HR311_1 := Aside0.mk hi311_1
                  have HC311_1 := Aside0.mk hl311_1
                  clear hi311_1 hl311_1
                  replace p311 := eq_true p311
                  replace q311 := eq_true q311
                  have p312 : 0 ≤ (x5_1 : Int) := of_decide_eq_true (by first | (with_reducible assumption) | assumption)
                  have q312 : x5_1 < (l0.length : Int) := of_decide_eq_true (by first | (with_reducible assumption) | assumption)
                  obtain ⟨ad312, A312_1, c312_1, e312, hx312_0, hx312_1, hl312_1, hi312_1⟩ := at_T33 HR0.out x5_1 p312 q312
                  obtain rfl : ad310 = ad312 := (by injection e312)
                  replace hx312_0 := (HB.out.cell (World.block_lt_of_cell? w _ hx312_0)).trans hx312_0
                  replace hx312_1 := (HB.out.cell (World.block_lt_of_cell? w _ hx312_1)).trans hx312_1
                  have HR312_1 := Aside0.mk hi312_1
                  have HC312_1 := Aside0.mk hl312_1
                  clear hi312_1 hl312_1
                  replace p312 := eq_true p312
                  replace q312 := eq_true q312
                  have ea_ := Option.some.inj (hx310_1.symm.trans hx312_1)
                  injection ea_ with ea_ en_ ec_
                  subst ea_
                  subst ec_
                  clear en_
                  have hcv12 := Kd.C_string (P := Tryd.prog) (A := A310_1) (c := c310_1) Tryd.underlying22 Tryd.underlying5 Tryd.underlying9 (Kd.C_below HR312_1.out HB.out)
                  have hcd12 := fun m_ : Nat => Kd.C_string (P := Tryd.prog) (A := A310_1) (c := c310_1) Tryd.underlying22 Tryd.underlying5 Tryd.underlying9 (Kd.C_drewN (Kd.C_below HR312_1.out HB.out) m_)
                  have p313 : 0 ≤ (x5_1 : Int) := of_decide_eq_true (by first | (with_reducible assumption) | assumption)
                  have q313 : x5_1 < (l1.length : Int) := of_decide_eq_true (by first | (with_reducible assumption) | assumption)
                  obtain ⟨ad313, A313_1, c313_1, e313, hx313_0, hx313_1, hl313_1, hi313_1⟩ := at_T52 HR1.out x5_1 p313 q313
                  obtain rfl : ad311 = ad313 := (by injection e313)
                  replace hx313_0 := (HB.out.cell (World.block_lt_of_cell? w _ hx313_0)).trans hx313_0
                  replace hx313_1 := (HB.out.cell (World.block_lt_of_cell? w _ hx313_1)).trans hx313_1
                  have HR313_1 := Aside0.mk hi313_1
                  have HC313_1 := Aside0.mk hl313_1
                  clear hi313_1 hl313_1
                  replace p313 := eq_true p313
                  replace q313 := eq_true q313
                  have ea_ := Option.some.inj (hx311_1.symm.trans hx313_1)
                  injection ea_ with ea_ en_ ec_
                  subst ea_
                  subst ec_
                  clear en_
                  have hcv13 := Kd.C_string (P := Tryd.prog) (A := A311_1) (c := c311_1) Tryd.underlying22 Tryd.underlying5 Tryd.underlying9 (Kd.C_below HR313_1.out HB.out)
                  have hcd13 := fun m_ : Nat => Kd.C_string (P := Tryd.prog) (A := A311_1) (c := c311_1) Tryd.underlying22 Tryd.underlying5 Tryd.underlying9 (Kd.C_drewN (Kd.C_below HR313_1.out HB.out) m_)
                  go_wp2
                  repeat (go_quiet (fail); try go_wp2)
                  go_ret
                  exact ⟨by first | rfl | (simp [errW_none, errW_some] <;> rfl) | (simp only [← hji7]; first | rfl | (simp [errW_none, errW_some] <;> rfl)) | (simp [*, errW_none, errW_some] <;> rfl), by repeat (first | (with_reducible first | exact HB.out | apply below_alloc | apply pw_below_drewN | apply below_drew1) | exact HB.out)⟩
              · rw [if_neg c8] at H
                have c8b0 : (((rd_T33 l0 x5_1).f0) == (ji7)) = false := beq_eq_false_iff_ne.mpr c8
                have c8b1 : (((rd_T33 l0 x5_1).f0) != (ji7)) = true := bne_iff_ne.mpr c8
                obtain rfl := Option.some.inj H
                have p310 : 0 ≤ (x5_1 : Int) := of_decide_eq_true (by first | (with_reducible assumption) | assumption)
                have q310 : x5_1 < (l0.length : Int) := of_decide_eq_true (by first | (with_reducible assumption) | assumption)
                obtain ⟨ad310, A310_1, c310_1, e310, hx310_0, hx310_1, hl310_1, hi310_1⟩ := at_T33 HR0.out x5_1 p310 q310
                cases e310
                replace hx310_0 := (HB.out.cell (World.block_lt_of_cell? w _ hx310_0)).trans hx310_0
                replace hx310_1 := (HB.out.cell (World.block_lt_of_cell? w _ hx310_1)).trans hx310_1
                have HR310_1 := Aside0.mk hi310_1
                have HC310_1 := Aside0.mk hl310_1
                clear hi310_1 hl310_1
                replace p310 := eq_true p310
                replace q310 := eq_true q310
                have p311 : 0 ≤ (x5_1 : Int) := of_decide_eq_true (by first | (with_reducible assumption) | assumption)
                have q311 : x5_1 < (l1.length : Int) := of_decide_eq_true (by first | (with_reducible assumption) | assumption)
                obtain ⟨ad311, A311_1, c311_1, e311, hx311_0, hx311_1, hl311_1, hi311_1⟩ := at_T52 HR1.out x5_1 p311 q311
                cases e311
                replace hx311_0 := (HB.out.cell (World.block_lt_of_cell? w _ hx311_0)).trans hx311_0
                replace hx311_1 := (HB.out.cell (World.block_lt_of_cell? w _ hx311_1)).trans hx311_1
                have HR311_1 := Aside0.mk hi311_1
                have HC311_1 := Aside0.mk hl311_1
                clear hi311_1 hl311_1
                replace p311 := eq_true p311
                replace q311 := eq_true q311
                go_wp2
                repeat (go_quiet (fail); try go_wp2)
                go_ret
                exact ⟨by first | rfl | (simp [errW_none, errW_some] <;> rfl) | (simp only [← hji7]; first | rfl | (simp [errW_none, errW_some] <;> rfl)) | (simp [*, errW_none, errW_some] <;> rfl), by repeat (first | (with_reducible first | exact HB.out | apply below_alloc | apply pw_below_drewN | apply below_drew1) | exact HB.out)⟩
            · rw [if_neg c6] at H
              exact absurd H (by simp)
          · rw [if_neg c5] at H
            exact absurd H (by simp)
        · rw [if_neg c4] at H
          have c4b0 : decide (x5_1 < (l0.length : Int)) = false := decide_eq_false c4
          clear c4
          obtain rfl := Option.some.inj H
          go_wp2
          repeat (go_quiet (fail); try go_wp2)
          go_ret
          exact ⟨by first | rfl | (simp [errW_none, errW_some] <;> rfl) | (simp [*, errW_none, errW_some] <;> rfl), by repeat (first | (with_reducible first | exact HB.out | apply below_alloc | apply pw_below_drewN | apply below_drew1) | exact HB.out)⟩

end Go.Proofs.YtonpiacnljcohaaDoor.PA
