-- Written by a program of this session (wip/tools/myprint.py), out of the translation's print. Lean checks it.
import Derived.Test.YtcffooeiennmjaaPAx0
import Derived.Test.YtcffooeiennmjaaPAx30
import Derived.Test.YtcffooeiennmjaaPAx44
import Derived.Test.YtcffooeiennmjaaPAx45
import Derived.Test.YtcffooeiennmjaaPAx46
namespace Go.Proofs.Ytcffooeiennmjaa.PA
open Go.RowKit Go.Proofs.YtcffooeiennmjaaW.PrintWords Go.Proofs.YtcffooeiennmjaaW.PrintLast Go.Proofs.YtcffooeiennmjaaW.PrintMore
attribute [local go_sem] max2_int min2_int max_two min_two max_three min_three max_four min_four   -- for this text's walks alone
set_option linter.unusedVariables false
set_option linter.unusedSimpArgs false

/-! ### stemmalaw03_ColumnTruths: function 13 -/
def stemmalaw03_ColumnTruths.f (k : Nat) (l0 : List Int) (a1 : Int) : Option (Bool) := (column_GetFlags.f k l0 a1).bind fun bt572 => ((stemmaref03_GetFlags.f k l0 a1).bind fun bt577 => ((stemmaref03_Alike.f k bt572.1 bt577.1).bind fun t582 => (if t582 = true then (if bt572.2.1 = bt577.2.1 then (if bt572.2.2 = bt577.2.2 then ((stemmalaw03_awake.f k).bind fun t583 => (some t583)) else (some false)) else (some false)) else (some false))))
theorem stemmalaw03_ColumnTruths.mono : ∀ a0 a1 k, LeO (stemmalaw03_ColumnTruths.f k a0 a1) (stemmalaw03_ColumnTruths.f (k + 1) a0 a1) := by
  intro a0 a1 k
  unfold stemmalaw03_ColumnTruths.f
  repeat' first
      | (with_reducible exact column_GetFlags.mono _ _ _)
      | (with_reducible exact stemmalaw03_awake.mono _)
      | (with_reducible exact stemmaref03_Alike.mono _ _ _)
      | (with_reducible exact stemmaref03_GetFlags.mono _ _ _)
      | (with_reducible exact LeO.refl _)
      | (with_reducible exact LeO.none _)
      | (with_reducible refine LeO.ite ?_ ?_)
      | (with_reducible refine LeO.bind ?_ (fun _ => ?_))
      | exact column_GetFlags.mono _ _ _
      | exact stemmalaw03_awake.mono _
      | exact stemmaref03_Alike.mono _ _ _
      | exact stemmaref03_GetFlags.mono _ _ _
      | exact LeO.none _
      | refine LeO.ite ?_ ?_
      | refine LeO.bind ?_ (fun _ => ?_)
set_option maxHeartbeats 8000000 in
set_option maxRecDepth 100000 in
theorem stemmalaw03_ColumnTruths.calls (k : Nat) (A0 : Option Addr) (c0 : Nat) (l0 : List Int) (a1 : Int) (r : Bool) (w : World) (hr0 : Kd.C (Kd.int .u8) w A0 l0.length l0) (hc0 : l0.length ≤ c0) (hr_ : Aside0 (r = true)) (h : stemmalaw03_ColumnTruths.f k l0 a1 = some r) :
    Calls Try.prog 13 #[.slice A0 l0.length c0, .int .i64 a1] w fun e w' => e = .returned (.bool r) ∧ Below w.heap.size w w' := by
  have HR0 := Aside0.mk hr0
  have HC0 := Aside0.mk hc0
  clear hr0 hc0
  have HB := Aside0.mk (Below.refl w.heap.size w)
  have H : ((column_GetFlags.f k l0 a1).bind fun bt572 => ((stemmaref03_GetFlags.f k l0 a1).bind fun bt577 => ((stemmaref03_Alike.f k bt572.1 bt577.1).bind fun t582 => (if t582 = true then (if bt572.2.1 = bt577.2.1 then (if bt572.2.2 = bt577.2.2 then ((stemmalaw03_awake.f k).bind fun t583 => (some t583)) else (some false)) else (some false)) else (some false))))) = some r := h
  clear h
  replace H := Option.bind_eq_some_iff.mp H
  obtain ⟨⟨t572, t573, t574⟩, A30, H⟩ := H
  replace H : ((stemmaref03_GetFlags.f k l0 a1).bind fun bt577 => ((stemmaref03_Alike.f k t572 bt577.1).bind fun t582 => (if t582 = true then (if t573 = bt577.2.1 then (if t574 = bt577.2.2 then ((stemmalaw03_awake.f k).bind fun t583 => (some t583)) else (some false)) else (some false)) else (some false)))) = some r := H
  have A3 := Aside0.mk A30
  clear A30
  replace H := Option.bind_eq_some_iff.mp H
  obtain ⟨⟨t577, t578, t579⟩, A40, H⟩ := H
  replace H : ((stemmaref03_Alike.f k t572 t577).bind fun t582 => (if t582 = true then (if t573 = t578 then (if t574 = t579 then ((stemmalaw03_awake.f k).bind fun t583 => (some t583)) else (some false)) else (some false)) else (some false))) = some r := H
  have A4 := Aside0.mk A40
  clear A40
  replace H := Option.bind_eq_some_iff.mp H
  obtain ⟨t582, A50, H⟩ := H
  replace H : (if t582 = true then (if t573 = t578 then (if t574 = t579 then ((stemmalaw03_awake.f k).bind fun t583 => (some t583)) else (some false)) else (some false)) else (some false)) = some r := H
  have A5 := Aside0.mk A50
  clear A50
  by_cases c6 : t582 = true
  · subst c6
    have H1 : (if t573 = t578 then (if t574 = t579 then ((stemmalaw03_awake.f k).bind fun t583 => (some t583)) else (some false)) else (some false)) = some r := by rw [if_pos rfl] at H; exact H
    clear H
    have H := H1
    clear H1
    by_cases c7 : t573 = t578
    · rw [if_pos c7] at H
      have c7b0 : (t573 == t578) = true := beq_iff_eq.mpr c7
      have c7b1 : (t573 != t578) = false := bne_eq_false_iff_eq.mpr c7
      clear c7
      by_cases c8 : t574 = t579
      · rw [if_pos c8] at H
        have c8b0 : (t574 == t579) = true := beq_iff_eq.mpr c8
        have c8b1 : (t574 != t579) = false := bne_eq_false_iff_eq.mpr c8
        clear c8
        replace H := Option.bind_eq_some_iff.mp H
        obtain ⟨t583, A90, H⟩ := H
        replace H : (some t583) = some r := H
        have A9 := Aside0.mk A90
        clear A90
        obtain rfl := Option.some.inj H
        go_enter Try.func13, Try.ntmps13
        go_wp2_with (first | ((with_reducible refine gate_callee (f := 44) rfl ?_); refine goesL_ (some 14) rfl rfl Try.func44 (by kernel_rfl) rfl #[.slice A0 l0.length c0, .int .i64 a1] rfl (by (try simp only [List.map_toArray, List.map_cons, List.map_nil]); first | done | rfl | (simp only [List.length_drop, List.length_take]; rfl)) ?_; (with_reducible refine (column_GetFlags.calls k _ _ l0 a1 t572 t573 t574 _ ?side1 ?side2 A3.out).mono ?_); (case side1 => repeat (first | exact HR0.out | (with_reducible refine Kd.C_alloc ?_ _) | (with_reducible refine Kd.C_drewN ?_ _) | (with_reducible refine Kd.C_drew ?_))); (case side2 => exact HC0.out); rintro e w10 ⟨v575, rfl, ho0, hb⟩; refine ⟨_, rfl, ?_⟩; have n0_ := Aside0.mk (Kd.R_lower ho0 (below_size (by repeat (first | (with_reducible first | exact HB.out | apply below_alloc | apply pw_below_drewN | apply below_drew1) | exact HB.out)))); have n1_ := Aside0.mk (below_step (by repeat (first | (with_reducible first | exact HB.out | apply below_alloc | apply pw_below_drewN | apply below_drew1) | exact HB.out)) hb); clear HB; have HO576 := n0_; have HB := n1_; clear n0_ n1_; (try clear hb); (try clear hb2); (try clear hk); (try clear hi); (try clear ho0)) | ((with_reducible refine gate_callee (f := 46) rfl ?_); refine goesL_ (some 21) rfl rfl Try.func46 (by kernel_rfl) rfl #[.slice A0 l0.length c0, .int .i64 a1] rfl (by (try simp only [List.map_toArray, List.map_cons, List.map_nil]); first | done | rfl | (simp only [List.length_drop, List.length_take]; rfl)) ?_; (with_reducible refine (stemmaref03_GetFlags.calls k _ _ l0 a1 t577 t578 t579 _ ?side1 ?side2 A4.out).mono ?_); (case side1 => repeat (first | exact (Kd.C_below HR0.out HB.out) | (with_reducible refine Kd.C_alloc ?_ _) | (with_reducible refine Kd.C_drewN ?_ _) | (with_reducible refine Kd.C_drew ?_))); (case side2 => exact HC0.out); rintro e w11 ⟨v580, rfl, ho0, hb⟩; refine ⟨_, rfl, ?_⟩; have n0_ := Aside0.mk (Kd.R_elder' (by (with_reducible repeat (first | apply Kd.R_alloc | apply Kd.R_drewN | apply Kd.R_drew)); exact HO576.out) (Kd.R_base ho0) hb); have n1_ := Aside0.mk (Kd.R_lower (Kd.R_new' ho0 (Kd.R_lt (by (with_reducible repeat (first | apply Kd.R_alloc | apply Kd.R_drewN | apply Kd.R_drew)); exact HO576.out))) (below_size (by repeat (first | (with_reducible first | exact HB.out | apply below_alloc | apply pw_below_drewN | apply below_drew1) | exact HB.out)))); have n2_ := Aside0.mk (below_step (by repeat (first | (with_reducible first | exact HB.out | apply below_alloc | apply pw_below_drewN | apply below_drew1) | exact HB.out)) hb); clear HO576; clear HB; have HO576 := n0_; have HO581 := n1_; have HB := n2_; clear n0_ n1_ n2_; (try clear hb); (try clear hb2); (try clear hk); (try clear hi); (try clear ho0); obtain ⟨Ao12, co12, eo12⟩ := Kd.R_slice HO576.out; subst eo12; obtain ⟨Ao13, co13, eo13⟩ := Kd.R_slice HO581.out; subst eo13) | ((with_reducible refine gate_callee (f := 45) rfl ?_); refine goesL_ (some 27) rfl rfl Try.func45 (by kernel_rfl) rfl #[.slice Ao12 t572.length co12, .slice Ao13 t577.length co13] rfl (by (try simp only [List.map_toArray, List.map_cons, List.map_nil]); first | done | rfl | (simp only [List.length_drop, List.length_take]; rfl)) ?_; (with_reducible refine (stemmaref03_Alike.calls k _ _ t572 _ _ t577 true _ ?side1 ?side2 ?side3 ?side4 A5.out).mono ?_); (case side1 => repeat (first | exact (Kd.R_reads' HO576.out).2.2 | (with_reducible refine Kd.C_alloc ?_ _) | (with_reducible refine Kd.C_drewN ?_ _) | (with_reducible refine Kd.C_drew ?_))); (case side2 => exact (Kd.R_reads' HO576.out).2.1); (case side3 => repeat (first | exact (Kd.R_reads' HO581.out).2.2 | (with_reducible refine Kd.C_alloc ?_ _) | (with_reducible refine Kd.C_drewN ?_ _) | (with_reducible refine Kd.C_drew ?_))); (case side4 => exact (Kd.R_reads' HO581.out).2.1); rintro e w' ⟨rfl, ⟨nd, rfl⟩⟩; refine ⟨_, rfl, ?_⟩) | (go_at_call 30; (with_reducible refine (stemmalaw03_awake.calls k  t583 _ A9.out).mono ?_); rintro e w14 ⟨rfl, hb⟩; have n0_ := Aside0.mk (Kd.R_below (by (with_reducible repeat (first | apply Kd.R_alloc | apply Kd.R_drewN | apply Kd.R_drew)); exact HO576.out) hb); have n1_ := Aside0.mk (Kd.R_below (by (with_reducible repeat (first | apply Kd.R_alloc | apply Kd.R_drewN | apply Kd.R_drew)); exact HO581.out) hb); have n2_ := Aside0.mk (below_step (by repeat (first | (with_reducible first | exact HB.out | apply below_alloc | apply pw_below_drewN | apply below_drew1) | exact HB.out)) hb); clear HO576; clear HO581; clear HB; have HO576 := n0_; have HO581 := n1_; have HB := n2_; clear n0_ n1_ n2_; (try clear hb); (try clear hb2); (try clear hk); (try clear hi)))
        go_ret
        exact ⟨by first | rfl | (simp [errW_none, errW_some] <;> rfl) | (simp [*, errW_none, errW_some] <;> rfl), by repeat (first | (with_reducible first | exact HB.out | apply below_alloc | apply pw_below_drewN | apply below_drew1) | exact HB.out)⟩
      · rw [if_neg c8] at H
        have c8b0 : (t574 == t579) = false := beq_eq_false_iff_ne.mpr c8
        have c8b1 : (t574 != t579) = true := bne_iff_ne.mpr c8
        exact absurd ((Option.some.inj H).trans hr_.out) (by decide)
    · rw [if_neg c7] at H
      have c7b0 : (t573 == t578) = false := beq_eq_false_iff_ne.mpr c7
      have c7b1 : (t573 != t578) = true := bne_iff_ne.mpr c7
      exact absurd ((Option.some.inj H).trans hr_.out) (by decide)
  · replace c6 := Bool.eq_false_iff.mpr c6
    subst c6
    have H1 : (some false) = some r := by rw [if_neg (show ¬ (false = true) by decide)] at H; exact H
    clear H
    have H := H1
    clear H1
    exact absurd ((Option.some.inj H).trans hr_.out) (by decide)

/-- THE ONE PURE STATEMENT of stemmalaw03_ColumnTruths: yours. -/
def stemmalaw03_ColumnTruths.Pure : Prop := ∀ (l0 : List Int) (a1 : Int), l0.length ≤ maxLen → l0.length * 1 ≤ 140737488351232 → (∀ x ∈ l0, (Lit.int .u8 x).wf = true) → (Lit.int .i64 a1).wf = true → ∃ k, stemmalaw03_ColumnTruths.f k l0 a1 = some true
theorem stemmalaw03_ColumnTruths.walk (P : stemmalaw03_ColumnTruths.Pure) (a0 : Option Addr) (len0 cap0 : Nat) (z0 : List Int) (a1 : Int) (w : World) (w0 : (a0 = none ∧ len0 = 0 ∧ cap0 = 0 ∧ z0 = []) ∨ ∃ x, a0 = some x ∧ len0 ≤ cap0 ∧ cap0 ≤ maxLen ∧ z0.length = cap0 ∧ (∀ i, i < z0.length → w.cell? (x.add i) = some (.int .u8 (z0.getD i 0))) ∧ ∀ n ∈ z0, (Lit.int .u8 n).wf = true) (y0 : len0 * 1 ≤ 140737488351232) (w1 : (Lit.int .i64 a1).wf = true) :
    Calls Try.prog 13 #[.slice a0 len0 cap0, .int .i64 a1] w fun e w' => e = .returned (.bool true) ∧ Below w.heap.size w w' := by
  obtain ⟨l0, rfl, hr0, hm0, hw0, hc0⟩ := ReadsInt.ofRowC w0
  obtain ⟨k, h⟩ := P l0 a1 hm0 y0 hw0 w1
  refine (stemmalaw03_ColumnTruths.calls k _ _ l0 a1 true w (Kd.C_of_reads (d := (0 : Int)) (h1 := fun _ => rfl) hr0) hc0 ⟨rfl⟩ h).mono ?_
  rintro e w' ⟨rfl, hd⟩
  exact ⟨rfl, hd⟩

end Go.Proofs.Ytcffooeiennmjaa.PA
