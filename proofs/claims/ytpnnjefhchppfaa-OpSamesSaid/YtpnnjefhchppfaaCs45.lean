/- Own texts of this claim, and the words they use, one behind the other (wip/tools/trim.py). -/
import Derived.Test.YtpnnjefhchppfaaCs25
import Derived.Test.YtpnnjefhchppfaaCs32
import Derived.Test.YtpnnjefhchppfaaCs34
import Derived.Test.YtpnnjefhchppfaaCs43
import Derived.Test.YtpnnjefhchppfaaCs44
namespace Go.Proofs.Ytpnnjefhchppfaa.PA
open Go.RowKit Go.Proofs.YtpnnjefhchppfaaW.PrintWords Go.Proofs.YtpnnjefhchppfaaW.PrintLast Go.Proofs.YtpnnjefhchppfaaW.PrintMore
attribute [local go_sem] max2_int min2_int max_two min_two max_three min_three max_four min_four
set_option linter.unusedVariables false
set_option linter.unusedSimpArgs false

def stemmalaw07_OpSames.f (k : Nat) (l0 : List (S33)) (l1 : List (S33)) : Option (Bool) := (op_Same.f k l0 l1).bind fun t430 => ((stemmaref07_Same.f k l0 l1).bind fun t431 => (if (t430 == t431) = true then ((op_Same.f k l1 l0).bind fun t432 => ((stemmaref07_Same.f k l0 l1).bind fun t433 => (if (t432 == t433) = true then ((op_Same.f k l0 l0).bind fun t434 => (if t434 = true then ((stemmalaw07_awake.f).bind fun t435 => (some t435)) else (some false))) else (some false)))) else (some false)))
theorem stemmalaw07_OpSames.mono : ∀ a0 a1 k, LeO (stemmalaw07_OpSames.f k a0 a1) (stemmalaw07_OpSames.f (k + 1) a0 a1) := by
  intro a0 a1 k
  unfold stemmalaw07_OpSames.f
  repeat' first
      | (with_reducible exact op_Same.mono _ _ _)
      | (with_reducible exact stemmaref07_Same.mono _ _ _)
      | (with_reducible exact LeO.refl _)
      | (with_reducible exact LeO.none _)
      | (with_reducible refine LeO.ite ?_ ?_)
      | (with_reducible refine LeO.bind ?_ (fun _ => ?_))
      | exact op_Same.mono _ _ _
      | exact stemmaref07_Same.mono _ _ _
      | exact LeO.none _
      | refine LeO.ite ?_ ?_
      | refine LeO.bind ?_ (fun _ => ?_)
set_option maxHeartbeats 8000000 in
set_option maxRecDepth 100000 in
theorem stemmalaw07_OpSames.calls (k : Nat) (A0 : Option Addr) (c0 : Nat) (l0 : List (S33)) (A1 : Option Addr) (c1 : Nat) (l1 : List (S33)) (r : Bool) (w : World) (hr0 : Kd.C k33 w A0 l0.length l0) (hc0 : l0.length ≤ c0) (hr1 : Kd.C k33 w A1 l1.length l1) (hc1 : l1.length ≤ c1) (hr_ : Aside0 (r = true)) (h : stemmalaw07_OpSames.f k l0 l1 = some r) :
    Calls Try.prog 6 #[.slice A0 l0.length c0, .slice A1 l1.length c1] w fun e w' => e = .returned (.bool r) ∧ Below w.heap.size w w' := by
  have HR0 := Aside0.mk hr0
  have HC0 := Aside0.mk hc0
  clear hr0 hc0
  have HR1 := Aside0.mk hr1
  have HC1 := Aside0.mk hc1
  clear hr1 hc1
  have HB := Aside0.mk (Below.refl w.heap.size w)
  have H : ((op_Same.f k l0 l1).bind fun t430 => ((stemmaref07_Same.f k l0 l1).bind fun t431 => (if (t430 == t431) = true then ((op_Same.f k l1 l0).bind fun t432 => ((stemmaref07_Same.f k l0 l1).bind fun t433 => (if (t432 == t433) = true then ((op_Same.f k l0 l0).bind fun t434 => (if t434 = true then ((stemmalaw07_awake.f).bind fun t435 => (some t435)) else (some false))) else (some false)))) else (some false)))) = some r := h
  clear h
  replace H := Option.bind_eq_some_iff.mp H
  obtain ⟨t430, A30, H⟩ := H
  replace H : ((stemmaref07_Same.f k l0 l1).bind fun t431 => (if (t430 == t431) = true then ((op_Same.f k l1 l0).bind fun t432 => ((stemmaref07_Same.f k l0 l1).bind fun t433 => (if (t432 == t433) = true then ((op_Same.f k l0 l0).bind fun t434 => (if t434 = true then ((stemmalaw07_awake.f).bind fun t435 => (some t435)) else (some false))) else (some false)))) else (some false))) = some r := H
  have A3 := Aside0.mk A30
  clear A30
  replace H := Option.bind_eq_some_iff.mp H
  obtain ⟨t431, A40, H⟩ := H
  replace H : (if (t430 == t431) = true then ((op_Same.f k l1 l0).bind fun t432 => ((stemmaref07_Same.f k l0 l1).bind fun t433 => (if (t432 == t433) = true then ((op_Same.f k l0 l0).bind fun t434 => (if t434 = true then ((stemmalaw07_awake.f).bind fun t435 => (some t435)) else (some false))) else (some false)))) else (some false)) = some r := H
  have A4 := Aside0.mk A40
  clear A40
  by_cases c5 : (t430 == t431) = true
  · rw [if_pos c5] at H
    have c5b0 : (t430 == t431) = true := c5
    (try (have c5b1 : decide (t430 = t431) = true := by simpa using c5))
    (try (have c5b2 : (t430 == t431) = true := by simpa using c5))
    clear c5
    replace H := Option.bind_eq_some_iff.mp H
    obtain ⟨t432, A60, H⟩ := H
    replace H : ((stemmaref07_Same.f k l0 l1).bind fun t433 => (if (t432 == t433) = true then ((op_Same.f k l0 l0).bind fun t434 => (if t434 = true then ((stemmalaw07_awake.f).bind fun t435 => (some t435)) else (some false))) else (some false))) = some r := H
    have A6 := Aside0.mk A60
    clear A60
    replace H := Option.bind_eq_some_iff.mp H
    obtain ⟨t433, A70, H⟩ := H
    replace H : (if (t432 == t433) = true then ((op_Same.f k l0 l0).bind fun t434 => (if t434 = true then ((stemmalaw07_awake.f).bind fun t435 => (some t435)) else (some false))) else (some false)) = some r := H
    have A7 := Aside0.mk A70
    clear A70
    by_cases c8 : (t432 == t433) = true
    · rw [if_pos c8] at H
      have c8b0 : (t432 == t433) = true := c8
      (try (have c8b1 : decide (t432 = t433) = true := by simpa using c8))
      (try (have c8b2 : (t432 == t433) = true := by simpa using c8))
      clear c8
      replace H := Option.bind_eq_some_iff.mp H
      obtain ⟨t434, A90, H⟩ := H
      replace H : (if t434 = true then ((stemmalaw07_awake.f).bind fun t435 => (some t435)) else (some false)) = some r := H
      have A9 := Aside0.mk A90
      clear A90
      by_cases c10 : t434 = true
      · subst c10
        have H1 : ((stemmalaw07_awake.f).bind fun t435 => (some t435)) = some r := by rw [if_pos rfl] at H; exact H
        clear H
        have H := H1
        clear H1
        replace H := Option.bind_eq_some_iff.mp H
        obtain ⟨t435, A110, H⟩ := H
        replace H : (some t435) = some r := H
        have A11 := Aside0.mk A110
        clear A110
        obtain rfl := Option.some.inj H
        go_enter Try.func6, Try.ntmps6
        go_wp2_with (first | ((with_reducible refine gate_callee (f := 19) rfl ?_); refine goesL_ (some 7) rfl rfl Try.func19 (by kernel_rfl) rfl #[.slice A0 l0.length c0, .slice A1 l1.length c1] rfl (by (try simp only [List.map_toArray, List.map_cons, List.map_nil]); first | done | rfl | (simp only [List.length_drop, List.length_take]; rfl)) ?_; (with_reducible refine (op_Same.calls k _ _ l0 _ _ l1 t430 _ ?side1 ?side2 ?side3 ?side4 A3.out).mono ?_); (case side1 => repeat (first | exact HR0.out | (with_reducible refine Kd.C_alloc ?_ _) | (with_reducible refine Kd.C_drewN ?_ _) | (with_reducible refine Kd.C_drew ?_))); (case side2 => exact HC0.out); (case side3 => repeat (first | exact HR1.out | (with_reducible refine Kd.C_alloc ?_ _) | (with_reducible refine Kd.C_drewN ?_ _) | (with_reducible refine Kd.C_drew ?_))); (case side4 => exact HC1.out); rintro e w' ⟨rfl, ⟨nd, rfl⟩⟩; refine ⟨_, rfl, ?_⟩) | ((with_reducible refine gate_callee (f := 11) rfl ?_); refine goesL_ (some 10) rfl rfl Try.func11 (by kernel_rfl) rfl #[.slice A0 l0.length c0, .slice A1 l1.length c1] rfl (by (try simp only [List.map_toArray, List.map_cons, List.map_nil]); first | done | rfl | (simp only [List.length_drop, List.length_take]; rfl)) ?_; (with_reducible refine (stemmaref07_Same.calls k _ _ l0 _ _ l1 t431 _ ?side1 ?side2 ?side3 ?side4 A4.out).mono ?_); (case side1 => repeat (first | exact HR0.out | (with_reducible refine Kd.C_alloc ?_ _) | (with_reducible refine Kd.C_drewN ?_ _) | (with_reducible refine Kd.C_drew ?_))); (case side2 => exact HC0.out); (case side3 => repeat (first | exact HR1.out | (with_reducible refine Kd.C_alloc ?_ _) | (with_reducible refine Kd.C_drewN ?_ _) | (with_reducible refine Kd.C_drew ?_))); (case side4 => exact HC1.out); rintro e w' ⟨rfl, ⟨nd, rfl⟩⟩; refine ⟨_, rfl, ?_⟩) | (go_at_call 19; (with_reducible refine (op_Same.calls k _ _ l1 _ _ l0 t432 _ ?side1 ?side2 ?side3 ?side4 A6.out).mono ?_); (case side1 => repeat (first | exact HR1.out | (with_reducible refine Kd.C_alloc ?_ _) | (with_reducible refine Kd.C_drewN ?_ _) | (with_reducible refine Kd.C_drew ?_))); (case side2 => exact HC1.out); (case side3 => repeat (first | exact HR0.out | (with_reducible refine Kd.C_alloc ?_ _) | (with_reducible refine Kd.C_drewN ?_ _) | (with_reducible refine Kd.C_drew ?_))); (case side4 => exact HC0.out); rintro e w' ⟨rfl, ⟨nd, rfl⟩⟩) | (go_at_call 11; (with_reducible refine (stemmaref07_Same.calls k _ _ l0 _ _ l1 t433 _ ?side1 ?side2 ?side3 ?side4 A7.out).mono ?_); (case side1 => repeat (first | exact HR0.out | (with_reducible refine Kd.C_alloc ?_ _) | (with_reducible refine Kd.C_drewN ?_ _) | (with_reducible refine Kd.C_drew ?_))); (case side2 => exact HC0.out); (case side3 => repeat (first | exact HR1.out | (with_reducible refine Kd.C_alloc ?_ _) | (with_reducible refine Kd.C_drewN ?_ _) | (with_reducible refine Kd.C_drew ?_))); (case side4 => exact HC1.out); rintro e w' ⟨rfl, ⟨nd, rfl⟩⟩) | (go_at_call 19; (with_reducible refine (op_Same.calls k _ _ l0 _ _ l0 true _ ?side1 ?side2 ?side3 ?side4 A9.out).mono ?_); (case side1 => repeat (first | exact HR0.out | (with_reducible refine Kd.C_alloc ?_ _) | (with_reducible refine Kd.C_drewN ?_ _) | (with_reducible refine Kd.C_drew ?_))); (case side2 => exact HC0.out); (case side3 => repeat (first | exact HR0.out | (with_reducible refine Kd.C_alloc ?_ _) | (with_reducible refine Kd.C_drewN ?_ _) | (with_reducible refine Kd.C_drew ?_))); (case side4 => exact HC0.out); rintro e w' ⟨rfl, ⟨nd, rfl⟩⟩) | (go_at_call 12; (with_reducible refine (stemmalaw07_awake.calls  t435 _ A11.out).mono ?_); rintro e w12 ⟨rfl, hb⟩; have n0_ := Aside0.mk (below_step (by repeat (first | (with_reducible first | exact HB.out | apply below_alloc | apply pw_below_drewN | apply below_drew1) | exact HB.out)) hb); clear HB; have HB := n0_; clear n0_; (try clear hb); (try clear hb2); (try clear hk); (try clear hi)))
        go_ret
        exact ⟨by first | rfl | (simp [errW_none, errW_some] <;> rfl) | (simp [*, errW_none, errW_some] <;> rfl), by repeat (first | (with_reducible first | exact HB.out | apply below_alloc | apply pw_below_drewN | apply below_drew1) | exact HB.out)⟩
      · replace c10 := Bool.eq_false_iff.mpr c10
        subst c10
        have H1 : (some false) = some r := by rw [if_neg (show ¬ (false = true) by decide)] at H; exact H
        clear H
        have H := H1
        clear H1
        exact absurd ((Option.some.inj H).trans hr_.out) (by decide)
    · rw [if_neg c8] at H
      have c8b0 : (t432 == t433) = false := by simpa using c8
      (try (have c8b1 : decide (t432 = t433) = false := by simpa using c8))
      (try (have c8b2 : (t432 == t433) = false := by simpa using c8))
      (try (have c8b3 : ¬ (t432 = t433) := by simpa using c8))
      clear c8
      exact absurd ((Option.some.inj H).trans hr_.out) (by decide)
  · rw [if_neg c5] at H
    have c5b0 : (t430 == t431) = false := by simpa using c5
    (try (have c5b1 : decide (t430 = t431) = false := by simpa using c5))
    (try (have c5b2 : (t430 == t431) = false := by simpa using c5))
    (try (have c5b3 : ¬ (t430 = t431) := by simpa using c5))
    clear c5
    exact absurd ((Option.some.inj H).trans hr_.out) (by decide)

end Go.Proofs.Ytpnnjefhchppfaa.PA

set_option linter.unusedVariables false
set_option linter.unusedSimpArgs false
namespace Go.Proofs.Ytpnnjefhchppfaa.Op
open Go Go.RowKit Go.Proofs.YtpnnjefhchppfaaW.PrintWords Go.Proofs.YtpnnjefhchppfaaW.PrintLast Go.Proofs.YtpnnjefhchppfaaW.PrintMore Go.Proofs.Ytpnnjefhchppfaa.PA
def neB (x y : Sop) : Bool := (!(x.f0 == y.f0) || (!((x.f1.toList) == (y.f1.toList)) || (!(x.f2 == y.f2) || (!(x.f3 == y.f3) || (!((x.f4.toList) == (y.f4.toList)))))))
theorem neB_self (x : Sop) : neB x x = false := by simp [neB]
theorem neB_eq {x y : Sop} (h : neB x y = false) : x = y := by
  unfold neB at h
  simp only [Bool.or_eq_false_iff, Bool.not_eq_false', beq_iff_eq] at h
  obtain ⟨h0, h1, h2, h3, h4⟩ := h
  have e1 := toList_inj h1
  have e4 := toList_inj h4
  cases x
  cases y
  simp only at h0 h2 h3 e1 e4
  subst h0 h2 h3 e1 e4
  rfl
theorem rd_at {l : List Sop} {i : Nat} (h : i < l.length) : rd_T33 l (i : Int) = l[i] := by
  simp only [rd_T33, Int.toNat_natCast]
  rw [List.getD_eq_getElem?_getD, List.getElem?_eq_getElem h]; rfl
theorem rsame_l0 (a b : List Sop) (hl : a.length = b.length) (hm : a.length < 4611686018427387900) : ∀ (d k i : Nat), i + d = a.length → d < k → (a.drop i = b.drop i → stemmaref07_Same.l0 k a b (i : Int) = some true) ∧ (a.drop i ≠ b.drop i → stemmaref07_Same.l0 k a b (i : Int) = some false)
  | 0, k, i, hi, hk => by
    obtain ⟨k, rfl⟩ : ∃ q, k = q + 1 := ⟨k - 1, by omega⟩
    rw [List.drop_of_length_le (by omega), List.drop_of_length_le (by omega), stemmaref07_Same.l0, if_neg (by omega)]
    exact ⟨fun _ => rfl, fun h => absurd rfl h⟩
  | d + 1, k, i, hi, hk => by
    obtain ⟨k, rfl⟩ : ∃ q, k = q + 1 := ⟨k - 1, by omega⟩
    have h1 : i < a.length := by omega
    have h2 : i < b.length := by omega
    obtain ⟨g1, g2⟩ := rsame_l0 a b hl hm d k (i + 1) (by omega) (by omega)
    rw [List.drop_eq_getElem_cons h1, List.drop_eq_getElem_cons h2, stemmaref07_Same.l0, if_pos (by omega), if_pos (by omega), if_pos (by omega), rd_at h1, rd_at h2, show wrap64 ((i : Int) + 1) = ((i + 1 : Nat) : Int) by unfold wrap64; omega]
    show (_ → (if neB a[i] b[i] = true then _ else _) = _) ∧ (_ → (if neB a[i] b[i] = true then _ else _) = _)
    cases hn : neB a[i] b[i] with
    | true =>
      rw [if_pos rfl]
      refine ⟨fun h => ?_, fun _ => rfl⟩
      rw [(List.cons.inj h).1, neB_self] at hn
      cases hn
    | false =>
      rw [if_neg (by decide)]
      have he := neB_eq hn
      exact ⟨fun h => g1 (List.cons.inj h).2, fun h => g2 (fun h' => h (by rw [he, h']))⟩
theorem rsame_true (a : List Sop) {k : Nat} (hk : a.length < k) (hm : a.length < 4611686018427387900) : stemmaref07_Same.f k a a = some true := by
  unfold stemmaref07_Same.f
  rw [if_pos rfl]
  exact (rsame_l0 a a rfl hm a.length k 0 (by omega) hk).1 rfl
theorem rsame_false {a b : List Sop} (h : a ≠ b) {k : Nat} (hk : a.length < k) (hm : a.length < 4611686018427387900) : stemmaref07_Same.f k a b = some false := by
  unfold stemmaref07_Same.f
  by_cases hl : a.length = b.length
  · rw [if_pos (by omega)]
    exact (rsame_l0 a b hl hm a.length k 0 (by omega) hk).2 (by simpa using h)
  · rw [if_neg (by omega)]
theorem same_l0 (a b : List Sop) (hl : a.length = b.length) (hm : a.length < 4611686018427387900) : ∀ (d k i : Nat), i + d = a.length → d < k → (a.drop i = b.drop i → api_Op.l0 k a b (a.length : Int) (i : Int) = some true) ∧ (a.drop i ≠ b.drop i → api_Op.l0 k a b (a.length : Int) (i : Int) = some false)
  | 0, k, i, hi, hk => by
    obtain ⟨k, rfl⟩ : ∃ q, k = q + 1 := ⟨k - 1, by omega⟩
    rw [List.drop_of_length_le (by omega), List.drop_of_length_le (by omega), api_Op.l0, if_neg (by omega)]
    exact ⟨fun _ => rfl, fun h => absurd rfl h⟩
  | d + 1, k, i, hi, hk => by
    obtain ⟨k, rfl⟩ : ∃ q, k = q + 1 := ⟨k - 1, by omega⟩
    have h1 : i < a.length := by omega
    have h2 : i < b.length := by omega
    obtain ⟨g1, g2⟩ := same_l0 a b hl hm d k (i + 1) (by omega) (by omega)
    rw [List.drop_eq_getElem_cons h1, List.drop_eq_getElem_cons h2, api_Op.l0, if_pos (by omega), if_pos (by omega), if_pos (by omega), if_pos (by omega), rd_at h1, rd_at h2, show wrap64 ((i : Int) + 1) = ((i + 1 : Nat) : Int) by unfold wrap64; omega]
    show (_ → (if neB a[i] b[i] = true then _ else _) = _) ∧ (_ → (if neB a[i] b[i] = true then _ else _) = _)
    cases hn : neB a[i] b[i] with
    | true =>
      rw [if_pos rfl]
      refine ⟨fun h => ?_, fun _ => rfl⟩
      rw [(List.cons.inj h).1, neB_self] at hn
      cases hn
    | false =>
      rw [if_neg (by decide)]
      have he := neB_eq hn
      exact ⟨fun h => g1 (List.cons.inj h).2, fun h => g2 (fun h' => h (by rw [he, h']))⟩
theorem same_true (a : List Sop) {k : Nat} (hk : a.length < k) (hm : a.length < 4611686018427387900) : op_Same.f k a a = some true := by
  unfold op_Same.f api_Op.f
  have e := (same_l0 a a rfl hm a.length k 0 (by omega) hk).1 rfl
  rw [show ((0 : Nat) : Int) = 0 from rfl] at e
  rw [if_pos rfl, e]
  rfl
theorem same_false {a b : List Sop} (h : a ≠ b) {k : Nat} (hk : a.length < k) (hm : a.length < 4611686018427387900) : op_Same.f k a b = some false := by
  unfold op_Same.f api_Op.f
  by_cases hl : a.length = b.length
  · have e := (same_l0 a b hl hm a.length k 0 (by omega) hk).2 (by simpa using h)
    rw [show ((0 : Nat) : Int) = 0 from rfl] at e
    rw [if_pos (by omega), e]
    rfl
  · rw [if_neg (by omega)]
    rfl
theorem str_back (s : ByteArray) : strOfNums (bytesOf s) = s := by
  have h : (strOfNums (bytesOf s)).data.toList = s.data.toList := by
    rw [strOfNums_data]
    unfold bytesOf
    rw [List.map_map]
    conv => rhs; rw [← List.map_id s.data.toList]
    refine List.map_congr_left (fun x _ => ?_)
    simp
  cases s with
  | mk d =>
    cases hs : strOfNums (bytesOf ⟨d⟩) with
    | mk e =>
      rw [hs] at h
      have : e = d := Array.toList_inj.1 h
      rw [this]
theorem gT_put (s : ByteArray) (most : Nat) (hs : s.size ≤ most) (hm : most ≤ 4096) (r : List Int) : gT most (textP s ++ r) = (s, ((textP s).length : Int), 0) := by
  have hbl : (bytesOf s).length = s.size := bytesOf_length s
  have hpl : (LebT.putU s.size).length ≤ 10 := LebT.putU_len64 (by omega)
  unfold gT textP
  rw [List.append_assoc, ColT.gU0 s.size (by omega)]
  simp only [if_true]
  rw [if_neg (by omega), if_neg (by simp only [List.length_append]; omega)]
  have e : ((((LebT.putU s.size).length : Nat) : Int) + (s.size : Int)).toNat = (LebT.putU s.size).length + s.size := by omega
  rw [e, Int.toNat_natCast, List.take_append, List.take_of_length_le (by omega), Nat.add_sub_cancel_left, List.take_left' hbl, List.drop_left' rfl, str_back, List.length_append, hbl]
  push_cast
  rfl
theorem textS_put (s : ByteArray) (most : Nat) (hs : s.size ≤ most) (hm : most ≤ 4096) (r : List Int) : textS most (textP s ++ r, false) = (s, r, false) := by
  unfold textS
  rw [gT_put s most hs hm r, if_pos ⟨rfl, rfl⟩]
  simp only [Int.toNat_natCast, List.drop_left]
theorem nmS_put : ∀ (ns acc : List ByteArray) (r : List Int), (∀ s ∈ ns, s.size ≤ 32) → nmS ns.length acc (ns.flatMap textP ++ r, false) = (acc ++ ns, r, false)
  | [], acc, r, _ => by simp [nmS]
  | s :: ns, acc, r, h => by
    have e := textS_put s 32 (h s (by simp)) (by omega) (ns.flatMap textP ++ r)
    rw [List.length_cons, nmS_next _ _ _ rfl, List.flatMap_cons, List.append_assoc]
    rw [show textS 32 (textP s ++ (ns.flatMap textP ++ r), false) = (s, ns.flatMap textP ++ r, false) from e]
    show nmS ns.length (acc ++ [s]) (ns.flatMap textP ++ r, false) = _
    rw [nmS_put ns _ r (fun x hx => h x (by simp [hx])), List.append_assoc, List.singleton_append]
theorem namesS_put (ns : List ByteArray) (hn : ns.length ≤ 256) (h : ∀ s ∈ ns, s.size ≤ 32) (r : List Int) : namesS (LebT.putU ns.length ++ (ns.flatMap textP ++ r), false) = (ns, r, false) := by
  have e := ColT.gU0 ns.length (by omega) (ns.flatMap textP ++ r)
  unfold namesS
  rw [e, if_pos ⟨rfl, rfl, by show (ns.length : Int) ≤ 256; omega⟩]
  show nmS ((ns.length : Int)).toNat [] (List.drop (((LebT.putU ns.length).length : Int)).toNat (LebT.putU ns.length ++ (ns.flatMap textP ++ r)), false) = _
  rw [Int.toNat_natCast, Int.toNat_natCast, List.drop_left, nmS_put ns [] r h, List.nil_append]
theorem colS_run_put (d : List Int) (hw : ∀ x ∈ d, in64 x) (hl : d.length ≤ 256) (r : List Int) : colS runG (ColS.runs d ++ r, false) = (d, r, false) := by
  have e := ColT.getRuns_put d hw 256 (by omega) (by omega) r
  unfold colS runG
  rw [e, if_pos ⟨rfl, rfl⟩]
  simp only [Int.toNat_natCast, List.drop_left]
theorem colS_del_put (d : List Int) (hw : ∀ x ∈ d, in64 x) (hl : d.length ≤ 256) (r : List Int) : colS delG (ColS.runs (ColT.dif0 d) ++ r, false) = (d, r, false) := by
  have e := ColT.getRuns_put (ColT.dif0 d) (ColT.dif0_rng d hw) 256 (by rw [ColT.dif0_length]; omega) (by rw [ColT.dif0_length]; omega) r
  unfold colS delG
  rw [e, if_pos ⟨rfl, rfl⟩]
  simp only [Int.toNat_natCast, List.drop_left]
  rw [ColT.sums0_dif0 d hw]
theorem cols_put (l : List Sop) (hl : l.length ≤ 256) (hc : ∀ o ∈ l, chkF o = true) (r : List Int) : colsS (layF l ++ r) = ⟨l.map (·.f0), nsF l, l.map (fun o => (idx (nsF l) o.f1 : Int)), l.map (·.f2), l.map (·.f3), (l.flatMap txF ++ r, false)⟩ := by
  obtain ⟨g1, g2, g3⟩ := nsF_ok _ l rfl hc
  have hn := nsF_len _ l rfl
  unfold layF
  simp only [List.append_assoc]
  unfold colsS
  simp only []
  rw [colS_run_put _ (kinds_ok hc) (by simp; omega)]
  simp only []
  rw [namesS_put (nsF l) (by omega) (fun s hs => by have := g1 s hs; unfold shortN at this; omega)]
  simp only []
  rw [colS_run_put _ (which_ok l (nsF l) (by omega)) (by simp; omega)]
  simp only []
  rw [colS_del_put _ (pos_ok hc) (by simp; omega)]
  simp only []
  rw [colS_run_put _ (by_ok hc) (by simp; omega)]
theorem getD_map {β : Type} (l : List Sop) (f : Sop → β) (d : β) {j : Nat} (h : j < l.length) : (l.map f).getD j d = f l[j] := by
  rw [List.getD_eq_getElem?_getD, List.getElem?_map, List.getElem?_eq_getElem h]
  rfl
theorem chk_none {o : Sop} (h : chkF o = true) (hk : ¬ (o.f0 = 1 ∨ o.f0 = 4)) : o.f4 = e0 := by
  unfold chkF at h
  simp only [Bool.and_eq_true, decide_eq_true_eq] at h
  have : o.f4.size = 0 := by omega
  refine toList_inj ?_
  rw [(nil_size o.f4).2 this, (nil_size e0).2 rfl]
theorem rows_put (l : List Sop) (hl : l.length ≤ 256) (hc : ∀ o ∈ l, chkF o = true) (r : List Int) : ∀ j, j ≤ l.length →
    rowsS (nsF l) (l.map (·.f0)) (l.map (fun o => (idx (nsF l) o.f1 : Int))) (l.map (·.f2)) (l.map (·.f3)) (l.flatMap txF ++ r, false) j = some (l.take j, ((l.drop j).flatMap txF ++ r, false))
  | 0, _ => by simp [rowsS]
  | j + 1, hj => by
    have hlt : j < l.length := hj
    obtain ⟨g1, g2, g3⟩ := nsF_ok _ l rfl hc
    have hm : l[j] ∈ l := List.getElem_mem hlt
    have hin := g3 _ hm
    have hix := idx_lt _ _ hin
    have hget := idx_mem _ _ hin
    rw [rowsS, rows_put l hl hc r j (by omega)]
    simp only [getD_map l _ _ hlt]
    rw [rowS, if_neg (by omega), Int.toNat_natCast]
    have hnm : (nsF l).getD (idx (nsF l) l[j].f1) e0 = l[j].f1 := by rw [List.getD_eq_getElem?_getD, hget]; rfl
    rw [hnm, List.drop_eq_getElem_cons hlt, List.flatMap_cons, List.append_assoc]
    have htk : l.take (j + 1) = l.take j ++ [l[j]] := by rw [List.take_add_one, List.getElem?_eq_getElem hlt, Option.toList_some]
    have hcx := hc _ hm
    by_cases hk : l[j].f0 = 1 ∨ l[j].f0 = 4
    · rw [if_pos hk, show txF l[j] = textP l[j].f4 from if_pos hk]
      have e := textS_put l[j].f4 1024 (chk_text hcx) (by omega) ((l.drop (j + 1)).flatMap txF ++ r)
      rw [show textS 1024 (textP l[j].f4 ++ ((l.drop (j + 1)).flatMap txF ++ r), false) = (l[j].f4, (l.drop (j + 1)).flatMap txF ++ r, false) from e, htk]
    · rw [if_neg hk, show txF l[j] = [] from if_neg hk, List.nil_append, htk]
      have e4 := chk_none hcx hk
      rw [← e4]
theorem get_put (l : List Sop) (hl : l.length ≤ 256) (hc : ∀ o ∈ l, chkF o = true) (r : List Int) : getS (putB l ++ r) = if r = [] then (l, 0) else ([], 4) := by
  have hB : putB l = layF l := if_pos (List.all_eq_true.2 hc)
  have hE : putE l = 0 := if_pos (List.all_eq_true.2 hc)
  have hcols := cols_put l hl hc r
  have hlens : lensOk (colsS (layF l ++ r)) := by
    rw [hcols]
    exact ⟨rfl, by simp, by simp, by simp⟩
  have hrows := rows_put l hl hc r l.length (Nat.le_refl _)
  rw [List.take_length, List.drop_of_length_le (Nat.le_refl _), List.flatMap_nil, List.nil_append] at hrows
  rw [hB, get_some hlens hcols (by show rowsS _ _ _ _ _ _ (l.map (·.f0)).length = _; rw [List.length_map]; exact hrows)]
  unfold endS
  by_cases hr : r = []
  · rw [if_pos hr, if_pos ⟨rfl, hE, by rw [hB, hr, List.append_nil]⟩]
  · rw [if_neg hr, if_neg (fun h => hr (by have := h.2.2; rw [hB] at this; simpa using this))]
def oA : Sop := ⟨2, ⟨#[97]⟩, 0, 0, ⟨#[]⟩⟩
theorem oA_chk : chkF oA = true := by decide +kernel
theorem oA_lay : putB [oA] = [1, 1, 2, 1, 1, 97, 1, 1, 0, 1, 1, 0, 1, 1, 0] := by
  have h : [oA].all chkF = true := by simp [oA_chk]
  rw [putB, if_pos h]
  have e1 : nsF [oA] = [⟨#[97]⟩] := by decide +kernel
  have e2 : bytesOf (⟨#[97]⟩ : ByteArray) = [97] := by decide +kernel
  have e3 : (⟨#[97]⟩ : ByteArray).size = 1 := rfl
  unfold layF
  rw [e1]
  simp [oA, ColS.runs, ColS.st, ColS.flat, LebT.putU_small, LebT.putI_small, ColT.dif0, ColT.dif, textP, txF, idx, e2, e3]
theorem awake07 : stemmalaw07_awake.f = some true := by
  have hc : ∀ o ∈ [oA], chkF o = true := fun o ho => by obtain rfl : o = oA := by simpa using ho
                                                        exact oA_chk
  have hg := get_put [oA] (by decide) hc []
  rw [List.append_nil, if_pos rfl, oA_lay] at hg
  have hE : putE [oA] = 0 := if_pos (List.all_eq_true.2 hc)
  have hP : op_Put.f [(⟨2, (⟨#[97]⟩ : ByteArray), 0, 0, (⟨#[]⟩ : ByteArray)⟩ : Sop)] = some ([1, 1, 2, 1, 1, 97, 1, 1, 0, 1, 1, 0, 1, 1, 0], 0) := by
    show some (putR [oA]) = _
    rw [putR, if_neg (by decide), oA_lay, hE]
  unfold stemmalaw07_awake.f
  rw [hP]
  simp only [Option.bind_some]
  rw [op_Get.f, if_pos (by decide +kernel), hg]
  simp only [Option.bind_some]
  rw [if_pos (by decide +kernel), if_pos (by decide +kernel), if_pos (by decide +kernel), if_pos (by decide +kernel), if_pos (by decide +kernel), if_pos (by decide +kernel), if_pos (by decide +kernel)]
end Go.Proofs.Ytpnnjefhchppfaa.Op

set_option linter.unusedVariables false
set_option linter.unusedSimpArgs false
namespace Go.Proofs.Ytpnnjefhchppfaa.Pure
open Go Go.RowKit Go.Proofs.Ytpnnjefhchppfaa.PA Go.Proofs.YtpnnjefhchppfaaW.PrintWords Go.Proofs.YtpnnjefhchppfaaW.PrintLast Go.Proofs.YtpnnjefhchppfaaW.PrintMore Go.Proofs.Ytpnnjefhchppfaa.Op
theorem OpSames (a0 : (List S33)) (a1 : (List S33)) (q0 : a0.length ≤ maxLen ∧ a0.length * 56 ≤ 140737488351232 ∧ ∀ y22 ∈ a0, ((Lit.int .i64 y22.f0).wf = true) ∧ (y22.f1.size ≤ maxLen ∧ y22.f1.size ≤ 140737488351232) ∧ ((Lit.int .i64 y22.f2).wf = true) ∧ ((Lit.int .i64 y22.f3).wf = true) ∧ y22.f4.size ≤ maxLen ∧ y22.f4.size ≤ 140737488351232) (q1 : a1.length ≤ maxLen ∧ a1.length * 56 ≤ 140737488351232 ∧ ∀ y22 ∈ a1, ((Lit.int .i64 y22.f0).wf = true) ∧ (y22.f1.size ≤ maxLen ∧ y22.f1.size ≤ 140737488351232) ∧ ((Lit.int .i64 y22.f2).wf = true) ∧ ((Lit.int .i64 y22.f3).wf = true) ∧ y22.f4.size ≤ maxLen ∧ y22.f4.size ≤ 140737488351232) : ∃ k, PA.stemmalaw07_OpSames.f k a0 a1 = some true := by
  have hl : a0.length ≤ 2513169434843 := by have := q0.2.1; omega
  have hm : a1.length ≤ 2513169434843 := by have := q1.2.1; omega
  clear q0 q1
  obtain ⟨k, hk⟩ : ∃ k, 2513169434844 ≤ k := ⟨_, Nat.le_refl _⟩
  refine ⟨k, ?_⟩
  unfold stemmalaw07_OpSames.f
  by_cases h : a0 = a1
  · subst h
    rw [same_true a0 (by omega) (by omega), rsame_true a0 (by omega) (by omega)]
    simp only [Option.bind_some, beq_self_eq_true, if_true, awake07]
  · rw [same_false h (by omega) (by omega), rsame_false h (by omega) (by omega), same_false (fun e => h e.symm) (by omega) (by omega), same_true a0 (by omega) (by omega)]
    simp only [Option.bind_some, beq_self_eq_true, if_true, awake07]
end Go.Proofs.Ytpnnjefhchppfaa.Pure

