/- stemmalaw11.RgaAny, walked. -/
import Derived.Test.YtkcdlilglgfkaaaRgMf
import Derived.Test.YtkcdlilglgfkaaaPAx15
set_option linter.unusedVariables false
set_option linter.unusedSimpArgs false
namespace Go.Proofs.Ytkcdlilglgfkaaa.Rg
open Go Go.RowKit Go.Proofs.YtkcdlilglgfkaaaW.PrintWords Go.Proofs.YtkcdlilglgfkaaaW.PrintLast Go.Proofs.YtkcdlilglgfkaaaW.PrintMore Go.Proofs.Ytkcdlilglgfkaaa.PA Go.Proofs.Ytkcdlilglgfkaaa.Ar Go.Proofs.Ytkcdlilglgfkaaa.Sha
theorem run_eqIdD (d : Nat) (w : World) (x y : Idt) (hx : x.2.length = 32) (hy : y.2.length = 32) : (Op.equalIn (d + 1 + 1 + 1) TI (.agg (iv x).toArray) (.agg (iv y).toArray)).run Try.prog w = .ok (decide (x = y)) w := by
  rw [← eqI_dec]
  refine eqA_of (d := d + 1 + 1) Try.underlying28 (by kernel_rfl) ?_
  refine eqf_cons rfl (part_num w x) (part_num w y) (run_equalIn_int w (d + 1) 3 .i64 .i64 _ _ Try.underlying3) ?_
  exact eqf_last rfl (part_by w x hx) (part_by w y hy) (run_equalIn_ns w d 23 5 32 .u8 Try.underlying23 Try.underlying5 szB x.2 y.2 hx hy)
theorem part_id (w : World) (x : Ce) (h : okC x) : (part TI (ce x).toArray 0).run Try.prog w = .ok (.agg (iv x.id).toArray) w := by
  have hu := Try.underlying28
  obtain ⟨i, hq, hi⟩ := Option.map_eq_some_iff.1 size_id
  have hsz : 33 ≤ (ce x).length := by rw [ce_len h]; omega
  simp [part, isAgg, run_underlying hu, sizeOf, typeInfo, hq, hi, hsz]
  rw [ce, List.take_left' (iv_len h)]
theorem part_ch (w : World) (x : Ce) (h : okC x) : (part 5 (ce x).toArray 33).run Try.prog w = .ok (.int .u8 x.ch) w := by
  have hu := Try.underlying5
  have hc : (ce x)[33]? = some (.int .u8 x.ch) := by rw [ce, List.getElem?_append_right (by rw [iv_len h]; omega), iv_len h]; rfl
  simp [part, isAgg, run_underlying hu, hc]
theorem part_go (w : World) (x : Ce) (h : okC x) : (part 4 (ce x).toArray 34).run Try.prog w = .ok (.bool x.gone) w := by
  have hu := Try.underlying4
  have hc : (ce x)[34]? = some (.bool x.gone) := by rw [ce, List.getElem?_append_right (by rw [iv_len h]; omega), iv_len h]; rfl
  simp [part, isAgg, run_underlying hu, hc]
theorem run_eqCe (w : World) (x : Ce) (h : okC x) : (Op.equalIn 10000 TC (.agg (ce x).toArray) (.agg (ce x).toArray)).run Try.prog w = .ok true w := by
  refine eqA_of (d := 9999) Try.underlying43 (by kernel_rfl) ?_
  have h1 := run_eqIdD 9996 w x.id x.id h h
  rw [decide_eq_true rfl] at h1
  have h2 := run_equalIn_int (P := Try.prog) w 9998 5 .u8 .u8 x.ch x.ch Try.underlying5
  rw [beq_self_eq_true] at h2
  have h3 := run_equalIn_bool (P := Try.prog) w 9998 4 x.gone x.gone Try.underlying4
  rw [beq_self_eq_true] at h3
  refine eqf_cons (r := true) (s := true) rfl (part_id w x h) (part_id w x h) h1 ?_
  refine eqf_cons (r := true) (s := true) rfl (part_ch w x h) (part_ch w x h) h2 ?_
  exact eqf_last rfl (part_go w x h) (part_go w x h) h3
theorem size_ce' : (Try.prog.info? TC).map (·.size) = some 35 := by kernel_rfl
end Go.Proofs.Ytkcdlilglgfkaaa.Rg
namespace Go.Proofs.Ytkcdlilglgfkaaa.PA
open Go Go.RowKit Go.Proofs.YtkcdlilglgfkaaaW.PrintWords Go.Proofs.YtkcdlilglgfkaaaW.PrintLast Go.Proofs.YtkcdlilglgfkaaaW.PrintMore Go.Proofs.Ytkcdlilglgfkaaa.Ar Go.Proofs.Ytkcdlilglgfkaaa.Sha Go.Proofs.Ytkcdlilglgfkaaa.Rg
open Classical in
noncomputable def stemmalaw11_RgaAny.f (l : List S46) (ts : List Int) : Option Bool := if (∀ x ∈ l, PutOk x) ∧ (∀ x ∈ ts, 0 ≤ x ∧ x < 256) then some true else none
set_option maxRecDepth 100000 in
set_option maxHeartbeats 8000000 in
theorem stemmalaw11_RgaAny.calls (A0 : Option Addr) (c0 : Nat) (l0 : List S46) (A1 : Option Addr) (c1 : Nat) (l1 : List Int) (r : Bool) (w : World) (hr0 : Kd.C k46 w A0 l0.length l0) (hc0 : l0.length ≤ c0) (hr1 : Kd.C (Kd.int .u8) w A1 l1.length l1) (hc1 : l1.length ≤ c1) (hr_ : Aside0 (r = true)) (h : stemmalaw11_RgaAny.f l0 l1 = some r) :
    Calls Try.prog 4 #[.slice A0 l0.length c0, .slice A1 l1.length c1] w fun e w' => e = .returned (.bool r) ∧ Below w.heap.size w w' := by
  obtain ⟨rfl⟩ := hr_
  unfold stemmalaw11_RgaAny.f at h
  split at h
  case isFalse => cases h
  case isTrue hh =>
  have HX := Aside0.mk hh
  have HR := Aside0.mk hr0
  have HR1 := Aside0.mk hr1
  have HFW := Aside0.mk (stemmalaw11_few.calls A0 c0 l0 _ w hr0 hc0 rfl)
  clear h hh hr0 hc0 hr1 hc1
  by_cases hfew : (l0.length : Int) ≤ 120
  · rw [decide_eq_true hfew] at HFW
    have HN : Aside0 (l0.length ≤ 120) := ⟨by omega⟩
    clear hfew
    go_enter Try.func4, Try.ntmps4
    go_upto_region 4 with (first | (go_at_call 15; refine HFW.out.mono ?_; rintro e w1 ⟨rfl, hd⟩; have HB1 := Aside0.mk hd.below; clear hd) | (go_at_call 16; refine (tame_calls A0 c0 l0 w1 (Kd.C_below HR.out HB1.out) HN.out HX.out.1).mono ?_; rintro e w2 ⟨v2, R, rfl, hO, hT, hb⟩; have HO := Aside0.mk hO; have HT := Aside0.mk hT; have HB2 := Aside0.mk (below_step HB1.out hb); clear hO hT hb))
    obtain ⟨A2, c2, rfl⟩ := Kd.R_slice HO.out
    obtain ⟨L0, hL0⟩ := HT.out.al
    have HAL := Aside0.mk hL0
    have hRl : R.length ≤ 120 := by have := HT.out.len; have := HN.out; omega
    have HF1 := Aside0.mk (filled_calls (L0 := L0) A2 c2 R none 0 [] w2 (Kd.R_reads' HO.out).2.2 (Kd.R_reads' (Kd.R_nil (Kd.int .u8) 5 w2 0 (fun _ => True))).2.2 (by omega) (fun x hx => by simp at hx) hL0 HT.out.here)
    have HF2 : Aside0 (∀ W, Below w2.heap.size w2 W → Calls Try.prog 17 #[.slice A2 R.length c2, .slice A1 l1.length c1] W fun e w' => ∃ gr gm M v, e = .returned (.pointer (some ⟨gr, 0, none⟩)) ∧ Rw W gr gm ((tellF R).map toC) M v w') := ⟨fun W hb => filled_calls (L0 := L0) A2 c2 R A1 c1 l1 W (Kd.C_below (Kd.R_reads' HO.out).2.2 hb) (Kd.C_below (Kd.C_below HR1.out HB2.out) hb) (by omega) HX.out.2 hL0 HT.out.here⟩
    obtain ⟨LL, hLL⟩ : ∃ LL, (tellF R).map toC = LL := ⟨_, rfl⟩
    have hLl : LL.length = R.length := by rw [← hLL, List.length_map]; exact hL0.len
    rw [hLL] at HF1 HF2
    have HLl := Aside0.mk hLl
    clear hL0 hLL hLl HX HR HR1 HFW HO HT HAL
    go_upto_region 5 with (first | (go_at_call 17; refine HF1.out.mono ?_; rintro e w3 ⟨gr1, gm1, M1, v1, rfl, hR⟩; have HRa := Aside0.mk hR; clear hR HF1) | (go_at_call 17; refine (HF2.out _ HRa.out.below).mono ?_; rintro e w4 ⟨gr2, gm2, M2, v2, rfl, hR⟩; have HRb := Aside0.mk hR; clear hR HF2))
    have HCa := Aside0.mk (Cells_calls (HRa.out.step HRb.out.below) (by rw [HLl.out]; omega))
    have HCb : Aside0 (∀ W, Below w4.heap.size w4 W → Calls Try.prog 18 #[.pointer (some ⟨gr2, 0, none⟩)] W fun e w' => ∃ v1, e = .returned v1 ∧ Rg.Own w' W.heap.size v1 LL ∧ Below W.heap.size W w') := ⟨fun W hb => Cells_calls (HRb.out.step hb) (by rw [HLl.out]; omega)⟩
    have HB4 := Aside0.mk (below_step (below_step HB2.out HRa.out.below) HRb.out.below)
    clear HRa HRb HB2
    go_upto_region 6 with (first | (go_at_call 18; refine HCa.out.mono ?_; rintro e w5 ⟨vx, rfl, hO, hb⟩; have HOX := Aside0.mk hO; have HB5 := Aside0.mk hb; clear hO hb HCa) | (go_at_call 18; refine (HCb.out _ HB5.out).mono ?_; rintro e w6 ⟨vy, rfl, hO, hb⟩; have HOY := Aside0.mk hO; have HOX6 := Aside0.mk (Kd.R_below HOX.out hb); have HB6 := Aside0.mk (below_step HB4.out (below_step HB5.out hb)); clear hO hb HCb))
    obtain ⟨Ax, cx, hvx⟩ := Kd.R_slice HOX6.out
    obtain ⟨Ay, cy, hvy⟩ := Kd.R_slice HOY.out
    rw [HLl.out] at hvx hvy
    subst hvx
    subst hvy
    clear HOX HB4 HB5
    generalize w6 = wz at *
    go_wp2_with fail
    go_loopw [10] (fun i wr => ∃ j nq : Nat, j ≤ R.length ∧ i = .int .i64 j ∧ wr = wz.drewN nq) (fun i _ => R.length - (intOf i).toNat)
    case atStart => exact ⟨0, 0, by omega, rfl, rfl⟩
    case round =>
      obtain ⟨j, nq0, hj, rfl, rfl⟩ := hrel
      by_cases hlt : j < R.length
      · obtain ⟨x, hx⟩ : ∃ x, LL[j]? = some x := ⟨_, List.getElem?_eq_getElem (by rw [HLl.out]; exact hlt)⟩
        have hok := (own_raw HOX6.out).2
        have hform : ∀ {b : Nat} {A : Option Addr} {c : Nat}, Rg.Own wz b (.slice A R.length c) LL → ∃ g cur, A = some ⟨g, 0, none⟩ ∧ wz.heap[g]? = some (.cells cur TC (0, 0)) ∧ cur.toList.take (LL.length * 35) = fl LL := fun {b A c} h => by
          rcases own_form h with ⟨_, hn⟩ | ⟨g, cap, cur, hv, _, h2, _, _, _, h3⟩
          · rw [hn] at hx; simp at hx
          · injection hv with h1; exact ⟨g, cur, h1, h2, h3⟩
        obtain ⟨gx, curx, rfl, hgx, htx⟩ := hform HOX6.out
        obtain ⟨gy, cury, rfl, hgy, hty⟩ := hform HOY.out
        have huC := Try.underlying43
        have hxk := hok x (List.mem_of_getElem? hx)
        have hld := fun k => loadVar_at ((wz.drewN nq0).drewN k) gx (j * 35) TC TC curx (ce x) _ hgx (fun i v hi => cur_at hok htx hx i v hi) huC rfl (by rw [ce_len hxk]; exact size_ce')
        have hldy := fun k => loadVar_at ((wz.drewN nq0).drewN k) gy (j * 35) TC TC cury (ce x) _ hgy (fun i v hi => cur_at hok hty hx i v hi) huC rfl (by rw [ce_len hxk]; exact size_ce')
        have heq := fun W => run_eqCe W x hxk
        generalize (ce x).toArray = F at *
        have t8 : decide ((j : Int) < (R.length : Int)) = true := decide_eq_true (by omega)
        have t9 : ((j : Int) < (R.length : Int)) = True := eq_true (by omega)
        have hsC := size_ce'
        clear hx hok hform hgx htx hgy hty huC hxk
        go_upto_region 11 with fail
        refine wp_region_quiet_lit (by kernel_rfl) (by kernel_rfl) ?_
        repeat (first | (refine quiet_load_at TC (.tmp 46) rfl (by rfl) gx (j * 35) rfl F (fun w' hc => by obtain ⟨k, rfl⟩ := hc; exact hld k) ?_; simp only [Act.put, List.setIfInBounds_toArray, List.set_cons_zero, List.set_cons_succ]) | (refine quiet_load_at TC (.tmp 50) rfl (by rfl) gy (j * 35) rfl F (fun w' hc => by obtain ⟨k, rfl⟩ := hc; exact hldy k) ?_; simp only [Act.put, List.setIfInBounds_toArray, List.set_cons_zero, List.set_cons_succ]) | go_big_quiet_step (fail))
        refine wpQuiet_nil ?_
        intro _ hw'
        obtain ⟨nq, hw''⟩ := hw'
        subst hw''
        go_wp2_with fail
        go_roundw
        case rel => exact ⟨j + 1, nq0 + nq, hlt, by go_num, by first | rfl | rw [World.drewN_drewN] | simp⟩
        case measure => simp [intOf]; omega
      · obtain rfl : j = R.length := by omega
        have HBz := Aside0.mk (pw_below_drewN HB6.out nq0)
        clear HB6
        go_wp2_with (go_at_call 14; refine (awake_calls _).mono ?_; rintro e w9 ⟨rfl, hb⟩; have HB9 := Aside0.mk (below_step HBz.out hb); clear hb)
        go_ret
        exact ⟨rfl, HB9.out⟩
  · rw [decide_eq_false hfew] at HFW
    clear hfew
    go_enter Try.func4, Try.ntmps4
    go_wp2_with (first | (go_at_call 15; refine HFW.out.mono ?_; rintro e w1 ⟨rfl, hd⟩; have HB1 := Aside0.mk hd.below; clear hd) | (go_at_call 14; refine (awake_calls _).mono ?_; rintro e w2 ⟨rfl, hb⟩; have HB2 := Aside0.mk (HB1.out.trans (hb.mono HB1.out.size)); clear hb))
    go_ret
    exact ⟨rfl, HB2.out⟩
end Go.Proofs.Ytkcdlilglgfkaaa.PA
