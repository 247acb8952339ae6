/- stemmalaw11.RgaForks, walked. -/
import Derived.Test.YtkcdlilglgfkaaaRgFk
import Derived.Test.YtkcdlilglgfkaaaPAx15
import Derived.Deep.Slices
set_option linter.unusedVariables false
set_option linter.unusedSimpArgs false
namespace Go.Proofs.Ytkcdlilglgfkaaa.PA
open Go Go.RowKit Go.Proofs.YtkcdlilglgfkaaaW.PrintWords Go.Proofs.YtkcdlilglgfkaaaW.PrintLast Go.Proofs.YtkcdlilglgfkaaaW.PrintMore Go.Proofs.Ytkcdlilglgfkaaa.Ar Go.Proofs.Ytkcdlilglgfkaaa.Sha Go.Proofs.Ytkcdlilglgfkaaa.Rg
open Classical in
noncomputable def stemmalaw11_RgaForks.f (l m : List S46) : Option Bool := if (∀ x ∈ l, PutOk x) ∧ (∀ x ∈ m, PutOk x) then some true else none
set_option maxRecDepth 100000 in
set_option maxHeartbeats 8000000 in
theorem stemmalaw11_RgaForks.calls (A0 : Option Addr) (c0 : Nat) (l0 : List S46) (A1 : Option Addr) (c1 : Nat) (l1 : List S46) (r : Bool) (w : World) (hr0 : Kd.C k46 w A0 l0.length l0) (hc0 : l0.length ≤ c0) (hr1 : Kd.C k46 w A1 l1.length l1) (hc1 : l1.length ≤ c1) (hr_ : Aside0 (r = true)) (h : stemmalaw11_RgaForks.f l0 l1 = some r) :
    Calls Try.prog 9 #[.slice A0 l0.length c0, .slice A1 l1.length c1] w fun e w' => e = .returned (.bool r) ∧ Below w.heap.size w w' := by
  obtain ⟨rfl⟩ := hr_
  unfold stemmalaw11_RgaForks.f at h
  split at h
  case isFalse => cases h
  case isTrue hh =>
  have HX := Aside0.mk hh.1
  have HX1 := Aside0.mk hh.2
  have HR := Aside0.mk hr0
  have HR1 := Aside0.mk hr1
  have HFW := Aside0.mk (stemmalaw11_few.calls A0 c0 l0 _ w hr0 hc0 rfl)
  have HFW1 := Aside0.mk (fun W (hb : Below w.heap.size w W) => stemmalaw11_few.calls A1 c1 l1 _ W (Kd.C_below hr1 hb) hc1 rfl)
  have hmax : l0.length ≤ 9223372036854775807 := hr0.2.1
  have hmax1 : l1.length ≤ 9223372036854775807 := hr1.2.1
  have huP := Try.underlying46
  have hiP : (Try.prog.info? TP).map (·.size) = some 8 := by kernel_rfl
  clear h hh hr0 hc0 hr1 hc1
  by_cases hfew : (l0.length : Int) ≤ 120
  · rw [decide_eq_true hfew] at HFW
    have HN : Aside0 (l0.length ≤ 120) := ⟨by omega⟩
    clear hfew
    by_cases hfew1 : (l1.length : Int) ≤ 120
    · rw [decide_eq_true hfew1] at HFW1
      have HN1 : Aside0 (l1.length ≤ 120) := ⟨by omega⟩
      clear hfew1
      go_enter Try.func9, Try.ntmps9
      go_upto_region 5 with (first | (go_at_call 15; refine HFW.out.mono ?_; rintro e wz ⟨rfl, hd⟩; have HBz := Aside0.mk hd.below; clear hd) | (go_at_call 15; refine (HFW1.out _ HBz.out).mono ?_; rintro e w1 ⟨rfl, hd⟩; have HB1 := Aside0.mk (below_step HBz.out hd.below); clear hd) | (go_at_call 22; refine (New_calls _).mono ?_; rintro e w2 ⟨gr, gm, rfl, hR⟩; have HR2 := Aside0.mk hR; clear hR))
      have HPR := Aside0.mk (pr_new HR2.out)
      clear HR2 HFW HFW1 HBz
      generalize hg : w2.heap.size = g at *
      generalize w2.alloc (.cells #[.slice none 0 0] TE) = wa at *
      clear hg
      go_wp2_with fail
      go_loopw [7] (fun i wr => ∃ j : Nat, j ≤ l0.length ∧ i = .int .i64 j ∧ Aside0 (Pr w1 gr gm g j wr)) (fun i _ => l0.length - (intOf i).toNat)
      case atStart => exact ⟨0, by omega, rfl, HPR⟩
      case round =>
        clear HPR
        obtain ⟨j, hj, rfl, HW⟩ := hrel
        by_cases hlt : j < l0.length
        · obtain ⟨ad, x, he, hxe, hac⟩ := put_at46 HR.out j hlt
          subst he
          obtain ⟨A5, m5, c5, hG, -⟩ := HW.out.blk
          have HG := Aside0.mk hG
          have HXX := Aside0.mk (HX.out x (List.mem_of_getElem? hxe))
          have HAC : Aside0 (∀ W, Below w1.heap.size w1 W → ∀ (i : Nat) (y : Value), (pcells x)[i]? = some y → W.cell? ((ad.add (j * 8)).add i) = some y) := ⟨fun W hb i y hy => by
            rw [Go.Deep.add_add]
            exact pw_cell_below hb (pw_cell_below HB1.out (hac i y hy))⟩
          have HJ : Aside0 (j < 70000) := ⟨by have := HN.out; omega⟩
          clear hac hG hxe
          generalize hvr : (.slice A5 m5 c5 : Value) = vr at *
          clear hvr
          go_upto_region 8 with fail
          -- [putsF
          refine start_ (n := 11) (S := SPr g vr ad j x) (ds := [10]) #[false, false, false, false, false, false, false, false, false, false, false] (by kernel_rfl) rfl rfl ⟨(blk_cell (blk_below HG.out (pw_below_drewN (Below.refl _ _) 1)) 0).trans rfl, HAC.out _ (HW.out.step (pw_below_drewN (Below.refl wr.heap.size wr) 1)).below⟩ (fun hHeld => ?_)
          have HPd := Aside0.mk (HW.out.step (pw_below_drewN (Below.refl wr.heap.size wr) 1))
          have HGd := Aside0.mk (blk_below HG.out (pw_below_drewN (Below.refl wr.heap.size wr) 1))
          generalize hwd : wr.drewN 1 = wd at HPd HGd
          rw [show wr.drew = wd from hwd] at hHeld ⊢
          clear HW HG hwd
          refine pure_ (i := 0) (N := some 28) (v := ?_) (a' := ?_) #[true, false, false, false, false, false, false, false, false, false, false] rfl rfl (by kernel_rfl) (fun _ _ _ h => h) (Or.inl ⟨by rfl, ?_⟩) ?_ ?_
          rotate_left
          · intro w'
            go_simp
            with_reducible rfl
          rotate_left
          · simp only [Act.put, List.setIfInBounds_toArray, List.set_cons_zero, List.set_cons_succ, i64_w, i32_w]
            rfl
          refine take_ (i := 1) (N := some 29) (v := ?_) (a' := ?_) #[true, true, false, false, false, false, false, false, false, false, false] rfl rfl (by kernel_rfl) (fun _ _ _ h => h) (Or.inl ⟨by rfl, ?_⟩) hHeld ?_ ?_
          rotate_left
          · rintro w' ⟨s1, _⟩
            go_simp
            with_reducible rfl
          rotate_left
          · simp only [Act.put, List.setIfInBounds_toArray, List.set_cons_zero, List.set_cons_succ, i64_w, i32_w]
            rfl
          refine pure_ (i := 2) (N := some 30) (v := ?_) (a' := ?_) #[true, true, true, false, false, false, false, false, false, false, false] rfl rfl (by kernel_rfl) (fun _ _ _ h => h) (Or.inl ⟨by rfl, ?_⟩) ?_ ?_
          rotate_left
          · intro w'
            go_simp
            with_reducible rfl
          rotate_left
          · simp only [Act.put, List.setIfInBounds_toArray, List.set_cons_zero, List.set_cons_succ, i64_w, i32_w]
            rfl
          refine pure_ (i := 3) (N := some 31) (v := ?_) (a' := ?_) #[true, true, true, true, false, false, false, false, false, false, false] rfl rfl (by kernel_rfl) (fun _ _ _ h => h) (Or.inl ⟨by rfl, ?_⟩) ?_ ?_
          rotate_left
          · intro w'
            go_simp
            with_reducible rfl
          rotate_left
          · simp only [Act.put, List.setIfInBounds_toArray, List.set_cons_zero, List.set_cons_succ, i64_w, i32_w]
            rfl
          refine pure_ (i := 4) (N := some 32) (v := ?_) (a' := ?_) #[true, true, true, true, true, false, false, false, false, false, false] rfl rfl (by kernel_rfl) (fun _ _ _ h => h) (Or.inl ⟨by rfl, ?_⟩) ?_ ?_
          rotate_left
          · intro w'
            go_simp
            with_reducible rfl
          rotate_left
          · simp only [Act.put, List.setIfInBounds_toArray, List.set_cons_zero, List.set_cons_succ, i64_w, i32_w]
            rfl
          refine take_ (i := 5) (N := some 33) (v := .agg (pcells x).toArray) (a' := ?_) #[true, true, true, true, true, true, false, false, false, false, false] rfl rfl (by kernel_rfl) (fun _ _ _ h => h) (yields_load_add (by rfl) TP (.tmp 32) rfl (ad.add (j * 8)) rfl (pcells x) _ (fun w' hS => hS.2) huP rfl hiP) hHeld ?_ ?_
          rotate_left
          · simp only [Act.put, List.setIfInBounds_toArray, List.set_cons_zero, List.set_cons_succ, i64_w, i32_w]
            rfl
          refine one_ (i := 6) (N := some 34) #[true, true, true, true, true, true, true, false, false, false, false] rfl rfl (by kernel_rfl) (by decide) (fun K hK => ?_)
          refine goes_ Try.func23 (by kernel_rfl) rfl #[.pointer (some ⟨gr, 0, none⟩), .agg #[vr], .agg (pcells x).toArray] (by rfl) rfl rfl (by first | rfl | (simp only [List.map_toArray, List.map_cons, List.map_nil]; done) | (simp only [List.map_toArray, List.map_cons, List.map_nil]; rfl)) ?_
          refine (do_pr HPd.out HGd.out HJ.out x HXX.out).mono ?_
          rintro e5 w5 ⟨A6, m6, c6, rfl, hg5, hb5, hp5⟩
          refine ⟨_, rfl, ?_⟩
          have hS2 : SPr g vr ad j x w5 := ⟨(blk_cell hg5 0).trans rfl, HAC.out _ hb5⟩
          have HP5 := Aside0.mk hp5
          have HG5 := Aside0.mk hg5
          clear hg5 hb5 hp5 hHeld HPd HGd
          refine hK.out _ _ hS2 (fun hHeld => ?_)
          clear hK K hS2
          refine norm_ (a' := ?_) ?_ ?_
          rotate_left
          · show Act.put _ (some 34) _ = _
            simp only [Act.put, List.setIfInBounds_toArray, List.set_cons_zero, List.set_cons_succ, i64_w, i32_w]
            rfl
          refine pure_ (i := 7) (N := some 27) (v := ?_) (a' := ?_) #[true, true, true, true, true, true, true, true, false, false, false] rfl rfl (by kernel_rfl) (fun _ _ _ h => h) (Or.inl ⟨by rfl, ?_⟩) ?_ ?_
          rotate_left
          · intro w'
            go_simp
            with_reducible rfl
          rotate_left
          · simp only [Act.put, List.setIfInBounds_toArray, List.set_cons_zero, List.set_cons_succ, i64_w, i32_w]
            rfl
          refine pure_ (i := 8) (N := some 35) (v := ?_) (a' := ?_) #[true, true, true, true, true, true, true, true, true, false, false] rfl rfl (by kernel_rfl) (fun _ _ _ h => h) (Or.inl ⟨by rfl, ?_⟩) ?_ ?_
          rotate_left
          · intro w'
            go_simp
            with_reducible rfl
          rotate_left
          · simp only [Act.put, List.setIfInBounds_toArray, List.set_cons_zero, List.set_cons_succ, i64_w, i32_w]
            rfl
          refine pure_ (i := 9) (N := some 36) (v := ?_) (a' := ?_) #[true, true, true, true, true, true, true, true, true, true, false] rfl rfl (by kernel_rfl) (fun _ _ _ h => h) (Or.inl ⟨by rfl, ?_⟩) ?_ ?_
          rotate_left
          · intro w'
            go_simp
            with_reducible rfl
          rotate_left
          · simp only [Act.put, List.setIfInBounds_toArray, List.set_cons_zero, List.set_cons_succ, i64_w, i32_w]
            rfl
          refine last_ (i := 10) (N := none) #[true, true, true, true, true, true, true, true, true, true, true] rfl rfl (by kernel_rfl) (by decide) (fun K hK => ?_)
          have kc := hHeld.1
          have kf : w5.frozen? ⟨g, 0, none⟩ = false := blk_frozen HG5.out 0
          refine skip_ (w1 := w5.setCell ⟨g, 0, none⟩ (.slice A6 m6 c6)) (by rfl) rfl (by go_simp) ?_
          refine hK.out _ _ ?_
          clear hK K hHeld kc kf
          refine done_ (by kernel_rfl) ?_
          -- putsF]
          go_wp2_with fail
          go_roundw
          case rel => exact ⟨j + 1, hlt, by go_num, HP5⟩
          case measure => simp [intOf]; omega
        · obtain rfl : j = l0.length := by omega
          obtain ⟨L, M, v, vr, R, h1, h2, h3, h4, h5⟩ := HW.out.ex
          obtain ⟨A5, c5, rfl⟩ := Kd.R_slice h2
          have HFK := Aside0.mk (Fork_calls h1 (by have := h3.size; have := HN.out; omega))
          have HG := Aside0.mk h5
          have HEX := Aside0.mk (And.intro h2 (And.intro h3 h4))
          have k0 : wr.cell? ⟨g, 0, none⟩ = some (.slice A5 R.length c5) := (blk_cell h5 0).trans rfl
          clear h1 h2 h3 h4 h5
          go_upto_region 10 with (go_at_call 29; refine HFK.out.mono ?_; rintro e wf ⟨gr2, gm2, v2, rfl, hF⟩; have HF := Aside0.mk hF; clear hF)
          have hbf := HF.out.below
          have k1 := pw_cell_below hbf k0
          clear HFK k0
          have HP2 : Aside0 (Pr wr gr2 gm2 wf.heap.size (l0.length + 0) (wf.alloc (.cells #[.slice A5 R.length c5] TE))) := ⟨⟨⟨L, M, v2, _, R, HF.out.step (below_alloc (Below.refl _ _) _), ownD_below HEX.out.1 (below_step hbf (below_alloc (Below.refl _ _) _)), HEX.out.2.1, HEX.out.2.2, blk_new wf _⟩, hbf.size⟩⟩
          clear hbf HEX HF
          go_upto_region 13 with fail
          generalize hg2 : wf.heap.size = g2 at *
          generalize wf.alloc (.cells #[.slice A5 R.length c5] TE) = wc at *
          have HPW := Aside0.mk HW.out
          have HNL : Aside0 (l0.length ≤ 120) := HN
          clear HW HX HR HN
          generalize hnl : l0.length = nl at *
          generalize hvr1 : (.slice A5 R.length c5 : Value) = vr1 at *
          generalize wr = wb at *
          clear hvr1 hg2 hnl k1 hj hlt hmax
          go_wp2_with fail
          go_loopw [10] (fun i wr => ∃ j : Nat, j ≤ l1.length ∧ i = .int .i64 j ∧ Aside0 (Pr wb gr2 gm2 g2 (nl + j) wr)) (fun i _ => l1.length - (intOf i).toNat)
          case atStart => exact ⟨0, by omega, rfl, HP2⟩
          case round =>
            clear HP2
            obtain ⟨j, hj, rfl, HW⟩ := hrel
            by_cases hlt : j < l1.length
            · obtain ⟨ad, x, he, hxe, hac⟩ := put_at46 HR1.out j hlt
              subst he
              obtain ⟨A6, m6, c6, hG, -⟩ := HW.out.blk
              have HG1 := HG
              clear HG
              have HG := Aside0.mk hG
              have HXX := Aside0.mk (HX1.out x (List.mem_of_getElem? hxe))
              have HAC : Aside0 (∀ W, Below wb.heap.size wb W → ∀ (i : Nat) (y : Value), (pcells x)[i]? = some y → W.cell? ((ad.add (j * 8)).add i) = some y) := ⟨fun W hb i y hy => by
                rw [Go.Deep.add_add]
                exact pw_cell_below hb (pw_cell_below HPW.out.below (pw_cell_below HB1.out (hac i y hy)))⟩
              have HJ : Aside0 (nl + j < 70000) := ⟨by have := HNL.out; have := HN1.out; omega⟩
              clear hac hG hxe
              generalize hvr : (.slice A6 m6 c6 : Value) = vr at *
              clear hvr
              go_upto_region 16 with fail
              -- [putsG
              refine start_ (n := 11) (S := SPr g2 vr ad j x) (ds := [10]) #[false, false, false, false, false, false, false, false, false, false, false] (by kernel_rfl) rfl rfl ⟨(blk_cell (blk_below HG.out (pw_below_drewN (Below.refl _ _) 1)) 0).trans rfl, HAC.out _ (HW.out.step (pw_below_drewN (Below.refl wr.heap.size wr) 1)).below⟩ (fun hHeld => ?_)
              have HPd := Aside0.mk (HW.out.step (pw_below_drewN (Below.refl wr.heap.size wr) 1))
              have HGd := Aside0.mk (blk_below HG.out (pw_below_drewN (Below.refl wr.heap.size wr) 1))
              generalize hwd : wr.drewN 1 = wd at HPd HGd
              rw [show wr.drew = wd from hwd] at hHeld ⊢
              clear HW HG hwd
              refine pure_ (i := 0) (N := some 49) (v := ?_) (a' := ?_) #[true, false, false, false, false, false, false, false, false, false, false] rfl rfl (by kernel_rfl) (fun _ _ _ h => h) (Or.inl ⟨by rfl, ?_⟩) ?_ ?_
              rotate_left
              · intro w'
                go_simp
                with_reducible rfl
              rotate_left
              · simp only [Act.put, List.setIfInBounds_toArray, List.set_cons_zero, List.set_cons_succ, i64_w, i32_w]
                rfl
              refine take_ (i := 1) (N := some 50) (v := ?_) (a' := ?_) #[true, true, false, false, false, false, false, false, false, false, false] rfl rfl (by kernel_rfl) (fun _ _ _ h => h) (Or.inl ⟨by rfl, ?_⟩) hHeld ?_ ?_
              rotate_left
              · rintro w' ⟨s1, _⟩
                go_simp
                with_reducible rfl
              rotate_left
              · simp only [Act.put, List.setIfInBounds_toArray, List.set_cons_zero, List.set_cons_succ, i64_w, i32_w]
                rfl
              refine pure_ (i := 2) (N := some 51) (v := ?_) (a' := ?_) #[true, true, true, false, false, false, false, false, false, false, false] rfl rfl (by kernel_rfl) (fun _ _ _ h => h) (Or.inl ⟨by rfl, ?_⟩) ?_ ?_
              rotate_left
              · intro w'
                go_simp
                with_reducible rfl
              rotate_left
              · simp only [Act.put, List.setIfInBounds_toArray, List.set_cons_zero, List.set_cons_succ, i64_w, i32_w]
                rfl
              refine pure_ (i := 3) (N := some 52) (v := ?_) (a' := ?_) #[true, true, true, true, false, false, false, false, false, false, false] rfl rfl (by kernel_rfl) (fun _ _ _ h => h) (Or.inl ⟨by rfl, ?_⟩) ?_ ?_
              rotate_left
              · intro w'
                go_simp
                with_reducible rfl
              rotate_left
              · simp only [Act.put, List.setIfInBounds_toArray, List.set_cons_zero, List.set_cons_succ, i64_w, i32_w]
                rfl
              refine pure_ (i := 4) (N := some 53) (v := ?_) (a' := ?_) #[true, true, true, true, true, false, false, false, false, false, false] rfl rfl (by kernel_rfl) (fun _ _ _ h => h) (Or.inl ⟨by rfl, ?_⟩) ?_ ?_
              rotate_left
              · intro w'
                go_simp
                with_reducible rfl
              rotate_left
              · simp only [Act.put, List.setIfInBounds_toArray, List.set_cons_zero, List.set_cons_succ, i64_w, i32_w]
                rfl
              refine take_ (i := 5) (N := some 54) (v := .agg (pcells x).toArray) (a' := ?_) #[true, true, true, true, true, true, false, false, false, false, false] rfl rfl (by kernel_rfl) (fun _ _ _ h => h) (yields_load_add (by rfl) TP (.tmp 53) rfl (ad.add (j * 8)) rfl (pcells x) _ (fun w' hS => hS.2) huP rfl hiP) hHeld ?_ ?_
              rotate_left
              · simp only [Act.put, List.setIfInBounds_toArray, List.set_cons_zero, List.set_cons_succ, i64_w, i32_w]
                rfl
              refine one_ (i := 6) (N := some 55) #[true, true, true, true, true, true, true, false, false, false, false] rfl rfl (by kernel_rfl) (by decide) (fun K hK => ?_)
              refine goes_ Try.func23 (by kernel_rfl) rfl #[.pointer (some ⟨gr2, 0, none⟩), .agg #[vr], .agg (pcells x).toArray] (by rfl) rfl rfl (by first | rfl | (simp only [List.map_toArray, List.map_cons, List.map_nil]; done) | (simp only [List.map_toArray, List.map_cons, List.map_nil]; rfl)) ?_
              refine (do_pr HPd.out HGd.out HJ.out x HXX.out).mono ?_
              rintro e5 w5 ⟨A6, m6, c6, rfl, hg5, hb5, hp5⟩
              refine ⟨_, rfl, ?_⟩
              have hS2 : SPr g2 vr ad j x w5 := ⟨(blk_cell hg5 0).trans rfl, HAC.out _ hb5⟩
              have HP5 := Aside0.mk hp5
              have HG5 := Aside0.mk hg5
              clear hg5 hb5 hp5 hHeld HPd HGd
              refine hK.out _ _ hS2 (fun hHeld => ?_)
              clear hK K hS2
              refine norm_ (a' := ?_) ?_ ?_
              rotate_left
              · show Act.put _ (some 55) _ = _
                simp only [Act.put, List.setIfInBounds_toArray, List.set_cons_zero, List.set_cons_succ, i64_w, i32_w]
                rfl
              refine pure_ (i := 7) (N := some 48) (v := ?_) (a' := ?_) #[true, true, true, true, true, true, true, true, false, false, false] rfl rfl (by kernel_rfl) (fun _ _ _ h => h) (Or.inl ⟨by rfl, ?_⟩) ?_ ?_
              rotate_left
              · intro w'
                go_simp
                with_reducible rfl
              rotate_left
              · simp only [Act.put, List.setIfInBounds_toArray, List.set_cons_zero, List.set_cons_succ, i64_w, i32_w]
                rfl
              refine pure_ (i := 8) (N := some 56) (v := ?_) (a' := ?_) #[true, true, true, true, true, true, true, true, true, false, false] rfl rfl (by kernel_rfl) (fun _ _ _ h => h) (Or.inl ⟨by rfl, ?_⟩) ?_ ?_
              rotate_left
              · intro w'
                go_simp
                with_reducible rfl
              rotate_left
              · simp only [Act.put, List.setIfInBounds_toArray, List.set_cons_zero, List.set_cons_succ, i64_w, i32_w]
                rfl
              refine pure_ (i := 9) (N := some 57) (v := ?_) (a' := ?_) #[true, true, true, true, true, true, true, true, true, true, false] rfl rfl (by kernel_rfl) (fun _ _ _ h => h) (Or.inl ⟨by rfl, ?_⟩) ?_ ?_
              rotate_left
              · intro w'
                go_simp
                with_reducible rfl
              rotate_left
              · simp only [Act.put, List.setIfInBounds_toArray, List.set_cons_zero, List.set_cons_succ, i64_w, i32_w]
                rfl
              refine last_ (i := 10) (N := none) #[true, true, true, true, true, true, true, true, true, true, true] rfl rfl (by kernel_rfl) (by decide) (fun K hK => ?_)
              have kc := hHeld.1
              have kf : w5.frozen? ⟨g2, 0, none⟩ = false := blk_frozen HG5.out 0
              refine skip_ (w1 := w5.setCell ⟨g2, 0, none⟩ (.slice A6 m6 c6)) (by rfl) rfl (by go_simp) ?_
              refine hK.out _ _ ?_
              clear hK K hHeld kc kf
              refine done_ (by kernel_rfl) ?_
              -- putsG]
              go_wp2_with fail
              go_roundw
              case rel => exact ⟨j + 1, hlt, by go_num, HP5⟩
              case measure => simp [intOf]; omega
            · obtain rfl : j = l1.length := by omega
              obtain ⟨A6, m6, c6, hG, -⟩ := HW.out.blk
              have HG2 := Aside0.mk hG
              have HN2 : Aside0 (nl + l1.length < 70000) := ⟨by have := HNL.out; have := HN1.out; omega⟩
              have HN3 : Aside0 (nl < 70000) := ⟨by have := HNL.out; omega⟩
              have HPe := Aside0.mk (HPW.out.step HW.out.below)
              have HGe := Aside0.mk (blk_below HG.out HW.out.below)
              generalize hvr : (.slice A6 m6 c6 : Value) = vr at *
              have k9 : wr.cell? ⟨g2, 0, none⟩ = some vr := (blk_cell HG2.out 0).trans rfl
              clear hG hvr HPW HG
              have HS1 := Aside0.mk (same_pr HW.out HG2.out HN2.out)
              clear HR1 HX1 huP hiP HN1 HNL HN2 hmax1 hlt hj HW HG2
              go_wp2_with fail
              refine calls_of_args (by rfl) (HS1.out.mono ?_)
              rintro e w7 ⟨rfl, hb⟩
              have HP7 := Aside0.mk (HPe.out.step hb)
              have HG7 := Aside0.mk (blk_below HGe.out hb)
              have k7 : w7.cell? ⟨g, 0, none⟩ = some vr1 := (blk_cell HG7.out 0).trans rfl
              clear hb HPe HGe k9 HS1
              have HS2 := Aside0.mk (same_pr HP7.out HG7.out HN3.out)
              go_wp2_with fail
              refine calls_of_args (by rfl) (HS2.out.mono ?_)
              rintro e w8 ⟨rfl, hb⟩
              have HP8 := Aside0.mk (HP7.out.step hb)
              clear hb HP7 HG7 k7 HS2 HN3
              go_wp2_with fail
              refine calls_of_args (by rfl) ((awake_calls _).mono ?_)
              rintro e w9 ⟨rfl, hb⟩
              have HP9 := Aside0.mk (HP8.out.step hb)
              clear hb HP8
              go_wp2_with fail
              go_ret
              exact ⟨rfl, HB1.out.trans (HP9.out.below.mono HB1.out.size)⟩
    · rw [decide_eq_false hfew1] at HFW1
      clear hfew1
      go_enter Try.func9, Try.ntmps9
      go_wp2_with (first | (go_at_call 15; refine HFW.out.mono ?_; rintro e wz ⟨rfl, hd⟩; have HBz := Aside0.mk hd.below; clear hd) | (go_at_call 15; refine (HFW1.out _ HBz.out).mono ?_; rintro e w1 ⟨rfl, hd⟩; have HB1 := Aside0.mk (below_step HBz.out hd.below); clear hd) | (go_at_call 14; refine (awake_calls _).mono ?_; rintro e w2 ⟨rfl, hb⟩; have HB2 := Aside0.mk (below_step HB1.out hb); clear hb))
      go_ret
      exact ⟨rfl, HB2.out⟩
  · rw [decide_eq_false hfew] at HFW
    clear hfew
    go_enter Try.func9, Try.ntmps9
    go_wp2_with (first | (go_at_call 15; refine HFW.out.mono ?_; rintro e w1 ⟨rfl, hd⟩; have HB1 := Aside0.mk hd.below; clear hd) | (go_at_call 14; refine (awake_calls _).mono ?_; rintro e w2 ⟨rfl, hb⟩; have HB2 := Aside0.mk (below_step HB1.out hb); clear hb))
    go_ret
    exact ⟨rfl, HB2.out⟩
end Go.Proofs.Ytkcdlilglgfkaaa.PA
