/- stemmalaw11.RgaPlaces, walked. -/
import Derived.Test.YtkcdlilglgfkaaaRgEn
import Derived.Test.YtkcdlilglgfkaaaPAx15
import Derived.Deep.Slices
set_option linter.unusedVariables false
set_option linter.unusedSimpArgs false
namespace Go.Proofs.Ytkcdlilglgfkaaa.PA
open Go Go.RowKit Go.Proofs.YtkcdlilglgfkaaaW.PrintWords Go.Proofs.YtkcdlilglgfkaaaW.PrintLast Go.Proofs.YtkcdlilglgfkaaaW.PrintMore Go.Proofs.Ytkcdlilglgfkaaa.Ar Go.Proofs.Ytkcdlilglgfkaaa.Sha Go.Proofs.Ytkcdlilglgfkaaa.Rg
open Classical in
noncomputable def stemmalaw11_RgaPlaces.f (l : List S46) : Option Bool := if (∀ x ∈ l, PutOk x) then some true else none
set_option maxRecDepth 100000 in
set_option maxHeartbeats 8000000 in
theorem stemmalaw11_RgaPlaces.calls (A0 : Option Addr) (c0 : Nat) (l0 : List S46) (r : Bool) (w : World) (hr0 : Kd.C k46 w A0 l0.length l0) (hc0 : l0.length ≤ c0) (hr_ : Aside0 (r = true)) (h : stemmalaw11_RgaPlaces.f l0 = some r) :
    Calls Try.prog 6 #[.slice A0 l0.length c0] w fun e w' => e = .returned (.bool r) ∧ Below w.heap.size w w' := by
  obtain ⟨rfl⟩ := hr_
  unfold stemmalaw11_RgaPlaces.f at h
  split at h
  case isFalse => cases h
  case isTrue hh =>
  have HX := Aside0.mk hh
  have HR := Aside0.mk hr0
  have HFW := Aside0.mk (stemmalaw11_few.calls A0 c0 l0 _ w hr0 hc0 rfl)
  have hmax : l0.length ≤ 9223372036854775807 := hr0.2.1
  have huP := Try.underlying46
  have hiP : (Try.prog.info? TP).map (·.size) = some 8 := by kernel_rfl
  have huI := Try.underlying28
  have huF := Try.underlying26
  clear h hh hr0 hc0
  by_cases hfew : (l0.length : Int) ≤ 120
  · rw [decide_eq_true hfew] at HFW
    have HN : Aside0 (l0.length ≤ 120) := ⟨by omega⟩
    clear hfew
    go_enter Try.func6, Try.ntmps6
    go_upto_region 5 with (first | (go_at_call 15; refine HFW.out.mono ?_; rintro e w1 ⟨rfl, hd⟩; have HB1 := Aside0.mk hd.below; clear hd) | (go_at_call 22; refine (New_calls _).mono ?_; rintro e w2 ⟨gr, gm, rfl, hR⟩; have HR2 := Aside0.mk hR; clear hR))
    have HPR := Aside0.mk (pr_new HR2.out)
    clear HR2 HFW
    generalize hg : w2.heap.size = g at *
    generalize w2.alloc (.cells #[.slice none 0 0] TE) = wa at *
    clear hg
    go_wp2_with fail
    go_loopw [5] (fun i wr => ∃ j : Nat, j ≤ l0.length ∧ i = .int .i64 j ∧ Aside0 (Pr w1 gr gm g j wr)) (fun i _ => l0.length - (intOf i).toNat)
    case atStart => exact ⟨0, by omega, rfl, HPR⟩
    case round =>
      clear HPR
      obtain ⟨j, hj, rfl, HW⟩ := hrel
      by_cases hlt : j < l0.length
      · obtain ⟨ad, x, he, hxe, hac⟩ := put_at46 HR.out j hlt
        subst he
        obtain ⟨A5, m5, c5, hG, -⟩ := HW.out.blk
        have HG := Aside0.mk hG
        have HXX := Aside0.mk (HX.out x (List.mem_of_getElem? hxe))
        have HAC : Aside0 (∀ W, Below w1.heap.size w1 W → ∀ (i : Nat) (y : Value), (pcells x)[i]? = some y → W.cell? ((ad.add (j * 8)).add i) = some y) := ⟨fun W hb i y hy => by
          rw [Go.Deep.add_add]
          exact pw_cell_below hb (pw_cell_below HB1.out (hac i y hy))⟩
        have HJ : Aside0 (j < 70000) := ⟨by have := HN.out; omega⟩
        clear hac hG hxe
        generalize hvr : (.slice A5 m5 c5 : Value) = vr at *
        clear hvr
        go_upto_region 8 with fail
        -- [putsP
        refine start_ (n := 11) (S := SPr g vr ad j x) (ds := [10]) #[false, false, false, false, false, false, false, false, false, false, false] (by kernel_rfl) rfl rfl ⟨(blk_cell (blk_below HG.out (pw_below_drewN (Below.refl _ _) 1)) 0).trans rfl, HAC.out _ (HW.out.step (pw_below_drewN (Below.refl wr.heap.size wr) 1)).below⟩ (fun hHeld => ?_)
        have HPd := Aside0.mk (HW.out.step (pw_below_drewN (Below.refl wr.heap.size wr) 1))
        have HGd := Aside0.mk (blk_below HG.out (pw_below_drewN (Below.refl wr.heap.size wr) 1))
        generalize hwd : wr.drewN 1 = wd at HPd HGd
        rw [show wr.drew = wd from hwd] at hHeld ⊢
        clear HW HG hwd
        refine pure_ (i := 0) (N := some 23) (v := ?_) (a' := ?_) #[true, false, false, false, false, false, false, false, false, false, false] rfl rfl (by kernel_rfl) (fun _ _ _ h => h) (Or.inl ⟨by rfl, ?_⟩) ?_ ?_
        rotate_left
        · intro w'
          go_simp
          with_reducible rfl
        rotate_left
        · simp only [Act.put, List.setIfInBounds_toArray, List.set_cons_zero, List.set_cons_succ, i64_w, i32_w]
          rfl
        refine take_ (i := 1) (N := some 24) (v := ?_) (a' := ?_) #[true, true, false, false, false, false, false, false, false, false, false] rfl rfl (by kernel_rfl) (fun _ _ _ h => h) (Or.inl ⟨by rfl, ?_⟩) hHeld ?_ ?_
        rotate_left
        · rintro w' ⟨s1, _⟩
          go_simp
          with_reducible rfl
        rotate_left
        · simp only [Act.put, List.setIfInBounds_toArray, List.set_cons_zero, List.set_cons_succ, i64_w, i32_w]
          rfl
        refine pure_ (i := 2) (N := some 25) (v := ?_) (a' := ?_) #[true, true, true, false, false, false, false, false, false, false, false] rfl rfl (by kernel_rfl) (fun _ _ _ h => h) (Or.inl ⟨by rfl, ?_⟩) ?_ ?_
        rotate_left
        · intro w'
          go_simp
          with_reducible rfl
        rotate_left
        · simp only [Act.put, List.setIfInBounds_toArray, List.set_cons_zero, List.set_cons_succ, i64_w, i32_w]
          rfl
        refine pure_ (i := 3) (N := some 26) (v := ?_) (a' := ?_) #[true, true, true, true, false, false, false, false, false, false, false] rfl rfl (by kernel_rfl) (fun _ _ _ h => h) (Or.inl ⟨by rfl, ?_⟩) ?_ ?_
        rotate_left
        · intro w'
          go_simp
          with_reducible rfl
        rotate_left
        · simp only [Act.put, List.setIfInBounds_toArray, List.set_cons_zero, List.set_cons_succ, i64_w, i32_w]
          rfl
        refine pure_ (i := 4) (N := some 27) (v := ?_) (a' := ?_) #[true, true, true, true, true, false, false, false, false, false, false] rfl rfl (by kernel_rfl) (fun _ _ _ h => h) (Or.inl ⟨by rfl, ?_⟩) ?_ ?_
        rotate_left
        · intro w'
          go_simp
          with_reducible rfl
        rotate_left
        · simp only [Act.put, List.setIfInBounds_toArray, List.set_cons_zero, List.set_cons_succ, i64_w, i32_w]
          rfl
        refine take_ (i := 5) (N := some 28) (v := .agg (pcells x).toArray) (a' := ?_) #[true, true, true, true, true, true, false, false, false, false, false] rfl rfl (by kernel_rfl) (fun _ _ _ h => h) (yields_load_add (by rfl) TP (.tmp 27) rfl (ad.add (j * 8)) rfl (pcells x) _ (fun w' hS => hS.2) huP rfl hiP) hHeld ?_ ?_
        rotate_left
        · simp only [Act.put, List.setIfInBounds_toArray, List.set_cons_zero, List.set_cons_succ, i64_w, i32_w]
          rfl
        refine one_ (i := 6) (N := some 29) #[true, true, true, true, true, true, true, false, false, false, false] rfl rfl (by kernel_rfl) (by decide) (fun K hK => ?_)
        refine goes_ Try.func23 (by kernel_rfl) rfl #[.pointer (some ⟨gr, 0, none⟩), .agg #[vr], .agg (pcells x).toArray] (by rfl) rfl rfl (by first | rfl | (simp only [List.map_toArray, List.map_cons, List.map_nil]; done) | (simp only [List.map_toArray, List.map_cons, List.map_nil]; rfl)) ?_
        refine (do_pr HPd.out HGd.out HJ.out x HXX.out).mono ?_
        rintro e5 w5 ⟨A6, m6, c6, rfl, hg5, hb5, hp5⟩
        refine ⟨_, rfl, ?_⟩
        have hS2 : SPr g vr ad j x w5 := ⟨(blk_cell hg5 0).trans rfl, HAC.out _ hb5⟩
        have HP5 := Aside0.mk hp5
        have HG5 := Aside0.mk hg5
        clear hg5 hb5 hp5 hHeld HPd HGd
        refine hK.out _ _ hS2 (fun hHeld => ?_)
        clear hK K hS2
        refine norm_ (a' := ?_) ?_ ?_
        rotate_left
        · show Act.put _ (some 29) _ = _
          simp only [Act.put, List.setIfInBounds_toArray, List.set_cons_zero, List.set_cons_succ, i64_w, i32_w]
          rfl
        refine pure_ (i := 7) (N := some 22) (v := ?_) (a' := ?_) #[true, true, true, true, true, true, true, true, false, false, false] rfl rfl (by kernel_rfl) (fun _ _ _ h => h) (Or.inl ⟨by rfl, ?_⟩) ?_ ?_
        rotate_left
        · intro w'
          go_simp
          with_reducible rfl
        rotate_left
        · simp only [Act.put, List.setIfInBounds_toArray, List.set_cons_zero, List.set_cons_succ, i64_w, i32_w]
          rfl
        refine pure_ (i := 8) (N := some 30) (v := ?_) (a' := ?_) #[true, true, true, true, true, true, true, true, true, false, false] rfl rfl (by kernel_rfl) (fun _ _ _ h => h) (Or.inl ⟨by rfl, ?_⟩) ?_ ?_
        rotate_left
        · intro w'
          go_simp
          with_reducible rfl
        rotate_left
        · simp only [Act.put, List.setIfInBounds_toArray, List.set_cons_zero, List.set_cons_succ, i64_w, i32_w]
          rfl
        refine pure_ (i := 9) (N := some 31) (v := ?_) (a' := ?_) #[true, true, true, true, true, true, true, true, true, true, false] rfl rfl (by kernel_rfl) (fun _ _ _ h => h) (Or.inl ⟨by rfl, ?_⟩) ?_ ?_
        rotate_left
        · intro w'
          go_simp
          with_reducible rfl
        rotate_left
        · simp only [Act.put, List.setIfInBounds_toArray, List.set_cons_zero, List.set_cons_succ, i64_w, i32_w]
          rfl
        refine last_ (i := 10) (N := none) #[true, true, true, true, true, true, true, true, true, true, true] rfl rfl (by kernel_rfl) (by decide) (fun K hK => ?_)
        have kc := hHeld.1
        have kf : w5.frozen? ⟨g, 0, none⟩ = false := blk_frozen HG5.out 0
        refine skip_ (w1 := w5.setCell ⟨g, 0, none⟩ (.slice A6 m6 c6)) (by rfl) rfl (by go_simp) ?_
        refine hK.out _ _ ?_
        clear hK K hHeld kc kf
        refine done_ (by kernel_rfl) ?_
        -- putsP]
        go_wp2_with fail
        go_roundw
        case rel => exact ⟨j + 1, hlt, by go_num, HP5⟩
        case measure => simp [intOf]; omega
      · obtain rfl : j = l0.length := by omega
        obtain ⟨A5, m5, c5, hG, hm5⟩ := HW.out.blk
        have HM5 : Aside0 (m5 ≤ 120) := ⟨by have := HN.out; omega⟩
        have HZI := Aside0.mk zero_id
        have HZF := Aside0.mk zero_ref
        have HZs : Aside0 ((iv z0).toArray.size = 33) := ⟨rfl⟩
        obtain ⟨Z, hZ⟩ : ∃ Z, (iv z0).toArray = Z := ⟨_, rfl⟩
        rw [hZ] at HZI HZF HZs
        have HWG := Aside0.mk (And.intro HW.out hG)
        clear HW hG hm5 hZ
        have hm120 : (m5 : Int) ≤ 120 := by have := HM5.out; omega
        clear HM5
        have HNL : Aside0 (l0.length < 70000) := ⟨by have := HN.out; omega⟩
        generalize hnl : l0.length = nl at *
        clear hnl hj hlt hmax HN
        go_wp2_with fail
        go_loopw [6] (fun i wr => ∃ q : Nat, q ≤ m5 + 2 ∧ i = .int .i64 ((q : Int) - 1) ∧ Aside0 (Pr w1 gr gm g nl wr ∧ wr.heap[g]? = some (.cells #[.slice A5 m5 c5] TE (0, 0)))) (fun i _ => m5 + 2 - (intOf i + 1).toNat)
        case atStart => exact ⟨0, by omega, rfl, HWG⟩
        case round =>
          clear HWG
          obtain ⟨q, hq, rfl, HW⟩ := hrel
          have k0 : wr.cell? ⟨g, 0, none⟩ = some (.slice A5 m5 c5) := (blk_cell HW.out.2 0).trans rfl
          by_cases hlt : q ≤ m5 + 1
          · obtain ⟨K, b, hK, HAT, HRAT⟩ := at_pr HW.out.1 HW.out.2 HNL.out ((q : Int) - 1) ((wf_iff _).2 (by omega))
            have t1 : decide ((q : Int) - 1 ≤ (m5 : Int)) = true := decide_eq_true (by omega)
            have t2 : ((q : Int) - 1 ≤ (m5 : Int)) = True := eq_true (by omega)
            have HAT := Aside0.mk HAT
            have HRAT := Aside0.mk HRAT
            have HG := Aside0.mk HW.out.2
            have HK1 : Aside0 ((iv K).toArray.all (·.oneCell') = true) := ⟨iv_all K⟩
            have HKs : Aside0 ((iv K).toArray.size = 33) := ⟨by rw [List.size_toArray, iv_len hK]⟩
            have HSI : Aside0 ((Try.prog.info? TI).map (·.size) = some (iv K).length) := ⟨by rw [iv_len hK]; exact size_id⟩
            have HSF : Aside0 ((Try.prog.info? TF).map (·.size) = some (iv K).length) := ⟨by rw [iv_len hK]; exact size_ref⟩
            have HOW := Aside0.mk (fun W => own_calls W K hK)
            have heq := fun W => run_eqId W K K hK hK
            rw [decide_eq_true rfl] at heq
            generalize iv K = KI at *
            clear hK
            go_upto_region 13 with (first | (go_at_call 24; refine (HAT.out _ (Below.refl _ _)).mono ?_; rintro e w3 ⟨rfl, hb⟩; have HB3 := Aside0.mk hb; clear hb) | ((with_reducible refine gate_ (Op.alloc TI) rfl ?_); refine wpList_alloc_as rfl TI rfl Z HZI.out ?_) | ((with_reducible refine gate_ (Op.store TI (.tmp 7) (.tmp 43)) rfl ?_); refine wpList_store_at rfl TI (.tmp 7) (.tmp 43) rfl w3.heap.size 0 KI.toArray rfl rfl TI Z (blk_new w3 _) (by rw [HKs.out, HZs.out]; decide) (by rw [HKs.out]; exact size_id) HK1.out ?_; rw [splice_all _ _ (by rw [Array.length_toList, Array.length_toList, HKs.out, HZs.out]), Array.toArray_toList]))
            have hb4 : Below wr.heap.size wr ((w3.alloc (.cells Z TI)).setRow w3.heap.size KI.toArray) := below_setRow (below_alloc HB3.out _) HB3.out.size _
            have HB4 := Aside0.mk hb4
            have HX4 : Aside0 (((w3.alloc (.cells Z TI)).setRow w3.heap.size KI.toArray).heap[w3.heap.size]? = some (.cells KI.toArray TI (0, 0))) := ⟨blk_row (blk_new w3 _) _⟩
            have k1 := (pw_cell_below hb4 k0)
            clear HB3 hb4 k0 HAT
            generalize (w3.alloc (.cells Z TI)).setRow w3.heap.size KI.toArray = w4 at *
            generalize w3.heap.size = gx at *
            go_upto_region 14 with (first | (go_at_call 25; refine (HRAT.out _ HB4.out).mono ?_; rintro e w5 ⟨rfl, hb⟩; have HB5 := Aside0.mk hb; clear hb) | ((with_reducible refine gate_ (Op.alloc TF) rfl ?_); refine wpList_alloc_as rfl TF rfl Z HZF.out ?_) | ((with_reducible refine gate_ (Op.store TF (.tmp 9) (.tmp 49)) rfl ?_); refine wpList_store_at rfl TF (.tmp 9) (.tmp 49) rfl w5.heap.size 0 KI.toArray rfl rfl TF Z (blk_new w5 _) (by rw [HKs.out, HZs.out]; decide) (by rw [HKs.out]; exact size_ref) HK1.out ?_; rw [splice_all _ _ (by rw [Array.length_toList, Array.length_toList, HKs.out, HZs.out]), Array.toArray_toList]))
            have hb6 : Below w4.heap.size w4 ((w5.alloc (.cells Z TF)).setRow w5.heap.size KI.toArray) := below_setRow (below_alloc HB5.out _) HB5.out.size _
            have HY6 : Aside0 (((w5.alloc (.cells Z TF)).setRow w5.heap.size KI.toArray).heap[w5.heap.size]? = some (.cells KI.toArray TF (0, 0))) := ⟨blk_row (blk_new w5 _) _⟩
            have hb7 := below_step HB4.out hb6
            have HE : Aside0 (En g (.slice A5 m5 c5) gx w5.heap.size KI w1 gr gm nl ((w5.alloc (.cells Z TF)).setRow w5.heap.size KI.toArray)) := ⟨HW.out.1.step hb7, blk_below HG.out hb7, blk_below HX4.out hb6, HY6.out⟩
            clear HB4 HB5 HX4 HY6 hb6 hb7 HRAT HW HG k1 t1 t2
            generalize (w5.alloc (.cells Z TF)).setRow w5.heap.size KI.toArray = w6 at *
            generalize w5.heap.size = gy at *
            generalize w6 = w5 at *
            generalize hvr : (.slice A5 m5 c5 : Value) = vr at *
            -- [held
            refine start_ (n := 9) (S := SEn g vr gx gy KI w1 gr gm nl) (ds := []) #[false, false, false, false, false, false, false, false, false] (by kernel_rfl) rfl rfl (sen_of (HE.out.step (pw_below_drewN (Below.refl _ _) 1))) (fun hHeld => ?_)
            generalize w5.drew = wd at hHeld ⊢
            clear HE
            refine take_ (i := 0) (N := some 51) (v := .agg KI.toArray) (a' := ?_) #[true, false, false, false, false, false, false, false, false] rfl rfl (by kernel_rfl) (fun _ _ _ h => h) (yieldsIf_load_mid (by rfl) TI (.tmp 7) rfl gx 0 rfl KI _ (fun w' hS => hS.2.1) huI rfl HSI.out) hHeld ?_ ?_
            rotate_left
            · simp only [Act.put, List.setIfInBounds_toArray, List.set_cons_zero, List.set_cons_succ, i64_w, i32_w]
              rfl
            refine take_ (i := 1) (N := some 52) (v := .agg KI.toArray) (a' := ?_) #[true, true, false, false, false, false, false, false, false] rfl rfl (by kernel_rfl) (fun _ _ _ h => h) (yieldsIf_load_mid (by rfl) TF (.tmp 9) rfl gy 0 rfl KI _ (fun w' hS => hS.2.2.1) huF rfl HSF.out) hHeld ?_ ?_
            rotate_left
            · simp only [Act.put, List.setIfInBounds_toArray, List.set_cons_zero, List.set_cons_succ, i64_w, i32_w]
              rfl
            refine one_ (i := 2) (N := some 53) #[true, true, true, false, false, false, false, false, false] rfl rfl (by kernel_rfl) (by decide) (fun K hK => ?_)
            refine goes_ Try.func12 (by kernel_rfl) rfl #[.agg KI.toArray] (by rfl) rfl rfl (by first | rfl | (simp only [List.map_toArray, List.map_cons, List.map_nil]; done) | (simp only [List.map_toArray, List.map_cons, List.map_nil]; rfl)) ?_
            refine (HOW.out _).mono ?_
            rintro e w4 ⟨rfl, hb⟩
            refine ⟨_, rfl, ?_⟩
            have hS2 := sen_of (hHeld.2.2.2.out.step hb)
            clear hb hHeld
            refine hK.out _ _ hS2 (fun hHeld => ?_)
            clear hK K hS2
            refine norm_ (a' := ?_) ?_ ?_
            rotate_left
            · show Act.put _ (some 53) _ = _
              simp only [Act.put, List.setIfInBounds_toArray, List.set_cons_zero, List.set_cons_succ, i64_w, i32_w]
              rfl
            refine pure_ (i := 3) (N := some 54) (v := .bool false) (a' := ?_) #[true, true, true, true, false, false, false, false, false] rfl rfl (by kernel_rfl) (fun _ _ _ h => h) (Or.inl ⟨by rfl, ?_⟩) ?_ ?_
            · intro w'
              have := heq w'
              go_simp
              try simp
            rotate_left
            · simp only [Act.put, List.setIfInBounds_toArray, List.set_cons_zero, List.set_cons_succ, i64_w, i32_w]
              rfl
            refine pure_ (i := 4) (N := some 55) (v := ?_) (a' := ?_) #[true, true, true, true, true, false, false, false, false] rfl rfl (by kernel_rfl) (fun _ _ _ h => h) (Or.inl ⟨by rfl, ?_⟩) ?_ ?_
            rotate_left
            · intro w'
              go_simp
              with_reducible rfl
            rotate_left
            · simp only [Act.put, List.setIfInBounds_toArray, List.set_cons_zero, List.set_cons_succ, i64_w, i32_w]
              rfl
            refine pure_ (i := 5) (N := some 56) (v := ?_) (a' := ?_) #[true, true, true, true, true, true, false, false, false] rfl rfl (by kernel_rfl) (fun _ _ _ h => h) (Or.inl ⟨by rfl, ?_⟩) ?_ ?_
            rotate_left
            · intro w'
              go_simp
              with_reducible rfl
            rotate_left
            · simp only [Act.put, List.setIfInBounds_toArray, List.set_cons_zero, List.set_cons_succ, i64_w, i32_w]
              rfl
            refine pure_ (i := 6) (N := some 57) (v := ?_) (a' := ?_) #[true, true, true, true, true, true, true, false, false] rfl rfl (by kernel_rfl) (fun _ _ _ h => h) (Or.inl ⟨by rfl, ?_⟩) ?_ ?_
            rotate_left
            · intro w'
              go_simp
              with_reducible rfl
            rotate_left
            · simp only [Act.put, List.setIfInBounds_toArray, List.set_cons_zero, List.set_cons_succ, i64_w, i32_w]
              rfl
            refine pure_ (i := 7) (N := some 58) (v := .bool false) (a' := ?_) #[true, true, true, true, true, true, true, true, false] rfl rfl (by kernel_rfl) (fun _ _ _ h => h) (Or.inl ⟨by rfl, ?_⟩) ?_ ?_
            · intro w'
              go_simp
              try simp
            rotate_left
            · simp only [Act.put, List.setIfInBounds_toArray, List.set_cons_zero, List.set_cons_succ, i64_w, i32_w]
              rfl
            refine pure_ (i := 8) (N := some 59) (v := .bool false) (a' := ?_) #[true, true, true, true, true, true, true, true, true] rfl rfl (by kernel_rfl) (fun _ _ _ h => h) (Or.inl ⟨by rfl, ?_⟩) ?_ ?_
            · intro w'
              go_simp
              try simp
            rotate_left
            · simp only [Act.put, List.setIfInBounds_toArray, List.set_cons_zero, List.set_cons_succ, i64_w, i32_w]
              rfl
            refine done_ (by kernel_rfl) ?_
            -- held]
            have HP := Aside0.mk (And.intro hHeld.2.2.2.out.pr hHeld.2.2.2.out.bg)
            clear hHeld
            go_wp2_with fail
            go_roundw
            case rel => exact ⟨q + 1, by omega, by go_num, by rw [hvr]; exact HP⟩
            case measure => simp [intOf]; omega
          · have t1 : decide ((q : Int) - 1 ≤ (m5 : Int)) = false := decide_eq_false (by omega)
            have t2 : ((q : Int) - 1 ≤ (m5 : Int)) = False := eq_false (by omega)
            have HB := Aside0.mk (HB1.out.trans (HW.out.1.below.mono HB1.out.size))
            have HS := Aside0.mk HW.out.1.below.size
            clear HW
            go_wp2_with (go_at_call 14; refine (awake_calls _).mono ?_; rintro e w7 ⟨rfl, hb⟩; have HB7 := Aside0.mk (below_step HB.out hb); clear hb)
            go_ret
            exact ⟨rfl, HB7.out⟩
  · rw [decide_eq_false hfew] at HFW
    clear hfew
    go_enter Try.func6, Try.ntmps6
    go_wp2_with (first | (go_at_call 15; refine HFW.out.mono ?_; rintro e w1 ⟨rfl, hd⟩; have HB1 := Aside0.mk hd.below; clear hd) | (go_at_call 14; refine (awake_calls _).mono ?_; rintro e w2 ⟨rfl, hb⟩; have HB2 := Aside0.mk (HB1.out.trans (hb.mono HB1.out.size)); clear hb))
    go_ret
    exact ⟨rfl, HB2.out⟩
end Go.Proofs.Ytkcdlilglgfkaaa.PA
