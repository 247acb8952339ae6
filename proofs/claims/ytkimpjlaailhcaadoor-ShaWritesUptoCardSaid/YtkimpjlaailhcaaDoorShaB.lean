/- stemmaref01.block: the state behind one block, by definition. -/
import Derived.Test.YtkimpjlaailhcaaDoorShaM
import Derived.StillTailTactics
import Derived.Deep.RegionHeld3
set_option linter.unusedVariables false
set_option linter.unusedSimpArgs false
namespace Go.Proofs.YtkimpjlaailhcaaDoor.Sha
open Go Go.RowKit Go.Proofs.YtkimpjlaailhcaaDoorW.PrintWords Go.Proofs.YtkimpjlaailhcaaDoor.Ar Go.Proofs.YtkimpjlaailhcaaDoor.PA
theorem turned_calls (x n : Int) (w : World) (n0 : 0 ≤ n) (n1 : n ≤ 32) :
    Calls Tryd.prog 28 #[.int .u32 x, .int .u64 n] w fun e w' => e = .returned (.int .u32 (rot x n)) ∧ w' = w := by
  go_enter Tryd.func28, Tryd.ntmps28
  go_wp2
  go_ret
  exact ⟨rfl, rfl⟩
set_option maxRecDepth 100000 in
set_option maxHeartbeats 20000000 in
theorem constant_calls (i : Nat) (hi : i < 64) (w : World) :
    Calls Tryd.prog 29 #[.int .i64 (i : Int)] w fun e w' => e = .returned (.int .u32 (rtab.getD i 0)) ∧ Below w.heap.size w w' := by
  go_enter Tryd.func29, Tryd.ntmps29
  have HI := Aside0.mk hi
  have c0 : (w.alloc (.cells (ns .u32 rtab) 58)).cell? ⟨w.heap.size, i, none⟩ = some (.int .u32 (rd rtab (i : Int))) := cell (blk_new w _) i hi
  obtain ⟨C, hC⟩ : ∃ C, ns .u32 rtab = C := ⟨_, rfl⟩
  rw [hC] at c0
  have HC := Aside0.mk hC
  clear hC
  go_wp2_with (first | ((with_reducible refine gate_ (Op.store 58 (.tmp 3) (.tmp 4)) rfl ?_); refine wpList_store_new rfl 58 (.tmp 3) (.tmp 4) rfl w _ _ C rfl rfl (by rw [← HC.out]; rfl) (by rw [← HC.out]; rfl) (by rw [← HC.out]; kernel_rfl) (by rw [← HC.out]; exact ns_one _ _) ?_))
  go_ret
  exact ⟨rfl, below_alloc (Below.refl _ _) _⟩

/-- The words of a block, built byte by byte. -/
def ist (B : List Int) (i j : Nat) (W : List Int) : List Int := W.set i (u (256 * rd W i + rd B (4 * i + j)))
def oW (B : List Int) (k : Nat) : List Int := it (fun i W => it (ist B i) W 4) (List.replicate 64 0) k
theorem oW_len (B : List Int) (k : Nat) : (oW B k).length = 64 := (it_len (fun i W => it_len (fun _ _ => List.length_set) 4) k).trans rfl
def iW (B : List Int) (k j : Nat) : List Int := it (ist B k) (oW B k) j
theorem iW_len (B : List Int) (k j : Nat) : (iW B k j).length = 64 := (it_len (fun _ _ => List.length_set) j).trans (oW_len B k)
def rstp (i : Nat) (W : List Int) : List Int := W.set (16 + i) (nxt W (16 + i))
def rsc (B : List Int) (n : Nat) : List Int := it rstp (oW B 16) n
theorem rsc_len (B : List Int) (n : Nat) : (rsc B n).length = 64 := (it_len (fun _ _ => List.length_set) n).trans (oW_len B 16)
def rfin (S B : List Int) : H8 := it (rnd (rsc B 48)) (h8 S) 64
def blockF (S B : List Int) : List Int := it (adds (rfin S B).l) S 8
theorem blockF_len (S B : List Int) : (blockF S B).length = S.length := adds_len _ _ _
theorem wr4 (a b c d e : Int) : IntKind.u32.wrap (IntKind.u32.wrap (IntKind.u32.wrap (IntKind.u32.wrap (a + b) + c) + d) + e) = u (a + b + c + d + e) := by
  simp only [IntKind.wrap_u32, u]
  omega
theorem wr1 (a b : Int) : IntKind.u32.wrap (a + b) = u (a + b) := by rw [IntKind.wrap_u32]; rfl
theorem u_u (a b : Int) : u (a + u b) = u (a + b) := by simp only [u]; omega
theorem rnd_eq (W : List Int) (i : Nat) (x : H8) : rnd W i x = ⟨u (u (tt W i x) + uu x), x.a, x.b, x.c, u (x.d + u (tt W i x)), x.e, x.f, x.g⟩ := by rw [rnd, u_u]
structure Bx (w : World) (S W : List Int) (wr : World) : Prop where
  below : Below w.heap.size w wr
  st : wr.heap[w.heap.size]? = some (.cells (ns .u32 S) 47 (0, 0))
  rs : wr.heap[w.heap.size + 1]? = some (.cells (ns .u32 (List.replicate 8 0)) 47 (0, 0))
  sc : wr.heap[w.heap.size + 1 + 1]? = some (.cells (ns .u32 W) 58 (0, 0))
structure By (w : World) (S W T : List Int) (g : Nat) (wr : World) : Prop extends Bx w S W wr where
  hg : w.heap.size + 1 + 1 + 1 ≤ g
  ss : wr.heap[g]? = some (.cells (ns .u32 T) 47 (0, 0))
section
variable {w wr wq : World} {S W T : List Int}
theorem Bx.set (h : Bx w S W wr) (i : Nat) (v : Int) : Bx w S (W.set i v) (wr.setCell ⟨w.heap.size + 1 + 1, i, none⟩ (.int .u32 v)) :=
  ⟨h.below.setCell (by simp; omega) _, blk_far h.st (by simp; omega) _, blk_far h.rs (by simp) _, set_ h.sc i v⟩
theorem Bx.drewN (h : Bx w S W wr) (n : Nat) : Bx w S W (wr.drewN n) := ⟨pw_below_drewN h.below n, h.st, h.rs, h.sc⟩
theorem Bx.drew (h : Bx w S W wr) : Bx w S W wr.drew := h.drewN 1
theorem Bx.at_ {n : Nat} (h : Bx w S W wr) (hq : wr.drewN n = wq) : Bx w S W wq := hq ▸ h.drewN n
theorem By.drewN {g : Nat} (h : By w S W T g wr) (n : Nat) : By w S W T g (wr.drewN n) := ⟨h.toBx.drewN n, h.hg, h.ss⟩
theorem By.drew {g : Nat} (h : By w S W T g wr) : By w S W T g wr.drew := h.drewN 1
theorem By.at_ {n g : Nat} (h : By w S W T g wr) (hq : wr.drewN n = wq) : By w S W T g wq := hq ▸ h.drewN n
theorem By.step {g : Nat} (h : By w S W T g wr) (hb : Below wr.heap.size wr wq) : By w S W T g wq :=
  ⟨⟨below_step h.below hb, blk_below h.st hb, blk_below h.rs hb, blk_below h.sc hb⟩, h.hg, blk_below h.ss hb⟩
theorem By.setS {g : Nat} (h : By w S W T g wr) (i : Nat) (v : Int) : By w (S.set i v) W T g (wr.setCell ⟨w.heap.size, i, none⟩ (.int .u32 v)) :=
  ⟨⟨h.below.setCell (by simp) _, set_ h.st i v, blk_far h.rs (by simp) _, blk_far h.sc (by simp; omega) _⟩, h.hg, blk_far h.ss (by have := h.hg; simp; omega) _⟩
theorem By.row {g : Nat} (h : By w S W T g wr) (T' : List Int) : By w S W T' g (wr.setRow g (ns .u32 T')) :=
  have hg := h.hg
  ⟨⟨below_setRow h.below (by omega) _, blk_row_far h.st (by omega) _, blk_row_far h.rs (by omega) _, blk_row_far h.sc (by omega) _⟩, h.hg, blk_row h.ss _⟩
end
set_option maxRecDepth 100000 in
set_option maxHeartbeats 20000000 in
theorem block_calls (S B : List Int) (hS : S.length = 8) (hB : B.length = 64) (A : Option Addr) (c : Nat) (w : World) (hr : Kd.C (Kd.int .u8) w A 64 B) (hc : 64 ≤ c) :
    Calls Tryd.prog 24 #[.agg (ns .u32 S), .slice A 64 c] w fun e w' => e = .returned (.agg (ns .u32 (blockF S B))) ∧ Below w.heap.size w w' := by
  obtain ⟨s, hs⟩ : ∃ s, ns .u32 S = s := ⟨_, rfl⟩
  have HS := Aside0.mk hs
  rw [hs]
  have LB := Aside0.mk hB
  have LS := Aside0.mk hS
  have HR := Aside0.mk hr
  clear hS hB hs hr
  go_enter Tryd.func24, Tryd.ntmps24
  go_wp2
  go_loopw [6] (fun i wr => ∃ k : Nat, k ≤ 16 ∧ i = .int .i64 k ∧ Bx w S (oW B k) wr) (fun i _ => 16 - (intOf i).toNat)
  case atStart =>
    refine ⟨0, by omega, rfl, ⟨?_, ?_, ?_, ?_⟩⟩
    · exact below_alloc (below_alloc (below_alloc (Below.refl _ _) _) _) _
    · rw [HS.out]; exact blk_alloc (blk_alloc (blk_new _ _) _) _
    · exact blk_alloc (new_at _ _ _ (by simp)) _
    · exact new_at _ _ _ (by simp)
  case round =>
    obtain ⟨k, hk, rfl, hm⟩ := hrel
    have HM := Aside0.mk hm
    clear hm
    by_cases hlt : k < 16
    · go_wp2
      go_loopw [7] (fun j wr => ∃ j' : Nat, j' ≤ 4 ∧ j = .int .i64 j' ∧ Bx w S (iW B k j') wr) (fun j _ => 4 - (intOf j).toNat)
      case atStart => exact ⟨0, by omega, rfl, HM.out⟩
      case round =>
        clear HM
        obtain ⟨j, hj, rfl, hm⟩ := hrel
        by_cases hl2 : j < 4
        · have c0 := cell hm.sc k (by rw [iW_len]; omega)
          have f0 := blk_frozen hm.sc k
          obtain ⟨ad, rfl, cb⟩ := Kd.at_int (Kd.C_below HR.out hm.below) (4 * (k : Int) + j) (by omega) (by omega)
          rw [show (4 * (k : Int) + (j : Int)).toNat = 4 * k + j by omega] at cb
          have HM := Aside0.mk hm
          clear hm
          go_wp2
          go_region
          go_wp2
          go_roundw
          case rel => exact ⟨j + 1, by omega, by go_num, (HM.out.set k _).drew⟩
          case measure => simp [intOf]; omega
        · obtain rfl : j = 4 := by omega
          rw [show ((4 : Nat) : Int) = 4 from rfl]
          have HM := Aside0.mk hm
          clear hm
          go_wp2
          go_roundw
          case rel => exact ⟨k + 1, by omega, by go_num, HM.out⟩
          case measure => simp [intOf]; omega
    · obtain rfl : k = 16 := by omega
      rw [show ((16 : Nat) : Int) = 16 from rfl]
      go_wp2
      go_loopw [8] (fun i wr => ∃ k : Nat, k ≤ 48 ∧ i = .int .i64 (16 + k : Nat) ∧ Bx w S (rsc B k) wr) (fun i _ => 64 - (intOf i).toNat)
      case atStart => exact ⟨0, by omega, rfl, HM.out⟩
      case round =>
        clear HM
        obtain ⟨k, hk, rfl, hm⟩ := hrel
        by_cases hlt : k < 48
        · obtain ⟨m, hmk⟩ : ∃ m, 16 + k = m := ⟨_, rfl⟩
          have hn : rsc B (k + 1) = (rsc B k).set m (nxt (rsc B k) m) := by rw [← hmk]; rfl
          have e0 : m < 64 := by omega
          have e1 : 16 ≤ m := by omega
          rw [hmk]
          have HN := Aside0.mk hn
          have EK := Aside0.mk hmk
          have c15 := cell hm.sc (m - 15) (by rw [rsc_len]; omega)
          have c2 := cell hm.sc (m - 2) (by rw [rsc_len]; omega)
          have c16 := cell hm.sc (m - 16) (by rw [rsc_len]; omega)
          have c7 := cell hm.sc (m - 7) (by rw [rsc_len]; omega)
          have c4 := cell hm.sc m (by rw [rsc_len]; omega)
          have f4 := blk_frozen hm.sc m
          have HM := Aside0.mk hm
          clear hm hn hmk
          go_wp2
          go_quiet (fail)
          generalize hq : wr.drewN nq = wq
          have HM := Aside0.mk (HM.out.at_ hq)
          have c15 := cell_at hq c15
          have c2 := cell_at hq c2
          have c16 := cell_at hq c16
          have c7 := cell_at hq c7
          have c4 := cell_at hq c4
          have f4 := froz_at hq f4
          clear hq
          go_wp2
          have x1 : (0 : Int) ≤ (m : Int) - 16 := by omega
          have x2 : (m : Int) - 16 < 64 := by omega
          have x3 : ((m : Int) - 16).toNat = m - 16 := by omega
          have x4 : (0 : Int) ≤ (m : Int) - 7 := by omega
          have x5 : (m : Int) - 7 < 64 := by omega
          have x6 : ((m : Int) - 7).toNat = m - 7 := by omega
          have x9 : (m : Int) < 64 := by omega
          have y1 : (16 : Int) ≤ (m : Int) := by omega
          have y2 : (7 : Int) ≤ (m : Int) := by omega
          refine wp_region_still_tail 29 (by kernel_rfl) (by kernel_rfl) ?_
          generalize hwd : (⟨wq.heap, wq.tape, wq.drawn + 1, wq.os, wq.output⟩ : World) = wd
          have hwd' : wq.drewN 1 = wd := hwd
          have HM := Aside0.mk (HM.out.at_ hwd')
          have c16 := cell_at hwd' c16
          have c7 := cell_at hwd' c7
          have c4 := cell_at hwd' c4
          have f4 := froz_at hwd' f4
          clear hwd' hwd
          simp only [List.take_succ_cons, List.take_zero, List.drop_succ_cons, List.drop_zero]
          have x7 : IntKind.i64.wrap ((m : Int) - 16) = (m : Int) - 16 := IntWalk.i64_in _ (by omega)
          have x8 : IntKind.i64.wrap ((m : Int) - 7) = (m : Int) - 7 := IntWalk.i64_in _ (by omega)
          repeat (refine wpStill_step (fun K hK => ?_); go_simp; first | (refine hK _ ?_; clear hK K) | (refine ⟨_, turned_calls _ _ _ (by decide) (by decide), hK _ ?_⟩; clear hK K))
          refine wpStill_nil ?_
          clear x7 x8
          go_wp2
          go_roundw
          case rel => exact ⟨k + 1, by omega, by rw [← EK.out]; go_num, by rw [HN.out]; exact HM.out.set m _⟩
          case measure => simp [intOf]; omega
        · obtain rfl : k = 48 := by omega
          rw [show ((16 + 48 : Nat) : Int) = 64 from rfl]
          obtain ⟨W, hW⟩ : ∃ W, rsc B 48 = W := ⟨_, rfl⟩
          rw [hW] at hm
          have LW : Aside0 (W.length = 64) := ⟨by rw [← hW]; exact rsc_len B 48⟩
          have HW := Aside0.mk hW
          have HM := Aside0.mk hm
          have HST := Aside0.mk hm.st
          clear hm hW
          go_wp2_with (first | ((with_reducible refine gate_ (Op.load 47 (.tmp 2)) rfl ?_); refine wpList_load_row rfl 47 (.tmp 2) rfl _ rfl _ _ _ _ HST.out Tryd.underlying47 rfl (by rw [ns_size, LS.out]; kernel_rfl) ?_) | ((with_reducible refine gate_ (Op.store 47 (.tmp 11) (.tmp 82)) rfl ?_); refine wpList_store_new rfl 47 (.tmp 11) (.tmp 82) rfl wr _ _ _ rfl rfl rfl (by rw [ns_size, LS.out]; rfl) (by rw [ns_size, LS.out]; kernel_rfl) (ns_one _ _) ?_))
          have hy : By w S W (h8 S).l wr.heap.size (wr.alloc (.cells (ns .u32 S) 47)) := by
            have hl : (h8 S).l = S := by
              have := LS.out
              match S, this with
              | [_, _, _, _, _, _, _, _], _ => rfl
            rw [hl]
            have h := HM.out
            exact ⟨⟨below_alloc h.below _, blk_alloc h.st _, blk_alloc h.rs _, blk_alloc h.sc _⟩, blk_lt h.sc, blk_new _ _⟩
          generalize hg : wr.heap.size = g at *
          generalize hwa : wr.alloc (.cells (ns .u32 S) 47) = wa at *
          have HY := Aside0.mk hy
          clear hy hg HM HST hwa
          go_loopw [12] (fun i wr => ∃ k : Nat, k ≤ 64 ∧ i = .int .i64 k ∧ By w S W (it (rnd W) (h8 S) k).l g wr) (fun i _ => 64 - (intOf i).toNat)
          case atStart => exact ⟨0, by omega, rfl, HY.out⟩
          case round =>
            clear HY
            obtain ⟨k, hk, rfl, hm⟩ := hrel
            by_cases hlt : k < 64
            · obtain ⟨X, hX⟩ : ∃ X, it (rnd W) (h8 S) k = X := ⟨_, rfl⟩
              have hn : it (rnd W) (h8 S) (k + 1) = rnd W k X := by rw [it, hX]
              rw [hX] at hm
              have HN := Aside0.mk hn
              clear hX hn
              obtain ⟨R, hR⟩ : ∃ R, rtab.getD k 0 = R := ⟨_, rfl⟩
              have hcon := fun w0 => constant_calls k hlt w0
              rw [hR] at hcon
              have HC := Aside0.mk hcon
              have HR2 := Aside0.mk hR
              clear hcon hR
              obtain ⟨xa, xb', xc, xd, xe, xf, xg, xh⟩ := X
              simp only [H8.l] at hm
              have cw := cell hm.sc k (by rw [LW.out]; omega)
              have e0 : wr.cell? ⟨g, 0, none⟩ = some (.int .u32 xa) := cell hm.ss 0 (by simp)
              have e1 : wr.cell? ⟨g, 1, none⟩ = some (.int .u32 xb') := cell hm.ss 1 (by simp)
              have e2 : wr.cell? ⟨g, 2, none⟩ = some (.int .u32 xc) := cell hm.ss 2 (by simp)
              have e3 : wr.cell? ⟨g, 3, none⟩ = some (.int .u32 xd) := cell hm.ss 3 (by simp)
              have e4 : wr.cell? ⟨g, 4, none⟩ = some (.int .u32 xe) := cell hm.ss 4 (by simp)
              have e5 : wr.cell? ⟨g, 5, none⟩ = some (.int .u32 xf) := cell hm.ss 5 (by simp)
              have e6 : wr.cell? ⟨g, 6, none⟩ = some (.int .u32 xg) := cell hm.ss 6 (by simp)
              have e7 : wr.cell? ⟨g, 7, none⟩ = some (.int .u32 xh) := cell hm.ss 7 (by simp)
              have hsgn : IntKind.u32.signed = false := rfl
              have z1 : (0 : Int) ≤ (k : Int) := by omega
              have z2 : (k : Int) < 64 := by omega
              have HM := Aside0.mk hm
              clear hm
              go_wp2
              go_region_held3 (fun w' => w'.cell? ⟨g, 7, none⟩ = some (.int .u32 xh) ∧ w'.cell? ⟨g, 5, none⟩ = some (.int .u32 xf) ∧ w'.cell? ⟨g, 6, none⟩ = some (.int .u32 xg) ∧ w'.cell? ⟨w.heap.size + 1 + 1, k, none⟩ = some (.int .u32 (rd W k))) (first | go_keep | (go_split_ands; exact ⟨pw_cell_below hb1 (by assumption), pw_cell_below hb1 (by assumption), pw_cell_below hb1 (by assumption), pw_cell_below hb1 (by assumption)⟩)) (first | (go_at_call 28; refine (turned_calls _ _ _ (by decide) (by decide)).mono ?_; rintro e w' ⟨rfl, rfl⟩) | (go_at_call 29; refine (HC.out _).mono ?_; rintro e w1 ⟨rfl, hb1⟩))
              rw [wr4]
              have hy := HM.out.drew.step hb1
              clear e0 e1 e2 e3 e4 e5 e6 e7 cw HM hb1
              have e0 : w1.cell? ⟨g, 0, none⟩ = some (.int .u32 xa) := cell hy.ss 0 (by simp)
              have e1 : w1.cell? ⟨g, 1, none⟩ = some (.int .u32 xb') := cell hy.ss 1 (by simp)
              have e2 : w1.cell? ⟨g, 2, none⟩ = some (.int .u32 xc) := cell hy.ss 2 (by simp)
              have HM := Aside0.mk hy
              clear hy
              go_wp2
              go_quiet ((go_at_call 28; exact Calls.quiet_of_same (turned_calls _ _ _ (by decide) (by decide))))
              rw [wr1]
              generalize hq : w1.drewN nq = w2
              have hy := HM.out.at_ hq
              clear e0 e1 e2 HM hq
              have e0 : w2.cell? ⟨g, 0, none⟩ = some (.int .u32 xa) := cell hy.ss 0 (by simp)
              have e1 : w2.cell? ⟨g, 1, none⟩ = some (.int .u32 xb') := cell hy.ss 1 (by simp)
              have e2 : w2.cell? ⟨g, 2, none⟩ = some (.int .u32 xc) := cell hy.ss 2 (by simp)
              have e3 : w2.cell? ⟨g, 3, none⟩ = some (.int .u32 xd) := cell hy.ss 3 (by simp)
              have e4 : w2.cell? ⟨g, 4, none⟩ = some (.int .u32 xe) := cell hy.ss 4 (by simp)
              have e5 : w2.cell? ⟨g, 5, none⟩ = some (.int .u32 xf) := cell hy.ss 5 (by simp)
              have e6 : w2.cell? ⟨g, 6, none⟩ = some (.int .u32 xg) := cell hy.ss 6 (by simp)
              have HM := Aside0.mk hy
              clear hy
              go_wp2_with (first | ((with_reducible refine gate_ (Op.store 47 (.tmp 11) (.tmp 163)) rfl ?_); refine wpList_store_at rfl 47 (.tmp 11) (.tmp 163) rfl g 0 (ns .u32 [_, _, _, _, _, _, _, _]) rfl rfl _ _ HM.out.ss (by rw [ns_size, ns_size]; exact Nat.le_refl 8) (by rw [ns_size]; exact (show (Tryd.prog.info? 47).map (·.size) = some 8 by kernel_rfl)) (ns_one _ _) ?_))
              go_roundw
              case rel =>
                refine ⟨k + 1, by omega, by go_num, ?_⟩
                rw [splice_all _ _ (by rw [Array.length_toList, Array.length_toList, ns_size, ns_size]; rfl), Array.toArray_toList, HN.out, rnd_eq]
                obtain ⟨hR⟩ := HR2
                subst hR
                exact HM.out.row _
              case measure => simp [intOf]; omega
            · obtain rfl : k = 64 := by omega
              rw [show ((64 : Nat) : Int) = 64 from rfl]
              obtain ⟨X, hX⟩ : ∃ X, (it (rnd W) (h8 S) 64).l = X := ⟨_, rfl⟩
              rw [hX] at hm
              have LX : Aside0 (X.length = 8) := ⟨by rw [← hX]; rfl⟩
              have HX := Aside0.mk hX
              have HM := Aside0.mk hm
              clear hm hX
              go_wp2
              go_loopw [17] (fun i wr => ∃ k : Nat, k ≤ 8 ∧ i = .int .i64 k ∧ By w (it (adds X) S k) W X g wr) (fun i _ => 8 - (intOf i).toNat)
              case atStart => exact ⟨0, by omega, rfl, HM.out⟩
              case round =>
                clear HM
                obtain ⟨k, hk, rfl, hm⟩ := hrel
                by_cases hlt : k < 8
                · have c0 := cell hm.st k (by rw [adds_len, LS.out]; omega)
                  have f0 := blk_frozen hm.st k
                  have c1 := cell hm.ss k (by rw [LX.out]; omega)
                  have HM := Aside0.mk hm
                  clear hm
                  go_wp2
                  go_region
                  go_wp2
                  go_roundw
                  case rel => exact ⟨k + 1, by omega, by go_num, (HM.out.setS k _).drew⟩
                  case measure => simp [intOf]; omega
                · obtain rfl : k = 8 := by omega
                  rw [show ((8 : Nat) : Int) = 8 from rfl]
                  have hmix : it (adds X) S 8 = blockF S B := by
                    rw [blockF, rfin, HW.out, HX.out]
                  rw [hmix] at hm
                  have hst := hm.st
                  have hrs := hm.rs
                  have L8 : (blockF S B).length = 8 := by rw [blockF_len]; exact LS.out
                  have HM := Aside0.mk hm
                  have HL := Aside0.mk L8
                  clear hm L8 hmix
                  have HST := Aside0.mk hst
                  have HRS := Aside0.mk hrs
                  clear hst hrs
                  go_wp2_with (first | ((with_reducible refine gate_ (Op.load 47 (.tmp 2)) rfl ?_); refine wpList_load_row rfl 47 (.tmp 2) rfl _ rfl _ _ _ _ HST.out Tryd.underlying47 rfl (by rw [ns_size, HL.out]; kernel_rfl) ?_) | ((with_reducible refine gate_ (Op.store 47 (.tmp 4) (.tmp 177)) rfl ?_); refine wpList_store_at rfl 47 (.tmp 4) (.tmp 177) rfl _ 0 _ rfl rfl _ _ HRS.out (by rw [ns_size, ns_size, HL.out]; simp) (by rw [ns_size, HL.out]; kernel_rfl) (ns_one _ _) ?_))
                  have hb' := Ar.blk_row HRS.out (splice (ns .u32 (List.replicate 8 0)).toList 0 (ns .u32 (blockF S B)).toList).toArray
                  rw [splice_all _ _ (by rw [Array.length_toList, Array.length_toList, ns_size, ns_size, HL.out]; rfl), Array.toArray_toList] at hb'
                  rw [splice_all _ _ (by rw [Array.length_toList, Array.length_toList, ns_size, ns_size, HL.out]; rfl), Array.toArray_toList]
                  exact bodyPost_ret (results_cell_row rfl _ _ (w.heap.size + 1) 47 _ (0, 0) _ rfl hb' Tryd.underlying47 rfl (by rw [ns_size, HL.out]; kernel_rfl)) rfl ⟨rfl, below_setRow HM.out.below (by omega) _⟩
end Go.Proofs.YtkimpjlaailhcaaDoor.Sha
