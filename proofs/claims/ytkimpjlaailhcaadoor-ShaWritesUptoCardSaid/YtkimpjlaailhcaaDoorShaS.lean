/- sha.Hasher.Sum and sha.Sum. -/
import Derived.Test.YtkimpjlaailhcaaDoorShaW
import Derived.Deep.DeepCutAuto
set_option linter.unusedVariables false
set_option linter.unusedSimpArgs false
namespace Go.Proofs.YtkimpjlaailhcaaDoor.Sha
open Go Go.RowKit Go.Proofs.YtkimpjlaailhcaaDoorW.PrintWords Go.Proofs.YtkimpjlaailhcaaDoorW.PrintLast Go.Proofs.YtkimpjlaailhcaaDoor.Ar Go.Proofs.YtkimpjlaailhcaaDoor.PA
theorem row_of_blk {w : World} {b : Nat} {T : TypeId} {l : List Int} (h : w.heap[b]? = some (.cells (ns .u8 l) T (0, 0))) (hl : l.length ≤ 9223372036854775807) : Kd.F (Kd.int .u8) w (fun k => k = b) (some ⟨b, 0, none⟩) l.length l := by
  intro W' hW
  have hb : W'.heap[b]? = some (.cells (ns .u8 l) T (0, 0)) := (hW b rfl (blk_lt h)).trans h
  refine Kd.C_of_reads (enc := Value.int .u8) (d := 0) ⟨rfl, hl, fun _ => ⟨_, rfl, fun j hj => ?_⟩⟩
  rw [Addr.add_mid, Nat.zero_add]
  exact cell hb j hj
theorem gl_lt {w : World} (h : Gl w) : 0 < w.heap.size ∧ 1 < w.heap.size :=
  ⟨World.block_lt_of_cell? w _ (h.b 0 (by omega)), World.block_lt_of_cell? w _ (h.r 0 (by omega))⟩
theorem feed_held : ∀ (l S B : List Int) (h : Nat), h < 64 → (feed (S, B, h) l).2.2 = (h + l.length) % 64
  | [], _, _, h, hh => by simp [feed]; omega
  | b :: t, S, B, h, hh => by
    rw [feed, List.foldl_cons, fd1]
    by_cases e : h + 1 = 64
    · rw [if_pos e]
      have := feed_held t (mixF S (B.set h b)) (B.set h b) 0 (by omega)
      rw [feed] at this
      rw [this, List.length_cons]; omega
    · rw [if_neg e]
      have := feed_held t S (B.set h b) (h + 1) (by omega)
      rw [feed] at this
      rw [this, List.length_cons]; omega
/-- How many noughts behind the 0x80. -/
def padz (h : Nat) : Nat := (119 - h) % 64
def beS (bits : Int) (i : Nat) (l : List Int) : List Int := l.set i (bits / 2 ^ (56 - 8 * i) % 256)
def be8 (bits : Int) : List Int := it (beS bits) (List.replicate 8 0) 8
theorem beS_len (bits : Int) (k : Nat) : (it (beS bits) (List.replicate 8 0) k).length = 8 := (it_len (fun _ _ => List.length_set) k).trans rfl
def outS (S : List Int) (i : Nat) (l : List Int) : List Int := l.set i (rd S ((i / 4 : Nat) : Int) / 2 ^ (24 - 8 * (i % 4)) % 256)
def outF (S : List Int) : List Int := it (outS S) (List.replicate 32 0) 32
theorem outS_len (S : List Int) (k : Nat) : (it (outS S) (List.replicate 32 0) k).length = 32 := (it_len (fun _ _ => List.length_set) k).trans rfl
/-- What is written behind the bytes. -/
def tail_ (h : Nat) (n : Int) : List Int := 128 :: (List.replicate (padz h) 0 ++ be8 (n * 8 % 18446744073709551616))
def sumH (S B : List Int) (h : Nat) (n : Int) : List Int := outF (feed (S, B, h) (tail_ h n)).1
/-- A block of numbers. -/
structure Bk (w : World) (g : Nat) (T : TypeId) (k : IntKind) (l : List Int) : Prop where
  out : w.heap[g]? = some (.cells (ns k l) T (0, 0))
structure Sm (w : World) (g2 : Nat) (X : List Int × List Int × Nat) (n : Nat) (wr : World) : Prop where
  below : Below w.heap.size w wr
  rs : wr.heap[w.heap.size]? = some (.cells (ns .u8 (List.replicate 32 0)) 24 (0, 0))
  hs : Hs wr g2 X.1 X.2.1 (X.2.2 : Nat) (n : Nat)
  hg : g2 = w.heap.size + 1
section
variable {w wr wq : World} {g2 : Nat} {X X' : List Int × List Int × Nat} {n n' : Nat}
theorem Sm.step (h : Sm w g2 X n wr) (hb : Below wr.heap.size wr wq) : Sm w g2 X n wq := ⟨below_step h.below hb, blk_below h.rs hb, h.hs.below hb, h.hg⟩
theorem Sm.alloc (h : Sm w g2 X n wr) (o : Obj) : Sm w g2 X n (wr.alloc o) := h.step (below_alloc (Below.refl _ _) o)
theorem Sm.far (h : Sm w g2 X n wr) {g3 : Nat} (h3 : w.heap.size + 1 < g3) (i : Nat) (v : Value) : Sm w g2 X n (wr.setCell ⟨g3, i, none⟩ v) :=
  ⟨h.below.setCell (by simp; omega) _, blk_far h.rs (by simp; omega) _, ⟨blk_far h.hs.blk (by have := h.hg; simp; omega) _, h.hs.lS, h.hs.lB⟩, h.hg⟩
theorem Sm.grown (h : Sm w g2 X n wr) (hg : wr.grownBy wq (some g2)) (hs : Hs wq g2 X'.1 X'.2.1 (X'.2.2 : Nat) (n' : Nat)) : Sm w g2 X' n' wq :=
  ⟨pw_below_grown h.below (some g2) h.below.size hg (fun k e => by injection e with e; have := h.hg; omega), blk_grown h.rs hg (by have := h.hg; simp; omega), hs, h.hg⟩
end
theorem sm_start {w w1 : World} {g : Nat} {S B : List Int} {h n : Nat} {C : Array Value} (ha : Hs w g S B h n) (hC : (hc S B h n).toArray = C) (hw : (w.alloc (.cells (ns .u8 (List.replicate 32 0)) 24)).alloc (.cells C 53) = w1) : Sm w (w.heap.size + 1) (S, B, h) n w1 := by
  subst hw
  refine ⟨below_alloc (below_alloc (Below.refl _ _) _) _, blk_alloc (blk_new _ _) _, ⟨?_, ha.lS, ha.lB⟩, rfl⟩
  rw [hC]
  exact new_at _ _ _ (by simp)
theorem hs_st {w : World} {g : Nat} {S B : List Int} {h n : Int} (a : Hs w g S B h n) (i : Nat) (hi : i < 8) : w.cell? ⟨g, i, none⟩ = some (.int .u32 (rd S (i : Int))) := by
  have := hc_st (B := B) (h := h) (n := n) a.lS i (.int .u32 (rd S (i : Int))) (by simp [nums, rd, List.getD_eq_getElem?_getD, a.lS, hi])
  rw [Nat.zero_add] at this
  exact (blk_cell a.blk i).trans (by rw [List.getElem?_toArray]; exact this)
theorem sm_write1 {w wr : World} {g2 : Nat} {X : List Int × List Int × Nat} {n : Nat} (h : Sm w g2 X n wr) (hX : X.2.2 < 64) (hG : Gl w) (hn : n + 1 < 9223372036854775808) (b : Int) :
    Calls Tryd.prog 14 #[.pointer (some ⟨g2, 0, none⟩), .slice (some ⟨wr.heap.size, 0, none⟩) 1 1] (wr.alloc (.cells #[.int .u8 b] 5)) fun e w' => e = .returned (.tuple #[]) ∧ Sm w g2 (feed X [b]) (n + 1) w' := by
  obtain ⟨S, B, hd⟩ := X
  have h2 := h.alloc (.cells #[.int .u8 b] 5)
  have hlt := h.hs.lt
  have hg := h.hg
  have hgl := gl_lt hG
  refine (Write_calls (wr.alloc (.cells #[.int .u8 b] 5)) g2 S B hd n hX (fun k => k = wr.heap.size) (fun k hk => by omega) (some ⟨wr.heap.size, 0, none⟩) 1 [b] (by simp) (row_of_blk (l := [b]) (T := 5) (blk_new wr _) (by simp)) h2.hs (hG.below h2.below) ⟨by omega, by omega⟩ (by simpa using hn)).mono ?_
  rintro e w' ⟨rfl, hgr, hs⟩
  exact ⟨rfl, h2.grown hgr hs⟩
theorem sm_write8 {w wr : World} {g2 g3 : Nat} {X : List Int × List Int × Nat} {n : Nat} {T : TypeId} (h : Sm w g2 X n wr) (hX : X.2.2 < 64) (hG : Gl w) (hn : n + 8 < 9223372036854775808) (l : List Int) (hl : l.length = 8) (h3 : w.heap.size + 1 < g3)
    (hb : wr.heap[g3]? = some (.cells (ns .u8 l) T (0, 0))) :
    Calls Tryd.prog 14 #[.pointer (some ⟨g2, 0, none⟩), .slice (some ⟨g3, 0, none⟩) 8 8] wr fun e w' => e = .returned (.tuple #[]) ∧ Sm w g2 (feed X l) (n + 8) w' := by
  obtain ⟨S, B, hd⟩ := X
  have hg := h.hg
  have hgl := gl_lt hG
  have hr := row_of_blk hb (by omega)
  rw [hl] at hr
  have := Write_calls wr g2 S B hd n hX (fun k => k = g3) (fun k hk => by omega) (some ⟨g3, 0, none⟩) 8 l (by omega) (by rw [hl]; exact hr) h.hs (hG.below h.below) ⟨by omega, by omega⟩ (by omega)
  rw [hl] at this
  refine this.mono ?_
  rintro e w' ⟨rfl, hgr, hs⟩
  exact ⟨rfl, h.grown hgr hs⟩
theorem u64_shl (n : Nat) : IntKind.u64.wrap ((n : Int) * 8) = (n : Int) * 8 % 18446744073709551616 := by rw [IntKind.wrap_u64]
theorem held_lt (l S B : List Int) (h : Nat) (hh : h < 64) : (feed (S, B, h) l).2.2 < 64 := by rw [feed_held l S B h hh]; omega
set_option maxRecDepth 100000 in
set_option maxHeartbeats 20000000 in
theorem SumM_calls (w : World) (g : Nat) (S B : List Int) (h : Nat) (n : Nat) (hh : h < 64) (a : Hs w g S B h n) (hG : Gl w) (hn : n < 4611686018427387904) :
    Calls Tryd.prog 15 #[.pointer (some ⟨g, 0, none⟩)] w fun e w' => e = .returned (.agg (ns .u8 (sumH S B h n))) ∧ Below w.heap.size w w' := by
  have HG := Aside0.mk hG
  have HA := Aside0.mk a
  have c73 := a.num
  have hn0 : (n : Int) < 4611686018427387904 := by omega
  have hn1 : (0 : Int) ≤ (n : Int) := by omega
  clear hG a
  obtain ⟨C, hC⟩ : ∃ C, (hc S B h n).toArray = C := ⟨_, rfl⟩
  have HC := Aside0.mk hC
  have HBLK := HA.out.blk
  rw [hC] at HBLK
  have HCS : Aside0 (C.size = 74) := ⟨by rw [← hC, List.size_toArray, hc_len HA.out.lS HA.out.lB]⟩
  have HC1 : Aside0 (C.all (·.oneCell') = true) := ⟨by
    rw [← hC]
    exact all_oneCell_toArray (fun v hv => by
      simp only [hc, List.mem_append, nums, List.mem_map, List.mem_cons, List.not_mem_nil, or_false] at hv
      rcases hv with ⟨x, _, rfl⟩ | ⟨x, _, rfl⟩ | rfl | rfl <;> rfl)⟩
  have HBK := Aside0.mk HBLK
  clear HBLK hC
  have z53 : ∃ Z : Array Value, Z.size = 74 ∧ ∀ w, (zeroValue 53).run Tryd.prog w = .ok (.agg Z) w := ⟨(hc (List.replicate 8 0) (List.replicate 64 0) 0 0).toArray, rfl, fun _ => by kernel_rfl⟩
  obtain ⟨Z, hZ, z53⟩ := z53
  have HZ := Aside0.mk hZ
  have HZZ := Aside0.mk z53
  clear hZ z53
  go_enter Tryd.func15, Tryd.ntmps15
  go_wp2_with (first | ((with_reducible refine gate_ (Op.alloc 53) rfl ?_); refine wpList_alloc_as rfl 53 rfl Z HZZ.out ?_) | ((with_reducible refine gate_ (Op.load 53 (.tmp 13)) rfl ?_); refine wpList_load_row rfl 53 (.tmp 13) rfl _ rfl _ _ _ _ (blk_alloc HBK.out _) Tryd.underlying53 rfl (by rw [HCS.out]; kernel_rfl) ?_) | ((with_reducible refine gate_ (Op.store 53 (.tmp 3) (.tmp 14)) rfl ?_); refine wpList_store_new rfl 53 (.tmp 3) (.tmp 14) rfl (w.alloc _) _ _ C rfl rfl rfl (by rw [HCS.out, HZ.out]) (by rw [HCS.out]; kernel_rfl) HC1.out ?_; generalize hw1 : World.alloc _ (Obj.cells C _) = w1; have HM := Aside0.mk (sm_start HA.out HC.out hw1); have c73 : w1.cell? ⟨g, 73, none⟩ = some (.int .i64 (n : Int)) := (HA.out.below (hw1 ▸ below_alloc (below_alloc (Below.refl _ _) _) _)).num; clear hw1))
  have hs1 := sm_write1 HM.out hh HG.out (by omega) 128
  have HS1 := Aside0.mk hs1
  clear hs1
  go_wp2_with (go_at_call 14; refine HS1.out.mono ?_; rintro e w2 ⟨rfl, h2⟩; have HM2 := Aside0.mk h2; clear h2)
  obtain ⟨bits, hbits⟩ : ∃ bits, IntKind.u64.wrap ((n : Int) * 8) = bits := ⟨_, rfl⟩
  rw [hbits]
  have HBITS := Aside0.mk hbits
  have HN := Aside0.mk hn
  clear hbits HM HS1 hn hn0 hn1
  obtain ⟨X, hX⟩ : ∃ X, feed (S, B, h) [128] = X := ⟨_, rfl⟩
  have hXh : X.2.2 = (h + 1) % 64 := by rw [← hX, feed_held _ _ _ _ hh]; rfl
  rw [hX] at HM2
  have HX := Aside0.mk hX
  have HXH := Aside0.mk hXh
  clear hX hXh
  go_loopw [25] (fun _ wr => ∃ j : Nat, j ≤ padz h ∧ Sm w (w.heap.size + 1) (feed X (List.replicate j 0)) (n + 1 + j) wr) (fun _ wr => match wr.cell? ⟨w.heap.size + 1, 72, none⟩ with | some (.int _ v) => ((120 - v) % 64).toNat | _ => 0)
  case atStart => exact ⟨0, Nat.zero_le _, HM2.out⟩
  case round =>
    clear HM2
    obtain ⟨j, hj, hm⟩ := hrel
    have HX2 := HX
    obtain ⟨S0, B0, h0⟩ := X
    have e0 : h0 = (h + 1) % 64 := HXH.out
    have hh0 : h0 < 64 := by omega
    have ehd : (feed (S0, B0, h0) (List.replicate j 0)).2.2 = (h0 + j) % 64 := by rw [feed_held _ _ _ _ hh0, List.length_replicate]
    have c72 := hm.hs.held
    rw [ehd] at c72
    have HM := Aside0.mk hm
    have HE := Aside0.mk ehd
    have hpz : padz h < 64 := by unfold padz; omega
    have hpz2 : padz h = (119 - h) % 64 := rfl
    by_cases hlt : j < padz h
    · have hne : ((((h0 + j) % 64 : Nat) : Int) != 56) = true := by rw [bne_iff_ne]; omega
      have hs1 := sm_write1 hm (by rw [ehd]; omega) HG.out (by have := HN.out; omega) 0
      have HS1 := Aside0.mk hs1
      obtain ⟨q, hq⟩ : ∃ q, (h0 + j) % 64 = q := ⟨_, rfl⟩
      rw [hq] at c72 hne
      have HQ := Aside0.mk hq
      have HLT := Aside0.mk hlt
      have HPZ := Aside0.mk hpz2
      have E0 := Aside0.mk e0
      clear hm hs1 ehd hq hlt hpz2 hpz e0 hj hh0
      go_wp2_with (go_at_call 14; refine HS1.out.mono ?_; rintro e w3 ⟨rfl, h3⟩; have HM3 := Aside0.mk h3; clear h3)
      refine ⟨⟨j + 1, HLT.out, ?_⟩, ?_⟩
      · rw [List.replicate_succ', feed_append]; exact HM3.out
      · have e3 : (feed (feed (S0, B0, h0) (List.replicate j 0)) [0]).2.2 = (h0 + (j + 1)) % 64 := by rw [← feed_append, ← List.replicate_succ', feed_held _ _ _ _ (by have := E0.out; omega), List.length_replicate]
        have c3 := HM3.out.hs.held
        rw [e3] at c3
        rw [c3, c72]
        have a1 := HLT.out
        have a2 := HPZ.out
        have a3 := E0.out
        have a4 := HQ.out
        show ((120 - (((h0 + (j + 1)) % 64 : Nat) : Int)) % 64).toNat < ((120 - (q : Int)) % 64).toNat
        omega
    · have hne : ((((h0 + j) % 64 : Nat) : Int) != 56) = false := by rw [bne_eq_false_iff_eq]; omega
      obtain rfl : j = padz h := by omega
      obtain ⟨q, hq⟩ : ∃ q, (h0 + padz h) % 64 = q := ⟨_, rfl⟩
      rw [hq] at c72 hne
      have E0 := Aside0.mk e0
      clear hm ehd hq hlt hpz2 hpz e0 hj hh0
      clear HX HXH
      go_wp2
      obtain ⟨Y, hY⟩ : ∃ Y, feed (S0, B0, h0) (List.replicate (padz h) 0) = Y := ⟨_, rfl⟩
      have HY := Aside0.mk hY
      rw [hY] at HM
      have hYh : Y.2.2 = 56 := by
        have a1 := HE.out
        have a2 := E0.out
        rw [← hY, a1]
        unfold padz
        omega
      have HYH := Aside0.mk hYh
      have hg3 : w.heap.size + 1 < wr.heap.size := HM.out.hs.lt
      have HM4 := Aside0.mk (HM.out.alloc (.cells (ns .u8 (List.replicate 8 0)) 56))
      have HB4 := Aside0.mk (blk_new wr (.cells (ns .u8 (List.replicate 8 0)) 56))
      obtain ⟨w4, hw4⟩ : ∃ w4, wr.alloc (.cells (ns .u8 (List.replicate 8 0)) 56) = w4 := ⟨_, rfl⟩
      rw [hw4] at HM4 HB4
      change Code.wp _ _ _ _ (wr.alloc (.cells (ns .u8 (List.replicate 8 0)) 56))
      rw [hw4]
      generalize wr.heap.size = g3 at hg3 HB4 ⊢
      have HG3 := Aside0.mk hg3
      clear hY hYh hg3 hw4 HM c72 hne
      go_loopw [28] (fun i w' => ∃ k : Nat, k ≤ 8 ∧ i = .int .i64 k ∧ Sm w (w.heap.size + 1) Y (n + 1 + padz h) w' ∧ Bk w' g3 56 .u8 (it (beS bits) (List.replicate 8 0) k)) (fun i _ => 8 - (intOf i).toNat)
      case atStart => exact ⟨0, by omega, rfl, HM4.out, ⟨HB4.out⟩⟩
      case round =>
        clear HM4 HB4
        obtain ⟨k, hk, rfl, hm, hb⟩ := hrel
        by_cases hlt : k < 8
        · have c0 := cell hb.out k (by rw [beS_len]; omega)
          have f0 := blk_frozen hb.out k
          obtain ⟨y, hy⟩ : ∃ y, rd (it (beS bits) (List.replicate 8 0) k) (k : Int) = y := ⟨_, rfl⟩
          rw [hy] at c0
          have HM := Aside0.mk hm
          clear hm hy c73
          go_wp2
          go_roundw
          case rel => exact ⟨k + 1, by omega, by go_num, HM.out.far HG3.out k _, ⟨set_ hb.out k _⟩⟩
          case measure => simp [intOf]; omega
        · obtain rfl : k = 8 := by omega
          rw [show ((8 : Nat) : Int) = 8 from rfl]
          have hs8 := sm_write8 hm (by rw [HYH.out]; omega) HG.out (by have := HN.out; unfold padz; omega) (be8 bits) (beS_len bits 8) HG3.out hb.out
          have HS8 := Aside0.mk hs8
          have HM := Aside0.mk hm
          clear hs8 hm hb
          go_wp2_with (go_at_call 14; refine HS8.out.mono ?_; rintro e w6 ⟨rfl, h6⟩; have HM6 := Aside0.mk h6; clear h6)
          obtain ⟨V, hV⟩ : ∃ V, feed Y (be8 bits) = V := ⟨_, rfl⟩
          rw [hV] at HM6
          have HV := Aside0.mk hV
          have hg4 : w.heap.size + 1 < w6.heap.size := HM6.out.hs.lt
          have HM7 := Aside0.mk (HM6.out.alloc (.cells (ns .u8 (List.replicate 32 0)) 24))
          have HB7 : Bk (w6.alloc (.cells (ns .u8 (List.replicate 32 0)) 24)) w6.heap.size 24 .u8 (List.replicate 32 0) := ⟨blk_new w6 _⟩
          obtain ⟨w7, hw7⟩ : ∃ w7, w6.alloc (.cells (ns .u8 (List.replicate 32 0)) 24) = w7 := ⟨_, rfl⟩
          rw [hw7] at HM7 HB7
          change Code.wp _ _ _ _ (w6.alloc (.cells (ns .u8 (List.replicate 32 0)) 24))
          rw [hw7]
          generalize w6.heap.size = g4 at hg4 HB7 ⊢
          have HG4 := Aside0.mk hg4
          clear hV hg4 hw7 HM HM6 HS8
          go_loopw [43] (fun i w' => ∃ k : Nat, k ≤ 32 ∧ i = .int .i64 k ∧ Sm w (w.heap.size + 1) V (n + 1 + padz h + 8) w' ∧ Bk w' g4 24 .u8 (it (outS V.1) (List.replicate 32 0) k)) (fun i _ => 32 - (intOf i).toNat)
          case atStart => exact ⟨0, by omega, rfl, HM7.out, HB7⟩
          case round =>
            clear HM7 HB7
            obtain ⟨k, hk, rfl, hm, hb⟩ := hrel
            by_cases hlt : k < 32
            · have c0 := cell hb.out k (by rw [outS_len]; omega)
              have f0 := blk_frozen hb.out k
              have c1 := hs_st hm.hs (k / 4) (by omega)
              obtain ⟨y, hy⟩ : ∃ y, rd (it (outS V.1) (List.replicate 32 0) k) (k : Int) = y := ⟨_, rfl⟩
              rw [hy] at c0
              have HM := Aside0.mk hm
              have k4 : k / 4 < 8 := by omega
              clear hm hy
              go_wp2
              go_roundw
              case rel => exact ⟨k + 1, by omega, by go_num, HM.out.far HG4.out k _, ⟨set_ hb.out k _⟩⟩
              case measure => simp [intOf]; omega
            · obtain rfl : k = 32 := by omega
              rw [show ((32 : Nat) : Int) = 32 from rfl]
              have hout : it (outS V.1) (List.replicate 32 0) 32 = sumH S B h n := by
                rw [sumH, outF, tail_]
                have e1 : feed (S, B, h) (128 :: (List.replicate (padz h) 0 ++ be8 ((n : Int) * 8 % 18446744073709551616))) = V := by
                  rw [← HV.out, ← HY.out, ← HX2.out, ← HBITS.out, u64_shl, ← feed_append, ← feed_append]
                  congr 1
                rw [e1]
              rw [hout] at hb
              have LO : Aside0 ((sumH S B h n).length = 32) := ⟨by rw [← hout]; exact outS_len _ 32⟩
              obtain ⟨O, hO⟩ : ∃ O, sumH S B h n = O := ⟨_, rfl⟩
              rw [hO] at hb LO
              have HO := Aside0.mk hO
              have HM := Aside0.mk hm
              clear hm hout hO
              go_wp2_with (first | ((with_reducible refine gate_ (Op.load 24 (.tmp 7)) rfl ?_); refine wpList_load_row rfl 24 (.tmp 7) rfl _ rfl _ _ _ _ hb.out Tryd.underlying24 rfl (by rw [ns_size, LO.out]; kernel_rfl) ?_) | ((with_reducible refine gate_ (Op.store 24 (.tmp 2) (.tmp 61)) rfl ?_); refine wpList_store_at rfl 24 (.tmp 2) (.tmp 61) rfl _ 0 _ rfl rfl _ _ HM.out.rs (by rw [ns_size, ns_size, LO.out]; simp) (by rw [ns_size, LO.out]; kernel_rfl) (ns_one _ _) ?_))
              have hb' := Ar.blk_row HM.out.rs (splice (ns .u8 (List.replicate 32 0)).toList 0 (ns .u8 O).toList).toArray
              rw [splice_all _ _ (by rw [Array.length_toList, Array.length_toList, ns_size, ns_size, LO.out]; rfl), Array.toArray_toList] at hb'
              rw [splice_all _ _ (by rw [Array.length_toList, Array.length_toList, ns_size, ns_size, LO.out]; rfl), Array.toArray_toList]
              exact bodyPost_ret (results_cell_row rfl _ _ w.heap.size 24 _ (0, 0) _ rfl hb' Tryd.underlying24 rfl (by rw [ns_size, LO.out]; kernel_rfl)) rfl ⟨by rw [HO.out], below_setRow HM.out.below (by omega) _⟩
def sumF (l : List Int) : List Int := sumH (feed (btab, List.replicate 64 0, 0) l).1 (feed (btab, List.replicate 64 0, 0) l).2.1 (feed (btab, List.replicate 64 0, 0) l).2.2 (l.length : Nat)
theorem sumF_len (l : List Int) : (sumF l).length = 32 := by rw [sumF, sumH, outF]; exact outS_len _ 32
theorem row_old {w : World} {A : Option Addr} {l : List Int} (h : Kd.C (Kd.int .u8) w A l.length l) : Kd.F (Kd.int .u8) w (fun k => k < w.heap.size) A l.length l := by
  intro W' hW
  have hr := Kd.reads_of_C (enc := Value.int .u8) (d := 0) (h1 := fun _ => rfl) h
  refine Kd.C_of_reads (enc := Value.int .u8) (d := 0) ⟨hr.1, hr.2.1, fun hn => ?_⟩
  obtain ⟨ad, e, hc⟩ := hr.2.2 hn
  refine ⟨ad, e, fun j hj => ?_⟩
  have hcj := hc j hj
  have hlt := World.block_lt_of_cell? w _ hcj
  exact (World.cell?_of_block (hW _ hlt hlt)).trans hcj
set_option maxRecDepth 100000 in
set_option maxHeartbeats 4000000 in
theorem Sum_calls (w : World) (A : Option Addr) (c : Nat) (l : List Int) (hlc : l.length ≤ c) (hr : Kd.C (Kd.int .u8) w A l.length l) (hG : Gl w) (hl : l.length < 4611686018427387904) :
    Calls Tryd.prog 10 #[.slice A l.length c] w fun e w' => e = .returned (.agg (ns .u8 (sumF l))) ∧ Below w.heap.size w w' := by
  have HN := Aside0.mk (fun (W : World) (hW : Gl W) => New_calls W hW)
  have HR := Aside0.mk (row_old hr)
  have HG := Aside0.mk hG
  have HL := Aside0.mk hl
  have HLC := Aside0.mk hlc
  have LSF : Aside0 ((sumF l).length = 32) := ⟨sumF_len l⟩
  clear hr hG hl hlc
  go_enter Tryd.func10, Tryd.ntmps10
  go_wp2_with fail
  have hG1 := HG.out.below (below_alloc (Below.refl _ _) (.cells (ns .u8 (List.replicate 32 0)) 24))
  have hrs1 := blk_new w (.cells (ns .u8 (List.replicate 32 0)) 24)
  have hb1 := below_alloc (Below.refl w.heap.size w) (.cells (ns .u8 (List.replicate 32 0)) 24)
  have hr1 := Kd.F_below HR.out hb1
  have hz1 : (w.alloc (.cells (ns .u8 (List.replicate 32 0)) 24)).heap.size = w.heap.size + 1 := by simp
  change Calls _ _ _ (w.alloc (.cells (ns .u8 (List.replicate 32 0)) 24)) _
  generalize w.alloc (.cells (ns .u8 (List.replicate 32 0)) 24) = w1 at *
  refine (HN.out w1 hG1).mono ?_
  rintro e w2 ⟨rfl, hs2, hb2⟩
  have hG2 := hG1.below hb2
  have hr2 := Kd.F_below hr1 hb2
  have hgl := gl_lt hG1
  have hn2 : 0 + l.length < 9223372036854775808 := by have := HL.out; omega
  have HW := Aside0.mk (Write_calls w2 w1.heap.size btab (List.replicate 64 0) 0 0 (by omega) (fun k => k < w.heap.size) (fun k hk => by omega) A c l HLC.out hr2 hs2 hG2 ⟨by omega, by omega⟩ hn2)
  have HB2 := Aside0.mk (below_step hb1 hb2)
  have HS2 := Aside0.mk (blk_below hrs1 hb2)
  have HG2 := Aside0.mk hG2
  have HGL := Aside0.mk hgl
  have HZ := Aside0.mk hz1
  generalize w1.heap.size = g at *
  clear hG1 hrs1 hb1 hr1 hz1 hs2 hb2 hG2 hr2 hgl hn2 HN
  go_wp2_with fail
  refine HW.out.mono ?_
  rintro e w3 ⟨rfl, hgr, hs3⟩
  have hz := HZ.out
  have HB3 := Aside0.mk (pw_below_grown HB2.out (some g) HB2.out.size hgr (fun k e => by injection e with e; omega))
  have HS3 := Aside0.mk (blk_grown HS2.out hgr (by simp; omega))
  have HG3 := Aside0.mk (gl_grown HG2.out hgr (by have := HGL.out; omega) (by have := HGL.out; omega))
  rw [Nat.zero_add] at hs3
  have HM := Aside0.mk (SumM_calls w3 g _ _ _ l.length (held_lt l btab (List.replicate 64 0) 0 (by omega)) hs3 HG3.out HL.out)
  clear hgr hs3 hz
  obtain ⟨O, hO⟩ : ∃ O, sumF l = O := ⟨_, rfl⟩
  have hO2 := hO
  rw [sumF] at hO2
  rw [hO2] at HM
  rw [hO] at LSF
  have HO := Aside0.mk hO
  clear hO hO2
  go_wp2_with fail
  refine HM.out.mono ?_
  rintro e w4 ⟨rfl, hb4⟩
  have HB4 := Aside0.mk (below_step HB3.out hb4)
  have HS4 := Aside0.mk (blk_below HS3.out hb4)
  clear hb4
  go_wp2_with (((with_reducible refine gate_ (Op.store 24 (.tmp 2) (.tmp 9)) rfl ?_); refine wpList_store_at rfl 24 (.tmp 2) (.tmp 9) rfl _ 0 _ rfl rfl _ _ HS4.out (by rw [ns_size, ns_size, LSF.out]; simp) (by rw [ns_size, LSF.out]; kernel_rfl) (ns_one _ _) ?_))
  have hb' := Ar.blk_row HS4.out (splice (ns .u8 (List.replicate 32 0)).toList 0 (ns .u8 O).toList).toArray
  rw [splice_all _ _ (by rw [Array.length_toList, Array.length_toList, ns_size, ns_size, LSF.out]; rfl), Array.toArray_toList] at hb'
  rw [splice_all _ _ (by rw [Array.length_toList, Array.length_toList, ns_size, ns_size, LSF.out]; rfl), Array.toArray_toList]
  exact bodyPost_ret (results_cell_row rfl _ _ w.heap.size 24 _ (0, 0) _ rfl hb' Tryd.underlying24 rfl (by rw [ns_size, LSF.out]; kernel_rfl)) rfl ⟨by rw [HO.out], below_setRow HB4.out (by omega) _⟩
end Go.Proofs.YtkimpjlaailhcaaDoor.Sha
