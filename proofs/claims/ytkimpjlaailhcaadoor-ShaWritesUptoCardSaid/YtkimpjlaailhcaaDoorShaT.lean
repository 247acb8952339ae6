/- stemmaref01.padded and stemmaref01.Sum. -/
import Derived.Test.YtkimpjlaailhcaaDoorShaS
import Derived.Test.YtkimpjlaailhcaaDoorShaB
import Derived.Test.YtkimpjlaailhcaaDoorPAx23
set_option linter.unusedVariables false
set_option linter.unusedSimpArgs false
namespace Go.Proofs.YtkimpjlaailhcaaDoor.Sha
open Go Go.RowKit Go.Proofs.YtkimpjlaailhcaaDoorW.PrintWords Go.Proofs.YtkimpjlaailhcaaDoorW.PrintLast Go.Proofs.YtkimpjlaailhcaaDoor.Ar Go.Proofs.YtkimpjlaailhcaaDoor.PA
def padF (l : List Int) : List Int := l ++ tail_ (l.length % 64) (l.length : Nat)
theorem pad_l0 (x0 : List Int) (k : Nat) : ∀ (d : Nat) (x3 : List Int), d < 64 → (x3.length + d) % 64 = 56 → x3.length + d < 140737488355328 →
    stemmaref01_padded.l0 (k + 1 + d) x0 x3 = stemmaref01_padded.l1 k (x3 ++ List.replicate d 0) (IntKind.u64.wrap ((IntKind.u64.wrap ((x0.length : Int))) * 8)) 0
  | 0, x3, _, h, _ => by
    simp only [Nat.add_zero, stemmaref01_padded.l0]
    rw [if_pos (by omega)]; simp
  | d + 1, x3, hd, h, hb => by
    show stemmaref01_padded.l0 ((k + 1 + d) + 1) x0 x3 = _
    simp only [stemmaref01_padded.l0]
    rw [if_neg (by omega), if_pos (by omega)]
    rw [pad_l0 x0 k d (x3 ++ [0]) (by omega) (by rw [List.length_append, List.length_singleton]; omega) (by rw [List.length_append, List.length_singleton]; omega), List.append_assoc]; rfl
theorem pad_l1s (k : Nat) (x3 : List Int) (b : Int) (i : Nat) (hi : i < 8) (hb : x3.length < 140737488355328) :
    stemmaref01_padded.l1 (k + 1) x3 b (i : Int) = stemmaref01_padded.l1 k (x3 ++ [b / 2 ^ (56 - 8 * i) % 256]) b ((i + 1 : Nat) : Int) := by
  have e1 : wrap64 (8 * (i : Int)) = ((8 * i : Nat) : Int) := by unfold wrap64; omega
  have e2 : wrap64 (56 - ((8 * i : Nat) : Int)) = ((56 - 8 * i : Nat) : Int) := by unfold wrap64; omega
  have e3 : IntKind.u64.wrap ((56 - 8 * i : Nat) : Int) = ((56 - 8 * i : Nat) : Int) := by rw [IntKind.wrap_u64]; omega
  have e4 : wrap64 ((i : Int) + 1) = ((i + 1 : Nat) : Int) := by unfold wrap64; omega
  have e5 : shr .u64 b ((56 - 8 * i : Nat) : Int) = b / 2 ^ (56 - 8 * i) := by
    unfold shr
    rw [Int.toNat_natCast]
    congr 2
    show min (56 - 8 * i) 64 = _
    omega
  simp only [stemmaref01_padded.l1]
  rw [if_pos (by omega), e1, e2, e3, if_pos (by omega), if_pos hb, e4, e5]
theorem be8_eq (b : Int) : be8 b = [b / 2 ^ 56 % 256, b / 2 ^ 48 % 256, b / 2 ^ 40 % 256, b / 2 ^ 32 % 256, b / 2 ^ 24 % 256, b / 2 ^ 16 % 256, b / 2 ^ 8 % 256, b / 2 ^ 0 % 256] := rfl
theorem pad_l1 (k : Nat) (x3 : List Int) (b : Int) (hb : x3.length + 8 < 140737488355328) : stemmaref01_padded.l1 (k + 9) x3 b 0 = some (x3 ++ be8 b) := by
  have h := pad_l1s (k + 8) x3 b 0 (by omega) (by omega)
  rw [show ((0 : Nat) : Int) = 0 from rfl] at h
  rw [h, pad_l1s (k + 7) _ b 1 (by omega) (by simp; omega), pad_l1s (k + 6) _ b 2 (by omega) (by simp; omega), pad_l1s (k + 5) _ b 3 (by omega) (by simp; omega), pad_l1s (k + 4) _ b 4 (by omega) (by simp; omega),
    pad_l1s (k + 3) _ b 5 (by omega) (by simp; omega), pad_l1s (k + 2) _ b 6 (by omega) (by simp; omega), pad_l1s (k + 1) _ b 7 (by omega) (by simp; omega)]
  simp only [stemmaref01_padded.l1]
  rw [if_neg (by omega), be8_eq]
  simp
theorem padded_f (l : List Int) (hl : l.length ≤ 140737488351232) : stemmaref01_padded.f 100 l = some (padF l) := by
  unfold stemmaref01_padded.f
  rw [if_pos (by simp; omega)]
  simp only [List.nil_append, Option.bind_some]
  rw [if_pos (by omega)]
  have hz : padz (l.length % 64) < 64 := by unfold padz; omega
  have h1 := pad_l0 l (99 - padz (l.length % 64)) (padz (l.length % 64)) (l ++ [128]) hz (by rw [List.length_append, List.length_singleton]; unfold padz; omega) (by rw [List.length_append, List.length_singleton]; omega)
  rw [show 99 - padz (l.length % 64) + 1 + padz (l.length % 64) = 100 by omega] at h1
  rw [h1]
  have h2 := pad_l1 (90 - padz (l.length % 64)) (l ++ [128] ++ List.replicate (padz (l.length % 64)) 0) (IntKind.u64.wrap ((IntKind.u64.wrap ((l.length : Int))) * 8)) (by simp; omega)
  rw [show 90 - padz (l.length % 64) + 9 = 99 - padz (l.length % 64) by omega] at h2
  rw [h2, padF, tail_]
  rw [show IntKind.u64.wrap ((IntKind.u64.wrap ((l.length : Int))) * 8) = ((l.length : Nat) : Int) * 8 % 18446744073709551616 by simp only [IntKind.wrap_u64]; omega]
  simp
theorem padF_len (l : List Int) : (padF l).length % 64 = 0 ∧ (padF l).length ≤ l.length + 72 := by
  have h8 : (be8 ((l.length : Nat) * 8 % 18446744073709551616)).length = 8 := beS_len _ 8
  rw [padF, tail_, List.length_append, List.length_cons, List.length_append, List.length_replicate, h8]
  unfold padz
  omega
def rb (P : List Int) (i : Nat) : List Int := it (fun j S => blockF S ((P.drop (64 * j)).take 64)) btab i
theorem rb_len (P : List Int) (i : Nat) : (rb P i).length = 8 := (it_len (fun _ _ => blockF_len _ _) i).trans rfl
def rsumF (l : List Int) : List Int := outF (rb (padF l) ((padF l).length / 64))
theorem rsumF_len (l : List Int) : (rsumF l).length = 32 := by rw [rsumF, outF]; exact outS_len _ 32
structure Rm (w : World) (S : List Int) (wr : World) : Prop where
  below : Below w.heap.size w wr
  rs : wr.heap[w.heap.size]? = some (.cells (ns .u8 (List.replicate 32 0)) 24 (0, 0))
  st : wr.heap[w.heap.size + 1]? = some (.cells (ns .u32 S) 47 (0, 0))
section
variable {w wr wq : World} {S : List Int}
theorem Rm.step (h : Rm w S wr) (hb : Below wr.heap.size wr wq) : Rm w S wq := ⟨below_step h.below hb, blk_below h.rs hb, blk_below h.st hb⟩
theorem Rm.alloc (h : Rm w S wr) (o : Obj) : Rm w S (wr.alloc o) := h.step (below_alloc (Below.refl _ _) o)
theorem Rm.far (h : Rm w S wr) {g3 : Nat} (h3 : w.heap.size + 1 < g3) (i : Nat) (v : Value) : Rm w S (wr.setCell ⟨g3, i, none⟩ v) :=
  ⟨h.below.setCell (by simp; omega) _, blk_far h.rs (by simp; omega) _, blk_far h.st (by simp; omega) _⟩
theorem Rm.row (h : Rm w S wr) (S' : List Int) : Rm w S' (wr.setRow (w.heap.size + 1) (ns .u32 S')) :=
  ⟨below_setRow h.below (by omega) _, blk_row_far h.rs (by omega) _, blk_row h.st _⟩
end
theorem mid_of {A : Option Addr} {c : Nat} {P : List Int} (hl : P.length ≤ c) (j : Nat) (hj : 64 * j + 64 ≤ P.length) : ∃ A', (∀ W : World, (Instr.slice 22 (.slice A P.length c) (some (.int .i64 ((64 * j : Nat) : Int))) (some (.int .i64 (((64 * j : Nat) : Int) + 64))) none).run Tryd.prog W = .ok (.slice A' 64 (c - 64 * j)) W) ∧
    (∀ W, Kd.C (Kd.int .u8) W A P.length P → Kd.C (Kd.int .u8) W A' 64 ((P.drop (64 * j)).take 64)) ∧ 64 ≤ c - 64 * j := by
  obtain ⟨i0, hi0, _, hsz, _⟩ := info_parts infoB
  obtain ⟨A', h1, h2, h3⟩ := print_mid_of (P := Tryd.prog) (Value.int .u8) 0 22 5 .i64 .i64 Tryd.underlying22 hi0 hsz A c P ((64 * j : Nat) : Int) (((64 * j : Nat) : Int) + 64) (by omega) (by omega) (by omega) hl
  have e1 : (((64 * j : Nat) : Int) + 64).toNat = 64 * j + 64 := by omega
  have e2 : (((64 * j : Nat) : Int)).toNat = 64 * j := by omega
  have e3 : ((P.take (64 * j + 64)).drop (64 * j)) = (P.drop (64 * j)).take 64 := by rw [List.drop_take, show 64 * j + 64 - 64 * j = 64 by omega]
  have e4 : ((P.drop (64 * j)).take 64).length = 64 := by rw [List.length_take, List.length_drop]; omega
  rw [e1, e2, e3, e4] at h1 h2 h3
  exact ⟨A', h1, fun W hC => Kd.C_of_reads (h1 := fun _ => rfl) (h2 W (Kd.reads_of_C hC)), h3⟩
set_option maxRecDepth 100000 in
set_option maxHeartbeats 20000000 in
theorem RSum_calls (w : World) (A : Option Addr) (c : Nat) (l : List Int) (hlc : l.length ≤ c) (hr : Kd.C (Kd.int .u8) w A l.length l) (hl : l.length ≤ 140737488351232) :
    Calls Tryd.prog 11 #[.slice A l.length c] w fun e w' => e = .returned (.agg (ns .u8 (rsumF l))) ∧ Below w.heap.size w w' := by
  have HC0 := Aside0.mk hr
  have HP := Aside0.mk (fun (W : World) (hW : Kd.C (Kd.int .u8) W A l.length l) => stemmaref01_padded.calls 100 A c l (padF l) W hW hlc (padded_f l hl))
  obtain ⟨P, hPP⟩ : ∃ P, padF l = P := ⟨_, rfl⟩
  have hPl := padF_len l
  rw [hPP] at HP hPl
  have hPl2 : P.length ≤ 140737488351304 := by omega
  have hPl3 := hPl.1
  have HRS : Aside0 (rsumF l = outF (rb P (P.length / 64))) := ⟨by rw [rsumF, hPP]⟩
  have HPL := Aside0.mk hPl2
  have HPM := Aside0.mk hPl3
  have HLC := Aside0.mk hlc
  clear hr hl hPP hPl hPl2 hPl3 hlc
  go_enter Tryd.func11, Tryd.ntmps11
  go_wp2_with fail
  have hm1 : Rm w btab ((w.alloc (.cells (ns .u8 (List.replicate 32 0)) 24)).alloc (.cells (ns .u32 btab) 47)) := ⟨below_alloc (below_alloc (Below.refl _ _) _) _, blk_alloc (blk_new _ _) _, new_at _ _ _ (by simp)⟩
  have hz1 : ((w.alloc (.cells (ns .u8 (List.replicate 32 0)) 24)).alloc (.cells (ns .u32 btab) 47)).heap.size = w.heap.size + 1 + 1 := by simp
  change Calls _ _ _ ((w.alloc (.cells (ns .u8 (List.replicate 32 0)) 24)).alloc (.cells (ns .u32 btab) 47)) _
  generalize (w.alloc (.cells (ns .u8 (List.replicate 32 0)) 24)).alloc (.cells (ns .u32 btab) 47) = w1 at hm1 hz1 ⊢
  refine (HP.out w1 (Kd.C_below HC0.out hm1.below)).mono ?_
  rintro e w2 ⟨v0, rfl, ho, hb⟩
  obtain ⟨A2, c2, rfl, hc2, hcc⟩ := Kd.R_reads ho
  have hF : Kd.F (Kd.int .u8) w2 (fun k => w.heap.size + 1 < k) A2 P.length P := Kd.F_mono (Kd.R_F (Kd.R_bound ho)) (fun k hk => by have := hk.2.1; omega)
  have HM := Aside0.mk (hm1.step hb)
  have HF := Aside0.mk hF
  have HC2 := Aside0.mk hc2
  clear hm1 hz1 ho hb hcc hF hc2 HP HC0
  go_wp2
  go_loopw [5] (fun i wr => ∃ j : Nat, 64 * j ≤ P.length ∧ i = .int .i64 ((64 * j : Nat) : Int) ∧ Rm w (rb P j) wr ∧ Kd.F (Kd.int .u8) wr (fun k => w.heap.size + 1 < k) A2 P.length P) (fun i _ => P.length - (intOf i).toNat)
  case atStart => exact ⟨0, Nat.zero_le _, rfl, HM.out, HF.out⟩
  case round =>
    clear HM HF
    obtain ⟨j, hj, rfl, hm, hF⟩ := hrel
    obtain ⟨m, hmj⟩ : ∃ m, 64 * j = m := ⟨_, rfl⟩
    by_cases hlt : m < P.length
    · have hj2 : 64 * j + 64 ≤ P.length := by have := HPM.out; omega
      obtain ⟨A3, hcut, hC3, hc3⟩ := mid_of HC2.out j hj2
      have hlen : ((P.drop (64 * j)).take 64).length = 64 := by rw [List.length_take, List.length_drop]; omega
      have hn : rb P (j + 1) = blockF (rb P j) ((P.drop (64 * j)).take 64) := rfl
      rw [hmj] at hcut hj hj2 ⊢
      obtain ⟨S, hS⟩ : ∃ S, rb P j = S := ⟨_, rfl⟩
      have lS : S.length = 8 := by rw [← hS]; exact rb_len P j
      rw [hS] at hm hn
      have HBL := Aside0.mk (fun (W : World) (hW : Kd.C (Kd.int .u8) W A2 P.length P) => (show Calls Tryd.prog 24 #[.agg (nums .u32 S).toArray, .slice A3 64 (c2 - 64 * j)] W fun e w' => e = .returned (.agg (ns .u32 (blockF S ((P.drop (64 * j)).take 64)))) ∧ Below W.heap.size W w' from block_calls S _ lS hlen A3 (c2 - 64 * j) W (hC3 W hW) hc3))
      rw [← hn] at HBL
      rw [hmj] at HBL
      have HN2 : Aside0 ((rb P (j + 1)).length = 8) := ⟨rb_len P (j + 1)⟩
      have HMJ := Aside0.mk hmj
      have HCUT := Aside0.mk hcut
      have HM := Aside0.mk hm
      have HF := Aside0.mk hF
      have LS := Aside0.mk lS
      have HJ2 := Aside0.mk hj2
      have HPL2 : m < 140737488351304 := by have := HPL.out; omega
      have HPL3 := Aside0.mk HPL2
      clear hC3 hc3 hlen hn hS lS hm hF hcut hj hj2 hmj HPL2
      go_wp2
      refine wp_region_still_tail 6 (by kernel_rfl) (by kernel_rfl) ?_
      generalize hwd : (⟨wr.heap, wr.tape, wr.drawn + 1, wr.os, wr.output⟩ : World) = wd
      have hwd' : wr.drewN 1 = wd := hwd
      have HM := Aside0.mk (HM.out.step (hwd' ▸ pw_below_drewN (Below.refl _ _) 1))
      have HF := Aside0.mk (Kd.F_at hwd' HF.out)
      clear hwd' hwd
      simp only [List.take_succ_cons, List.take_zero, List.drop_succ_cons, List.drop_zero]
      refine wpStill_load_at rfl 47 (.tmp 3) rfl (w.heap.size + 1) 0 rfl _ _ HM.out.st (nums .u32 S) (fun j v hv => by rw [Nat.zero_add]; have := ns_toList .u32 S; rw [← this, Array.getElem?_toList] at hv; exact hv) _ Tryd.underlying47 rfl (by rw [nums_len, LS.out]; kernel_rfl) ?_
      have x1 : IntKind.i64.wrap ((m : Int) + 64) = (m : Int) + 64 := IntWalk.i64_in _ (by have := HPL3.out; omega)
      have hcut := HCUT.out
      repeat (refine wpStill_step (fun K hK => ?_); go_simp; (refine hK _ ?_; clear hK K))
      refine wpStill_nil ?_
      clear x1 hcut
      go_wp2_with (first | (go_at_call 24; refine (HBL.out _ (Kd.F_now HF.out)).mono ?_; rintro e w5 ⟨rfl, hb5⟩; have HM5 := Aside0.mk (HM.out.step hb5); have HF5 := Aside0.mk (Kd.F_below HF.out hb5); clear hb5) | ((with_reducible refine gate_ (Op.store 47 (.tmp 3) (.tmp 23)) rfl ?_); refine wpList_store_at rfl 47 (.tmp 3) (.tmp 23) rfl _ 0 _ rfl rfl _ _ HM5.out.st (by rw [ns_size, ns_size, HN2.out, LS.out]; simp) (by rw [ns_size, HN2.out]; kernel_rfl) (ns_one _ _) ?_))
      have e0 := HMJ.out
      have e2 := HPL3.out
      have e3 := HJ2.out
      have e1 : wrap64 ((m : Int) + 64) = ((64 * (j + 1) : Nat) : Int) := by unfold wrap64; omega
      refine ⟨⟨j + 1, by omega, by rw [e1], ?_, ?_⟩, ?_⟩
      · rw [splice_all _ _ (by rw [Array.length_toList, Array.length_toList, ns_size, ns_size, HN2.out, LS.out]), Array.toArray_toList]
        exact HM5.out.row _
      · exact Kd.F_step HF5.out (fun k hk _ => setRow_other _ _ _ _ (by omega))
      · rw [e1]
        show P.length - (64 * (j + 1)) < P.length - m
        omega
    · have hjP : 64 * j = P.length := by omega
      have hS : rb P j = rb P (P.length / 64) := by rw [← hjP, Nat.mul_div_cancel_left _ (by omega)]
      obtain ⟨S, hSS⟩ : ∃ S, rb P (P.length / 64) = S := ⟨_, rfl⟩
      have lS : S.length = 8 := by rw [← hSS]; exact rb_len _ _
      rw [hSS] at HRS hS
      rw [hS] at hm
      have HM := Aside0.mk hm
      have LS := Aside0.mk lS
      have hml : m = P.length := by omega
      rw [hmj, hml]
      clear hF hm hS hSS lS hjP hmj hlt hj hml
      go_wp2
      have hg4 : w.heap.size + 1 < wr.heap.size := blk_lt HM.out.st
      have HM7 := Aside0.mk (HM.out.alloc (.cells (ns .u8 (List.replicate 32 0)) 24))
      have HB7 : Bk (wr.alloc (.cells (ns .u8 (List.replicate 32 0)) 24)) wr.heap.size 24 .u8 (List.replicate 32 0) := ⟨blk_new wr _⟩
      obtain ⟨w7, hw7⟩ : ∃ w7, wr.alloc (.cells (ns .u8 (List.replicate 32 0)) 24) = w7 := ⟨_, rfl⟩
      rw [hw7] at HM7 HB7
      change Code.wp _ _ _ _ (wr.alloc (.cells (ns .u8 (List.replicate 32 0)) 24))
      rw [hw7]
      generalize wr.heap.size = g4 at hg4 HB7 ⊢
      have HG4 := Aside0.mk hg4
      clear hg4 hw7 HM
      go_loopw [7] (fun i w' => ∃ k : Nat, k ≤ 32 ∧ i = .int .i64 k ∧ Rm w S w' ∧ Bk w' g4 24 .u8 (it (outS S) (List.replicate 32 0) k)) (fun i _ => 32 - (intOf i).toNat)
      case atStart => exact ⟨0, by omega, rfl, HM7.out, HB7⟩
      case round =>
        clear HM7 HB7
        obtain ⟨k, hk, rfl, hm, hb⟩ := hrel
        by_cases hlt : k < 32
        · have c0 := cell hb.out k (by rw [outS_len]; omega)
          have f0 := blk_frozen hb.out k
          have c1 := cell hm.st (k / 4) (by rw [LS.out]; omega)
          obtain ⟨y, hy⟩ : ∃ y, rd (it (outS S) (List.replicate 32 0) k) (k : Int) = y := ⟨_, rfl⟩
          rw [hy] at c0
          have HM := Aside0.mk hm
          have k4 : k / 4 < 8 := by omega
          clear hm hy
          go_wp2
          go_roundw
          case rel => exact ⟨k + 1, by omega, by go_num, HM.out.far HG4.out k _, ⟨set_ hb.out k _⟩⟩
          case measure => simp [intOf]; omega
        · obtain rfl : k = 32 := by omega
          rw [show ((32 : Nat) : Int) = 32 from rfl]
          have LO : Aside0 ((it (outS S) (List.replicate 32 0) 32).length = 32) := ⟨outS_len _ 32⟩
          obtain ⟨O, hO⟩ : ∃ O, it (outS S) (List.replicate 32 0) 32 = O := ⟨_, rfl⟩
          have HO : Aside0 (rsumF l = O) := ⟨by rw [HRS.out, outF]; exact hO⟩
          rw [hO] at hb LO
          have HM := Aside0.mk hm
          clear hm hO
          go_wp2_with (first | ((with_reducible refine gate_ (Op.load 24 (.tmp 6)) rfl ?_); refine wpList_load_row rfl 24 (.tmp 6) rfl _ rfl _ _ _ _ hb.out Tryd.underlying24 rfl (by rw [ns_size, LO.out]; kernel_rfl) ?_) | ((with_reducible refine gate_ (Op.store 24 (.tmp 2) (.tmp 41)) rfl ?_); refine wpList_store_at rfl 24 (.tmp 2) (.tmp 41) rfl _ 0 _ rfl rfl _ _ HM.out.rs (by rw [ns_size, ns_size, LO.out]; simp) (by rw [ns_size, LO.out]; kernel_rfl) (ns_one _ _) ?_))
          have hb' := Ar.blk_row HM.out.rs (splice (ns .u8 (List.replicate 32 0)).toList 0 (ns .u8 O).toList).toArray
          rw [splice_all _ _ (by rw [Array.length_toList, Array.length_toList, ns_size, ns_size, LO.out]; rfl), Array.toArray_toList] at hb'
          rw [splice_all _ _ (by rw [Array.length_toList, Array.length_toList, ns_size, ns_size, LO.out]; rfl), Array.toArray_toList]
          exact bodyPost_ret (results_cell_row rfl _ _ w.heap.size 24 _ (0, 0) _ rfl hb' Tryd.underlying24 rfl (by rw [ns_size, LO.out]; kernel_rfl)) rfl ⟨by rw [HO.out], below_setRow HM.out.below (by omega) _⟩
end Go.Proofs.YtkimpjlaailhcaaDoor.Sha
