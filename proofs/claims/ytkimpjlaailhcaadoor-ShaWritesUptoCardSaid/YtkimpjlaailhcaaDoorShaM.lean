/- sha.mix: the state behind one block, as it computes it. -/
import Derived.Test.YtkimpjlaailhcaaDoorAr
import Derived.Test.YtkimpjlaailhcaaDoorWAt
import Derived.Test.YtkimpjlaailhcaaDoorShaG
import Derived.Test.YtkimpjlaailhcaaDoorProg
import Derived.ProofKit
import Derived.LoopTactic
import Derived.Outline
import Derived.Laws.Bits64
import Derived.IntWalk
import Derived.Lib.Hide
import Derived.Deep.QuietTactic
import Derived.BigQuiet
import Derived.BigRegion
set_option linter.unusedVariables false
set_option linter.unusedSimpArgs false
namespace Go.Proofs.YtkimpjlaailhcaaDoor.Sha
open Go Go.RowKit Go.Proofs.YtkimpjlaailhcaaDoorW.PrintWords Go.Proofs.YtkimpjlaailhcaaDoor.Ar Go.Proofs.YtkimpjlaailhcaaDoor.PA
def ob (a b : Int) : Int := Go.bits .or .u32 a b
def xb (a b : Int) : Int := Go.bits .xor .u32 a b
def nb (a b : Int) : Int := Go.bits .and .u32 a b
def u (x : Int) : Int := x % 4294967296
def rot (x n : Int) : Int := ob (x / 2 ^ n.toNat) (x * 2 ^ (32 - n).toNat % 4294967296)
theorem rotate_calls (x n : Int) (w : World) (n0 : 0 ≤ n) (n1 : n ≤ 32) :
    Calls Tryd.prog 30 #[.int .u32 x, .int .u64 n] w fun e w' => e = .returned (.int .u32 (rot x n)) ∧ w' = w := by
  go_enter Tryd.func30, Tryd.ntmps30
  go_wp2
  go_ret
  exact ⟨rfl, rfl⟩
def word (B : List Int) (i : Nat) : Int :=
  ob (ob (ob (u (rd B (4 * i)) * 16777216 % 4294967296) (u (rd B (4 * i + 1)) * 65536 % 4294967296)) (u (rd B (4 * i + 2)) * 256 % 4294967296)) (u (rd B (4 * i + 3)))
def nxt (W : List Int) (i : Nat) : Int :=
  u (rd W (i - 16 : Nat) + xb (xb (rot (rd W (i - 15 : Nat)) 7) (rot (rd W (i - 15 : Nat)) 18)) (rd W (i - 15 : Nat) / 8) + rd W (i - 7 : Nat) + xb (xb (rot (rd W (i - 2 : Nat)) 17) (rot (rd W (i - 2 : Nat)) 19)) (rd W (i - 2 : Nat) / 1024))
def stp (B : List Int) (i : Nat) (W : List Int) : List Int := W.set i (if i < 16 then word B i else nxt W i)
def sc (B : List Int) (n : Nat) : List Int := it (stp B) (List.replicate 64 0) n
theorem sc_len (B : List Int) (n : Nat) : (sc B n).length = 64 := (it_len (fun _ _ => List.length_set) n).trans rfl
theorem sc_lo (B : List Int) (n : Nat) (h : n < 16) : sc B (n + 1) = (sc B n).set n (word B n) := by rw [sc, it, stp, if_pos h]; rfl
theorem sc_hi (B : List Int) (n : Nat) (h : 16 ≤ n) : sc B (n + 1) = (sc B n).set n (nxt (sc B n) n) := by rw [sc, it, stp, if_neg (by omega)]; rfl
/-- The eight words of a state. -/
structure H8 where
  (a b c d e f g h : Int)
def H8.l (x : H8) : List Int := [x.a, x.b, x.c, x.d, x.e, x.f, x.g, x.h]
def h8 (S : List Int) : H8 := ⟨rd S 0, rd S 1, rd S 2, rd S 3, rd S 4, rd S 5, rd S 6, rd S 7⟩
def cmpl (x : Int) : Int := xb IntKind.u32.max x
def tt (W : List Int) (i : Nat) (x : H8) : Int :=
  x.h + xb (xb (rot x.e 6) (rot x.e 11)) (rot x.e 25) + xb (nb x.e x.f) (nb (cmpl x.e) x.g) + rtab.getD i 0 + rd W i
def uu (x : H8) : Int := xb (xb (rot x.a 2) (rot x.a 13)) (rot x.a 22) + xb (xb (nb x.a x.b) (nb x.a x.c)) (nb x.b x.c)
def rnd (W : List Int) (i : Nat) (x : H8) : H8 := ⟨u (u (tt W i x) + u (uu x)), x.a, x.b, x.c, u (x.d + u (tt W i x)), x.e, x.f, x.g⟩
def adds (T : List Int) (i : Nat) (S : List Int) : List Int := S.set i (u (rd S i + rd T i))
theorem adds_len (T S : List Int) (n : Nat) : (it (adds T) S n).length = S.length := it_len (fun _ _ => List.length_set) n
def fin (S B : List Int) : H8 := it (rnd (sc B 64)) (h8 S) 64
def mixF (S B : List Int) : List Int := it (adds (fin S B).l) S 8
theorem mixF_len (S B : List Int) : (mixF S B).length = S.length := adds_len _ _ _
theorem new_at (w : World) (o : Obj) (n : Nat) (h : n = w.heap.size) : (w.alloc o).heap[n]? = some o := by subst h; exact blk_new w o
structure Mx (w : World) (s b : Array Value) (W : List Int) (wr : World) : Prop where
  below : Below w.heap.size w wr
  size : wr.heap.size = w.heap.size + 1 + 1 + 1 + 1
  st : wr.heap[w.heap.size]? = some (.cells s 47 (0, 0))
  bl : wr.heap[w.heap.size + 1]? = some (.cells b 51 (0, 0))
  rs : wr.heap[w.heap.size + 1 + 1]? = some (.cells (ns .u32 (List.replicate 8 0)) 47 (0, 0))
  sc : wr.heap[w.heap.size + 1 + 1 + 1]? = some (.cells (ns .u32 W) 58 (0, 0))
theorem Mx.set {w : World} {s b : Array Value} {W : List Int} {wr : World} (h : Mx w s b W wr) (i : Nat) (v : Int) : Mx w s b (W.set i v) (wr.setCell ⟨w.heap.size + 1 + 1 + 1, i, none⟩ (.int .u32 v)) :=
  ⟨h.below.setCell (by simp; omega) _, by simp [World.setCell]; exact h.size, blk_far h.st (by simp; omega) _, blk_far h.bl (by simp) _, blk_far h.rs (by simp) _, set_ h.sc i v⟩
theorem Mx.drewN {w : World} {s b : Array Value} {W : List Int} {wr : World} (h : Mx w s b W wr) (n : Nat) : Mx w s b W (wr.drewN n) :=
  ⟨pw_below_drewN h.below n, h.size, h.st, h.bl, h.rs, h.sc⟩
theorem Mx.drew {w : World} {s b : Array Value} {W : List Int} {wr : World} (h : Mx w s b W wr) : Mx w s b W wr.drew := h.drewN 1
theorem Mx.at_ {w : World} {s b : Array Value} {W : List Int} {wr wq : World} {n : Nat} (h : Mx w s b W wr) (hq : wr.drewN n = wq) : Mx w s b W wq := hq ▸ h.drewN n
theorem froz_at {w w' : World} {m : Nat} {a : Addr} (hq : w.drewN m = w') (h : w.frozen? a = false) : w'.frozen? a = false := by subst hq; exact h
theorem Mx.setS {w : World} {S : List Int} {b : Array Value} {W : List Int} {wr : World} (h : Mx w (ns .u32 S) b W wr) (i : Nat) (v : Int) : Mx w (ns .u32 (S.set i v)) b W (wr.setCell ⟨w.heap.size, i, none⟩ (.int .u32 v)) :=
  ⟨h.below.setCell (by simp) _, by simp [World.setCell]; exact h.size, set_ h.st i v, blk_far h.bl (by simp) _, blk_far h.rs (by simp; omega) _, blk_far h.sc (by simp; omega) _⟩
set_option maxRecDepth 100000 in
set_option maxHeartbeats 20000000 in
theorem mix_calls (S B : List Int) (hS : S.length = 8) (hB : B.length = 64) (w : World) (hG : Gl w) :
    Calls Tryd.prog 25 #[.agg (ns .u32 S), .agg (ns .u8 B)] w fun e w' => e = .returned (.agg (ns .u32 (mixF S B))) ∧ Below w.heap.size w w' := by
  obtain ⟨s, hs⟩ : ∃ s, ns .u32 S = s := ⟨_, rfl⟩
  obtain ⟨b, hb⟩ : ∃ b, ns .u8 B = b := ⟨_, rfl⟩
  have HB := Aside0.mk hb
  have HS := Aside0.mk hs
  rw [hs, hb]
  have LB := Aside0.mk hB
  have LS := Aside0.mk hS
  have HG := Aside0.mk hG
  clear hS hB hs hb hG
  go_enter Tryd.func25, Tryd.ntmps25
  go_wp2
  go_loopw [23] (fun i wr => ∃ k : Nat, k ≤ 16 ∧ i = .int .i64 k ∧ Mx w s b (sc B k) wr) (fun i _ => 16 - (intOf i).toNat)
  case atStart =>
    refine ⟨0, by omega, rfl, ⟨?_, by simp, ?_, ?_, ?_, ?_⟩⟩
    · exact below_alloc (below_alloc (below_alloc (below_alloc (Below.refl _ _) _) _) _) _
    · exact blk_alloc (blk_alloc (blk_alloc (blk_new _ _) _) _) _
    · exact blk_alloc (blk_alloc (new_at _ _ _ (by simp)) _) _
    · exact blk_alloc (new_at _ _ _ (by simp)) _
    · exact new_at _ _ _ (by simp)
  case round =>
    obtain ⟨k, hk, rfl, hm⟩ := hrel
    by_cases hlt : k < 16
    · have c0 : wr.cell? ⟨w.heap.size + 1, 4 * k, none⟩ = some (.int .u8 (rd B (4 * (k : Int)))) := by
        rw [blk_cell hm.bl, ← HB.out]; exact ns_get _ _ (4 * k) (by rw [LB.out]; omega)
      have c1 : wr.cell? ⟨w.heap.size + 1, 4 * k + 1, none⟩ = some (.int .u8 (rd B (4 * (k : Int) + 1))) := by
        rw [blk_cell hm.bl, ← HB.out]; exact ns_get _ _ (4 * k + 1) (by rw [LB.out]; omega)
      have c2 : wr.cell? ⟨w.heap.size + 1, 4 * k + 2, none⟩ = some (.int .u8 (rd B (4 * (k : Int) + 2))) := by
        rw [blk_cell hm.bl, ← HB.out]; exact ns_get _ _ (4 * k + 2) (by rw [LB.out]; omega)
      have c3 : wr.cell? ⟨w.heap.size + 1, 4 * k + 3, none⟩ = some (.int .u8 (rd B (4 * (k : Int) + 3))) := by
        rw [blk_cell hm.bl, ← HB.out]; exact ns_get _ _ (4 * k + 3) (by rw [LB.out]; omega)
      have c4 := cell hm.sc k (by rw [sc_len]; omega)
      have f4 := blk_frozen hm.sc k
      have HM := Aside0.mk hm
      clear hm
      go_wp2
      go_region
      go_wp2
      go_roundw
      case rel => exact ⟨k + 1, by omega, by go_num, by rw [sc_lo B k hlt]; exact (HM.out.set k _).drew⟩
      case measure => simp [intOf]; omega
    · obtain rfl : k = 16 := by omega
      rw [show ((16 : Nat) : Int) = 16 from rfl]
      have HM := Aside0.mk hm
      clear hm
      go_wp2
      go_loopw [7] (fun i wr => ∃ k : Nat, 16 ≤ k ∧ k ≤ 64 ∧ i = .int .i64 k ∧ Mx w s b (sc B k) wr) (fun i _ => 64 - (intOf i).toNat)
      case atStart => exact ⟨16, by omega, by omega, rfl, HM.out⟩
      case round =>
        clear HM
        obtain ⟨k, hk0, hk, rfl, hm⟩ := hrel
        by_cases hlt : k < 64
        · have c15 := cell hm.sc (k - 15) (by rw [sc_len]; omega)
          have c2 := cell hm.sc (k - 2) (by rw [sc_len]; omega)
          have c16 := cell hm.sc (k - 16) (by rw [sc_len]; omega)
          have c7 := cell hm.sc (k - 7) (by rw [sc_len]; omega)
          have c4 := cell hm.sc k (by rw [sc_len]; omega)
          have f4 := blk_frozen hm.sc k
          have HM := Aside0.mk hm
          clear hm
          go_wp2
          go_quiet ((go_at_call 30; exact Calls.quiet_of_same (rotate_calls _ _ _ (by omega) (by omega))))
          generalize hq : wr.drewN nq = wq
          have HM := Aside0.mk (HM.out.at_ hq)
          have c15 := cell_at hq c15
          have c2 := cell_at hq c2
          have c16 := cell_at hq c16
          have c7 := cell_at hq c7
          have c4 := cell_at hq c4
          have f4 := froz_at hq f4
          clear hq
          go_wp2
          go_quiet ((go_at_call 30; exact Calls.quiet_of_same (rotate_calls _ _ _ (by omega) (by omega))))
          generalize hq : wq.drewN nq = wp
          have HM := Aside0.mk (HM.out.at_ hq)
          have c15 := cell_at hq c15
          have c2 := cell_at hq c2
          have c16 := cell_at hq c16
          have c7 := cell_at hq c7
          have c4 := cell_at hq c4
          have f4 := froz_at hq f4
          clear hq
          go_wp2
          go_region
          go_wp2
          go_roundw
          case rel => exact ⟨k + 1, by omega, by omega, by go_num, by rw [sc_hi B k hk0]; exact (HM.out.set k _).drew⟩
          case measure => simp [intOf]; omega
        · obtain rfl : k = 64 := by omega
          rw [show ((64 : Nat) : Int) = 64 from rfl]
          have d0 : wr.cell? ⟨w.heap.size, 0, none⟩ = some (.int .u32 (rd S 0)) := by rw [blk_cell hm.st, ← HS.out]; exact ns_get _ _ 0 (by rw [LS.out]; omega)
          have d1 : wr.cell? ⟨w.heap.size, 1, none⟩ = some (.int .u32 (rd S 1)) := by rw [blk_cell hm.st, ← HS.out]; exact ns_get _ _ 1 (by rw [LS.out]; omega)
          have d2 : wr.cell? ⟨w.heap.size, 2, none⟩ = some (.int .u32 (rd S 2)) := by rw [blk_cell hm.st, ← HS.out]; exact ns_get _ _ 2 (by rw [LS.out]; omega)
          have d3 : wr.cell? ⟨w.heap.size, 3, none⟩ = some (.int .u32 (rd S 3)) := by rw [blk_cell hm.st, ← HS.out]; exact ns_get _ _ 3 (by rw [LS.out]; omega)
          have d4 : wr.cell? ⟨w.heap.size, 4, none⟩ = some (.int .u32 (rd S 4)) := by rw [blk_cell hm.st, ← HS.out]; exact ns_get _ _ 4 (by rw [LS.out]; omega)
          have d5 : wr.cell? ⟨w.heap.size, 5, none⟩ = some (.int .u32 (rd S 5)) := by rw [blk_cell hm.st, ← HS.out]; exact ns_get _ _ 5 (by rw [LS.out]; omega)
          have d6 : wr.cell? ⟨w.heap.size, 6, none⟩ = some (.int .u32 (rd S 6)) := by rw [blk_cell hm.st, ← HS.out]; exact ns_get _ _ 6 (by rw [LS.out]; omega)
          have d7 : wr.cell? ⟨w.heap.size, 7, none⟩ = some (.int .u32 (rd S 7)) := by rw [blk_cell hm.st, ← HS.out]; exact ns_get _ _ 7 (by rw [LS.out]; omega)
          have HM := Aside0.mk hm
          clear hm
          go_wp2
          go_quiet (fail)
          clear d0 d1 d2 d3 d4 d5 d6 d7
          go_wp2
          obtain ⟨W, hW⟩ : ∃ W, sc B 64 = W := ⟨_, rfl⟩
          have HM2 : Aside0 (Mx w s b W wr) := by rw [← hW]; exact HM
          have LW : Aside0 (W.length = 64) := ⟨by rw [← hW]; exact sc_len B 64⟩
          have HW := Aside0.mk hW
          clear hW HM
          go_loopw [10, 11, 12, 13, 14, 15, 16, 17, 127] (fun xa xb_ xc xd xe xf xg xh i wr => ∃ k : Nat, k ≤ 64 ∧ i = .int .i64 k ∧ xa = .int .u32 (it (rnd W) (h8 S) k).a ∧ xb_ = .int .u32 (it (rnd W) (h8 S) k).b ∧ xc = .int .u32 (it (rnd W) (h8 S) k).c ∧ xd = .int .u32 (it (rnd W) (h8 S) k).d ∧ xe = .int .u32 (it (rnd W) (h8 S) k).e ∧ xf = .int .u32 (it (rnd W) (h8 S) k).f ∧ xg = .int .u32 (it (rnd W) (h8 S) k).g ∧ xh = .int .u32 (it (rnd W) (h8 S) k).h ∧ Mx w s b W wr) (fun _ _ _ _ _ _ _ _ i _ => 64 - (intOf i).toNat)
          case atStart => exact ⟨0, by omega, rfl, rfl, rfl, rfl, rfl, rfl, rfl, rfl, rfl, HM2.out.drewN _⟩
          case round =>
            clear HM2
            obtain ⟨k, hk, rfl, rfl, rfl, rfl, rfl, rfl, rfl, rfl, rfl, hm⟩ := hrel
            by_cases hlt : k < 64
            · obtain ⟨X, hX⟩ : ∃ X, it (rnd W) (h8 S) k = X := ⟨_, rfl⟩
              have hn : it (rnd W) (h8 S) (k + 1) = rnd W k X := by rw [it, hX]
              rw [hX]
              have HN := Aside0.mk hn
              clear hX hn
              obtain ⟨R, hR⟩ : ∃ R, rtab.getD k 0 = R := ⟨_, rfl⟩
              have g1 := (HG.out.below hm.below).r k hlt
              rw [hR] at g1
              have HR := Aside0.mk hR
              have c4 := cell hm.sc k (by rw [LW.out]; omega)
              have HM := Aside0.mk hm
              clear hm hR
              obtain ⟨xa, xb', xc, xd, xe, xf, xg, xh⟩ := X
              simp only []
              have hsgn : IntKind.u32.signed = false := rfl
              go_wp2
              go_quiet ((go_at_call 30; exact Calls.quiet_of_same (rotate_calls _ _ _ (by omega) (by omega))))
              go_wp2_with ((go_at_call 30; refine (rotate_calls _ _ _ (by omega) (by omega)).mono ?_; rintro e w' ⟨rfl, rfl⟩))
              go_roundw
              case rel => exact ⟨k + 1, by omega, by go_num, by rw [HN.out, ← HR.out]; rfl, by rw [HN.out]; rfl, by rw [HN.out]; rfl, by rw [HN.out]; rfl, by rw [HN.out, ← HR.out]; rfl, by rw [HN.out]; rfl, by rw [HN.out]; rfl, by rw [HN.out]; rfl, HM.out.drewN _⟩
              case measure => simp [intOf]; omega
            · obtain rfl : k = 64 := by omega
              rw [show ((64 : Nat) : Int) = 64 from rfl]
              obtain ⟨X, hX⟩ : ∃ X, it (rnd W) (h8 S) 64 = X := ⟨_, rfl⟩
              rw [hX]
              have HX := Aside0.mk hX
              have hm' : Mx w (ns .u32 S) b W wr := by rw [HS.out]; exact hm
              have HM := Aside0.mk hm'
              clear hX hm hm'
              obtain ⟨xa, xb', xc, xd, xe, xf, xg, xh⟩ := X
              simp only []
              go_wp2
              go_loopw [199] (fun i wr => ∃ k : Nat, k ≤ 8 ∧ i = .int .i64 k ∧ Mx w (ns .u32 (it (adds [xa, xb', xc, xd, xe, xf, xg, xh]) S k)) b W wr) (fun i _ => 8 - (intOf i).toNat)
              case atStart => exact ⟨0, by omega, rfl, HM.out⟩
              case round =>
                clear HM
                obtain ⟨k, hk, rfl, hm⟩ := hrel
                by_cases hlt : k < 8
                · have c0 := cell hm.st k (by rw [adds_len, LS.out]; omega)
                  have f0 := blk_frozen hm.st k
                  obtain ⟨y, hy⟩ : ∃ y, rd (it (adds [xa, xb', xc, xd, xe, xf, xg, xh]) S k) (k : Int) = y := ⟨_, rfl⟩
                  rw [hy] at c0
                  have HY := Aside0.mk hy
                  have HM := Aside0.mk hm
                  clear hm hy
                  go_wp2_with ((with_reducible refine gate_ (Op.index 47 (.tmp 198) (.tmp 199)) rfl ?_); refine wpList_index_ns rfl 47 46 (.tmp 198) (.tmp 199) rfl 8 Tryd.underlying47 _ Tryd.underlying46 rfl (by kernel_rfl) .u32 .i64 [xa, xb', xc, xd, xe, xf, xg, xh] k rfl rfl rfl hlt ?_)
                  go_roundw
                  case rel => exact ⟨k + 1, by omega, by go_num, by rw [it, adds, HY.out]; exact HM.out.setS _ _⟩
                  case measure => simp [intOf]; omega
                · obtain rfl : k = 8 := by omega
                  rw [show ((8 : Nat) : Int) = 8 from rfl]
                  have hmix : it (adds [xa, xb', xc, xd, xe, xf, xg, xh]) S 8 = mixF S B := by
                    rw [mixF, fin, HW.out, HX.out]; rfl
                  rw [hmix] at hm
                  have hst := hm.st
                  have hrs := hm.rs
                  have L8 : (mixF S B).length = 8 := by rw [mixF_len]; exact LS.out
                  have HM := Aside0.mk hm
                  have HL := Aside0.mk L8
                  clear hm L8 hmix
                  have HST := Aside0.mk hst
                  have HRS := Aside0.mk hrs
                  clear hst hrs
                  go_wp2_with (first | ((with_reducible refine gate_ (Op.load 47 (.tmp 2)) rfl ?_); refine wpList_load_row rfl 47 (.tmp 2) rfl _ rfl _ _ _ _ HST.out Tryd.underlying47 rfl (by rw [ns_size, HL.out]; kernel_rfl) ?_) | ((with_reducible refine gate_ (Op.store 47 (.tmp 4) (.tmp 210)) rfl ?_); refine wpList_store_at rfl 47 (.tmp 4) (.tmp 210) rfl _ 0 _ rfl rfl _ _ HRS.out (by rw [ns_size, ns_size, HL.out]; simp) (by rw [ns_size, HL.out]; kernel_rfl) (ns_one _ _) ?_))
                  have hb' := Ar.blk_row HRS.out (splice (ns .u32 (List.replicate 8 0)).toList 0 (ns .u32 (mixF S B)).toList).toArray
                  rw [splice_all _ _ (by rw [Array.length_toList, Array.length_toList, ns_size, ns_size, HL.out]; rfl), Array.toArray_toList] at hb'
                  rw [splice_all _ _ (by rw [Array.length_toList, Array.length_toList, ns_size, ns_size, HL.out]; rfl), Array.toArray_toList]
                  exact bodyPost_ret (results_cell_row rfl _ _ (w.heap.size + 1 + 1) 47 _ (0, 0) _ rfl hb' Tryd.underlying47 rfl (by rw [ns_size, HL.out]; kernel_rfl)) rfl ⟨rfl, below_setRow HM.out.below (by omega) _⟩
end Go.Proofs.YtkimpjlaailhcaaDoor.Sha
