/- Posts: full ones, Double, Drop. -/
import Derived.Test.YtnjnljnhpihemaaPoN
set_option linter.unusedVariables false
set_option linter.unusedSimpArgs false
namespace Go.Proofs.Ytnjnljnhpihemaa.Po
open Go Go.RowKit Go.Proofs.YtnjnljnhpihemaaW.PrintWords Go.Proofs.YtnjnljnhpihemaaW.PrintLast Go.Proofs.YtnjnljnhpihemaaW.PrintMore Go.Proofs.Ytnjnljnhpihemaa.PA
theorem upd_upd {Q : Int → Int → List (List Int)} {a b : Int} {x y : List (List Int)} : upd (upd Q a b x) a b y = upd Q a b y := by
  funext c d
  unfold upd
  split <;> rfl
theorem upd_other {Q : Int → Int → List (List Int)} {a b c d : Int} {x : List (List Int)} (h : ¬ (c = a ∧ d = b)) : upd Q a b x c d = Q c d := by
  unfold upd
  rw [if_neg h]
section
variable {w0 : World} {gp gm : Nat} {n : Int} {L : List (Int × Int × Value)} {Q : Int → Int → List (List Int)} {S : Nat → Prop} {w w1 : World} {a b : Int}
set_option maxRecDepth 100000 in
set_option maxHeartbeats 4000000 in
theorem Send_fullS (h : Ps w0 gp gm n L Q S w) (a0 : 0 ≤ a) (a1 : a < n) (b0 : 0 ≤ b) (b1 : b < n) (hab : a ≠ b) (hn : n ≤ 8) (A3 : Option Addr) (c3 : Nat) (l : List Int) (hc3 : l.length ≤ c3) (hr : Kd.C (Kd.int .u8) w A3 l.length l) (hl : l.length ≤ 1100000) (hq : 64 ≤ (Q a b).length) :
    Calls Try.prog 8 #[.pointer (some ⟨gp, 0, none⟩), .int .i64 a, .int .i64 b, .slice A3 l.length c3] w fun e w' => e = .returned (.int .i64 21) ∧ Ps w0 gp gm n L Q S w' ∧ Below w.heap.size w w' := by
  have ha : small a := ⟨by omega, by omega⟩
  have hb : small b := ⟨by omega, by omega⟩
  obtain ⟨A, c, hlk, hc, hR⟩ := h.looks ha hb
  have HP := Aside0.mk h
  have HLK := Aside0.mk (fun (W : World) (hW : Ps w0 gp gm n L Q S W) => look_ok hW a0 a1 b0 b1 hab)
  have HW := Aside0.mk hlk
  have HR := Aside0.mk hR
  have HC := Aside0.mk hc
  have HB := Aside0.mk (And.intro ha hb)
  have HR3 := Aside0.mk hr
  have HC3 := Aside0.mk hc3
  have t1 : decide (1100000 < (l.length : Int)) = false := decide_eq_false (by omega)
  have t2 : decide (64 ≤ ((Q a b).length : Int)) = true := decide_eq_true (by omega)
  have t3 : (64 ≤ (Q a b).length) = True := eq_true hq
  have HQ := Aside0.mk hq
  have HL := Aside0.mk hl
  clear h a0 a1 b0 b1 hab hn hc3 hr hl hq hlk hR hc ha hb
  go_enter Try.func8, Try.ntmps8
  go_wp2_with fail
  have HP1 := Aside0.mk (HP.out.step (below_alloc (Below.refl _ _) (.cells #[.int .i64 a, .int .i64 b] 53)))
  refine (HLK.out _ HP1.out).mono ?_
  rintro e w2 ⟨rfl, hb2⟩
  have HP2 := Aside0.mk (HP1.out.step hb2)
  have B9 := Aside0.mk (blk_below (blk_new w (.cells #[.int .i64 a, .int .i64 b] 53)) hb2)
  have HB2 := Aside0.mk ((below_alloc (Below.refl w.heap.size w) _).trans (hb2.mono (below_alloc (Below.refl w.heap.size w) (.cells #[.int .i64 a, .int .i64 b] 53)).size))
  clear hb2 HP1
  obtain ⟨g9, hg9⟩ : ∃ g9, w.heap.size = g9 := ⟨_, rfl⟩
  rw [hg9] at B9
  rw [hg9]
  clear hg9
  have c1 := HP2.out.c1
  have k0 := (blk_cell B9.out 0).trans rfl
  have k1 := (blk_cell B9.out 1).trans rfl
  have hlk : ∀ k, (Instr.lookup TM (.map (some gm)) (.agg #[.int .i64 a, .int .i64 b]) false).run Try.prog (w2.drewN k) = .ok (.slice A (Q a b).length c) (w2.drewN k) := fun k => HW.out _ (by rw [drewN_heap]; exact HP2.out.mb)
  have hlk0 := HW.out w2 HP2.out.mb
  go_upto_region 7 with (fail)
  go_quiet (fail)
  have HP3 := Aside0.mk (HP2.out.step (pw_below_drewN (Below.refl _ _) nq))
  have HB3 := Aside0.mk (HB2.out.trans ((pw_below_drewN (Below.refl w2.heap.size w2) nq).mono HB2.out.size))
  clear hlk hlk0 c1 k0 k1 HP2 HB2
  generalize w2.drewN nq = w3 at *
  go_wp2
  go_ret
  exact ⟨rfl, HP3.out, HB3.out⟩
theorem Send_full (h : Ps w0 gp gm n L Q S w) (a0 : 0 ≤ a) (a1 : a < n) (b0 : 0 ≤ b) (b1 : b < n) (hab : a ≠ b) (hn : n ≤ 8) (A3 : Option Addr) (c3 : Nat) (l : List Int) (hc3 : l.length ≤ c3) (hr : Kd.C (Kd.int .u8) w A3 l.length l) (hl : l.length ≤ 1100000) (hq : 64 ≤ (Q a b).length) :
    Calls Try.prog 8 #[.pointer (some ⟨gp, 0, none⟩), .int .i64 a, .int .i64 b, .slice A3 l.length c3] w fun e w' => e = .returned (.int .i64 21) ∧ Ps w0 gp gm n L Q S w' :=
  (Send_fullS h a0 a1 b0 b1 hab hn A3 c3 l hc3 hr hl hq).mono fun e w' ⟨he, hP, _⟩ => ⟨he, hP⟩
set_option maxRecDepth 100000 in
set_option maxHeartbeats 4000000 in
theorem Double_okS (h : Ps w0 gp gm n L Q S w) (a0 : 0 ≤ a) (a1 : a < n) (b0 : 0 ≤ b) (b1 : b < n) (hab : a ≠ b) (hn : n ≤ 8) (k : Nat) (l : List Int) (hk : (Q a b)[k]? = some l) (hl : l.length ≤ 1100000) (hq : (Q a b).length < 64) :
    Calls Try.prog 13 #[.pointer (some ⟨gp, 0, none⟩), .int .i64 a, .int .i64 b, .int .i64 (k : Int)] w fun e w' => e = .returned (.int .i64 0) ∧ ∃ L' S', Ps w0 gp gm n L' (upd Q a b (Q a b ++ [l])) S' w' ∧ Kept w w' (fun i => i = gm ∨ S i) := by
  have HL := Aside0.mk (Look_ok h a0 a1 b0 b1 hab hn k l hk hl)
  have HS := Aside0.mk (fun (W : World) (A : Option Addr) (c : Nat) (hP : Ps w0 gp gm n L Q S W) (hc : l.length ≤ c) (hC : Kd.C (Kd.int .u8) W A l.length l) => Send_okS hP a0 a1 b0 b1 hab hn A c l hc hC hl hq)
  clear h a0 a1 b0 b1 hab hn hk hl hq
  go_enter Try.func13, Try.ntmps13
  go_wp2_with fail
  refine HL.out.mono ?_
  rintro e w2 ⟨A, c, rfl, hO, hP, hb2⟩
  have HB2 := Aside0.mk hb2
  obtain ⟨_, hc, hC⟩ := Kd.R_reads' hO
  have HX := Aside0.mk (HS.out w2 A c hP hc hC)
  clear hO hP hc hC HL HS hb2
  go_wp2_with fail
  refine HX.out.mono ?_
  rintro e w3 ⟨rfl, L', S', hP, _, hk⟩
  have HK := Aside0.mk ((Kept.of_below HB2.out (fun i => i = gm ∨ S i)).then_ hk (fun k h => Or.inl h))
  have HP := Aside0.mk hP
  clear hP HX hk
  go_wp2_with fail
  go_ret
  exact ⟨rfl, _, _, HP.out, HK.out⟩
theorem Double_ok (h : Ps w0 gp gm n L Q S w) (a0 : 0 ≤ a) (a1 : a < n) (b0 : 0 ≤ b) (b1 : b < n) (hab : a ≠ b) (hn : n ≤ 8) (k : Nat) (l : List Int) (hk : (Q a b)[k]? = some l) (hl : l.length ≤ 1100000) (hq : (Q a b).length < 64) :
    Calls Try.prog 13 #[.pointer (some ⟨gp, 0, none⟩), .int .i64 a, .int .i64 b, .int .i64 (k : Int)] w fun e w' => e = .returned (.int .i64 0) ∧ ∃ L' S', Ps w0 gp gm n L' (upd Q a b (Q a b ++ [l])) S' w' :=
  (Double_okS h a0 a1 b0 b1 hab hn k l hk hl hq).mono fun e w' ⟨he, L', S', hP, _⟩ => ⟨he, L', S', hP⟩
set_option maxRecDepth 100000 in
set_option maxHeartbeats 4000000 in
theorem Double_fullS (h : Ps w0 gp gm n L Q S w) (a0 : 0 ≤ a) (a1 : a < n) (b0 : 0 ≤ b) (b1 : b < n) (hab : a ≠ b) (hn : n ≤ 8) (k : Nat) (l : List Int) (hk : (Q a b)[k]? = some l) (hl : l.length ≤ 1100000) (hq : 64 ≤ (Q a b).length) :
    Calls Try.prog 13 #[.pointer (some ⟨gp, 0, none⟩), .int .i64 a, .int .i64 b, .int .i64 (k : Int)] w fun e w' => e = .returned (.int .i64 21) ∧ Ps w0 gp gm n L Q S w' ∧ Below w.heap.size w w' := by
  have HL := Aside0.mk (Look_ok h a0 a1 b0 b1 hab hn k l hk hl)
  have HS := Aside0.mk (fun (W : World) (A : Option Addr) (c : Nat) (hP : Ps w0 gp gm n L Q S W) (hc : l.length ≤ c) (hC : Kd.C (Kd.int .u8) W A l.length l) => Send_fullS hP a0 a1 b0 b1 hab hn A c l hc hC hl hq)
  clear h a0 a1 b0 b1 hab hn hk hl hq
  go_enter Try.func13, Try.ntmps13
  go_wp2_with fail
  refine HL.out.mono ?_
  rintro e w2 ⟨A, c, rfl, hO, hP, hb2⟩
  have HB2 := Aside0.mk hb2
  obtain ⟨_, hc, hC⟩ := Kd.R_reads' hO
  have HX := Aside0.mk (HS.out w2 A c hP hc hC)
  clear hO hP hc hC HL HS hb2
  go_wp2_with fail
  refine HX.out.mono ?_
  rintro e w3 ⟨rfl, hP, hb3⟩
  have HB3 := Aside0.mk (below_step HB2.out hb3)
  have HP := Aside0.mk hP
  clear hP HX hb3
  go_wp2_with fail
  go_ret
  exact ⟨rfl, HP.out, HB3.out⟩
theorem Double_full (h : Ps w0 gp gm n L Q S w) (a0 : 0 ≤ a) (a1 : a < n) (b0 : 0 ≤ b) (b1 : b < n) (hab : a ≠ b) (hn : n ≤ 8) (k : Nat) (l : List Int) (hk : (Q a b)[k]? = some l) (hl : l.length ≤ 1100000) (hq : 64 ≤ (Q a b).length) :
    Calls Try.prog 13 #[.pointer (some ⟨gp, 0, none⟩), .int .i64 a, .int .i64 b, .int .i64 (k : Int)] w fun e w' => e = .returned (.int .i64 21) ∧ Ps w0 gp gm n L Q S w' :=
  (Double_fullS h a0 a1 b0 b1 hab hn k l hk hl hq).mono fun e w' ⟨he, hP, _⟩ => ⟨he, hP⟩
set_option maxRecDepth 100000 in
set_option maxHeartbeats 4000000 in
theorem Drop_okS (h : Ps w0 gp gm n L Q S w) (a0 : 0 ≤ a) (a1 : a < n) (b0 : 0 ≤ b) (b1 : b < n) (hab : a ≠ b) (hn : n ≤ 8) (k : Nat) (l : List Int) (hk : (Q a b)[k]? = some l) (hl : l.length ≤ 1100000) (hq : (Q a b).length ≤ 64) :
    Calls Try.prog 14 #[.pointer (some ⟨gp, 0, none⟩), .int .i64 a, .int .i64 b, .int .i64 (k : Int)] w fun e w' => e = .returned (.int .i64 0) ∧ ∃ L' S', Ps w0 gp gm n L' (upd Q a b ((Q a b).eraseIdx k)) S' w' ∧ w.heap.size ≤ w'.heap.size ∧ (∀ i, i < w.heap.size → i ≠ gm → w'.heap[i]? = w.heap[i]?) := by
  have HT := Aside0.mk (Take_ok h a0 a1 b0 b1 hab hn k l hk hl hq)
  clear h a0 a1 b0 b1 hab hn hk hl hq
  go_enter Try.func14, Try.ntmps14
  go_wp2_with fail
  refine HT.out.mono ?_
  rintro e w2 ⟨A, c, L', S', rfl, hO, hP, hk⟩
  have HK := Aside0.mk hk
  have HP := Aside0.mk hP
  clear hO hP HT hk
  go_wp2_with fail
  go_ret
  exact ⟨rfl, _, _, HP.out, HK.out⟩
theorem Drop_ok (h : Ps w0 gp gm n L Q S w) (a0 : 0 ≤ a) (a1 : a < n) (b0 : 0 ≤ b) (b1 : b < n) (hab : a ≠ b) (hn : n ≤ 8) (k : Nat) (l : List Int) (hk : (Q a b)[k]? = some l) (hl : l.length ≤ 1100000) (hq : (Q a b).length ≤ 64) :
    Calls Try.prog 14 #[.pointer (some ⟨gp, 0, none⟩), .int .i64 a, .int .i64 b, .int .i64 (k : Int)] w fun e w' => e = .returned (.int .i64 0) ∧ ∃ L' S', Ps w0 gp gm n L' (upd Q a b ((Q a b).eraseIdx k)) S' w' :=
  (Drop_okS h a0 a1 b0 b1 hab hn k l hk hl hq).mono fun e w' ⟨he, L', S', hP, _⟩ => ⟨he, L', S', hP⟩
end
end Go.Proofs.Ytnjnljnhpihemaa.Po
