/- Posts: the calls, whatever is asked. -/
import Derived.Test.YtnjnljnhpihemaaPoQ
set_option linter.unusedVariables false
set_option linter.unusedSimpArgs false
namespace Go.Proofs.Ytnjnljnhpihemaa.Po
open Go Go.RowKit Go.Proofs.YtnjnljnhpihemaaW.PrintWords Go.Proofs.YtnjnljnhpihemaaW.PrintLast Go.Proofs.YtnjnljnhpihemaaW.PrintMore Go.Proofs.Ytnjnljnhpihemaa.PA
section
variable {w0 : World} {gp gm : Nat} {n : Int} {L : List (Int × Int × Value)} {Q : Int → Int → List (List Int)} {S : Nat → Prop} {w w1 : World} {a b k : Int}
set_option maxRecDepth 100000 in
set_option maxHeartbeats 4000000 in
theorem look_bad (h : Ps w0 gp gm n L Q S w) (hm : ¬ may n a b) :
    Calls Try.prog 19 #[.pointer (some ⟨gp, 0, none⟩), .agg #[.int .i64 a, .int .i64 b]] w fun e w' => e = .returned (.int .i64 2) ∧ Below w.heap.size w w' := by
  have c0 := pw_cell_below (below_alloc (Below.refl w.heap.size w) (.cells #[.int .i64 a, .int .i64 b] 53)) h.c0
  have hlt : gp < w.heap.size := blk_lt h.pb
  unfold may at hm
  clear h
  by_cases h1 : a < 0
  · have t1 : decide (a < 0) = true := decide_eq_true h1
    clear hm h1
    go_enter Try.func19, Try.ntmps19
    go_upto_region 3 with (fail)
    go_quiet (fail)
    go_wp2
    go_ret
    exact ⟨rfl, pw_below_drewN (below_alloc (Below.refl _ _) _) _⟩
  have t1 : decide (a < 0) = false := decide_eq_false h1
  by_cases h2 : n ≤ a
  · have t2 : decide (n ≤ a) = true := decide_eq_true h2
    clear hm h1 h2
    go_enter Try.func19, Try.ntmps19
    go_upto_region 3 with (fail)
    go_quiet (fail)
    go_wp2
    go_ret
    exact ⟨rfl, pw_below_drewN (below_alloc (Below.refl _ _) _) _⟩
  have t2 : decide (n ≤ a) = false := decide_eq_false h2
  by_cases h3 : b < 0
  · have t3 : decide (b < 0) = true := decide_eq_true h3
    clear hm h1 h2 h3
    go_enter Try.func19, Try.ntmps19
    go_upto_region 3 with (fail)
    go_quiet (fail)
    go_wp2
    go_ret
    exact ⟨rfl, pw_below_drewN (below_alloc (Below.refl _ _) _) _⟩
  have t3 : decide (b < 0) = false := decide_eq_false h3
  by_cases h4 : n ≤ b
  · have t4 : decide (n ≤ b) = true := decide_eq_true h4
    clear hm h1 h2 h3 h4
    go_enter Try.func19, Try.ntmps19
    go_upto_region 3 with (fail)
    go_quiet (fail)
    go_wp2
    go_ret
    exact ⟨rfl, pw_below_drewN (below_alloc (Below.refl _ _) _) _⟩
  have t4 : decide (n ≤ b) = false := decide_eq_false h4
  have hab : a = b := Classical.not_not.1 (fun hab => hm ⟨by omega, by omega, by omega, by omega, hab⟩)
  have t5 : (a == b) = true := by rw [hab]; exact beq_self_eq_true _
  clear hm h1 h2 h3 h4 hab
  go_enter Try.func19, Try.ntmps19
  go_upto_region 3 with (fail)
  go_quiet (fail)
  go_wp2
  go_ret
  exact ⟨rfl, pw_below_drewN (below_alloc (Below.refl _ _) _) _⟩
set_option maxRecDepth 100000 in
set_option maxHeartbeats 4000000 in
theorem Look_bad (h : Ps w0 gp gm n L Q S w) (hm : ¬ may n a b) :
    Calls Try.prog 11 #[.pointer (some ⟨gp, 0, none⟩), .int .i64 a, .int .i64 b, .int .i64 k] w fun e w' => e = .returned (.tuple #[.slice none 0 0, .int .i64 2]) ∧ Below w.heap.size w w' := by
  have HL := Aside0.mk (look_bad (h.step (below_alloc (Below.refl _ _) (.cells #[.int .i64 a, .int .i64 b] 53))) hm)
  clear h hm
  go_enter Try.func11, Try.ntmps11
  go_wp2_with fail
  refine HL.out.mono ?_
  rintro e w2 ⟨rfl, hb⟩
  have HB := Aside0.mk ((below_alloc (Below.refl w.heap.size w) _).trans (hb.mono (below_alloc (Below.refl w.heap.size w) _).size))
  clear hb HL
  go_wp2
  go_ret2
  exact ⟨rfl, HB.out⟩
set_option maxRecDepth 100000 in
set_option maxHeartbeats 4000000 in
theorem Look_out (h : Ps w0 gp gm n L Q S w) (hn : n ≤ 8) (hm : may n a b) (hi : ¬ inr Q a b k) :
    Calls Try.prog 11 #[.pointer (some ⟨gp, 0, none⟩), .int .i64 a, .int .i64 b, .int .i64 k] w fun e w' => e = .returned (.tuple #[.slice none 0 0, .int .i64 22]) ∧ Below w.heap.size w w' := by
  have ha : small a := ⟨by have := hm.1; omega, by have := hm.2.1; omega⟩
  have hb : small b := ⟨by have := hm.2.2.1; omega, by have := hm.2.2.2.1; omega⟩
  obtain ⟨A, c, hlk, hc, hR⟩ := h.looks ha hb
  have HP := Aside0.mk h
  have HLK := Aside0.mk (fun (W : World) (hW : Ps w0 gp gm n L Q S W) => look_ok hW hm.1 hm.2.1 hm.2.2.1 hm.2.2.2.1 hm.2.2.2.2)
  have HW := Aside0.mk hlk
  unfold inr at hi
  have HI := Aside0.mk hi
  clear h hm hi hlk hR hc ha hb hn
  go_enter Try.func11, Try.ntmps11
  go_wp2_with fail
  have HP1 := Aside0.mk (HP.out.step (below_alloc (Below.refl _ _) (.cells #[.int .i64 a, .int .i64 b] 53)))
  refine (HLK.out _ HP1.out).mono ?_
  rintro e w2 ⟨rfl, hb2⟩
  have HP2 := Aside0.mk (HP1.out.step hb2)
  have B9 := Aside0.mk (blk_below (blk_new w (.cells #[.int .i64 a, .int .i64 b] 53)) hb2)
  have HB2 := Aside0.mk ((below_alloc (Below.refl w.heap.size w) _).trans (hb2.mono (below_alloc (Below.refl w.heap.size w) (.cells #[.int .i64 a, .int .i64 b] 53)).size))
  clear hb2 HP1
  obtain ⟨g9, hg9⟩ : ∃ g9, w.heap.size = g9 := ⟨_, rfl⟩
  rw [hg9] at B9
  rw [hg9]
  have c1 := HP2.out.c1
  have k0 := (blk_cell B9.out 0).trans rfl
  have k1 := (blk_cell B9.out 1).trans rfl
  have hlk : ∀ k, (Instr.lookup TM (.map (some gm)) (.agg #[.int .i64 a, .int .i64 b]) false).run Try.prog (w2.drewN k) = .ok (.slice A (Q a b).length c) (w2.drewN k) := fun k => HW.out _ (by rw [drewN_heap]; exact HP2.out.mb)
  have hlk0 := HW.out w2 HP2.out.mb
  clear hg9
  go_upto_region 5 with (fail)
  by_cases h1 : k < 0
  · have t1 : decide (k < 0) = true := decide_eq_true h1
    clear h1
    go_quiet (fail)
    have HB3 := Aside0.mk (HB2.out.trans ((pw_below_drewN (Below.refl w2.heap.size w2) nq).mono HB2.out.size))
    clear hlk hlk0 c1 k0 k1 HP2 HB2
    generalize w2.drewN nq = w3 at *
    go_wp2
    go_ret2
    exact ⟨rfl, HB3.out⟩
  · have t1 : decide (k < 0) = false := decide_eq_false h1
    have t2 : decide (((Q a b).length : Int) ≤ k) = true := decide_eq_true (by have := HI.out; omega)
    clear h1
    go_quiet (fail)
    have HB3 := Aside0.mk (HB2.out.trans ((pw_below_drewN (Below.refl w2.heap.size w2) nq).mono HB2.out.size))
    clear hlk hlk0 c1 k0 k1 HP2 HB2
    generalize w2.drewN nq = w3 at *
    go_wp2
    go_ret2
    exact ⟨rfl, HB3.out⟩
theorem Look_any (h : Ps w0 gp gm n L Q S w) (hq : Qs n Q) :
    Calls Try.prog 11 #[.pointer (some ⟨gp, 0, none⟩), .int .i64 a, .int .i64 b, .int .i64 k] w fun e w' => ∃ A c, e = .returned (.tuple #[.slice A (lookF n Q a b k).1.length c, .int .i64 (lookF n Q a b k).2]) ∧ Kd.R (Kd.int .u8) 5 w' w.heap.size (fun _ => True) (.slice A (lookF n Q a b k).1.length c) (lookF n Q a b k).1 ∧ Ps w0 gp gm n L Q S w' ∧ Below w.heap.size w w' := by
  by_cases hm : may n a b
  · by_cases hi : inr Q a b k
    · have h0 := (look_is hm hi).1
      obtain ⟨_, _, hl⟩ := look_yes h0
      have hk : ((k.toNat : Nat) : Int) = k := Int.toNat_of_nonneg hi.1
      have hL := Look_ok h hm.1 hm.2.1 hm.2.2.1 hm.2.2.2.1 hm.2.2.2.2 hq.n8 k.toNat _ hl (hq.look a b k).1
      rw [hk] at hL
      rw [h0]
      exact hL
    · have hL := Look_out h hq.n8 hm hi
      have hf : lookF n Q a b k = ([], 22) := by unfold lookF; rw [if_pos hm, if_neg hi]
      rw [hf]
      exact hL.mono fun e w' ⟨he, hb⟩ => ⟨none, 0, he, Kd.R_nil _ _ _ _ _, h.step hb, hb⟩
  · have hL := Look_bad (k := k) h hm
    have hf : lookF n Q a b k = ([], 2) := by unfold lookF; rw [if_neg hm]
    rw [hf]
    exact hL.mono fun e w' ⟨he, hb⟩ => ⟨none, 0, he, Kd.R_nil _ _ _ _ _, h.step hb, hb⟩
set_option maxRecDepth 100000 in
set_option maxHeartbeats 4000000 in
theorem Take_err {x : Int} (hx : x = 2 ∨ x = 22) (h : Calls Try.prog 11 #[.pointer (some ⟨gp, 0, none⟩), .int .i64 a, .int .i64 b, .int .i64 k] w fun e w' => e = .returned (.tuple #[.slice none 0 0, .int .i64 x]) ∧ Below w.heap.size w w') :
    Calls Try.prog 10 #[.pointer (some ⟨gp, 0, none⟩), .int .i64 a, .int .i64 b, .int .i64 k] w fun e w' => e = .returned (.tuple #[.slice none 0 0, .int .i64 x]) ∧ Below w.heap.size w w' := by
  have HL := Aside0.mk h
  clear h
  rcases hx with rfl | rfl
  all_goals
    go_enter Try.func10, Try.ntmps10
    go_wp2_with fail
    refine HL.out.mono ?_
    rintro e w2 ⟨rfl, hb⟩
    have HB := Aside0.mk hb
    clear hb HL
    go_wp2
    go_ret2
    exact ⟨rfl, HB.out⟩
set_option maxRecDepth 100000 in
set_option maxHeartbeats 4000000 in
theorem Drop_err {x : Int} (hx : x = 2 ∨ x = 22) (h : Calls Try.prog 11 #[.pointer (some ⟨gp, 0, none⟩), .int .i64 a, .int .i64 b, .int .i64 k] w fun e w' => e = .returned (.tuple #[.slice none 0 0, .int .i64 x]) ∧ Below w.heap.size w w') :
    Calls Try.prog 14 #[.pointer (some ⟨gp, 0, none⟩), .int .i64 a, .int .i64 b, .int .i64 k] w fun e w' => e = .returned (.int .i64 x) ∧ Below w.heap.size w w' := by
  have HL := Aside0.mk (Take_err hx h)
  clear h hx
  go_enter Try.func14, Try.ntmps14
  go_wp2_with fail
  refine HL.out.mono ?_
  rintro e w2 ⟨rfl, hb⟩
  have HB := Aside0.mk hb
  clear hb HL
  go_wp2
  go_ret
  exact ⟨rfl, HB.out⟩
set_option maxRecDepth 100000 in
set_option maxHeartbeats 4000000 in
theorem Double_err {x : Int} (hx : x = 2 ∨ x = 22) (h : Calls Try.prog 11 #[.pointer (some ⟨gp, 0, none⟩), .int .i64 a, .int .i64 b, .int .i64 k] w fun e w' => e = .returned (.tuple #[.slice none 0 0, .int .i64 x]) ∧ Below w.heap.size w w') :
    Calls Try.prog 13 #[.pointer (some ⟨gp, 0, none⟩), .int .i64 a, .int .i64 b, .int .i64 k] w fun e w' => e = .returned (.int .i64 x) ∧ Below w.heap.size w w' := by
  have HL := Aside0.mk h
  clear h
  rcases hx with rfl | rfl
  all_goals
    go_enter Try.func13, Try.ntmps13
    go_wp2_with fail
    refine HL.out.mono ?_
    rintro e w2 ⟨rfl, hb⟩
    have HB := Aside0.mk hb
    clear hb HL
    go_wp2
    go_ret
    exact ⟨rfl, HB.out⟩
theorem look_fails (h : Ps w0 gp gm n L Q S w) (hq : Qs n Q) (hh : ¬ (may n a b ∧ inr Q a b k)) :
    Calls Try.prog 11 #[.pointer (some ⟨gp, 0, none⟩), .int .i64 a, .int .i64 b, .int .i64 k] w fun e w' => e = .returned (.tuple #[.slice none 0 0, .int .i64 (lookF n Q a b k).2]) ∧ Below w.heap.size w w' := by
  by_cases hm : may n a b
  · have hi : ¬ inr Q a b k := fun hi => hh ⟨hm, hi⟩
    have hf : lookF n Q a b k = ([], 22) := by unfold lookF; rw [if_pos hm, if_neg hi]
    rw [hf]
    exact Look_out h hq.n8 hm hi
  · have hf : lookF n Q a b k = ([], 2) := by unfold lookF; rw [if_neg hm]
    rw [hf]
    exact Look_bad h hm
theorem Take_any (h : Ps w0 gp gm n L Q S w) (hq : Qs n Q) :
    Calls Try.prog 10 #[.pointer (some ⟨gp, 0, none⟩), .int .i64 a, .int .i64 b, .int .i64 k] w fun e w' => ∃ A c L' S', e = .returned (.tuple #[.slice A (lookF n Q a b k).1.length c, .int .i64 (lookF n Q a b k).2]) ∧ Kd.R (Kd.int .u8) 5 w' w.heap.size (fun _ => True) (.slice A (lookF n Q a b k).1.length c) (lookF n Q a b k).1 ∧ Ps w0 gp gm n L' (upd Q a b (takeQ n Q a b k)) S' w' ∧ Kept w w' (fun i => i = gm ∨ S i) := by
  by_cases hh : may n a b ∧ inr Q a b k
  · obtain ⟨hm, hi⟩ := hh
    obtain ⟨h0, ht⟩ := look_is hm hi
    obtain ⟨_, _, hl⟩ := look_yes h0
    have hk : ((k.toNat : Nat) : Int) = k := Int.toNat_of_nonneg hi.1
    have hL := Take_ok h hm.1 hm.2.1 hm.2.2.1 hm.2.2.2.1 hm.2.2.2.2 hq.n8 k.toNat _ hl (hq.look a b k).1 (hq.few a b)
    rw [hk] at hL
    rw [h0, ht]
    exact hL.mono fun e w' ⟨A, c, L', S', he, hR, hP, hs, hk⟩ => ⟨A, c, L', S', he, hR, hP, hs, fun i hi hn => hk i hi (fun e => hn (Or.inl e))⟩
  · obtain ⟨h1, h2, h3⟩ := look_no hh
    rw [h3, upd_self, h1]
    exact (Take_err h2 (look_fails h hq hh)).mono fun e w' ⟨he, hb⟩ => ⟨none, 0, L, S, he, Kd.R_nil _ _ _ _ _, h.step hb, Kept.of_below hb _⟩
theorem Drop_any (h : Ps w0 gp gm n L Q S w) (hq : Qs n Q) :
    Calls Try.prog 14 #[.pointer (some ⟨gp, 0, none⟩), .int .i64 a, .int .i64 b, .int .i64 k] w fun e w' => ∃ L' S', e = .returned (.int .i64 (lookF n Q a b k).2) ∧ Ps w0 gp gm n L' (upd Q a b (takeQ n Q a b k)) S' w' ∧ Kept w w' (fun i => i = gm ∨ S i) := by
  by_cases hh : may n a b ∧ inr Q a b k
  · obtain ⟨hm, hi⟩ := hh
    obtain ⟨h0, ht⟩ := look_is hm hi
    obtain ⟨_, _, hl⟩ := look_yes h0
    have hk : ((k.toNat : Nat) : Int) = k := Int.toNat_of_nonneg hi.1
    have hL := Drop_okS h hm.1 hm.2.1 hm.2.2.1 hm.2.2.2.1 hm.2.2.2.2 hq.n8 k.toNat _ hl (hq.look a b k).1 (hq.few a b)
    rw [hk] at hL
    rw [h0, ht]
    exact hL.mono fun e w' ⟨he, L', S', hP, hs, hk⟩ => ⟨L', S', he, hP, hs, fun i hi hn => hk i hi (fun e => hn (Or.inl e))⟩
  · obtain ⟨h1, h2, h3⟩ := look_no hh
    rw [h3, upd_self]
    exact (Drop_err h2 (look_fails h hq hh)).mono fun e w' ⟨he, hb⟩ => ⟨L, S, he, h.step hb, Kept.of_below hb _⟩
theorem Double_any (h : Ps w0 gp gm n L Q S w) (hq : Qs n Q) :
    Calls Try.prog 13 #[.pointer (some ⟨gp, 0, none⟩), .int .i64 a, .int .i64 b, .int .i64 k] w fun e w' => ∃ L' S', e = .returned (.int .i64 (dblF n Q a b k).1) ∧ Ps w0 gp gm n L' (upd Q a b (dblF n Q a b k).2) S' w' ∧ Kept w w' (fun i => i = gm ∨ S i) := by
  by_cases hh : may n a b ∧ inr Q a b k
  · obtain ⟨hm, hi⟩ := hh
    obtain ⟨h0, ht⟩ := look_is hm hi
    obtain ⟨_, _, hl⟩ := look_yes h0
    have hk : ((k.toNat : Nat) : Int) = k := Int.toNat_of_nonneg hi.1
    have hll := (hq.look a b k).1
    unfold dblF
    rw [if_pos h0]
    unfold sendF
    rw [if_pos hm, if_neg (by omega)]
    by_cases h64 : 64 ≤ (Q a b).length
    · rw [if_pos h64]
      have hL := Double_fullS h hm.1 hm.2.1 hm.2.2.1 hm.2.2.2.1 hm.2.2.2.2 hq.n8 k.toNat _ hl hll h64
      rw [hk] at hL
      rw [upd_self]
      exact hL.mono fun e w' ⟨he, hP, hb⟩ => ⟨L, S, he, hP, Kept.of_below hb _⟩
    · rw [if_neg h64]
      have hL := Double_okS h hm.1 hm.2.1 hm.2.2.1 hm.2.2.2.1 hm.2.2.2.2 hq.n8 k.toNat _ hl hll (by omega)
      rw [hk] at hL
      exact hL.mono fun e w' ⟨he, L', S', hP, hk⟩ => ⟨L', S', he, hP, hk⟩
  · obtain ⟨h1, h2, h3⟩ := look_no hh
    unfold dblF
    rw [if_neg (by omega), upd_self]
    exact (Double_err h2 (look_fails h hq hh)).mono fun e w' ⟨he, hb⟩ => ⟨L, S, he, h.step hb, Kept.of_below hb _⟩
set_option maxRecDepth 100000 in
set_option maxHeartbeats 4000000 in
theorem Send_bad (h : Ps w0 gp gm n L Q S w) (hm : ¬ may n a b) (A3 : Option Addr) (m3 c3 : Nat) :
    Calls Try.prog 8 #[.pointer (some ⟨gp, 0, none⟩), .int .i64 a, .int .i64 b, .slice A3 m3 c3] w fun e w' => e = .returned (.int .i64 2) ∧ Below w.heap.size w w' := by
  have HL := Aside0.mk (look_bad (h.step (below_alloc (Below.refl _ _) (.cells #[.int .i64 a, .int .i64 b] 53))) hm)
  clear h hm
  go_enter Try.func8, Try.ntmps8
  go_wp2_with fail
  refine HL.out.mono ?_
  rintro e w2 ⟨rfl, hb⟩
  have HB := Aside0.mk ((below_alloc (Below.refl w.heap.size w) _).trans (hb.mono (below_alloc (Below.refl w.heap.size w) _).size))
  clear hb HL
  go_wp2
  go_ret
  exact ⟨rfl, HB.out⟩
set_option maxRecDepth 100000 in
set_option maxHeartbeats 4000000 in
theorem Send_long (h : Ps w0 gp gm n L Q S w) (hm : may n a b) (A3 : Option Addr) (m3 c3 : Nat) (hl : 1100000 < m3) :
    Calls Try.prog 8 #[.pointer (some ⟨gp, 0, none⟩), .int .i64 a, .int .i64 b, .slice A3 m3 c3] w fun e w' => e = .returned (.int .i64 5) ∧ Below w.heap.size w w' := by
  have HL := Aside0.mk (look_ok (h.step (below_alloc (Below.refl _ _) (.cells #[.int .i64 a, .int .i64 b] 53))) hm.1 hm.2.1 hm.2.2.1 hm.2.2.2.1 hm.2.2.2.2)
  have t1 : decide (1100000 < (m3 : Int)) = true := decide_eq_true (by omega)
  have t2 : (1100000 < m3) = True := eq_true hl
  clear h hm hl
  go_enter Try.func8, Try.ntmps8
  go_wp2_with fail
  refine HL.out.mono ?_
  rintro e w2 ⟨rfl, hb⟩
  have HB := Aside0.mk ((below_alloc (Below.refl w.heap.size w) _).trans (hb.mono (below_alloc (Below.refl w.heap.size w) _).size))
  clear hb HL
  go_wp2
  go_ret
  exact ⟨rfl, HB.out⟩
theorem Send_any (h : Ps w0 gp gm n L Q S w) (hq : Qs n Q) (A3 : Option Addr) (c3 : Nat) (l : List Int) (hc3 : l.length ≤ c3) (hr : Kd.C (Kd.int .u8) w A3 l.length l) :
    Calls Try.prog 8 #[.pointer (some ⟨gp, 0, none⟩), .int .i64 a, .int .i64 b, .slice A3 l.length c3] w fun e w' => ∃ L' S', e = .returned (.int .i64 (sendF n Q a b l).1) ∧ Ps w0 gp gm n L' (upd Q a b (sendF n Q a b l).2) S' w' ∧ (∀ k, S' k → S k ∨ w.heap.size ≤ k) ∧ Kept w w' (fun i => i = gm ∨ S i) := by
  unfold sendF
  by_cases hm : may n a b
  · rw [if_pos hm]
    by_cases hl : 1100000 < l.length
    · rw [if_pos hl, upd_self]
      exact (Send_long h hm A3 l.length c3 hl).mono fun e w' ⟨he, hb⟩ => ⟨L, S, he, h.step hb, fun k hk => Or.inl hk, Kept.of_below hb _⟩
    · rw [if_neg hl]
      by_cases h64 : 64 ≤ (Q a b).length
      · rw [if_pos h64, upd_self]
        exact (Send_fullS h hm.1 hm.2.1 hm.2.2.1 hm.2.2.2.1 hm.2.2.2.2 hq.n8 A3 c3 l hc3 hr (by omega) h64).mono fun e w' ⟨he, hP, hb⟩ => ⟨L, S, he, hP, fun k hk => Or.inl hk, Kept.of_below hb _⟩
      · rw [if_neg h64]
        exact (Send_okS h hm.1 hm.2.1 hm.2.2.1 hm.2.2.2.1 hm.2.2.2.2 hq.n8 A3 c3 l hc3 hr (by omega) (by omega)).mono fun e w' ⟨he, L', S', hP, hS, hk⟩ => ⟨L', S', he, hP, hS, hk⟩
  · rw [if_neg hm, upd_self]
    exact (Send_bad h hm A3 l.length c3).mono fun e w' ⟨he, hb⟩ => ⟨L, S, he, h.step hb, fun k hk => Or.inl hk, Kept.of_below hb _⟩
end
end Go.Proofs.Ytnjnljnhpihemaa.Po
