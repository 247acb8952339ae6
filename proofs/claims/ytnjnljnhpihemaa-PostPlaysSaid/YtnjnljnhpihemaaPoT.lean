/- Posts: Send. -/
import Derived.Test.YtnjnljnhpihemaaPoL
import Derived.Test.YtnjnljnhpihemaaPoC
import Derived.Test.YtnjnljnhpihemaaWMore
import Derived.Test.YtnjnljnhpihemaaWShare
set_option linter.unusedVariables false
set_option linter.unusedSimpArgs false
namespace Go.Proofs.Ytnjnljnhpihemaa.Po
open Go Go.RowKit Go.Proofs.YtnjnljnhpihemaaW.PrintWords Go.Proofs.YtnjnljnhpihemaaW.PrintLast Go.Proofs.YtnjnljnhpihemaaW.PrintMore Go.Proofs.Ytnjnljnhpihemaa.PA
/-- What stands through the whole of Send's last region. -/
def SS (gp gm g9 : Nat) (a b : Int) (w' : World) : Prop := w'.cell? ⟨gp, 1, none⟩ = some (.map (some gm)) ∧ w'.rangeAt g9 0 [.int .i64 a, .int .i64 b]
theorem ss_raw {W : World} {gp gm g9 : Nat} {n a b : Int} (hp : W.heap[gp]? = some (.cells #[.int .i64 n, .map (some gm)] TP (0, 0))) (hb : W.heap[g9]? = some (.cells #[.int .i64 a, .int .i64 b] 53 (0, 0))) : SS gp gm g9 a b W :=
  ⟨(blk_cell hp 1).trans rfl, fun j v hv => by rw [blk_cell hb, Nat.zero_add]; simpa using hv⟩
theorem info_row : (Try.prog.info? 23).map (fun i => (i.zero, i.size, i.bytes)) = some (some (.slice none 0 0), 1, 24) := by kernel_rfl
theorem R_low {w : World} {gm base : Nat} {ok : Nat → Prop} {v : Value} {l : List Int} {o : Obj} (h : Kd.R (Kd.int .u8) 5 w base ok v l) (hlt : gm < base) : Kd.R (Kd.int .u8) 5 (ChangeMaps.setBlock w gm o) base ok v l :=
  Kd.R_mono (Kd.R_step (Kd.R_bound h) (fun k hk _ => set_other (by have := hk.2.1; omega))) (fun _ hk => hk.1)
theorem one_row {W : World} {g : Nat} {T : TypeId} {x : Value} {l : List Int} {Rr : List Int → List Value → Prop} (hb : W.heap[g]? = some (.cells #[x] T (0, 0))) (h : Rr l [x]) : ReadsRow Rr 1 W (some ⟨g, 0, none⟩) 1 [l] := by
  refine ⟨rfl, by decide, fun _ => ⟨_, rfl, fun j p hp => ?_⟩⟩
  obtain ⟨rfl, rfl⟩ : j = 0 ∧ p = l := by
    cases j with
    | zero => simp at hp; exact ⟨rfl, hp.symm⟩
    | succ j => simp at hp
  refine ⟨[x], rfl, h, fun i u hu => ?_⟩
  obtain ⟨rfl, rfl⟩ : i = 0 ∧ u = x := by
    cases i with
    | zero => simp at hu; exact ⟨rfl, hu.symm⟩
    | succ i => simp at hu
  exact (blk_cell hb 0).trans rfl
theorem KR_mk {W : World} {base : Nat} {ok : Nat → Prop} {v : Value} {l : List Int} (h : Kd.R (Kd.int .u8) 5 W base ok v l) : KR.M W base ok l [v] := ⟨v, rfl, h⟩
section
variable {w0 : World} {gp gm : Nat} {n : Int} {L : List (Int × Int × Value)} {Q : Int → Int → List (List Int)} {S : Nat → Prop} {w w1 : World} {a b : Int}
theorem drewN_heap (w : World) (k : Nat) : (w.drewN k).heap = w.heap := by
  induction k generalizing w with
  | zero => rfl
  | succ k ih => exact ih _
theorem ss_of {g9 : Nat} (h : Ps w0 gp gm n L Q S w) (hb : w.heap[g9]? = some (.cells #[.int .i64 a, .int .i64 b] 53 (0, 0))) : SS gp gm g9 a b w := ss_raw h.pb hb
set_option maxRecDepth 100000 in
set_option maxHeartbeats 4000000 in
theorem Send_okS (h : Ps w0 gp gm n L Q S w) (a0 : 0 ≤ a) (a1 : a < n) (b0 : 0 ≤ b) (b1 : b < n) (hab : a ≠ b) (hn : n ≤ 8) (A3 : Option Addr) (c3 : Nat) (l : List Int) (hc3 : l.length ≤ c3) (hr : Kd.C (Kd.int .u8) w A3 l.length l) (hl : l.length ≤ 1100000) (hq : (Q a b).length < 64) :
    Calls Try.prog 8 #[.pointer (some ⟨gp, 0, none⟩), .int .i64 a, .int .i64 b, .slice A3 l.length c3] w fun e w' => e = .returned (.int .i64 0) ∧ ∃ L' S', Ps w0 gp gm n L' (upd Q a b (Q a b ++ [l])) S' w' ∧ (∀ k, S' k → S k ∨ w.heap.size ≤ k) ∧ Kept w w' (fun i => i = gm ∨ S i) := by
  have ha : small a := ⟨by omega, by omega⟩
  have hb : small b := ⟨by omega, by omega⟩
  obtain ⟨A, c, hlk, hc, hR⟩ := h.looks ha hb
  have HP := Aside0.mk h
  have HLK := Aside0.mk (fun (W : World) (hW : Ps w0 gp gm n L Q S W) => look_ok hW a0 a1 b0 b1 hab)
  have HW := Aside0.mk hlk
  have HR := Aside0.mk hR
  have HC := Aside0.mk hc
  have HB := Aside0.mk (And.intro ha hb)
  have HR3 := Aside0.mk hr
  have HC3 := Aside0.mk hc3
  have t1 : decide (1100000 < (l.length : Int)) = false := decide_eq_false (by omega)
  have t2 : decide (64 ≤ ((Q a b).length : Int)) = false := decide_eq_false (by omega)
  have HQ := Aside0.mk hq
  have HL := Aside0.mk hl
  clear h a0 a1 b0 b1 hab hn hc3 hr hl hq hlk hR hc ha hb
  go_enter Try.func8, Try.ntmps8
  go_wp2_with fail
  have HP1 := Aside0.mk (HP.out.step (below_alloc (Below.refl _ _) (.cells #[.int .i64 a, .int .i64 b] 53)))
  refine (HLK.out _ HP1.out).mono ?_
  rintro e w2 ⟨rfl, hb2⟩
  have HP2 := Aside0.mk (HP1.out.step hb2)
  have B9 := Aside0.mk (blk_below (blk_new w (.cells #[.int .i64 a, .int .i64 b] 53)) hb2)
  have HB2 := Aside0.mk ((below_alloc (Below.refl w.heap.size w) _).trans (hb2.mono (below_alloc (Below.refl w.heap.size w) (.cells #[.int .i64 a, .int .i64 b] 53)).size))
  clear hb2 HP1
  obtain ⟨g9, hg9⟩ : ∃ g9, w.heap.size = g9 := ⟨_, rfl⟩
  rw [hg9] at B9
  rw [hg9]
  clear hg9
  have c1 := HP2.out.c1
  have k0 := (blk_cell B9.out 0).trans rfl
  have k1 := (blk_cell B9.out 1).trans rfl
  have hlk : ∀ k, (Instr.lookup TM (.map (some gm)) (.agg #[.int .i64 a, .int .i64 b]) false).run Try.prog (w2.drewN k) = .ok (.slice A (Q a b).length c) (w2.drewN k) := fun k => HW.out _ (by rw [drewN_heap]; exact HP2.out.mb)
  have hlk0 := HW.out w2 HP2.out.mb
  go_upto_region 7 with (fail)
  go_quiet (fail)
  have HP3 := Aside0.mk (HP2.out.step (pw_below_drewN (Below.refl _ _) nq))
  have B9 := Aside0.mk (blk_below B9.out (pw_below_drewN (Below.refl w2.heap.size w2) nq))
  have HB3 := Aside0.mk (HB2.out.trans ((pw_below_drewN (Below.refl w2.heap.size w2) nq).mono HB2.out.size))
  clear hlk hlk0 c1 k0 k1 HP2 HB2
  generalize w2.drewN nq = w3 at *
  go_upto_region 9 with (fail)
  have hu53 := Try.underlying53
  have hi53 : (Try.prog.info? 53).map (·.size) = some 2 := by kernel_rfl
  -- [snd
  refine start_ (n := 13) (S := SS gp gm g9 a b) (ds := []) #[false, false, false, false, false, false, false, false, false, false, false, false, false] (by kernel_rfl) rfl rfl (ss_of (HP3.out.step (pw_below_drewN (Below.refl _ _) 1)) (blk_below B9.out (pw_below_drewN (Below.refl _ _) 1))) (fun hHeld => ?_)
  have HPd := Aside0.mk (HP3.out.step (pw_below_drewN (Below.refl w3.heap.size w3) 1))
  have B9 := Aside0.mk (blk_below B9.out (pw_below_drewN (Below.refl w3.heap.size w3) 1))
  have HBd := Aside0.mk (HB3.out.trans ((pw_below_drewN (Below.refl w3.heap.size w3) 1).mono HB3.out.size))
  generalize hwd : w3.drewN 1 = wd at HPd B9 HBd
  rw [show w3.drew = wd from hwd] at hHeld ⊢
  clear HP3 HB3 hwd
  refine pure_ (i := 0) (N := some 34) (v := ?_) (a' := ?_) #[true, false, false, false, false, false, false, false, false, false, false, false, false] rfl rfl (by kernel_rfl) (fun _ _ _ h => h) (Or.inl ⟨by rfl, ?_⟩) ?_ ?_
  rotate_left
  · intro w'
    go_simp
    with_reducible rfl
  rotate_left
  · simp only [Act.put, List.setIfInBounds_toArray, List.set_cons_zero, List.set_cons_succ, i64_w, i32_w]
    rfl
  refine pure_ (i := 1) (N := some 35) (v := ?_) (a' := ?_) #[true, true, false, false, false, false, false, false, false, false, false, false, false] rfl rfl (by kernel_rfl) (fun _ _ _ h => h) (Or.inl ⟨by rfl, ?_⟩) ?_ ?_
  rotate_left
  · intro w'
    go_simp
    with_reducible rfl
  rotate_left
  · simp only [Act.put, List.setIfInBounds_toArray, List.set_cons_zero, List.set_cons_succ, i64_w, i32_w]
    rfl
  refine pure_ (i := 2) (N := some 36) (v := ?_) (a' := ?_) #[true, true, true, false, false, false, false, false, false, false, false, false, false] rfl rfl (by kernel_rfl) (fun _ _ _ h => h) (Or.inl ⟨by rfl, ?_⟩) ?_ ?_
  rotate_left
  · intro w'
    go_simp
    with_reducible rfl
  rotate_left
  · simp only [Act.put, List.setIfInBounds_toArray, List.set_cons_zero, List.set_cons_succ, i64_w, i32_w]
    rfl
  refine take_ (i := 3) (N := some 37) (v := ?_) (a' := ?_) #[true, true, true, true, false, false, false, false, false, false, false, false, false] rfl rfl (by kernel_rfl) (fun _ _ _ h => h) (Or.inl ⟨by rfl, ?_⟩) hHeld ?_ ?_
  rotate_left
  · rintro w' ⟨s1, s2⟩
    go_simp
    with_reducible rfl
  rotate_left
  · simp only [Act.put, List.setIfInBounds_toArray, List.set_cons_zero, List.set_cons_succ, i64_w, i32_w]
    rfl
  refine take_ (i := 4) (N := some 38) (v := .agg #[.int .i64 a, .int .i64 b]) (a' := ?_) #[true, true, true, true, true, false, false, false, false, false, false, false, false] rfl rfl (by kernel_rfl) (fun _ _ _ h => h) (yieldsIf_load_mid (by rfl) 53 (.tmp 9) rfl g9 0 rfl [.int .i64 a, .int .i64 b] _ (fun w' hS => hS.2) hu53 rfl hi53) hHeld ?_ ?_
  rotate_left
  · simp only [Act.put, List.setIfInBounds_toArray, List.set_cons_zero, List.set_cons_succ, i64_w, i32_w]
    rfl
  refine pure_ (i := 5) (N := some 40) (v := ?_) (a' := ?_) #[true, true, true, true, true, true, false, false, false, false, false, false, false] rfl rfl (by kernel_rfl) (fun _ _ _ h => h) (Or.inl ⟨by rfl, ?_⟩) ?_ ?_
  rotate_left
  · intro w'
    go_simp
    with_reducible rfl
  rotate_left
  · simp only [Act.put, List.setIfInBounds_toArray, List.set_cons_zero, List.set_cons_succ, i64_w, i32_w]
    rfl
  refine one_ (i := 6) (N := some 41) #[true, true, true, true, true, true, true, false, false, false, false, false, false] rfl rfl (by kernel_rfl) (by decide) (fun K hK => ?_)
  refine goes_ Try.func20 (by kernel_rfl) rfl #[.slice A3 l.length c3] (by rfl) rfl rfl (by first | rfl | (simp only [List.map_toArray, List.map_cons, List.map_nil]; done) | (simp only [List.map_toArray, List.map_cons, List.map_nil]; rfl)) ?_
  refine (slices_Clone_byte_byte.calls A3 c3 l l wd (Kd.C_below HR3.out HBd.out) HC3.out (by unfold slices_Clone_byte_byte.f; rw [if_pos (by have := HL.out; omega)])).mono ?_
  rintro e1 w4 ⟨v4, rfl, hO4, hb4⟩
  obtain ⟨A4, c4, rfl, hc4, _⟩ := Kd.R_reads hO4
  have HO4 := Aside0.mk hO4
  have HP4 := Aside0.mk (HPd.out.step hb4)
  have B94 := Aside0.mk (blk_below B9.out hb4)
  have HS4 := Aside0.mk hb4.size
  have HK4 := Aside0.mk ((Kept.of_below HBd.out (fun i => i = gm ∨ S i)).below hb4)
  have hS2 := ss_of HP4.out B94.out
  refine ⟨_, rfl, ?_⟩
  clear hO4 hb4 hc4 hHeld
  refine hK.out _ _ hS2 (fun hHeld => ?_)
  clear hK K hS2
  refine norm_ (a' := ?_) ?_ ?_
  rotate_left
  · show Act.put _ (some 41) _ = _
    simp only [Act.put, List.setIfInBounds_toArray, List.set_cons_zero, List.set_cons_succ, i64_w, i32_w]
    rfl
  refine one_ (i := 7) (N := some 42) #[true, true, true, true, true, true, true, true, false, false, false, false, false] rfl rfl (by kernel_rfl) (by decide) (fun K hK => ?_)
  refine value_ (v := .slice (some ⟨w4.heap.size, 0, none⟩) 1 1) (w1 := w4.alloc (.cells #[.slice A4 l.length c4] 23)) (by rfl) rfl (by go_simp) ?_
  have HP5 := Aside0.mk (HP4.out.step (below_alloc (Below.refl _ _) (.cells #[.slice A4 l.length c4] 23)))
  have B95 := Aside0.mk (blk_alloc B94.out (.cells #[.slice A4 l.length c4] 23))
  have B75 := Aside0.mk (blk_new w4 (.cells #[.slice A4 l.length c4] 23))
  have HS5 : Aside0 (w4.heap.size ≤ (w4.alloc (.cells #[.slice A4 l.length c4] 23)).heap.size) := ⟨by simp⟩
  have HO5 := Aside0.mk (Kd.R_alloc HO4.out (.cells #[.slice A4 l.length c4] 23))
  have HK5 := Aside0.mk (HK4.out.alloc (.cells #[.slice A4 l.length c4] 23))
  have hS2 := ss_of HP5.out B95.out
  refine hK.out _ _ hS2 (fun hHeld => ?_)
  clear hK K hS2 HP4 B94 HO4
  refine norm_ (a' := ?_) ?_ ?_
  rotate_left
  · show Act.put _ (some 42) _ = _
    simp only [Act.put, List.setIfInBounds_toArray, List.set_cons_zero, List.set_cons_succ, i64_w, i32_w]
    rfl
  generalize w4.alloc (.cells #[.slice A4 l.length c4] 23) = w5 at *
  obtain ⟨j, v, L', hen, hj, hvo, hps⟩ := HPd.out.entry HB.out.1 HB.out.2
  have hen5 := hen w5 HP5.out.mb
  have HP6 := Aside0.mk (hps w5 HP5.out)
  have HJ := Aside0.mk hj
  have HAP : Aside0 (∀ k, wd.heap.size ≤ k → some k ≠ v.ownBlock) := ⟨fun k hk e => by rcases hvo with h | h; (rw [h] at e; cases e); (have := (HPd.out.own_blk h e.symm).2.1; omega)⟩
  have HLO := Aside0.mk HPd.out.below.size
  clear hen hj hps hvo
  refine one_ (i := 8) (N := some 43) #[true, true, true, true, true, true, true, true, true, false, false, false, false] rfl rfl (by kernel_rfl) (by decide) (fun K hK => ?_)
  refine value_ (v := .tuple #[v, .int .i64 (j : Int)]) (w1 := mapW w5 gm L') (by rfl) rfl (by go_simp) ?_
  have hgm : gm < wd.heap.size := (Array.getElem?_eq_some_iff.1 HPd.out.mb).1
  have hne9 : g9 ≠ gm := fun e => by have := B9.out; rw [e, HPd.out.mb] at this; cases this
  have B96 : Aside0 ((mapW w5 gm L').heap[g9]? = some (.cells #[.int .i64 a, .int .i64 b] 53 (0, 0))) := Aside0.mk ((set_other (o := .map (E 0 L').toArray L'.length) hne9).trans B95.out)
  have B76 : Aside0 ((mapW w5 gm L').heap[w4.heap.size]? = some (.cells #[.slice A4 l.length c4] 23 (0, 0))) := Aside0.mk ((set_other (o := .map (E 0 L').toArray L'.length) (show w4.heap.size ≠ gm by have := HS4.out; omega)).trans B75.out)
  have HO6 : Aside0 (Kd.R (Kd.int .u8) 5 (mapW w5 gm L') wd.heap.size (fun _ => True) (.slice A4 l.length c4) l) := Aside0.mk (R_low (o := .map (E 0 L').toArray L'.length) HO5.out hgm)
  have HSW : Aside0 (wd.heap.size ≤ (mapW w5 gm L').heap.size) := ⟨by rw [set_size]; have := HS5.out; have := HS4.out; omega⟩
  have HK6 : Aside0 (Kept w (mapW w5 gm L') (fun i => i = gm ∨ S i)) := ⟨HK5.out.then_ (S2 := fun i => i = gm) ⟨by rw [set_size]; exact Nat.le_refl _, fun i _ hn => set_other (o := .map (E 0 L').toArray L'.length) hn⟩ (fun k hk => Or.inl (Or.inl hk))⟩
  have hS2 := ss_of HP6.out B96.out
  refine hK.out _ _ hS2 (fun hHeld => ?_)
  clear hK K hS2 hen5 HP5 B95 B75 HO5 hne9
  refine norm_ (a' := ?_) ?_ ?_
  rotate_left
  · show Act.put _ (some 43) _ = _
    simp only [Act.put, List.setIfInBounds_toArray, List.set_cons_zero, List.set_cons_succ, i64_w, i32_w]
    rfl
  generalize mapW w5 gm L' = w6 at *
  refine pure_ (i := 9) (N := some 39) (v := ?_) (a' := ?_) #[true, true, true, true, true, true, true, true, true, true, false, false, false] rfl rfl (by kernel_rfl) (fun _ _ _ h => h) (Or.inl ⟨by rfl, ?_⟩) ?_ ?_
  rotate_left
  · intro w'
    go_simp
    with_reducible rfl
  rotate_left
  · simp only [Act.put, List.setIfInBounds_toArray, List.set_cons_zero, List.set_cons_succ, i64_w, i32_w]
    rfl
  refine pure_ (i := 11) (N := some 45) (v := ?_) (a' := ?_) #[true, true, true, true, true, true, true, true, true, true, false, true, false] rfl rfl (by kernel_rfl) (fun _ _ _ h => h) (Or.inl ⟨by rfl, ?_⟩) ?_ ?_
  rotate_left
  · intro w'
    go_simp
    with_reducible rfl
  rotate_left
  · simp only [Act.put, List.setIfInBounds_toArray, List.set_cons_zero, List.set_cons_succ, i64_w, i32_w]
    rfl
  refine one_ (i := 10) (N := some 44) #[true, true, true, true, true, true, true, true, true, true, true, true, false] rfl rfl (by kernel_rfl) (by decide) (fun K hK => ?_)
  have hvr := HP6.out.rows _ (List.mem_of_getElem? HJ.out)
  refine Kd.R_append_rows_step KR (w0 := w0) w0.heap.size (by rfl) (.tmp 39) (.tmp 42) 22 23 (.slice none 0 0) 24 rfl Try.underlying22 info_row rfl (by decide) (by decide) v (Q a b) [l] (some ⟨w4.heap.size, 0, none⟩) 1 1 (fun k => S k ∨ wd.heap.size ≤ k) (fun k => wd.heap.size ≤ k ∧ some k ≠ v.ownBlock) rfl rfl (Kd.R_mono hvr (fun k hk => Or.inl hk)) (one_row (Rr := fun x cs => KR.M w6 w0.heap.size (fun k => wd.heap.size ≤ k ∧ some k ≠ v.ownBlock) x cs) B76.out (KR_mk (Kd.R_lower (Kd.R_mono (Kd.R_bound HO6.out) (fun k hk => ⟨hk.2.1, HAP.out k hk.2.1⟩)) HLO.out))) (fun _ _ h => h) (fun k hk => ⟨Or.inr hk.1, hk.2⟩) (fun k hk => Or.inr (by have := HSW.out; omega)) HP6.out.below HP6.out.below.size (by have := HQ.out; simp; omega) ?_
  intro v7 w7 ho hb hg hat
  have hgg : (some gm ≠ v.ownBlock ∧ some gp ≠ v.ownBlock) := HP6.out.apart_row (List.mem_of_getElem? HJ.out)
  have m7 : w7.heap[gm]? = some (.map (E 0 L').toArray L'.length) := (hg.block gm (Array.getElem?_eq_some_iff.1 HP6.out.mb).1 hgg.1).trans HP6.out.mb
  have p7 : w7.heap[gp]? = some (.cells #[.int .i64 n, .map (some gm)] TP (0, 0)) := (hg.block gp (blk_lt HP6.out.pb) hgg.2).trans HP6.out.pb
  have b97 : w7.heap[g9]? = some (.cells #[.int .i64 a, .int .i64 b] 53 (0, 0)) := (hg.block g9 (blk_lt B96.out) (fun e => by obtain ⟨_, _, _, cells, hc⟩ := HP6.out.own_blk (List.mem_of_getElem? HJ.out) e.symm; rw [B96.out] at hc; injection hc with hc; injection hc with _ hc; exact absurd hc (by decide))).trans B96.out
  have HK8 : Aside0 (Kept w (mapW w7 gm (L'.set j (a, b, v7))) (fun i => i = gm ∨ S i)) := ⟨(Kept.of_grown hg HK6.out (fun k e => Or.inl (Or.inr (HP6.out.own_blk (List.mem_of_getElem? HJ.out) e).2.2.1))).then_ (S2 := fun i => i = gm) ⟨by rw [set_size]; exact Nat.le_refl _, fun i _ hn => set_other (o := .map (E 0 (L'.set j (a, b, v7))).toArray (L'.set j (a, b, v7)).length) hn⟩ (fun k hk => Or.inl (Or.inl hk))⟩
  have HPF := Aside0.mk (HP6.out.put (S' := fun k => S k ∨ wd.heap.size ≤ k) HJ.out hg (fun k hk => Or.inl hk) ho (hat.imp_right Or.inl))
  have hst := store_run (v' := v7) m7 HJ.out
  have B97 := Aside0.mk b97
  have hne9 : g9 ≠ gm := fun e => by rw [e, m7] at b97; cases b97
  have B98 : Aside0 ((mapW w7 gm (L'.set j (a, b, v7))).heap[g9]? = some (.cells #[.int .i64 a, .int .i64 b] 53 (0, 0))) := Aside0.mk ((set_other (o := .map (E 0 (L'.set j (a, b, v7))).toArray (L'.set j (a, b, v7)).length) hne9).trans b97)
  have hS2 := ss_raw p7 b97
  refine hK.out _ _ hS2 (fun hHeld => ?_)
  clear hK K hS2 ho hb hg hat hgg m7 p7 b97 hne9 hvr
  refine norm_ (a' := ?_) ?_ ?_
  rotate_left
  · show Act.put _ (some 44) _ = _
    simp only [Act.put, List.setIfInBounds_toArray, List.set_cons_zero, List.set_cons_succ, i64_w, i32_w]
    rfl
  refine one_ (i := 12) (N := none) #[true, true, true, true, true, true, true, true, true, true, true, true, true] rfl rfl (by kernel_rfl) (by decide) (fun K hK => ?_)
  refine skip_ (w1 := mapW w7 gm (L'.set j (a, b, v7))) (by rfl) rfl (by go_simp) ?_
  refine hK.out _ _ (ss_of HPF.out B98.out) (fun hHeld => ?_)
  clear hK K
  refine done_ (by kernel_rfl) ?_
  -- snd]
  go_wp2
  go_ret
  exact ⟨rfl, _, _, HPF.out, fun k hk => hk.imp_right (fun h => Nat.le_trans HBd.out.size h), HK8.out⟩
theorem Send_ok (h : Ps w0 gp gm n L Q S w) (a0 : 0 ≤ a) (a1 : a < n) (b0 : 0 ≤ b) (b1 : b < n) (hab : a ≠ b) (hn : n ≤ 8) (A3 : Option Addr) (c3 : Nat) (l : List Int) (hc3 : l.length ≤ c3) (hr : Kd.C (Kd.int .u8) w A3 l.length l) (hl : l.length ≤ 1100000) (hq : (Q a b).length < 64) :
    Calls Try.prog 8 #[.pointer (some ⟨gp, 0, none⟩), .int .i64 a, .int .i64 b, .slice A3 l.length c3] w fun e w' => e = .returned (.int .i64 0) ∧ ∃ L' S', Ps w0 gp gm n L' (upd Q a b (Q a b ++ [l])) S' w' :=
  (Send_okS h a0 a1 b0 b1 hab hn A3 c3 l hc3 hr hl hq).mono fun e w' ⟨he, L', S', hP, _⟩ => ⟨he, L', S', hP⟩
end
end Go.Proofs.Ytnjnljnhpihemaa.Po
