/- Posts: Look. -/
import Derived.Test.YtnjnljnhpihemaaPoT
set_option linter.unusedVariables false
set_option linter.unusedSimpArgs false
namespace Go.Proofs.Ytnjnljnhpihemaa.Po
open Go Go.RowKit Go.Proofs.YtnjnljnhpihemaaW.PrintWords Go.Proofs.YtnjnljnhpihemaaW.PrintLast Go.Proofs.YtnjnljnhpihemaaW.PrintMore Go.Proofs.Ytnjnljnhpihemaa.PA
/-- What stands through the whole of Look's last region. -/
def SL (gp gm g9 : Nat) (a b : Int) (gr k : Nat) (x : Value) (L : List (Int × Int × Value)) (w' : World) : Prop :=
  w'.cell? ⟨gp, 1, none⟩ = some (.map (some gm)) ∧ w'.rangeAt g9 0 [.int .i64 a, .int .i64 b] ∧ w'.heap[gm]? = some (.map (E 0 L).toArray L.length) ∧ w'.cell? ⟨gr, k, none⟩ = some x
theorem sl_below {gp gm g9 : Nat} {a b : Int} {gr k : Nat} {x : Value} {L : List (Int × Int × Value)} {w w1 : World} (h : SL gp gm g9 a b gr k x L w) (hb : Below w.heap.size w w1) : SL gp gm g9 a b gr k x L w1 :=
  ⟨pw_cell_below hb h.1, fun j v hv => pw_cell_below hb (h.2.1 j v hv), blk_below h.2.2.1 hb, pw_cell_below hb h.2.2.2⟩
section
variable {w0 : World} {gp gm : Nat} {n : Int} {L : List (Int × Int × Value)} {Q : Int → Int → List (List Int)} {S : Nat → Prop} {w w1 : World} {a b : Int}
set_option maxRecDepth 100000 in
set_option maxHeartbeats 4000000 in
theorem Look_ok (h : Ps w0 gp gm n L Q S w) (a0 : 0 ≤ a) (a1 : a < n) (b0 : 0 ≤ b) (b1 : b < n) (hab : a ≠ b) (hn : n ≤ 8) (k : Nat) (l : List Int) (hk : (Q a b)[k]? = some l) (hl : l.length ≤ 1100000) :
    Calls Try.prog 11 #[.pointer (some ⟨gp, 0, none⟩), .int .i64 a, .int .i64 b, .int .i64 (k : Int)] w fun e w' => ∃ A c, e = .returned (.tuple #[.slice A l.length c, .int .i64 0]) ∧ Kd.R (Kd.int .u8) 5 w' w.heap.size (fun _ => True) (.slice A l.length c) l ∧ Ps w0 gp gm n L Q S w' ∧ Below w.heap.size w w' := by
  have ha : small a := ⟨by omega, by omega⟩
  have hb : small b := ⟨by omega, by omega⟩
  obtain ⟨A, c, hlk, hc, hR⟩ := h.looks ha hb
  have hkl := (List.getElem?_eq_some_iff.1 hk).1
  have hRw := hR w h
  obtain ⟨gr, cap, he, _, _⟩ := Kd.R_form hRw (by omega)
  injection he with e1 e2 e3
  subst e1
  subst e3
  clear e2
  obtain ⟨ad, ce0, e1, _, ⟨Ae, ce, rfl, hce, hE⟩, hcell⟩ := Kd.C_get (Kd.R_reads' hRw).2.2 [] (k : Int) (by omega) (by omega)
  injection e1 with e1
  subst e1
  have hcl := hcell 0 _ rfl
  simp only [Int.toNat_natCast] at hcl hE hce
  rw [List.getD_eq_getElem?_getD, hk, Option.getD_some] at hcl hE hce
  have hc2 : w.cell? ⟨gr, k, none⟩ = some (.slice Ae l.length ce) := by
    have : (KR).sz = 1 := rfl
    have hadd : (⟨gr, 0, none⟩ : Addr).add k = ⟨gr, k, none⟩ := by unfold Addr.add; split <;> simp_all
    rw [this, Nat.mul_one, Nat.add_zero, hadd] at hcl
    exact hcl
  obtain ⟨x, hx⟩ : ∃ x, Value.slice Ae l.length ce = x := ⟨_, rfl⟩
  have HP := Aside0.mk h
  have HLK := Aside0.mk (fun (W : World) (hW : Ps w0 gp gm n L Q S W) => look_ok hW a0 a1 b0 b1 hab)
  have HW := Aside0.mk hlk
  have HE := Aside0.mk hE
  have HCE := Aside0.mk hce
  have HC2 := Aside0.mk hc2
  have HK1 : Aside0 (k < (Q a b).length) := ⟨hkl⟩
  have HK2 : Aside0 (((k : Int) < ((Q a b).length : Int))) := ⟨by omega⟩
  have t1 : decide ((k : Int) < 0) = false := decide_eq_false (by omega)
  have t2 : decide (((Q a b).length : Int) ≤ (k : Int)) = false := decide_eq_false (by omega)
  have t3 : ((Q a b).length ≤ k) = False := eq_false (by omega)
  have HL := Aside0.mk hl
  have hu53 := Try.underlying53
  have hi53 : (Try.prog.info? 53).map (·.size) = some 2 := by kernel_rfl
  clear h a0 a1 b0 b1 hab hn hk hl hlk hR hRw hc ha hb hkl hcell hE hce hc2 hcl hx
  go_enter Try.func11, Try.ntmps11
  go_wp2_with fail
  have HP1 := Aside0.mk (HP.out.step (below_alloc (Below.refl _ _) (.cells #[.int .i64 a, .int .i64 b] 53)))
  refine (HLK.out _ HP1.out).mono ?_
  rintro e w2 ⟨rfl, hb2⟩
  have HP2 := Aside0.mk (HP1.out.step hb2)
  have B9 := Aside0.mk (blk_below (blk_new w (.cells #[.int .i64 a, .int .i64 b] 53)) hb2)
  have HB2 := Aside0.mk ((below_alloc (Below.refl w.heap.size w) _).trans (hb2.mono (below_alloc (Below.refl w.heap.size w) (.cells #[.int .i64 a, .int .i64 b] 53)).size))
  clear hb2 HP1
  obtain ⟨g9, hg9⟩ : ∃ g9, w.heap.size = g9 := ⟨_, rfl⟩
  rw [hg9] at B9
  rw [hg9]
  have c1 := HP2.out.c1
  have k0 := (blk_cell B9.out 0).trans rfl
  have k1 := (blk_cell B9.out 1).trans rfl
  have hlk : ∀ k, (Instr.lookup TM (.map (some gm)) (.agg #[.int .i64 a, .int .i64 b]) false).run Try.prog (w2.drewN k) = .ok (.slice (some ⟨gr, 0, none⟩) (Q a b).length c) (w2.drewN k) := fun k => HW.out _ (by rw [drewN_heap]; exact HP2.out.mb)
  have hlk0 := HW.out w2 HP2.out.mb
  go_upto_region 5 with (fail)
  go_quiet (fail)
  have HP3 := Aside0.mk (HP2.out.step (pw_below_drewN (Below.refl _ _) nq))
  have HB3 := Aside0.mk (HB2.out.trans ((pw_below_drewN (Below.refl w2.heap.size w2) nq).mono HB2.out.size))
  have HS3 : Aside0 (SL gp gm g9 a b gr k (.slice Ae l.length ce) L (w2.drewN nq)) := ⟨sl_below ⟨c1, fun j v hv => by rw [blk_cell B9.out, Nat.zero_add]; simpa using hv, HP2.out.mb, pw_cell_below HB2.out HC2.out⟩ (pw_below_drewN (Below.refl _ _) nq)⟩
  have HE3 := Aside0.mk (Kd.C_below HE.out HB3.out)
  clear hlk hlk0 c1 k0 k1 HP2 HB2 hg9
  generalize w2.drewN nq = w3 at *
  go_upto_region 7 with (fail)
  obtain ⟨x, hx⟩ : ∃ x, Value.slice Ae l.length ce = x := ⟨_, rfl⟩
  subst hx
  -- [lk
  refine start_ (n := 12) (S := SL gp gm g9 a b gr k (.slice Ae l.length ce) L) (ds := []) #[false, false, false, false, false, false, false, false, false, false, false, false] (by kernel_rfl) rfl rfl (sl_below HS3.out (pw_below_drewN (Below.refl _ _) 1)) (fun hHeld => ?_)
  have HPd := Aside0.mk (HP3.out.step (pw_below_drewN (Below.refl w3.heap.size w3) 1))
  have HBd := Aside0.mk (HB3.out.trans ((pw_below_drewN (Below.refl w3.heap.size w3) 1).mono HB3.out.size))
  have HEd := Aside0.mk (Kd.C_below HE3.out (pw_below_drewN (Below.refl w3.heap.size w3) 1))
  generalize hwd : w3.drewN 1 = wd at HPd HBd HEd
  rw [show w3.drew = wd from hwd] at hHeld ⊢
  clear HP3 HB3 HE3 HS3 hwd
  refine pure_ (i := 0) (N := some 36) (v := ?_) (a' := ?_) #[true, false, false, false, false, false, false, false, false, false, false, false] rfl rfl (by kernel_rfl) (fun _ _ _ h => h) (Or.inl ⟨by rfl, ?_⟩) ?_ ?_
  rotate_left
  · intro w'
    go_simp
    with_reducible rfl
  rotate_left
  · simp only [Act.put, List.setIfInBounds_toArray, List.set_cons_zero, List.set_cons_succ, i64_w, i32_w]
    rfl
  refine pure_ (i := 1) (N := some 37) (v := ?_) (a' := ?_) #[true, true, false, false, false, false, false, false, false, false, false, false] rfl rfl (by kernel_rfl) (fun _ _ _ h => h) (Or.inl ⟨by rfl, ?_⟩) ?_ ?_
  rotate_left
  · intro w'
    go_simp
    with_reducible rfl
  rotate_left
  · simp only [Act.put, List.setIfInBounds_toArray, List.set_cons_zero, List.set_cons_succ, i64_w, i32_w]
    rfl
  refine pure_ (i := 2) (N := some 38) (v := ?_) (a' := ?_) #[true, true, true, false, false, false, false, false, false, false, false, false] rfl rfl (by kernel_rfl) (fun _ _ _ h => h) (Or.inl ⟨by rfl, ?_⟩) ?_ ?_
  rotate_left
  · intro w'
    go_simp
    with_reducible rfl
  rotate_left
  · simp only [Act.put, List.setIfInBounds_toArray, List.set_cons_zero, List.set_cons_succ, i64_w, i32_w]
    rfl
  refine take_ (i := 3) (N := some 39) (v := ?_) (a' := ?_) #[true, true, true, true, false, false, false, false, false, false, false, false] rfl rfl (by kernel_rfl) (fun _ _ _ h => h) (Or.inl ⟨by rfl, ?_⟩) hHeld ?_ ?_
  rotate_left
  · rintro w' ⟨s1, s2, s3, s4⟩
    go_simp
    with_reducible rfl
  rotate_left
  · simp only [Act.put, List.setIfInBounds_toArray, List.set_cons_zero, List.set_cons_succ, i64_w, i32_w]
    rfl
  refine take_ (i := 4) (N := some 40) (v := .agg #[.int .i64 a, .int .i64 b]) (a' := ?_) #[true, true, true, true, true, false, false, false, false, false, false, false] rfl rfl (by kernel_rfl) (fun _ _ _ h => h) (yieldsIf_load_mid (by rfl) 53 (.tmp 10) rfl g9 0 rfl [.int .i64 a, .int .i64 b] _ (fun w' hS => hS.2.1) hu53 rfl hi53) hHeld ?_ ?_
  rotate_left
  · simp only [Act.put, List.setIfInBounds_toArray, List.set_cons_zero, List.set_cons_succ, i64_w, i32_w]
    rfl
  refine take_ (i := 5) (N := some 41) (v := ?_) (a' := ?_) #[true, true, true, true, true, true, false, false, false, false, false, false] rfl rfl (by kernel_rfl) (fun _ _ _ h => h) (Or.inl ⟨by rfl, ?_⟩) hHeld ?_ ?_
  rotate_left
  · rintro w' ⟨s1, s2, s3, s4⟩
    have hlk := HW.out w' s3
    go_simp
    with_reducible rfl
  rotate_left
  · simp only [Act.put, List.setIfInBounds_toArray, List.set_cons_zero, List.set_cons_succ, i64_w, i32_w]
    rfl
  refine pure_ (i := 6) (N := some 42) (v := ?_) (a' := ?_) #[true, true, true, true, true, true, true, false, false, false, false, false] rfl rfl (by kernel_rfl) (fun _ _ _ h => h) (Or.inl ⟨by rfl, ?_⟩) ?_ ?_
  rotate_left
  · intro w'
    go_simp
    with_reducible rfl
  rotate_left
  · simp only [Act.put, List.setIfInBounds_toArray, List.set_cons_zero, List.set_cons_succ, i64_w, i32_w]
    rfl
  refine pure_ (i := 7) (N := some 43) (v := ?_) (a' := ?_) #[true, true, true, true, true, true, true, true, false, false, false, false] rfl rfl (by kernel_rfl) (fun _ _ _ h => h) (Or.inl ⟨by rfl, ?_⟩) ?_ ?_
  rotate_left
  · intro w'
    have hk1 := HK1.out
    have hk2 := HK2.out
    go_simp
    with_reducible rfl
  rotate_left
  · simp only [Act.put, List.setIfInBounds_toArray, List.set_cons_zero, List.set_cons_succ, i64_w, i32_w]
    rfl
  refine take_ (i := 8) (N := some 44) (v := ?_) (a' := ?_) #[true, true, true, true, true, true, true, true, true, false, false, false] rfl rfl (by kernel_rfl) (fun _ _ _ h => h) (Or.inl ⟨by rfl, ?_⟩) hHeld ?_ ?_
  rotate_left
  · rintro w' ⟨s1, s2, s3, s4⟩
    go_simp
    with_reducible rfl
  rotate_left
  · simp only [Act.put, List.setIfInBounds_toArray, List.set_cons_zero, List.set_cons_succ, i64_w, i32_w]
    rfl
  refine one_ (i := 9) (N := some 45) #[true, true, true, true, true, true, true, true, true, true, false, false] rfl rfl (by kernel_rfl) (by decide) (fun K hK => ?_)
  refine goes_ Try.func20 (by kernel_rfl) rfl #[.slice Ae l.length ce] (by rfl) rfl rfl (by first | rfl | (simp only [List.map_toArray, List.map_cons, List.map_nil]; done) | (simp only [List.map_toArray, List.map_cons, List.map_nil]; rfl)) ?_
  refine (slices_Clone_byte_byte.calls Ae ce l l wd HEd.out HCE.out (by unfold slices_Clone_byte_byte.f; rw [if_pos (by have := HL.out; omega)])).mono ?_
  rintro e1 w4 ⟨v4, rfl, hO4, hb4⟩
  obtain ⟨A4, c4, rfl, hc4, _⟩ := Kd.R_reads hO4
  have HO4 := Aside0.mk (Kd.R_lower hO4 HBd.out.size)
  have HP4 := Aside0.mk (HPd.out.step hb4)
  have HB4 := Aside0.mk (HBd.out.trans (hb4.mono HBd.out.size))
  have hS2 := sl_below hHeld hb4
  refine ⟨_, rfl, ?_⟩
  clear hO4 hb4 hc4 hHeld
  refine hK.out _ _ hS2 (fun hHeld => ?_)
  clear hK K hS2
  refine norm_ (a' := ?_) ?_ ?_
  rotate_left
  · show Act.put _ (some 45) _ = _
    simp only [Act.put, List.setIfInBounds_toArray, List.set_cons_zero, List.set_cons_succ, i64_w, i32_w]
    rfl
  refine pure_ (i := 10) (N := some 8) (v := ?_) (a' := ?_) #[true, true, true, true, true, true, true, true, true, true, true, false] rfl rfl (by kernel_rfl) (fun _ _ _ h => h) (Or.inl ⟨by rfl, ?_⟩) ?_ ?_
  rotate_left
  · intro w'
    go_simp
    with_reducible rfl
  rotate_left
  · simp only [Act.put, List.setIfInBounds_toArray, List.set_cons_zero, List.set_cons_succ, i64_w, i32_w]
    rfl
  refine pure_ (i := 11) (N := some 9) (v := ?_) (a' := ?_) #[true, true, true, true, true, true, true, true, true, true, true, true] rfl rfl (by kernel_rfl) (fun _ _ _ h => h) (Or.inl ⟨by rfl, ?_⟩) ?_ ?_
  rotate_left
  · intro w'
    go_simp
    with_reducible rfl
  rotate_left
  · simp only [Act.put, List.setIfInBounds_toArray, List.set_cons_zero, List.set_cons_succ, i64_w, i32_w]
    rfl
  refine done_ (by kernel_rfl) ?_
  -- lk]
  go_wp2
  go_ret2
  exact ⟨A4, c4, rfl, HO4.out, HP4.out, HB4.out⟩
end
end Go.Proofs.Ytnjnljnhpihemaa.Po
