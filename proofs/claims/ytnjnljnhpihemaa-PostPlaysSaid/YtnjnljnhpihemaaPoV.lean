/- Posts: Take. -/
import Derived.Test.YtnjnljnhpihemaaPoD
set_option linter.unusedVariables false
set_option linter.unusedSimpArgs false
namespace Go.Proofs.Ytnjnljnhpihemaa.Po
open Go Go.RowKit Go.Proofs.YtnjnljnhpihemaaW.PrintWords Go.Proofs.YtnjnljnhpihemaaW.PrintLast Go.Proofs.YtnjnljnhpihemaaW.PrintMore Go.Proofs.Ytnjnljnhpihemaa.PA
/-- What stands through Take's last region but one. -/
def ST (gp gm g9 : Nat) (a b : Int) (L : List (Int × Int × Value)) (w' : World) : Prop :=
  w'.cell? ⟨gp, 1, none⟩ = some (.map (some gm)) ∧ w'.rangeAt g9 0 [.int .i64 a, .int .i64 b] ∧ w'.heap[gm]? = some (.map (E 0 L).toArray L.length)
theorem st_below {gp gm g9 : Nat} {a b : Int} {L : List (Int × Int × Value)} {w w1 : World} (h : ST gp gm g9 a b L w) (hb : Below w.heap.size w w1) : ST gp gm g9 a b L w1 :=
  ⟨pw_cell_below hb h.1, fun j v hv => pw_cell_below hb (h.2.1 j v hv), blk_below h.2.2 hb⟩
section
variable {w0 : World} {gp gm : Nat} {n : Int} {L : List (Int × Int × Value)} {Q : Int → Int → List (List Int)} {S : Nat → Prop} {w w1 : World} {a b : Int} {q : List (List Int)} {A : Option Addr} {c : Nat}
set_option maxRecDepth 100000 in
set_option maxHeartbeats 4000000 in
theorem without_calls {k : Nat} (hB : Below w0.heap.size w0 w) (h : Kd.R KR 23 w w0.heap.size S (.slice A q.length c) q) (hk : k < q.length) (hl : q.length ≤ 64) :
    Calls Try.prog 21 #[.slice A q.length c, .int .i64 (k : Int)] w fun e w' => ∃ g c', e = .returned (.slice (some ⟨g, 0, none⟩) (q.length - 1) c') ∧ w.heap.size ≤ g ∧ Kd.R KR 23 w' w0.heap.size (fun k => S k ∨ w.heap.size ≤ k) (.slice (some ⟨g, 0, none⟩) (q.length - 1) c') (q.eraseIdx k) ∧ Below w.heap.size w w' := by
  have HC := Aside0.mk (clone2_calls hB h hl (by omega))
  have HB := Aside0.mk hB
  have HK := Aside0.mk hk
  have HL := Aside0.mk hl
  clear h hB
  go_enter Try.func21, Try.ntmps21
  go_wp2_with fail
  refine HC.out.mono ?_
  rintro e w2 ⟨g, c2, rfl, hg, hR, hb⟩
  have HR := Aside0.mk hR
  have HB2 := Aside0.mk hb
  have HG := Aside0.mk hg
  clear hR hb hg
  go_wp2_with fail
  have HD := delete_calls (HB.out.trans (HB2.out.mono HB.out.size)) HR.out HK.out HL.out
  rw [show ((k + 1 : Nat) : Int) = (k : Int) + 1 by omega] at HD
  refine HD.mono ?_
  rintro e w3 ⟨c3, rfl, hR3, hg3⟩
  have HR3 := Aside0.mk hR3
  have HB3 := Aside0.mk (pw_below_grown HB2.out (some g) HB2.out.size hg3 (fun k hk => by injection hk with hk; have := HG.out; omega))
  clear hR3 hg3 HD
  go_wp2_with fail
  go_ret
  exact ⟨g, c3, rfl, HG.out, HR3.out, HB3.out⟩
set_option maxRecDepth 100000 in
set_option maxHeartbeats 4000000 in
theorem Take_ok (h : Ps w0 gp gm n L Q S w) (a0 : 0 ≤ a) (a1 : a < n) (b0 : 0 ≤ b) (b1 : b < n) (hab : a ≠ b) (hn : n ≤ 8) (k : Nat) (l : List Int) (hk : (Q a b)[k]? = some l) (hl : l.length ≤ 1100000) (hq : (Q a b).length ≤ 64) :
    Calls Try.prog 10 #[.pointer (some ⟨gp, 0, none⟩), .int .i64 a, .int .i64 b, .int .i64 (k : Int)] w fun e w' => ∃ A c L' S', e = .returned (.tuple #[.slice A l.length c, .int .i64 0]) ∧ Kd.R (Kd.int .u8) 5 w' w.heap.size (fun _ => True) (.slice A l.length c) l ∧ Ps w0 gp gm n L' (upd Q a b ((Q a b).eraseIdx k)) S' w' ∧ w.heap.size ≤ w'.heap.size ∧ ∀ i, i < w.heap.size → i ≠ gm → w'.heap[i]? = w.heap[i]? := by
  have ha : small a := ⟨by omega, by omega⟩
  have hb : small b := ⟨by omega, by omega⟩
  have HLook := Aside0.mk (Look_ok h a0 a1 b0 b1 hab hn k l hk hl)
  have hkl := (List.getElem?_eq_some_iff.1 hk).1
  obtain ⟨A, c, hlk, hc, hR⟩ := h.looks ha hb
  rcases h.find ha hb with ⟨h1, _⟩ | ⟨j, v, hj, hf⟩
  · have h2 := h.nil0 a b h1
    rw [h2] at hkl
    simp at hkl
  have hgmw : gm < w.heap.size := (Array.getElem?_eq_some_iff.1 h.mb).1
  have HGM := Aside0.mk hgmw
  have HW := Aside0.mk hlk
  have HR := Aside0.mk hR
  have HB := Aside0.mk (And.intro ha hb)
  have HJ := Aside0.mk hj
  have HF := Aside0.mk hf
  have HK1 := Aside0.mk hkl
  have HQ := Aside0.mk hq
  have hu53 := Try.underlying53
  have hi53 : (Try.prog.info? 53).map (·.size) = some 2 := by kernel_rfl
  clear h a0 a1 b0 b1 hab hn hk hl hlk hR hc ha hb hkl hj hf hq hgmw
  go_enter Try.func10, Try.ntmps10
  go_wp2_with fail
  refine HLook.out.mono ?_
  rintro e w2 ⟨A2, c2, rfl, hO2, hP2, hb2⟩
  have HP2 := Aside0.mk (hP2.step (below_alloc (Below.refl _ _) (.cells #[.int .i64 a, .int .i64 b] 53)))
  have HO3 := Aside0.mk (Kd.R_alloc hO2 (.cells #[.int .i64 a, .int .i64 b] 53))
  have B9 := Aside0.mk (blk_new w2 (.cells #[.int .i64 a, .int .i64 b] 53))
  have HB3 := Aside0.mk (hb2.trans ((below_alloc (Below.refl w2.heap.size w2) (.cells #[.int .i64 a, .int .i64 b] 53)).mono hb2.size))
  clear hO2 hP2 hb2 HLook
  go_upto_region 4 with (fail)
  generalize w2.alloc (.cells #[.int .i64 a, .int .i64 b] 53) = w3 at *
  generalize w2.heap.size = g9 at *
  have HP3 := Aside0.mk HP2.out
  have HS3 : Aside0 (ST gp gm g9 a b L w3) := ⟨HP2.out.c1, fun j v hv => by rw [blk_cell B9.out, Nat.zero_add]; simpa using hv, HP2.out.mb⟩
  -- [tk
  refine start_ (n := 14) (S := ST gp gm g9 a b L) (ds := [13]) #[false, false, false, false, false, false, false, false, false, false, false, false, false, false] (by kernel_rfl) rfl rfl (st_below HS3.out (pw_below_drewN (Below.refl _ _) 1)) (fun hHeld => ?_)
  have HPd := Aside0.mk (HP3.out.step (pw_below_drewN (Below.refl w3.heap.size w3) 1))
  have HBd := Aside0.mk (HB3.out.trans ((pw_below_drewN (Below.refl w3.heap.size w3) 1).mono HB3.out.size))
  have HOd := Aside0.mk (Kd.R_below HO3.out (pw_below_drewN (Below.refl w3.heap.size w3) 1))
  generalize hwd : w3.drewN 1 = wd at HPd HBd HOd
  rw [show w3.drew = wd from hwd] at hHeld ⊢
  clear HP3 HB3 HO3 HS3 hwd
  refine pure_ (i := 0) (N := some 26) (v := ?_) (a' := ?_) #[true, false, false, false, false, false, false, false, false, false, false, false, false, false] rfl rfl (by kernel_rfl) (fun _ _ _ h => h) (Or.inl ⟨by rfl, ?_⟩) ?_ ?_
  rotate_left
  · intro w'
    go_simp
    with_reducible rfl
  rotate_left
  · simp only [Act.put, List.setIfInBounds_toArray, List.set_cons_zero, List.set_cons_succ, i64_w, i32_w]
    rfl
  refine pure_ (i := 1) (N := some 27) (v := ?_) (a' := ?_) #[true, true, false, false, false, false, false, false, false, false, false, false, false, false] rfl rfl (by kernel_rfl) (fun _ _ _ h => h) (Or.inl ⟨by rfl, ?_⟩) ?_ ?_
  rotate_left
  · intro w'
    go_simp
    with_reducible rfl
  rotate_left
  · simp only [Act.put, List.setIfInBounds_toArray, List.set_cons_zero, List.set_cons_succ, i64_w, i32_w]
    rfl
  refine pure_ (i := 2) (N := some 28) (v := ?_) (a' := ?_) #[true, true, true, false, false, false, false, false, false, false, false, false, false, false] rfl rfl (by kernel_rfl) (fun _ _ _ h => h) (Or.inl ⟨by rfl, ?_⟩) ?_ ?_
  rotate_left
  · intro w'
    go_simp
    with_reducible rfl
  rotate_left
  · simp only [Act.put, List.setIfInBounds_toArray, List.set_cons_zero, List.set_cons_succ, i64_w, i32_w]
    rfl
  refine take_ (i := 3) (N := some 29) (v := ?_) (a' := ?_) #[true, true, true, true, false, false, false, false, false, false, false, false, false, false] rfl rfl (by kernel_rfl) (fun _ _ _ h => h) (Or.inl ⟨by rfl, ?_⟩) hHeld ?_ ?_
  rotate_left
  · rintro w' ⟨s1, s2, s3⟩
    go_simp
    with_reducible rfl
  rotate_left
  · simp only [Act.put, List.setIfInBounds_toArray, List.set_cons_zero, List.set_cons_succ, i64_w, i32_w]
    rfl
  refine take_ (i := 4) (N := some 30) (v := .agg #[.int .i64 a, .int .i64 b]) (a' := ?_) #[true, true, true, true, true, false, false, false, false, false, false, false, false, false] rfl rfl (by kernel_rfl) (fun _ _ _ h => h) (yieldsIf_load_mid (by rfl) 53 (.tmp 12) rfl g9 0 rfl [.int .i64 a, .int .i64 b] _ (fun w' hS => hS.2.1) hu53 rfl hi53) hHeld ?_ ?_
  rotate_left
  · simp only [Act.put, List.setIfInBounds_toArray, List.set_cons_zero, List.set_cons_succ, i64_w, i32_w]
    rfl
  refine pure_ (i := 5) (N := some 31) (v := ?_) (a' := ?_) #[true, true, true, true, true, true, false, false, false, false, false, false, false, false] rfl rfl (by kernel_rfl) (fun _ _ _ h => h) (Or.inl ⟨by rfl, ?_⟩) ?_ ?_
  rotate_left
  · intro w'
    go_simp
    with_reducible rfl
  rotate_left
  · simp only [Act.put, List.setIfInBounds_toArray, List.set_cons_zero, List.set_cons_succ, i64_w, i32_w]
    rfl
  refine pure_ (i := 6) (N := some 32) (v := ?_) (a' := ?_) #[true, true, true, true, true, true, true, false, false, false, false, false, false, false] rfl rfl (by kernel_rfl) (fun _ _ _ h => h) (Or.inl ⟨by rfl, ?_⟩) ?_ ?_
  rotate_left
  · intro w'
    go_simp
    with_reducible rfl
  rotate_left
  · simp only [Act.put, List.setIfInBounds_toArray, List.set_cons_zero, List.set_cons_succ, i64_w, i32_w]
    rfl
  refine pure_ (i := 7) (N := some 33) (v := ?_) (a' := ?_) #[true, true, true, true, true, true, true, true, false, false, false, false, false, false] rfl rfl (by kernel_rfl) (fun _ _ _ h => h) (Or.inl ⟨by rfl, ?_⟩) ?_ ?_
  rotate_left
  · intro w'
    go_simp
    with_reducible rfl
  rotate_left
  · simp only [Act.put, List.setIfInBounds_toArray, List.set_cons_zero, List.set_cons_succ, i64_w, i32_w]
    rfl
  refine take_ (i := 8) (N := some 34) (v := ?_) (a' := ?_) #[true, true, true, true, true, true, true, true, true, false, false, false, false, false] rfl rfl (by kernel_rfl) (fun _ _ _ h => h) (Or.inl ⟨by rfl, ?_⟩) hHeld ?_ ?_
  rotate_left
  · rintro w' ⟨s1, s2, s3⟩
    go_simp
    with_reducible rfl
  rotate_left
  · simp only [Act.put, List.setIfInBounds_toArray, List.set_cons_zero, List.set_cons_succ, i64_w, i32_w]
    rfl
  refine take_ (i := 9) (N := some 35) (v := .agg #[.int .i64 a, .int .i64 b]) (a' := ?_) #[true, true, true, true, true, true, true, true, true, true, false, false, false, false] rfl rfl (by kernel_rfl) (fun _ _ _ h => h) (yieldsIf_load_mid (by rfl) 53 (.tmp 12) rfl g9 0 rfl [.int .i64 a, .int .i64 b] _ (fun w' hS => hS.2.1) hu53 rfl hi53) hHeld ?_ ?_
  rotate_left
  · simp only [Act.put, List.setIfInBounds_toArray, List.set_cons_zero, List.set_cons_succ, i64_w, i32_w]
    rfl
  refine take_ (i := 10) (N := some 36) (v := ?_) (a' := ?_) #[true, true, true, true, true, true, true, true, true, true, true, false, false, false] rfl rfl (by kernel_rfl) (fun _ _ _ h => h) (Or.inl ⟨by rfl, ?_⟩) hHeld ?_ ?_
  rotate_left
  · rintro w' ⟨s1, s2, s3⟩
    have hlk := HW.out w' s3
    go_simp
    with_reducible rfl
  rotate_left
  · simp only [Act.put, List.setIfInBounds_toArray, List.set_cons_zero, List.set_cons_succ, i64_w, i32_w]
    rfl
  refine pure_ (i := 11) (N := some 37) (v := ?_) (a' := ?_) #[true, true, true, true, true, true, true, true, true, true, true, true, false, false] rfl rfl (by kernel_rfl) (fun _ _ _ h => h) (Or.inl ⟨by rfl, ?_⟩) ?_ ?_
  rotate_left
  · intro w'
    go_simp
    with_reducible rfl
  rotate_left
  · simp only [Act.put, List.setIfInBounds_toArray, List.set_cons_zero, List.set_cons_succ, i64_w, i32_w]
    rfl
  refine one_ (i := 12) (N := some 38) #[true, true, true, true, true, true, true, true, true, true, true, true, true, false] rfl rfl (by kernel_rfl) (by decide) (fun K hK => ?_)
  refine goes_ Try.func21 (by kernel_rfl) rfl #[.slice A (Q a b).length c, .int .i64 (k : Int)] (by rfl) rfl rfl (by first | rfl | (simp only [List.map_toArray, List.map_cons, List.map_nil]; done) | (simp only [List.map_toArray, List.map_cons, List.map_nil]; rfl)) ?_
  refine (without_calls HPd.out.below (HR.out wd HPd.out) HK1.out HQ.out).mono ?_
  rintro e1 w4 ⟨g2, c2, rfl, hg2, hO4, hb4⟩
  have HP4 := Aside0.mk (HPd.out.step hb4)
  have HO4 := Aside0.mk hO4
  have HG4 := Aside0.mk (grown_of_below hb4 v.ownBlock)
  have HG2 := Aside0.mk hg2
  have HOe := Aside0.mk (Kd.R_below HOd.out hb4)
  have HB4 := Aside0.mk (HBd.out.trans (hb4.mono HBd.out.size))
  have hS2 := st_below hHeld hb4
  have hup := update_run (v' := .slice (some ⟨g2, 0, none⟩) ((Q a b).length - 1) c2) HP4.out.mb HB.out.1 HB.out.2 HJ.out (HF.out w4)
  have hupd : (Instr.mapUpdate TM (.map (some gm)) (.agg #[.int .i64 a, .int .i64 b]) (.slice (some ⟨g2, 0, none⟩) ((Q a b).length - 1) c2)).run Try.prog w4 = _ := hup
  clear hup
  refine ⟨_, rfl, ?_⟩
  clear hO4 hb4 hg2 hHeld
  refine hK.out _ _ hS2 (fun hHeld => ?_)
  clear hK K hS2
  refine norm_ (a' := ?_) ?_ ?_
  rotate_left
  · show Act.put _ (some 38) _ = _
    simp only [Act.put, List.setIfInBounds_toArray, List.set_cons_zero, List.set_cons_succ, i64_w, i32_w]
    rfl
  refine last_ (i := 13) (N := none) #[true, true, true, true, true, true, true, true, true, true, true, true, true, true] rfl rfl (by kernel_rfl) (by decide) (fun K hK => ?_)
  have HPF := Aside0.mk (HPd.out.put (S' := fun k => S k ∨ wd.heap.size ≤ k) HJ.out HG4.out (fun k hk => Or.inl hk) HO4.out (Or.inr (Or.inl ⟨g2, rfl, HG2.out⟩)))
  refine skip_ (w1 := mapW w4 gm (L.set j (a, b, .slice (some ⟨g2, 0, none⟩) ((Q a b).length - 1) c2))) (by rfl) rfl (by go_simp) ?_
  refine hK.out _ _ ?_
  clear hK K
  refine done_ (by kernel_rfl) ?_
  -- tk]
  go_wp2
  go_ret2
  exact ⟨A2, _, _, _, rfl, R_low HOe.out HGM.out, HPF.out, by rw [set_size]; exact HB4.out.size, fun i hi hn => (set_other hn).trans (HB4.out.block i hi)⟩
end
end Go.Proofs.Ytnjnljnhpihemaa.Po
