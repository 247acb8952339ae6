/- Own texts of this claim, one behind the other (wip/tools/mergelist.py). -/
import Derived.Test.YtnjnljnhpihemaaPoB
import Derived.BigQuiet
import Derived.Deep.Slices
/- stemmalaw23.do, walked. -/
set_option linter.unusedVariables false
set_option linter.unusedSimpArgs false
namespace Go.Proofs.Ytnjnljnhpihemaa.Po
open Go Go.RowKit Go.Proofs.YtnjnljnhpihemaaW.PrintWords Go.Proofs.YtnjnljnhpihemaaW.PrintLast Go.Proofs.YtnjnljnhpihemaaW.PrintMore Go.Proofs.Ytnjnljnhpihemaa.PA
/-- What a call leaves: the post and the letters tell the same. -/
def After (w0 : World) (gp gm : Nat) (n : Int) (S P : Nat → Prop) (w : World) (e : Ending) (w' : World) : Prop :=
  ∃ L' Q' S' P' v' R', e = .returned (.tuple #[.agg #[.int .i64 n, v'], .bool true]) ∧ Ps w0 gp gm n L' Q' S' w' ∧ Sm n Q' R' ∧ Kd.R KL TL w' w0.heap.size P' v' R' ∧ Kept w w' (fun i => i = gm ∨ S i ∨ P i)
/-- The boxes of the call. -/
structure Bx (B : Nat) (n : Int) (v : Value) (x0 x1 x2 x3 : Int) (vl : Value) (wq : World) : Prop where
  b4 : wq.heap[B]? = some (.cells #[.int .i64 n, v] 39 (0, 0))
  b5 : wq.heap[B + 1]? = some (.cells #[.int .u8 x0, .int .i64 x1, .int .i64 x2, .int .i64 x3, vl] 45 (0, 0))
  b6 : wq.heap[B + 1 + 1]? = some (.cells #[.int .i64 0, .slice none 0 0] 39 (0, 0))
theorem Bx.kept {B : Nat} {n : Int} {v : Value} {x0 x1 x2 x3 : Int} {vl : Value} {wq w1 : World} {X : Nat → Prop} (h : Bx B n v x0 x1 x2 x3 vl wq) (hk : Kept wq w1 X) (hX : ∀ k, X k → k < B) : Bx B n v x0 x1 x2 x3 vl w1 :=
  ⟨blk_kept h.b4 hk (fun hx => by have := hX _ hx; omega), blk_kept h.b5 hk (fun hx => by have := hX _ hx; omega), blk_kept h.b6 hk (fun hx => by have := hX _ hx; omega)⟩
theorem Bx.below {B : Nat} {n : Int} {v : Value} {x0 x1 x2 x3 : Int} {vl : Value} {wq w1 : World} (h : Bx B n v x0 x1 x2 x3 vl wq) (hb : Below wq.heap.size wq w1) : Bx B n v x0 x1 x2 x3 vl w1 := ⟨blk_below h.b4 hb, blk_below h.b5 hb, blk_below h.b6 hb⟩
/-- While the asker's own bytes are written over: what stands beside them. -/
structure Sd (w0 w : World) (gp gm : Nat) (n : Int) (Qn : Qt) (S P : Nat → Prop) (B N1 N2 : Nat) (vr : Value) (R : List Lt) (x0 x1 x2 x3 : Int) (vl : Value) (A2 : Option Addr) (m c2 : Nat) (D : List Int → Prop) (wr : World) : Prop where
  ps : ∃ L S', Ps w0 gp gm n L Qn S' wr ∧ ∀ k, S' k → k < N1 ∨ N2 ≤ k
  bx : Bx B n vr x0 x1 x2 x3 vl wr
  rr : Kd.R KL TL wr w0.heap.size (fun k => P k ∧ k < B) vr R
  kp : Kept w wr (fun i => i = gm ∨ S i ∨ P i)
  ow : ∃ M : List Int, M.length = m ∧ D M ∧ Kd.R (Kd.int .u8) 5 wr N1 (fun k => k < N2) (.slice A2 m c2) M
  nb : gm < B ∧ gp < B ∧ B + 3 ≤ N1 ∧ w0.heap.size ≤ B ∧ w.heap.size = B
theorem Sd.step {w0 w : World} {gp gm : Nat} {n : Int} {Qn : Qt} {S P : Nat → Prop} {B N1 N2 : Nat} {vr : Value} {R : List Lt} {x0 x1 x2 x3 : Int} {vl : Value} {A2 : Option Addr} {m c2 : Nat} {D : List Int → Prop} {wr w1 : World} (h : Sd w0 w gp gm n Qn S P B N1 N2 vr R x0 x1 x2 x3 vl A2 m c2 D wr) (hb : Below wr.heap.size wr w1) : Sd w0 w gp gm n Qn S P B N1 N2 vr R x0 x1 x2 x3 vl A2 m c2 D w1 := by
  obtain ⟨L, S', hP, hS⟩ := h.ps
  obtain ⟨M, h1, h2, h3⟩ := h.ow
  exact ⟨⟨L, S', hP.step hb, hS⟩, h.bx.below hb, Kd.R_below h.rr hb, h.kp.below hb, ⟨M, h1, h2, Kd.R_below h3 hb⟩, h.nb⟩
theorem Sd.at {w0 w : World} {gp gm : Nat} {n : Int} {Qn : Qt} {S P : Nat → Prop} {B N1 N2 : Nat} {vr : Value} {R : List Lt} {x0 x1 x2 x3 : Int} {vl : Value} {A2 : Option Addr} {m c2 : Nat} {D : List Int → Prop} {wr : World} (h : Sd w0 w gp gm n Qn S P B N1 N2 vr R x0 x1 x2 x3 vl A2 m c2 D wr) (k : Nat) (hk : k < m) :
    ∃ g x, ∃ M : List Int, D M ∧ M[k]? = some x ∧ A2 = some ⟨g, 0, none⟩ ∧ wr.cell? ⟨g, k, none⟩ = some (.int .u8 x) ∧ wr.frozen? ⟨g, k, none⟩ = false ∧ ∀ (y : Int) (D' : List Int → Prop), D' (M.set k y) → Sd w0 w gp gm n Qn S P B N1 N2 vr R x0 x1 x2 x3 vl A2 m c2 D' (wr.setCell ⟨g, k, none⟩ (.int .u8 y)) := by
  obtain ⟨M, rfl, hD, hR⟩ := h.ow
  obtain ⟨go, cap, he, hgo, _⟩ := Kd.R_form hR (by omega)
  injection he with e1 e2 e3
  subst e1
  subst e3
  have hg2 : go < N2 := hR.1 go (by simp [Value.ownBlock])
  obtain ⟨c1, f1⟩ := Kd.R_celln 0 hR (k : Int) (by omega) (by omega)
  simp only [Int.toNat_natCast] at c1 f1
  obtain ⟨g0, g1, g3, g4, g5⟩ := h.nb
  refine ⟨go, _, M, hD, ?_, rfl, c1, f1, fun y D' hD' => ?_⟩
  · simp [rdOf, List.getD_eq_getElem?_getD, hk]
  · obtain ⟨r1, gr⟩ := Kd.R_putg hR (k : Int) y
    simp only [Int.toNat_natCast] at r1 gr
    obtain ⟨L, S', hP, hS⟩ := h.ps
    refine ⟨⟨L, S', hP.grown gr (fun j hj e => ?_) (fun e => ?_) (fun e => ?_) (fun j e => ?_), hS⟩, ⟨?_, ?_, ?_⟩, Kd.R_grown h.rr gr (fun j hj e => ?_), Kept.of_grown gr h.kp (fun j e => ?_), ⟨_, List.length_set, hD', r1⟩, h.nb⟩
    · injection e with e; have := hS j hj; omega
    · injection e with e; omega
    · injection e with e; omega
    · injection e with e; omega
    · exact (gr.block B (blk_lt h.bx.b4) (fun e => by injection e with e; omega)).trans h.bx.b4
    · exact (gr.block (B + 1) (blk_lt h.bx.b5) (fun e => by injection e with e; omega)).trans h.bx.b5
    · exact (gr.block (B + 1 + 1) (blk_lt h.bx.b6) (fun e => by injection e with e; omega)).trans h.bx.b6
    · injection e with e; have := hj.2; omega
    · injection e with e; exact Or.inr (by omega)
section
variable {w0 : World} {gp gm : Nat} {n : Int} {L : List (Int × Int × Value)} {Q : Qt} {S P : Nat → Prop} {w w1 : World} {v : Value} {R : List Lt}
theorem bt_str {l : List Int} {k : Nat} {x : Int} (h : l[k]? = some x) (hx : 0 ≤ x ∧ x < 256) : bt (strOfNums l) (k : Int) = x := by
  have hlt := (List.getElem?_eq_some_iff.1 h).1
  unfold bt
  rw [dif_pos (by rw [strOfNums_size, Int.toNat_natCast]; exact hlt)]
  have h2 : (strOfNums l).data.toList[k]? = some (UInt8.ofNat x.toNat) := by rw [strOfNums_data, List.getElem?_map, h]; rfl
  have h3 : ((strOfNums l)[(k : Int).toNat]'(by rw [strOfNums_size, Int.toNat_natCast]; exact hlt)) = UInt8.ofNat x.toNat := by
    simp only [Int.toNat_natCast]
    have hlt2 : k < (strOfNums l).data.toList.length := by rw [strOfNums_data, List.length_map]; exact hlt
    rw [List.getElem?_eq_getElem hlt2] at h2
    exact Option.some.inj h2
  rw [h3]
  simp
  omega
theorem drop_get {l M : List Int} {k : Nat} {x : Int} (hd : M.drop k = l.drop k) (h : M[k]? = some x) : l[k]? = some x := by
  have h1 : (M.drop k)[0]? = some x := by rw [List.getElem?_drop, Nat.add_zero]; exact h
  rw [hd, List.getElem?_drop, Nat.add_zero] at h1
  exact h1
theorem drop_set {l M : List Int} {k : Nat} {y : Int} (hd : M.drop k = l.drop k) : (M.set k y).drop (k + 1) = l.drop (k + 1) := by
  rw [List.drop_set_of_lt (by omega), ← List.drop_drop, hd, List.drop_drop]
theorem one2 (n : Int) (A : Option Addr) (m c : Nat) : (#[Value.int .i64 n, Value.slice A m c] : Array Value).all (·.oneCell') = true := by simp [Value.oneCell']
theorem After.of {g : Nat} {cs : Array Value} {v' : Value} {L' : List (Int × Int × Value)} {Q' : Qt} {S' P' : Nat → Prop} {R' : List Lt} {w5 : World} (hP : Ps w0 gp gm n L' Q' S' w5) (hm : Sm n Q' R') (hR : Kd.R KL TL w5 w0.heap.size P' v' R') (hk : Kept w w5 (fun i => i = gm ∨ S i ∨ P i)) (hT : Ty w5 39 g) (hg : w.heap.size ≤ g) (hw : w0.heap.size ≤ w.heap.size) :
    After w0 gp gm n S P w (.returned (.tuple #[.agg #[.int .i64 n, v'], .bool true])) (w5.setRow g cs) :=
  ⟨L', Q', S', P', v', R', rfl, hP.box hT (by omega) cs, hm, R_box hR hT cs, hk.then_ (S2 := fun i => i = g) ⟨by simp [World.setRow], fun i _ hn => setRow_other w5 g i cs hn⟩ (fun k hk => Or.inr (by omega))⟩
set_option maxRecDepth 100000 in
set_option maxHeartbeats 4000000 in
theorem do_calls (hP0 : Ps w0 gp gm n L Q S w) (hm : Sm n Q R) (hR0 : Kd.R KL TL w w0.heap.size P v R) (x0 x1 x2 x3 : Int) (x4 : List Int) (A5 : Option Addr) (c5 : Nat) (hc5 : x4.length ≤ c5) (hC5 : Kd.C (Kd.int .u8) w0 A5 x4.length x4) (hx0 : 0 ≤ x0 ∧ x0 < 256) (hx4 : ∀ y ∈ x4, 0 ≤ y ∧ y < 256) (hl4 : x4.length ≤ 140737488351232) :
    Calls Try.prog 16 #[.pointer (some ⟨gp, 0, none⟩), .agg #[.int .i64 n, v], .agg #[.int .u8 x0, .int .i64 x1, .int .i64 x2, .int .i64 x3, .slice A5 x4.length c5]] w fun e w' => After w0 gp gm n S P w e w' := by
  obtain ⟨Ar, cr, rfl⟩ := Kd.R_slice hR0
  have hP1 := hP0.typed
  have hR1 := R_typed hR0
  have HP := Aside0.mk hP1
  have HM := Aside0.mk hm
  have HR := Aside0.mk hR1
  have HC5 := Aside0.mk hC5
  have Hc5 := Aside0.mk hc5
  have HX4 := Aside0.mk hx4
  have HL4 := Aside0.mk hl4
  have hu39 := Try.underlying39
  have hi39 : (Try.prog.info? 39).map (·.size) = some 2 := by kernel_rfl
  have hu45 := Try.underlying45
  have hi45 : (Try.prog.info? 45).map (·.size) = some 5 := by kernel_rfl
  clear hP0 hm hR0 hC5 hc5 hx4 hl4 hP1 hR1
  go_enter Try.func16, Try.ntmps16
  go_upto_region 2 with fail
  obtain ⟨B, hB⟩ : ∃ B, w.heap.size = B := ⟨_, rfl⟩
  have hb1 := below_alloc (Below.refl w.heap.size w) (.cells #[.int .i64 n, .slice Ar R.length cr] 39)
  have hb2 := below_alloc hb1 (.cells #[.int .u8 x0, .int .i64 x1, .int .i64 x2, .int .i64 x3, .slice A5 x4.length c5] 45)
  have hb3 := below_alloc hb2 (.cells #[.int .i64 0, .slice none 0 0] 39)
  have HBX : Aside0 (Bx B n (.slice Ar R.length cr) x0 x1 x2 x3 (.slice A5 x4.length c5) (((w.alloc (.cells #[.int .i64 n, .slice Ar R.length cr] 39)).alloc (.cells #[.int .u8 x0, .int .i64 x1, .int .i64 x2, .int .i64 x3, .slice A5 x4.length c5] 45)).alloc (.cells #[.int .i64 0, .slice none 0 0] 39))) := ⟨by
    rw [← hB]
    exact ⟨blk_alloc (blk_alloc (blk_new w _) _) _, blk_alloc (heap_alloc2_new _ _ _) _, by have h := blk_new ((w.alloc (.cells #[.int .i64 n, .slice Ar R.length cr] 39)).alloc (.cells #[.int .u8 x0, .int .i64 x1, .int .i64 x2, .int .i64 x3, .slice A5 x4.length c5] 45)) (.cells #[.int .i64 0, .slice none 0 0] 39); simpa using h⟩⟩
  have HPa : Aside0 (Ps w0 gp gm n L Q (fun k => S k ∧ k < w.heap.size ∧ (Ty (((w.alloc (.cells #[.int .i64 n, .slice Ar R.length cr] 39)).alloc (.cells #[.int .u8 x0, .int .i64 x1, .int .i64 x2, .int .i64 x3, .slice A5 x4.length c5] 45)).alloc (.cells #[.int .i64 0, .slice none 0 0] 39)) 23 k ∨ Ty (((w.alloc (.cells #[.int .i64 n, .slice Ar R.length cr] 39)).alloc (.cells #[.int .u8 x0, .int .i64 x1, .int .i64 x2, .int .i64 x3, .slice A5 x4.length c5] 45)).alloc (.cells #[.int .i64 0, .slice none 0 0] 39)) 5 k)) (((w.alloc (.cells #[.int .i64 n, .slice Ar R.length cr] 39)).alloc (.cells #[.int .u8 x0, .int .i64 x1, .int .i64 x2, .int .i64 x3, .slice A5 x4.length c5] 45)).alloc (.cells #[.int .i64 0, .slice none 0 0] 39))) := ⟨(HP.out.step hb3).mono (fun k hk => ⟨hk.1, hk.2.1, hk.2.2.imp (Ty.below hb3 hk.2.1) (Ty.below hb3 hk.2.1)⟩)⟩
  have HRa := Aside0.mk (Kd.R_mono (Kd.R_below HR.out hb3) (fun k hk => (⟨hk.1, hk.2.1, Ty.below hb3 hk.2.1 hk.2.2⟩ : P k ∧ k < w.heap.size ∧ Ty _ TL k)))
  have HCa := HC5
  have HKa := Aside0.mk (Kept.of_below hb3 (fun i => i = gm ∨ S i ∨ P i))
  have HSa : Aside0 (w.heap.size + 3 ≤ (((w.alloc (.cells #[.int .i64 n, .slice Ar R.length cr] 39)).alloc (.cells #[.int .u8 x0, .int .i64 x1, .int .i64 x2, .int .i64 x3, .slice A5 x4.length c5] 45)).alloc (.cells #[.int .i64 0, .slice none 0 0] 39)).heap.size) := ⟨by simp⟩
  have HGP : Aside0 (gp < w.heap.size) := ⟨blk_lt HP.out.pb⟩
  clear hb1 hb2 hb3
  rw [hB] at HPa HRa HSa HGP
  rw [hB]
  generalize ((w.alloc (.cells #[.int .i64 n, .slice Ar R.length cr] 39)).alloc (.cells #[.int .u8 x0, .int .i64 x1, .int .i64 x2, .int .i64 x3, .slice A5 x4.length c5] 45)).alloc (.cells #[.int .i64 0, .slice none 0 0] 39) = wa at *
  have k50 : wa.cell? ⟨B + 1, 0, none⟩ = some (.int .u8 x0) := (blk_cell HBX.out.b5 0).trans rfl
  have k51 : wa.cell? ⟨B + 1, 1, none⟩ = some (.int .i64 x1) := (blk_cell HBX.out.b5 1).trans rfl
  have k52 : wa.cell? ⟨B + 1, 2, none⟩ = some (.int .i64 x2) := (blk_cell HBX.out.b5 2).trans rfl
  have k53 : wa.cell? ⟨B + 1, 3, none⟩ = some (.int .i64 x3) := (blk_cell HBX.out.b5 3).trans rfl
  have k54 : wa.cell? ⟨B + 1, 4, none⟩ = some (.slice A5 x4.length c5) := (blk_cell HBX.out.b5 4).trans rfl
  have HW0 : Aside0 (w0.heap.size ≤ w.heap.size) := ⟨HP.out.below.size⟩
  have HGM : Aside0 (gm < B) := ⟨by rw [← hB]; exact (Array.getElem?_eq_some_iff.1 HP.out.mb).1⟩
  clear HP HR HC5
  by_cases h5 : x0 % 8 = 5
  · have h4 : ¬ (x0 % 8 = 4) := by omega
    have HT := Aside0.mk (Take_any (a := x1) (b := x2) (k := x3) HPa.out HM.out.qs)
    have hlq := HM.out.qs.look x1 x2 x3
    obtain ⟨R', hrt, hsm⟩ := ref_take HM.out (a := x1) (b := x2) (k := x3)
    generalize (lookF n Q x1 x2 x3) = lq at *
    obtain ⟨l, er⟩ := lq
    simp only at HT hrt hlq
    have HRT := Aside0.mk hrt
    have HSM := Aside0.mk hsm
    have HLQ := Aside0.mk hlq
    have HBE := Aside0.mk hB
    clear hrt hsm hlq hB
    go_wp2_with fail
    refine HT.out.mono ?_
    rintro e w3 ⟨A3, c3, L3, S3, rfl, hO3, hP3, hK3⟩
    have HB3 := Aside0.mk (HBX.out.kept hK3 (fun k hk => by have := HGM.out; rcases hk with rfl | hk; exact this; exact hk.2.1))
    have HR3 := Aside0.mk (R_typed (R_keptT HRa.out hK3 ⟨_, _, HPa.out.mb⟩ (fun k hk => hk.2.2)))
    have HP3 := Aside0.mk hP3
    have HO3 := Aside0.mk hO3
    have HK3 := Aside0.mk (HKa.out.then_ hK3 (fun k hk => by rcases hk with h | h; exact Or.inl (Or.inl h); exact Or.inl (Or.inr (Or.inl h.1))))
    have hsz3 := hK3.1
    clear hP3 hO3 hK3 HT HPa HRa k50 k51 k52 k53 k54
    have k51 : w3.cell? ⟨B + 1, 1, none⟩ = some (.int .i64 x1) := (blk_cell HB3.out.b5 1).trans rfl
    have k52 : w3.cell? ⟨B + 1, 2, none⟩ = some (.int .i64 x2) := (blk_cell HB3.out.b5 2).trans rfl
    have k53 : w3.cell? ⟨B + 1, 3, none⟩ = some (.int .i64 x3) := (blk_cell HB3.out.b5 3).trans rfl
    go_upto_region 15 with (first | ((with_reducible refine gate_ (Op.load 39 (.tmp 4)) rfl ?_); refine wpList_load_row rfl 39 (.tmp 4) rfl B rfl _ _ _ _ HB3.out.b4 hu39 rfl hi39 ?_) | (go_at_call 23; refine (stemmaref23_Post_Take.calls 5001 n _ _ R x1 x2 x3 n R' (strOfNums l) er w0 w3 HP3.out.below HR3.out HRT.out).mono ?_; rintro e w4 ⟨v1, rfl, hR4, hb4, hk4⟩; obtain ⟨A6, c6, rfl⟩ := Kd.R_slice hR4; have HR4 := Aside0.mk hR4; have HB4 := Aside0.mk hb4; have HK4 := Aside0.mk hk4; clear hR4 hb4 hk4))
    have hb5 := below_alloc (Below.refl w4.heap.size w4) (.cells #[.int .i64 n, .slice A6 R'.length c6] 39)
    have HB5 := Aside0.mk ((HB3.out.kept HK4.out (fun k hk => hk.1.2.1)).below hb5)
    have HP5 := Aside0.mk ((HP3.out.keptT HK4.out (fun k hk => hk.2.2) HB4.out).step hb5)
    have HR5 := Aside0.mk (Kd.R_below HR4.out hb5)
    have HO5 := Aside0.mk (Kd.R_below (Kd.R_kept (Kd.R_bound HO3.out) HK4.out (fun k hk hp => by have h1 := hk.2.1; have h2 := hp.1.2.1; have := HSa.out; omega)) hb5)
    have HK5 := Aside0.mk ((HK3.out.then_ HK4.out (fun k hk => Or.inl (Or.inr (Or.inr hk.1.1)))).below hb5)
    have b15 := blk_new w4 (.cells #[.int .i64 n, .slice A6 R'.length c6] 39)
    have s1 := Kd.C_string (src := 23) (dst := 9) (c := c3) Try.underlying23 Try.underlying5 Try.underlying9 (Kd.R_reads' HO5.out).2.2
    have B15 := Aside0.mk b15
    obtain ⟨g15, hg15⟩ : ∃ g15, w4.heap.size = g15 := ⟨_, rfl⟩
    rw [hg15] at B15
    rw [hg15]
    clear hb5 HB3 HP3 HR4 HO3 HK3 HR3 HB4 b15 hg15 k51 k52 k53
    generalize w4.alloc (.cells #[.int .i64 n, .slice A6 R'.length c6] 39) = w5 at *
    go_wp2_with (first | ((with_reducible refine gate_ (Op.load 39 (.tmp 15)) rfl ?_); refine wpList_load_row rfl 39 (.tmp 15) rfl g15 rfl _ _ _ _ B15.out hu39 rfl hi39 ?_) | ((with_reducible refine gate_ (Op.store 39 (.tmp 6) (.tmp 119)) rfl ?_); refine store_box rfl 39 (.tmp 6) (.tmp 119) rfl (B + 1 + 1) #[.int .i64 n, .slice A6 R'.length c6] rfl rfl _ _ HB5.out.b6 rfl hi39 (one2 _ _ _ _) ?_))
    refine bodyPost_ret (results_ct rfl _ _ (B + 1 + 1) _ #[.int .i64 n, .slice A6 R'.length c6] (0, 0) _ rfl (setRow_heap _ _ _ _ _ _ HB5.out.b6) hu39 rfl hi39) rfl ?_
    exact After.of HP5.out HSM.out HR5.out HK5.out ⟨_, HB5.out.b6⟩ (by rw [HBE.out]; omega) HW0.out
  by_cases h6 : x0 % 8 = 6
  · have h4 : ¬ (x0 % 8 = 4) := by omega
    have HT := Aside0.mk (Drop_any (a := x1) (b := x2) (k := x3) HPa.out HM.out.qs)
    obtain ⟨R', hrt, hsm⟩ := ref_take HM.out (a := x1) (b := x2) (k := x3)
    generalize (lookF n Q x1 x2 x3) = lq at *
    obtain ⟨l, er⟩ := lq
    simp only at HT hrt
    have HRT := Aside0.mk hrt
    have HSM := Aside0.mk hsm
    have HBE := Aside0.mk hB
    clear hrt hsm hB
    go_wp2_with fail
    refine HT.out.mono ?_
    rintro e w3 ⟨L3, S3, rfl, hP3, hK3⟩
    have HB3 := Aside0.mk (HBX.out.kept hK3 (fun k hk => by have := HGM.out; rcases hk with rfl | hk; exact this; exact hk.2.1))
    have HR3 := Aside0.mk (R_typed (R_keptT HRa.out hK3 ⟨_, _, HPa.out.mb⟩ (fun k hk => hk.2.2)))
    have HP3 := Aside0.mk hP3
    have HK3 := Aside0.mk (HKa.out.then_ hK3 (fun k hk => by rcases hk with h | h; exact Or.inl (Or.inl h); exact Or.inl (Or.inr (Or.inl h.1))))
    clear hP3 hK3 HT HPa HRa k50 k51 k52 k53 k54
    have k51 : w3.cell? ⟨B + 1, 1, none⟩ = some (.int .i64 x1) := (blk_cell HB3.out.b5 1).trans rfl
    have k52 : w3.cell? ⟨B + 1, 2, none⟩ = some (.int .i64 x2) := (blk_cell HB3.out.b5 2).trans rfl
    have k53 : w3.cell? ⟨B + 1, 3, none⟩ = some (.int .i64 x3) := (blk_cell HB3.out.b5 3).trans rfl
    go_upto_region 19 with (first | ((with_reducible refine gate_ (Op.load 39 (.tmp 4)) rfl ?_); refine wpList_load_row rfl 39 (.tmp 4) rfl B rfl _ _ _ _ HB3.out.b4 hu39 rfl hi39 ?_) | (go_at_call 23; refine (stemmaref23_Post_Take.calls 5001 n _ _ R x1 x2 x3 n R' (strOfNums l) er w0 w3 HP3.out.below HR3.out HRT.out).mono ?_; rintro e w4 ⟨v1, rfl, hR4, hb4, hk4⟩; obtain ⟨A6, c6, rfl⟩ := Kd.R_slice hR4; have HR4 := Aside0.mk hR4; have HB4 := Aside0.mk hb4; have HK4 := Aside0.mk hk4; clear hR4 hb4 hk4))
    have hb5 := below_alloc (Below.refl w4.heap.size w4) (.cells #[.int .i64 n, .slice A6 R'.length c6] 39)
    have HB5 := Aside0.mk ((HB3.out.kept HK4.out (fun k hk => hk.1.2.1)).below hb5)
    have HP5 := Aside0.mk ((HP3.out.keptT HK4.out (fun k hk => hk.2.2) HB4.out).step hb5)
    have HR5 := Aside0.mk (Kd.R_below HR4.out hb5)
    have HK5 := Aside0.mk ((HK3.out.then_ HK4.out (fun k hk => Or.inl (Or.inr (Or.inr hk.1.1)))).below hb5)
    have B15 := Aside0.mk (blk_new w4 (.cells #[.int .i64 n, .slice A6 R'.length c6] 39))
    obtain ⟨g15, hg15⟩ : ∃ g15, w4.heap.size = g15 := ⟨_, rfl⟩
    rw [hg15] at B15
    rw [hg15]
    clear hb5 HB3 HP3 HR4 HK3 HR3 HB4 hg15 k51 k52 k53
    generalize w4.alloc (.cells #[.int .i64 n, .slice A6 R'.length c6] 39) = w5 at *
    go_wp2_with (first | ((with_reducible refine gate_ (Op.load 39 (.tmp 19)) rfl ?_); refine wpList_load_row rfl 39 (.tmp 19) rfl g15 rfl _ _ _ _ B15.out hu39 rfl hi39 ?_) | ((with_reducible refine gate_ (Op.store 39 (.tmp 6) (.tmp 151)) rfl ?_); refine store_box rfl 39 (.tmp 6) (.tmp 151) rfl (B + 1 + 1) #[.int .i64 n, .slice A6 R'.length c6] rfl rfl _ _ HB5.out.b6 rfl hi39 (one2 _ _ _ _) ?_))
    refine bodyPost_ret (results_ct rfl _ _ (B + 1 + 1) _ #[.int .i64 n, .slice A6 R'.length c6] (0, 0) _ rfl (setRow_heap _ _ _ _ _ _ HB5.out.b6) hu39 rfl hi39) rfl ?_
    exact After.of HP5.out HSM.out HR5.out HK5.out ⟨_, HB5.out.b6⟩ (by rw [HBE.out]; omega) HW0.out
  by_cases h7 : x0 % 8 = 7
  · have h4 : ¬ (x0 % 8 = 4) := by omega
    have HT := Aside0.mk (Double_any (a := x1) (b := x2) (k := x3) HPa.out HM.out.qs)
    obtain ⟨R', hrt, hsm⟩ := ref_double HM.out (a := x1) (b := x2) (k := x3)
    generalize (dblF n Q x1 x2 x3) = lq at *
    obtain ⟨er, q1⟩ := lq
    simp only at HT hrt
    have HRT := Aside0.mk hrt
    have HSM := Aside0.mk hsm
    have HBE := Aside0.mk hB
    clear hrt hsm hB
    go_wp2_with fail
    refine HT.out.mono ?_
    rintro e w3 ⟨L3, S3, rfl, hP3, hK3⟩
    have HB3 := Aside0.mk (HBX.out.kept hK3 (fun k hk => by have := HGM.out; rcases hk with rfl | hk; exact this; exact hk.2.1))
    have HR3 := Aside0.mk (R_typed (R_keptT HRa.out hK3 ⟨_, _, HPa.out.mb⟩ (fun k hk => hk.2.2)))
    have HP3 := Aside0.mk hP3
    have HK3 := Aside0.mk (HKa.out.then_ hK3 (fun k hk => by rcases hk with h | h; exact Or.inl (Or.inl h); exact Or.inl (Or.inr (Or.inl h.1))))
    clear hP3 hK3 HT HPa HRa k50 k51 k52 k53 k54
    have k51 : w3.cell? ⟨B + 1, 1, none⟩ = some (.int .i64 x1) := (blk_cell HB3.out.b5 1).trans rfl
    have k52 : w3.cell? ⟨B + 1, 2, none⟩ = some (.int .i64 x2) := (blk_cell HB3.out.b5 2).trans rfl
    have k53 : w3.cell? ⟨B + 1, 3, none⟩ = some (.int .i64 x3) := (blk_cell HB3.out.b5 3).trans rfl
    go_upto_region 23 with (first | ((with_reducible refine gate_ (Op.load 39 (.tmp 4)) rfl ?_); refine wpList_load_row rfl 39 (.tmp 4) rfl B rfl _ _ _ _ HB3.out.b4 hu39 rfl hi39 ?_) | (go_at_call 24; refine (stemmaref23_Post_Double.calls 5001 n _ _ R x1 x2 x3 n R' er w0 w3 HP3.out.below HR3.out HRT.out).mono ?_; rintro e w4 ⟨v1, rfl, hR4, hb4, hk4⟩; obtain ⟨A6, c6, rfl⟩ := Kd.R_slice hR4; have HR4 := Aside0.mk hR4; have HB4 := Aside0.mk hb4; have HK4 := Aside0.mk hk4; clear hR4 hb4 hk4))
    have hb5 := below_alloc (Below.refl w4.heap.size w4) (.cells #[.int .i64 n, .slice A6 R'.length c6] 39)
    have HB5 := Aside0.mk ((HB3.out.kept HK4.out (fun k hk => hk.1.2.1)).below hb5)
    have HP5 := Aside0.mk ((HP3.out.keptT HK4.out (fun k hk => hk.2.2) HB4.out).step hb5)
    have HR5 := Aside0.mk (Kd.R_below HR4.out hb5)
    have HK5 := Aside0.mk ((HK3.out.then_ HK4.out (fun k hk => Or.inl (Or.inr (Or.inr hk.1.1)))).below hb5)
    have B15 := Aside0.mk (blk_new w4 (.cells #[.int .i64 n, .slice A6 R'.length c6] 39))
    obtain ⟨g15, hg15⟩ : ∃ g15, w4.heap.size = g15 := ⟨_, rfl⟩
    rw [hg15] at B15
    rw [hg15]
    clear hb5 HB3 HP3 HR4 HK3 HR3 HB4 hg15 k51 k52 k53
    generalize w4.alloc (.cells #[.int .i64 n, .slice A6 R'.length c6] 39) = w5 at *
    go_wp2_with (first | ((with_reducible refine gate_ (Op.load 39 (.tmp 23)) rfl ?_); refine wpList_load_row rfl 39 (.tmp 23) rfl g15 rfl _ _ _ _ B15.out hu39 rfl hi39 ?_) | ((with_reducible refine gate_ (Op.store 39 (.tmp 6) (.tmp 176)) rfl ?_); refine store_box rfl 39 (.tmp 6) (.tmp 176) rfl (B + 1 + 1) #[.int .i64 n, .slice A6 R'.length c6] rfl rfl _ _ HB5.out.b6 rfl hi39 (one2 _ _ _ _) ?_))
    refine bodyPost_ret (results_ct rfl _ _ (B + 1 + 1) _ #[.int .i64 n, .slice A6 R'.length c6] (0, 0) _ rfl (setRow_heap _ _ _ _ _ _ HB5.out.b6) hu39 rfl hi39) rfl ?_
    exact After.of HP5.out HSM.out HR5.out HK5.out ⟨_, HB5.out.b6⟩ (by rw [HBE.out]; omega) HW0.out
  by_cases h4 : x0 % 8 = 4
  · have HT := Aside0.mk (Look_any (a := x1) (b := x2) (k := x3) HPa.out HM.out.qs)
    have hlq := HM.out.qs.look x1 x2 x3
    have hrt := ref_look HM.out (a := x1) (b := x2) (k := x3)
    generalize (lookF n Q x1 x2 x3) = lq at *
    obtain ⟨l, er⟩ := lq
    simp only at HT hrt hlq
    have HRT := Aside0.mk hrt
    have HLQ := Aside0.mk hlq
    have HBE := Aside0.mk hB
    clear hrt hlq hB
    go_wp2_with fail
    refine HT.out.mono ?_
    rintro e w2 ⟨A2, c2, rfl, hO2, hP2, hb2⟩
    have HB2 := Aside0.mk (HBX.out.below hb2)
    have HR2 := Aside0.mk (Kd.R_below HRa.out hb2)
    have HP2 := Aside0.mk hP2
    have HK2 := Aside0.mk (HKa.out.below hb2)
    have HO2 := Aside0.mk (Kd.R_bound hO2)
    obtain ⟨-, hcr, hCr⟩ := Kd.R_reads' HR2.out
    have HCR := Aside0.mk (And.intro hcr hCr)
    clear hP2 hO2 HT HPa HRa k50 k51 k52 k53 k54 hcr hCr hb2
    have k51 : w2.cell? ⟨B + 1, 1, none⟩ = some (.int .i64 x1) := (blk_cell HB2.out.b5 1).trans rfl
    have k52 : w2.cell? ⟨B + 1, 2, none⟩ = some (.int .i64 x2) := (blk_cell HB2.out.b5 2).trans rfl
    have k53 : w2.cell? ⟨B + 1, 3, none⟩ = some (.int .i64 x3) := (blk_cell HB2.out.b5 3).trans rfl
    go_upto_region 5 with (first | ((with_reducible refine gate_ (Op.load 39 (.tmp 4)) rfl ?_); refine wpList_load_row rfl 39 (.tmp 4) rfl B rfl _ _ _ _ HB2.out.b4 hu39 rfl hi39 ?_) | (go_at_call 22; refine (stemmaref23_Post_Look.calls 5001 n Ar cr R x1 x2 x3 (strOfNums l) er w2 HCR.out.2 HCR.out.1 HRT.out).mono ?_; rintro e w3 ⟨rfl, hb3⟩; have HB3 := Aside0.mk hb3; clear hb3))
    have HSd : Aside0 (Sd w0 w gp gm n Q S P B wa.heap.size w2.heap.size (.slice Ar R.length cr) R x0 x1 x2 x3 (.slice A5 x4.length c5) A2 l.length c2 (fun M => M.drop 0 = l.drop 0) w3) := ⟨Sd.step ⟨⟨L, _, HP2.out, fun k hk => Or.inl (by have := hk.2.1; have := HSa.out; omega)⟩, HB2.out, Kd.R_mono HR2.out (fun k hk => ⟨hk.1, hk.2.1⟩), HK2.out, ⟨l, rfl, rfl, Kd.R_mono HO2.out (fun k hk => hk.2.2.1)⟩, HGM.out, HGP.out, HSa.out, by have := HW0.out; have := HBE.out; omega, HBE.out⟩ HB3.out⟩
    have hll : l.length ≤ 1100000 := HLQ.out.1
    have hsz : (strOfNums l).size = l.length := strOfNums_size l
    generalize hN2 : w2.heap.size = N2 at *
    generalize hN1 : wa.heap.size = N1 at *
    clear HB2 HP2 HR2 HK2 HO2 HCR HB3 k51 k52 k53 hN1 hN2
    go_wp2_with fail
    go_loopw [12] (fun i wr => ∃ k : Nat, k ≤ l.length ∧ i = .int .i64 k ∧ Aside0 (Sd w0 w gp gm n Q S P B N1 N2 (.slice Ar R.length cr) R x0 x1 x2 x3 (.slice A5 x4.length c5) A2 l.length c2 (fun M => M.drop k = l.drop k) wr)) (fun i _ => l.length - (intOf i).toNat)
    case atStart => exact ⟨0, by omega, rfl, HSd⟩
    case round =>
      clear HSd
      obtain ⟨k, hk, rfl, HW⟩ := hrel
      by_cases hlt : k < l.length
      · obtain ⟨g, x, M, hD, hM, rfl, hcx, hfx, hset⟩ := HW.out.at k hlt
        have hlx := drop_get hD hM
        have hx01 := HLQ.out.2 x (List.mem_of_getElem? hlx)
        have hbt := bt_str hlx hx01
        have HX := Aside0.mk (fun (m : Nat) => (hset ((x + 1) % 256) (fun M => M.drop (k + 1) = l.drop (k + 1)) (drop_set hD)))
        have HY := Aside0.mk (fun (wq : World) (hb : Below wr.heap.size wr wq) => (HW.out.step hb).at k hlt)
        have hgx : ∀ h : k < (strOfNums l).size, (((strOfNums l)[k]'h).toNat : Int) = x := fun h => (bt_at (strOfNums l) (k : Int) (by rw [Int.toNat_natCast]; exact h)).trans hbt
        have t1 : decide ((l.length : Int) ≤ (k : Int)) = false := decide_eq_false (by omega)
        have HLX := Aside0.mk hlx
        clear hset hD hM hlx HX
        go_upto_region 8 with fail
        go_quiet (fail)
        obtain ⟨g2, y2, M2, hD2, hM2, he2, hcx2, hfx2, hset2⟩ := HY.out _ (pw_below_drewN (Below.refl wr.heap.size wr) nq)
        injection he2 with he2
        injection he2 with he2 _ _
        subst he2
        have HX := Aside0.mk (hset2 ((y2 + 1) % 256) (fun M => M.drop (k + 1) = l.drop (k + 1)) (drop_set hD2))
        clear hset2 hD2 hM2 HY HW hcx hfx hbt hx01 hgx
        generalize wr.drewN nq = w4 at *
        go_wp2
        go_roundw
        case rel => exact ⟨k + 1, by omega, by go_num, HX⟩
        case measure => simp [intOf]; omega
      · obtain rfl : k = l.length := by omega
        obtain ⟨L4, S4, hP4, hS4⟩ := HW.out.ps
        have HP4 := Aside0.mk hP4
        have HB4 := Aside0.mk HW.out.bx
        clear hP4 hS4 hk hlt
        go_wp2_with (first | ((with_reducible refine gate_ (Op.load 39 (.tmp 4)) rfl ?_); refine wpList_load_row rfl 39 (.tmp 4) rfl B rfl _ _ _ _ HB4.out.b4 hu39 rfl hi39 ?_) | ((with_reducible refine gate_ (Op.store 39 (.tmp 6) (.tmp 83)) rfl ?_); refine store_box rfl 39 (.tmp 6) (.tmp 83) rfl (B + 1 + 1) #[.int .i64 n, .slice Ar R.length cr] rfl rfl _ _ HB4.out.b6 rfl hi39 (one2 _ _ _ _) ?_))
        refine bodyPost_ret (results_ct rfl _ _ (B + 1 + 1) _ #[.int .i64 n, .slice Ar R.length cr] (0, 0) _ rfl (setRow_heap _ _ _ _ _ _ HB4.out.b6) hu39 rfl hi39) rfl ?_
        exact After.of HP4.out HM.out HW.out.rr HW.out.kp ⟨_, HB4.out.b6⟩ (by rw [HBE.out]; omega) HW0.out
  obtain ⟨R', hrt, hsm⟩ := ref_send HM.out (a := x1) (b := x2) x4 HX4.out
  have hqs := HM.out.qs
  have HO0 : Aside0 (Kd.R (Kd.int .u8) 5 (wa.alloc (.cells #[] 5)) wa.heap.size (fun _ => True) (.slice (some ⟨wa.heap.size, 0, none⟩) 0 0) ([] : List Int)) := ⟨⟨fun _ _ => trivial, [], ⟨rfl, .inr ⟨wa.heap.size, 0, #[], rfl, Nat.le_refl _, blk_new wa _, Nat.le_refl _, by decide, rfl, by simp⟩⟩, Reps.none _ _⟩⟩
  have HB0 := Aside0.mk (below_alloc (Below.refl wa.heap.size wa) (.cells #[] 5))
  have k54' := pw_cell_below HB0.out k54
  have e4 : (x0 % 8 == 4) = false := beq_eq_false_iff_ne.2 h4
  have e5 : (x0 % 8 == 5) = false := beq_eq_false_iff_ne.2 h5
  have e6 : (x0 % 8 == 6) = false := beq_eq_false_iff_ne.2 h6
  have e7 : (x0 % 8 == 7) = false := beq_eq_false_iff_ne.2 h7
  have HI0 := Aside0.mk (Kd.C_below HCa.out (HPa.out.below.trans (HB0.out.mono HPa.out.below.size)))
  have HRT := Aside0.mk hrt
  have HSM := Aside0.mk hsm
  have HBE := Aside0.mk hB
  have HQS := Aside0.mk hqs
  clear hrt hsm hB hqs
  go_upto_region 25 with ((with_reducible refine gate_builtin (b := .append) (xs := #[.tmp 180, .tmp 182]) rfl ?_); at_builtin; refine Kd.R_append_rows (Kd.int .u8) (w0 := wa) wa.heap.size rfl (.tmp 180) (.tmp 182) 23 5 (.int .u8 0) 1 rfl Try.underlying23 info5 rfl (by decide) (by decide) (.slice (some ⟨wa.heap.size, 0, none⟩) 0 0) ([] : List Int) x4 A5 x4.length c5 (fun _ => True) (fun _ => False) rfl rfl HO0.out HI0.out (fun _ _ h => h) (fun _ h => h.elim) (fun _ _ => trivial) HB0.out HB0.out.size (by have := HL4.out; rw [List.length_nil]; omega) ?_; intro v2 w2 ho hb hg hat; rw [List.nil_append] at ho; obtain ⟨A2, c2, rfl, hc2, hC2⟩ := Kd.R_reads ho; have HO2 := Aside0.mk ho; have HB2 := Aside0.mk hb; have HC2 := Aside0.mk hC2; have Hc2 := Aside0.mk hc2; clear ho hb hg hat hC2 hc2)
  have HB3 := Aside0.mk (HBX.out.below HB2.out)
  have HP2 := Aside0.mk (HPa.out.step HB2.out)
  have HR2 := Aside0.mk (Kd.R_below HRa.out HB2.out)
  have HK2 := Aside0.mk (HKa.out.below HB2.out)
  have HS2 := Aside0.mk HB2.out.size
  have HO3 := Aside0.mk (Kd.R_bound HO2.out)
  have HSD := Aside0.mk (Send_any (a := x1) (b := x2) HP2.out HQS.out A2 c2 x4 Hc2.out HC2.out)
  have HBW := Aside0.mk HB2.out
  clear HBX HPa HRa HKa HB2 HO2 HC2 HI0 HO0 HB0 k50 k51 k52 k53 k54 k54'
  have k51 : w2.cell? ⟨B + 1, 1, none⟩ = some (.int .i64 x1) := (blk_cell HB3.out.b5 1).trans rfl
  have k52 : w2.cell? ⟨B + 1, 2, none⟩ = some (.int .i64 x2) := (blk_cell HB3.out.b5 2).trans rfl
  go_upto_region 26 with (go_at_call 8; refine HSD.out.mono ?_; rintro e w3 ⟨L3, S3, rfl, hP3, hS3, hK3⟩; have HP3 := Aside0.mk hP3; have HS3 := Aside0.mk hS3; have HK3 := Aside0.mk hK3; clear hP3 hS3 hK3)
  have hgw : ∀ k, (k = gm ∨ S k ∧ k < B ∧ (Ty wa 23 k ∨ Ty wa 5 k)) → k < B := fun k hk => by have := HGM.out; rcases hk with rfl | hk; exact this; exact hk.2.1
  have HSd : Aside0 (Sd w0 w gp gm n (upd Q x1 x2 (sendF n Q x1 x2 x4).2) S P B wa.heap.size w2.heap.size (.slice Ar R.length cr) R x0 x1 x2 x3 (.slice A5 x4.length c5) A2 x4.length c2 (fun _ => True) w3) := ⟨⟨⟨L3, S3, HP3.out, fun k hk => (HS3.out k hk).imp (fun h => by have := h.2.1; have := HSa.out; omega) id⟩, HB3.out.kept HK3.out hgw,
    Kd.R_mono (R_keptT HR2.out HK3.out ⟨_, _, HP2.out.mb⟩ (fun k hk => hk.2.2.imp (Ty.below HBW.out (by have := hk.2.1; have := HSa.out; omega)) (Ty.below HBW.out (by have := hk.2.1; have := HSa.out; omega)))) (fun k hk => ⟨hk.1, hk.2.1⟩),
    HK2.out.then_ HK3.out (fun k hk => by rcases hk with h | h; exact Or.inl (Or.inl h); exact Or.inl (Or.inr (Or.inl h.1))),
    ⟨x4, rfl, trivial, Kd.R_mono (Kd.R_kept HO3.out HK3.out (fun k hk hp => by have := hgw k hp; have := hk.2.1; have := HSa.out; omega)) (fun k hk => hk.2.2.1)⟩,
    HGM.out, HGP.out, HSa.out, by have := HW0.out; have := HBE.out; omega, HBE.out⟩⟩
  have hx4l : x4.length ≤ 140737488351232 := HL4.out
  generalize hN2 : w2.heap.size = N2 at *
  generalize hN1 : wa.heap.size = N1 at *
  generalize (upd Q x1 x2 (sendF n Q x1 x2 x4).2) = Qn at *
  generalize (sendF n Q x1 x2 x4).1 = er at *
  clear HB3 HP2 HR2 HK2 HS2 HO3 HSD HP3 HS3 HK3 hgw k51 k52 HBW hN1 hN2
  go_wp2_with fail
  go_loopw [27] (fun i wr => ∃ k : Nat, k ≤ x4.length ∧ i = .int .i64 k ∧ Aside0 (Sd w0 w gp gm n Qn S P B N1 N2 (.slice Ar R.length cr) R x0 x1 x2 x3 (.slice A5 x4.length c5) A2 x4.length c2 (fun _ => True) wr)) (fun i _ => x4.length - (intOf i).toNat)
  case atStart => exact ⟨0, by omega, rfl, HSd⟩
  case round =>
    clear HSd
    obtain ⟨k, hk, rfl, HW⟩ := hrel
    by_cases hlt : k < x4.length
    · obtain ⟨g, x, M, -, -, rfl, hcx, hfx, hset⟩ := HW.out.at k hlt
      have HX := Aside0.mk (hset ((x + 1) % 256) (fun _ => True) trivial)
      clear hset HW
      go_wp2
      go_roundw
      case rel => exact ⟨k + 1, by omega, by go_num, HX⟩
      case measure => simp [intOf]; omega
    · obtain rfl : k = x4.length := by omega
      obtain ⟨L4, S4, hP4, hS4⟩ := HW.out.ps
      have HP4 := Aside0.mk hP4
      have HR4 := Aside0.mk (R_typed HW.out.rr)
      have HB4 := Aside0.mk HW.out.bx
      have HK4 := Aside0.mk HW.out.kp
      have s1 := Kd.C_string (src := 23) (dst := 9) (c := c5) Try.underlying23 Try.underlying5 Try.underlying9 (Kd.C_below HCa.out hP4.below)
      have k51 : wr.cell? ⟨B + 1, 1, none⟩ = some (.int .i64 x1) := (blk_cell HB4.out.b5 1).trans rfl
      have k52 : wr.cell? ⟨B + 1, 2, none⟩ = some (.int .i64 x2) := (blk_cell HB4.out.b5 2).trans rfl
      have k54 : wr.cell? ⟨B + 1, 4, none⟩ = some (.slice A5 x4.length c5) := (blk_cell HB4.out.b5 4).trans rfl
      have HS1 := Aside0.mk s1
      clear hP4 hS4 HW hk hlt
      go_upto_region 31 with (first | ((with_reducible refine gate_ (Op.load 39 (.tmp 4)) rfl ?_); refine wpList_load_row rfl 39 (.tmp 4) rfl B rfl _ _ _ _ HB4.out.b4 hu39 rfl hi39 ?_) | (go_at_call 25; refine (stemmaref23_Post_Send.calls 5001 n _ _ R x1 x2 (strOfNums x4) n R' er w0 wr HP4.out.below HR4.out HRT.out).mono ?_; rintro e w5 ⟨v1, rfl, hR5, hb5, hk5⟩; obtain ⟨A6, c6, rfl⟩ := Kd.R_slice hR5; have HB5 := Aside0.mk (HB4.out.kept hk5 (fun k hk => hk.1.2)); have HP5 := Aside0.mk (HP4.out.keptT hk5 (fun k hk => hk.2.2) hb5); have HR5 := Aside0.mk hR5; have HK5 := Aside0.mk (HK4.out.then_ hk5 (fun k hk => Or.inl (Or.inr (Or.inr hk.1.1)))); clear hR5 hb5 hk5) | ((with_reducible refine gate_ (Op.store 39 (.tmp 4) (.tmp 213)) rfl ?_); refine store_box rfl 39 (.tmp 4) (.tmp 213) rfl B #[.int .i64 n, .slice A6 R'.length c6] rfl rfl _ _ HB5.out.b4 rfl hi39 (one2 _ _ _ _) ?_))
      have HT4 : Aside0 (Ty w5 39 B) := ⟨⟨_, HB5.out.b4⟩⟩
      have b4 := setRow_heap w5 B _ #[.int .i64 n, .slice A6 R'.length c6] _ _ HB5.out.b4
      have b6 := (setRow_other w5 B (B + 1 + 1) #[.int .i64 n, .slice A6 R'.length c6] (by omega)).trans HB5.out.b6
      have HX4 := Aside0.mk b4
      have HX6 := Aside0.mk b6
      have HP6 := Aside0.mk (HP5.out.box HT4.out (by have := HW0.out; have := HBE.out; omega) #[.int .i64 n, .slice A6 R'.length c6])
      have HR6 := Aside0.mk (R_box HR5.out HT4.out #[.int .i64 n, .slice A6 R'.length c6])
      have HK6 : Aside0 (Kept w (w5.setRow B #[.int .i64 n, .slice A6 R'.length c6]) (fun i => i = gm ∨ S i ∨ P i)) := ⟨HK5.out.then_ (S2 := fun i => i = B) ⟨by simp [World.setRow], fun i _ hn => setRow_other w5 B i _ hn⟩ (fun k hk => Or.inr (by have := HBE.out; omega))⟩
      clear b4 b6 HT4 HP5 HR5 HK5 HB5 HP4 HR4 HB4 HK4 k51 k52 k54
      generalize w5.setRow B #[.int .i64 n, .slice A6 R'.length c6] = w6 at *
      go_wp2_with (first | ((with_reducible refine gate_ (Op.load 39 (.tmp 4)) rfl ?_); refine wpList_load_row rfl 39 (.tmp 4) rfl B rfl _ _ _ _ HX4.out hu39 rfl hi39 ?_) | ((with_reducible refine gate_ (Op.store 39 (.tmp 6) (.tmp 215)) rfl ?_); refine store_box rfl 39 (.tmp 6) (.tmp 215) rfl (B + 1 + 1) #[.int .i64 n, .slice A6 R'.length c6] rfl rfl _ _ HX6.out rfl hi39 (one2 _ _ _ _) ?_))
      refine bodyPost_ret (results_ct rfl _ _ (B + 1 + 1) _ #[.int .i64 n, .slice A6 R'.length c6] (0, 0) _ rfl (setRow_heap _ _ _ _ _ _ HX6.out) hu39 rfl hi39) rfl ?_
      exact After.of HP6.out HSM.out HR6.out HK6.out ⟨_, HX6.out⟩ (by rw [HBE.out]; omega) HW0.out
end
end Go.Proofs.Ytnjnljnhpihemaa.Po

/- Posts: Clear; stemmalaw23.same, walked. -/
set_option linter.unusedVariables false
set_option linter.unusedSimpArgs false
namespace Go.Proofs.Ytnjnljnhpihemaa.Po
open Go Go.RowKit Go.Proofs.YtnjnljnhpihemaaW.PrintWords Go.Proofs.YtnjnljnhpihemaaW.PrintLast Go.Proofs.YtnjnljnhpihemaaW.PrintMore Go.Proofs.Ytnjnljnhpihemaa.PA
section
variable {w0 : World} {gp gm : Nat} {n : Int} {L : List (Int × Int × Value)} {Q : Qt} {S P : Nat → Prop} {w w1 : World} {v : Value} {R : List Lt} {a b : Int}
/-- A post whose map was cleared. -/
structure Cl (gp gm : Nat) (n : Int) (w : World) : Prop where
  pb : w.heap[gp]? = some (.cells #[.int .i64 n, .map (some gm)] TP (0, 0))
  mb : ∃ ck, w.heap[gm]? = some (.map #[] ck)
theorem Cl.step (h : Cl gp gm n w) (hb : Below w.heap.size w w1) : Cl gp gm n w1 := ⟨blk_below h.pb hb, by obtain ⟨ck, hm⟩ := h.mb; exact ⟨ck, blk_below hm hb⟩⟩
theorem clearm_run (ty : TypeId) {es : Array MapEntry} {ck : Nat} (hm : w.heap[gm]? = some (.map es ck)) : (Builtin.clear_ #[TM] ty #[.map (some gm)]).run Try.prog w = .ok (.tuple #[]) (ChangeMaps.setBlock w gm (.map #[] ck)) := by
  have hu := Try.underlying49
  have hg := MapKept.run_getObj_map (P := Try.prog) hm
  have hs := MapKept.run_setObj_map (P := Try.prog) (.map #[] ck) hm
  unfold Builtin.clear_
  simp [Sem.run_bind, run_underlying hu w, hg, hs, ChangeMaps.setBlock]
set_option maxRecDepth 100000 in
set_option maxHeartbeats 4000000 in
theorem Clear_calls (h : Ps w0 gp gm n L Q S w) : Calls Try.prog 18 #[.pointer (some ⟨gp, 0, none⟩)] w fun e w' => e = .returned (.tuple #[]) ∧ w' = ChangeMaps.setBlock w gm (.map #[] L.length) := by
  have hcl := fun ty => clearm_run ty h.mb
  have c1 := h.c1
  clear h
  go_enter Try.func18, Try.ntmps18
  go_wp2
  exact bodyPost_end (results_none rfl _ _ _) rfl ⟨rfl, rfl⟩
theorem Cl.of (h : Ps w0 gp gm n L Q S w) : Cl gp gm n (ChangeMaps.setBlock w gm (.map #[] L.length)) :=
  ⟨(set_other (fun e => by subst e; have h1 := h.pb; rw [h.mb] at h1; cases h1)).trans h.pb, _, set_same h.mb⟩
set_option maxRecDepth 100000 in
set_option maxHeartbeats 4000000 in
theorem Cl.len_calls (h : Cl gp gm n w) (ha : small a) (hb : small b) :
    Calls Try.prog 12 #[.pointer (some ⟨gp, 0, none⟩), .int .i64 a, .int .i64 b] w fun e w' => e = .returned (.int .i64 0) ∧ w' = w := by
  obtain ⟨ck, hm⟩ := h.mb
  have hlk : (Instr.lookup TM (.map (some gm)) (.agg #[.int .i64 a, .int .i64 b]) false).run Try.prog w = .ok (.slice none 0 0) w := by
    rcases look_run w gm #[] ck hm (fun e he => by simp at he) a b ha hb with ⟨_, h2⟩ | ⟨j, e, he, _⟩
    · exact h2
    · simp at he
  have c1 : w.cell? ⟨gp, 1, none⟩ = some (.map (some gm)) := (blk_cell h.pb 1).trans rfl
  clear ha hb h hm
  go_enter Try.func12, Try.ntmps12
  go_wp2
  go_ret
  exact ⟨rfl, rfl⟩
/-- What is on its way goes a way that there is. -/
theorem Sm.may_of (h : Sm n Q R) {k : Int} (hi : inr Q a b k) : may n a b := by
  obtain ⟨m, x, l, _, hx, hh, _⟩ := h.get hi
  have := h.way x (List.mem_of_getElem? hx)
  rw [(hit_iff.1 hh).1, (hit_iff.1 hh).2] at this
  exact this
/-- The box of the letters beside what stands. -/
structure Vw (w : World) (I : World → Prop) (g : Nat) (n : Int) (v : Value) (W : World) : Prop where
  i : I W
  b : W.heap[g]? = some (.cells #[.int .i64 n, v] 39 (0, 0))
  bl : Below w.heap.size w W
theorem Vw.step {I : World → Prop} {g : Nat} {W W1 : World} (h : Vw w I g n v W) (hI : ∀ W W', I W → Below W.heap.size W W' → I W') (hb : Below W.heap.size W W1) : Vw w I g n v W1 := ⟨hI _ _ h.i hb, blk_below h.b hb, h.bl.trans (hb.mono h.bl.size)⟩
def SV (w : World) (I : World → Prop) (g : Nat) (n : Int) (v : Value) (W : World) : Prop := W.rangeAt g 0 [.int .i64 n, v] ∧ Aside0 (Vw w I g n v W)
theorem sv_of {I : World → Prop} {g : Nat} {W : World} (h : Vw w I g n v W) : SV w I g n v W :=
  ⟨fun j x hx => by rw [blk_cell h.b, Nat.zero_add]; simpa using hx, ⟨h⟩⟩
set_option maxRecDepth 100000 in
set_option maxHeartbeats 8000000 in
theorem same_calls (I : World → Prop) (hI : ∀ W W', I W → Below W.heap.size W W' → I W') (hm : Sm n Q R)
    (hlen : ∀ (W : World) (a b : Int), I W → small a → small b → Calls Try.prog 12 #[.pointer (some ⟨gp, 0, none⟩), .int .i64 a, .int .i64 b] W fun e w' => e = .returned (.int .i64 ((Q a b).length : Int)) ∧ w' = W)
    (hlook : ∀ (W : World) (a b k : Int) (l : List Int), I W → may n a b → inr Q a b k → (Q a b)[k.toNat]? = some l → Calls Try.prog 11 #[.pointer (some ⟨gp, 0, none⟩), .int .i64 a, .int .i64 b, .int .i64 k] W fun e w' => ∃ A c, e = .returned (.tuple #[.slice A l.length c, .int .i64 0]) ∧ Kd.C (Kd.int .u8) w' A l.length l ∧ Below W.heap.size W w')
    (Ar : Option Addr) (cr : Nat) (hcr : R.length ≤ cr) (hR : ∀ W, I W → Kd.C KL W Ar R.length R) (hw : I w) :
    Calls Try.prog 17 #[.pointer (some ⟨gp, 0, none⟩), .agg #[.int .i64 n, .slice Ar R.length cr]] w fun e w' => e = .returned (.bool true) ∧ Below w.heap.size w w' := by
  have HI := Aside0.mk hI
  have HM := Aside0.mk hm
  have HLEN := Aside0.mk hlen
  have HLOOK := Aside0.mk hlook
  have HCR := Aside0.mk hcr
  have HR := Aside0.mk hR
  have hn1 : 1 ≤ n := hm.qs.n1
  have hn8 : n ≤ 8 := hm.qs.n8
  have hu39 := Try.underlying39
  have hi39 : (Try.prog.info? 39).map (·.size) = some 2 := by kernel_rfl
  have HV : Aside0 (Vw w I w.heap.size n (.slice Ar R.length cr) (w.alloc (.cells #[.int .i64 n, .slice Ar R.length cr] 39))) := ⟨⟨hI _ _ hw (below_alloc (Below.refl _ _) _), blk_new w _, below_alloc (Below.refl _ _) _⟩⟩
  clear hI hm hlen hlook hcr hR hw
  go_enter Try.func17, Try.ntmps17
  go_wp2_with fail
  obtain ⟨g, hg⟩ : ∃ g, w.heap.size = g := ⟨_, rfl⟩
  rw [hg] at HV
  rw [hg]
  generalize w.alloc (.cells #[.int .i64 n, .slice Ar R.length cr] 39) = wa at *
  go_loopw [5] (fun i wr => ∃ j : Int, -1 ≤ j ∧ j ≤ n + 1 ∧ i = .int .i64 j ∧ Aside0 (Vw w I g n (.slice Ar R.length cr) wr)) (fun i _ => (n + 1 - intOf i).toNat)
  case atStart => exact ⟨-1, by omega, by omega, rfl, HV⟩
  case round =>
    clear HV
    obtain ⟨i, hi0, hi1, rfl, HW⟩ := hrel
    have c0 : wr.cell? ⟨g, 0, none⟩ = some (.int .i64 n) := (blk_cell HW.out.b 0).trans rfl
    by_cases hin : i ≤ n
    · go_wp2_with fail
      go_loopw [6] (fun k wq => ∃ j : Int, -1 ≤ j ∧ j ≤ n + 1 ∧ k = .int .i64 j ∧ Aside0 (Vw w I g n (.slice Ar R.length cr) wq)) (fun k _ => (n + 1 - intOf k).toNat)
      case atStart => exact ⟨-1, by omega, by omega, rfl, HW⟩
      case round =>
        clear HW c0
        obtain ⟨k, hk0, hk1, rfl, HX⟩ := hrel
        have c0 : wr.cell? ⟨g, 0, none⟩ = some (.int .i64 n) := (blk_cell HX.out.b 0).trans rfl
        by_cases hkn : k ≤ n
        · have hsi : small i := ⟨by omega, by omega⟩
          have hsk : small k := ⟨by omega, by omega⟩
          go_wp2_with fail
          -- [same
          refine start_ (n := 9) (S := SV w I g n (.slice Ar R.length cr)) (ds := []) #[false, false, false, false, false, false, false, false, false] (by kernel_rfl) rfl rfl (sv_of (HX.out.step HI.out (pw_below_drewN (Below.refl _ _) 1))) (fun hHeld => ?_)
          generalize wr.drew = wd at hHeld ⊢
          clear HX c0
          refine pure_ (i := 0) (N := some 24) (v := ?_) (a' := ?_) #[true, false, false, false, false, false, false, false, false] rfl rfl (by kernel_rfl) (fun _ _ _ h => h) (Or.inl ⟨by rfl, ?_⟩) ?_ ?_
          rotate_left
          · intro w'
            go_simp
            with_reducible rfl
          rotate_left
          · simp only [Act.put, List.setIfInBounds_toArray, List.set_cons_zero, List.set_cons_succ, i64_w, i32_w]
            rfl
          refine pure_ (i := 1) (N := some 25) (v := ?_) (a' := ?_) #[true, true, false, false, false, false, false, false, false] rfl rfl (by kernel_rfl) (fun _ _ _ h => h) (Or.inl ⟨by rfl, ?_⟩) ?_ ?_
          rotate_left
          · intro w'
            go_simp
            with_reducible rfl
          rotate_left
          · simp only [Act.put, List.setIfInBounds_toArray, List.set_cons_zero, List.set_cons_succ, i64_w, i32_w]
            rfl
          refine pure_ (i := 2) (N := some 26) (v := ?_) (a' := ?_) #[true, true, true, false, false, false, false, false, false] rfl rfl (by kernel_rfl) (fun _ _ _ h => h) (Or.inl ⟨by rfl, ?_⟩) ?_ ?_
          rotate_left
          · intro w'
            go_simp
            with_reducible rfl
          rotate_left
          · simp only [Act.put, List.setIfInBounds_toArray, List.set_cons_zero, List.set_cons_succ, i64_w, i32_w]
            rfl
          refine take_ (i := 4) (N := some 28) (v := .agg #[.int .i64 n, .slice Ar R.length cr]) (a' := ?_) #[true, true, true, false, true, false, false, false, false] rfl rfl (by kernel_rfl) (fun _ _ _ h => h) (yieldsIf_load_mid (by rfl) 39 (.tmp 3) rfl g 0 rfl [.int .i64 n, .slice Ar R.length cr] _ (fun w' hS => hS.1) hu39 rfl hi39) hHeld ?_ ?_
          rotate_left
          · simp only [Act.put, List.setIfInBounds_toArray, List.set_cons_zero, List.set_cons_succ, i64_w, i32_w]
            rfl
          refine pure_ (i := 5) (N := some 29) (v := ?_) (a' := ?_) #[true, true, true, false, true, true, false, false, false] rfl rfl (by kernel_rfl) (fun _ _ _ h => h) (Or.inl ⟨by rfl, ?_⟩) ?_ ?_
          rotate_left
          · intro w'
            go_simp
            with_reducible rfl
          rotate_left
          · simp only [Act.put, List.setIfInBounds_toArray, List.set_cons_zero, List.set_cons_succ, i64_w, i32_w]
            rfl
          refine pure_ (i := 6) (N := some 30) (v := ?_) (a' := ?_) #[true, true, true, false, true, true, true, false, false] rfl rfl (by kernel_rfl) (fun _ _ _ h => h) (Or.inl ⟨by rfl, ?_⟩) ?_ ?_
          rotate_left
          · intro w'
            go_simp
            with_reducible rfl
          rotate_left
          · simp only [Act.put, List.setIfInBounds_toArray, List.set_cons_zero, List.set_cons_succ, i64_w, i32_w]
            rfl
          refine one_ (i := 3) (N := some 27) #[true, true, true, true, true, true, true, false, false] rfl rfl (by kernel_rfl) (by decide) (fun K hK => ?_)
          refine goes_ Try.func12 (by kernel_rfl) rfl #[.pointer (some ⟨gp, 0, none⟩), .int .i64 i, .int .i64 k] (by rfl) rfl rfl (by first | rfl | (simp only [List.map_toArray, List.map_cons, List.map_nil]; done) | (simp only [List.map_toArray, List.map_cons, List.map_nil]; rfl)) ?_
          refine (HLEN.out _ i k hHeld.2.out.i hsi hsk).mono ?_
          rintro e w2 ⟨rfl, rfl⟩
          refine ⟨_, rfl, ?_⟩
          have hS2 := sv_of hHeld.2.out
          clear hHeld
          refine hK.out _ _ hS2 (fun hHeld => ?_)
          clear hK K hS2
          refine norm_ (a' := ?_) ?_ ?_
          rotate_left
          · show Act.put _ (some 27) _ = _
            simp only [Act.put, List.setIfInBounds_toArray, List.set_cons_zero, List.set_cons_succ, i64_w, i32_w]
            rfl
          refine one_ (i := 7) (N := some 31) #[true, true, true, true, true, true, true, true, false] rfl rfl (by kernel_rfl) (by decide) (fun K hK => ?_)
          refine goes_ Try.func26 (by kernel_rfl) rfl #[.agg #[.int .i64 n, .slice Ar R.length cr], .int .i64 i, .int .i64 k] (by rfl) rfl rfl (by first | rfl | (simp only [List.map_toArray, List.map_cons, List.map_nil]; done) | (simp only [List.map_toArray, List.map_cons, List.map_nil]; rfl)) ?_
          refine (stemmaref23_Post_Len.calls 5001 n Ar cr R i k _ _ (HR.out _ hHeld.2.out.i) HCR.out (ref_len HM.out)).mono ?_
          rintro e w2 ⟨rfl, hb2⟩
          refine ⟨_, rfl, ?_⟩
          have hS2 := sv_of (hHeld.2.out.step HI.out hb2)
          clear hHeld
          refine hK.out _ _ hS2 (fun hHeld => ?_)
          clear hK K hS2
          refine norm_ (a' := ?_) ?_ ?_
          rotate_left
          · show Act.put _ (some 31) _ = _
            simp only [Act.put, List.setIfInBounds_toArray, List.set_cons_zero, List.set_cons_succ, i64_w, i32_w]
            rfl
          refine pure_ (i := 8) (N := some 32) (v := ?_) (a' := ?_) #[true, true, true, true, true, true, true, true, true] rfl rfl (by kernel_rfl) (fun _ _ _ h => h) (Or.inl ⟨by rfl, ?_⟩) ?_ ?_
          rotate_left
          · intro w'
            go_simp
            with_reducible rfl
          rotate_left
          · simp only [Act.put, List.setIfInBounds_toArray, List.set_cons_zero, List.set_cons_succ, i64_w, i32_w]
            rfl
          refine done_ (by kernel_rfl) ?_
          -- same]
          have HY := hHeld.2
          clear hHeld
          go_wp2_with fail
          go_loopw [7] (fun m wz => ∃ j : Nat, j ≤ (Q i k).length ∧ m = .int .i64 j ∧ Aside0 (Vw w I g n (.slice Ar R.length cr) wz)) (fun m _ => (Q i k).length - (intOf m).toNat)
          case atStart => exact ⟨0, by omega, rfl, HY⟩
          case round =>
            clear HY hb2
            obtain ⟨j, hj, rfl, HZ⟩ := hrel
            have hq64 : (Q i k).length ≤ 64 := HM.out.qs.few i k
            have HRL := Aside0.mk (stemmaref23_Post_Len.calls 5001 n Ar cr R i k _ wr (HR.out _ HZ.out.i) HCR.out (ref_len HM.out))
            by_cases hlt : j < (Q i k).length
            · obtain ⟨l, hl⟩ : ∃ l, (Q i k)[j]? = some l := ⟨_, List.getElem?_eq_getElem hlt⟩
              have hir : inr Q i k (j : Int) := ⟨by omega, by omega⟩
              go_upto_region 12 with (first | ((with_reducible refine gate_ (Op.load 39 (.tmp 3)) rfl ?_); refine wpList_load_row rfl 39 (.tmp 3) rfl g rfl _ _ _ _ HZ.out.b hu39 rfl hi39 ?_) | (go_at_call 26; refine HRL.out.mono ?_; rintro e w3 ⟨rfl, hb3⟩; have HZ3 := Aside0.mk (HZ.out.step HI.out hb3); clear hb3))
              have HLK := Aside0.mk (HLOOK.out w3 i k (j : Int) l HZ3.out.i (HM.out.may_of hir) hir (by rw [Int.toNat_natCast]; exact hl))
              have hrl := ref_look HM.out (a := i) (b := k) (k := (j : Int))
              have hlf : lookF n Q i k (j : Int) = (l, 0) := by
                have h1 := look_is (HM.out.may_of hir) hir
                have h2 := look_yes h1.1
                rw [Int.toNat_natCast, hl] at h2
                exact Prod.ext (Option.some.inj h2.2.2).symm h1.1
              rw [hlf] at hrl
              have HRLK := Aside0.mk hrl
              clear HRL HZ hrl hlf hir hl
              go_upto_region 14 with (first | ((with_reducible refine gate_ (Op.load 39 (.tmp 3)) rfl ?_); refine wpList_load_row rfl 39 (.tmp 3) rfl g rfl _ _ _ _ HZ4.out.b hu39 rfl hi39 ?_) | (go_at_call 11; refine HLK.out.mono ?_; rintro e w4 ⟨A4, c4, rfl, hC4, hb4⟩; have HZ4 := Aside0.mk (HZ3.out.step HI.out hb4); have HC4 := Aside0.mk hC4; clear hC4 hb4) | (go_at_call 22; refine (stemmaref23_Post_Look.calls 5001 n Ar cr R i k (j : Int) (strOfNums l) 0 w4 (HR.out _ HZ4.out.i) HCR.out HRLK.out).mono ?_; rintro e w5 ⟨rfl, hb5⟩; have HZ5 := Aside0.mk (HZ4.out.step HI.out hb5); have HC5 := Aside0.mk (Kd.C_below HC4.out hb5); clear hb5))
              have s1 := Kd.C_string (src := 23) (dst := 9) (c := c4) Try.underlying23 Try.underlying5 Try.underlying9 HC5.out
              go_wp2_with fail
              go_roundw
              case rel => exact ⟨j + 1, by omega, by go_num, HZ5⟩
              case measure => simp [intOf]; omega
            · obtain rfl : j = (Q i k).length := by omega
              go_wp2_with (first | ((with_reducible refine gate_ (Op.load 39 (.tmp 3)) rfl ?_); refine wpList_load_row rfl 39 (.tmp 3) rfl g rfl _ _ _ _ HZ.out.b hu39 rfl hi39 ?_) | (go_at_call 26; refine HRL.out.mono ?_; rintro e w3 ⟨rfl, hb3⟩; have HZ3 := Aside0.mk (HZ.out.step HI.out hb3); clear hb3))
              go_roundw
              case rel => exact ⟨k + 1, by omega, by omega, by go_num, HZ3⟩
              case measure => simp [intOf]; omega
        · go_wp2_with fail
          go_roundw
          case rel => exact ⟨i + 1, by omega, by omega, by go_num, HX⟩
          case measure => simp [intOf]; omega
    · go_wp2_with fail
      go_ret
      exact ⟨rfl, by rw [← hg]; exact HW.out.bl⟩
end
end Go.Proofs.Ytnjnljnhpihemaa.Po

/- stemmalaw23.PostPlays, walked. -/
set_option linter.unusedVariables false
set_option linter.unusedSimpArgs false
namespace Go.Proofs.Ytnjnljnhpihemaa.Po
open Go Go.RowKit Go.Proofs.YtnjnljnhpihemaaW.PrintWords Go.Proofs.YtnjnljnhpihemaaW.PrintLast Go.Proofs.YtnjnljnhpihemaaW.PrintMore Go.Proofs.Ytnjnljnhpihemaa.PA
set_option maxRecDepth 100000 in
set_option maxHeartbeats 4000000 in
theorem New_bad (n : Int) (h : ¬ (1 ≤ n ∧ n ≤ 8)) (w : World) :
    Calls Try.prog 7 #[.int .i64 n] w fun e w' => e = .returned (.tuple #[.pointer none, .int .i64 2]) ∧ Below w.heap.size w w' := by
  by_cases h1 : n < 1
  · have b1 : decide (n < 1) = true := decide_eq_true h1
    have b3 : (n < 1) = True := eq_true h1
    clear h h1
    go_enter Try.func7, Try.ntmps7
    go_wp2
    go_ret2
    exact ⟨rfl, Below.refl _ _⟩
  · have b1 : decide (n < 1) = false := decide_eq_false h1
    have b2 : decide (8 < n) = true := decide_eq_true (by omega)
    have b3 : (n < 1) = False := eq_false h1
    have b4 : (8 < n) = True := eq_true (by omega)
    clear h h1
    go_enter Try.func7, Try.ntmps7
    go_wp2
    go_ret2
    exact ⟨rfl, Below.refl _ _⟩
/-- A record out of a row of records, in a region that draws its order. -/
theorem loadVar_add {P : Program} (w : World) (ad : Addr) (ty : TypeId) (cs : List Value) (d : TypeDesc) (hc : ∀ j v, cs[j]? = some v → w.cell? (ad.add j) = some v)
    (hu : P.underlying ty = some d) (hd : d.isRow = true) (hi : (P.info? ty).map (·.size) = some cs.length) : (loadVar ty ad).run P w = .ok (.agg cs.toArray) w := by
  obtain ⟨i, hq, hs⟩ := Option.map_eq_some_iff.1 hi
  have hl := run_loadCells_list (P := P) w ad cs hc
  have ha : (isAgg ty).run P w = .ok true w := by
    unfold isAgg
    rw [Sem.run_bind, run_underlying hu w]
    cases d <;> first | (simp [TypeDesc.isRow] at hd; done) | simp
  unfold loadVar
  simp [Sem.run_bind, ha, sizeOf, typeInfo, hq, hs, hl]
theorem yields_load_add {P : Program} {ops : Array Oper} {S : World → Prop} {op : Oper} {a : Go.Act} (hw : Region.wanted op (yielded ops a.tmps) = true) (ty : TypeId) (x : Operand) (ho : op.op = .load ty x)
    (ad : Addr) (hx : a.eval x = .pointer (some ad)) (cs : List Value) (d : TypeDesc) (hS : ∀ w, S w → ∀ j v, cs[j]? = some v → w.cell? (ad.add j) = some v)
    (hu : P.underlying ty = some d) (hd : d.isRow = true) (hi : (P.info? ty).map (·.size) = some cs.length) : YieldsIf P ops S op (.agg cs.toArray) a :=
  .inl ⟨hw, fun w hw' => by
    unfold execOp
    simp only [ho, hx, Instr.loadAt, Instr.sureAddr, Sem.run_bind, Sem.run_pure, Result.andThen_ok, loadVar_add w ad ty cs d (hS w hw') hu hd hi]⟩
theorem store_goes {P : Program} {ops : Array Oper} {oi : Oper} {a : Go.Act} {w : World} {K : Go.Act → World → Prop} {Q : Exit → Go.Act → World → Prop} (hw : Region.wanted oi (yielded ops a.tmps) = true) (hN : oi.dst = none) (ty : TypeId) (x y : Operand) (ho : oi.op = .store ty x y)
    (g : Nat) (cells : Array Value) (hx : a.eval x = .pointer (some ⟨g, 0, none⟩)) (hy : a.eval y = .agg cells) (T : TypeId) (cur : Array Value) (hg : w.heap[g]? = some (.cells cur T (0, 0))) (hs : cur.size = cells.size)
    (hi : (P.info? ty).map (·.size) = some cells.size) (h1 : cells.all (·.oneCell') = true) (h : K a (w.setRow g cells)) : if Region.wanted oi (yielded ops a.tmps) = true then Oper.wp P oi a w K Q else K (a.put none undef) w :=
  skip_ hw hN (by
    unfold execOp
    simp only [ho, hx, hy, Instr.storeAt, Instr.sureAddr, Sem.run_bind, Sem.run_pure, Result.andThen_ok, run_storeVar_row w g T ty cur cells hg hi hs h1]) h
/-- Both sides after some calls. -/
structure Pl (w : World) (gp gm : Nat) (n : Int) (g : Nat) (wr : World) : Prop where
  ex : ∃ L Q S P v R, Ps w gp gm n L Q S wr ∧ Sm n Q R ∧ Kd.R KL TL wr w.heap.size P v R ∧ wr.heap[g]? = some (.cells #[.int .i64 n, v] 39 (0, 0))
  g0 : w.heap.size ≤ g
theorem Sm.none {n : Int} (h1 : 1 ≤ n) (h8 : n ≤ 8) : Sm n (fun _ _ => []) [] := ⟨⟨h1, h8, fun _ _ => by simp, fun _ _ l hl => by simp at hl⟩, fun _ _ => rfl, fun x hx => by simp at hx⟩
/-- A call as it lies in the asker's row. -/
theorem act_at {w : World} {A : Option Addr} {n : Nat} {xs : List Act} (h : Kd.C KA w A n xs) (i : Nat) (h1 : i < n) : ∃ ad x A4 c4, A = some ad ∧ xs[i]? = some x ∧ (∀ (j : Nat) (v : Value), [Value.int .u8 x.f0, .int .i64 x.f1, .int .i64 x.f2, .int .i64 x.f3, .slice A4 x.f4.length c4][j]? = some v → w.cell? (ad.add (i * 5 + j)) = some v) ∧ x.f4.length ≤ c4 ∧ Kd.C (Kd.int .u8) w A4 x.f4.length x.f4 := by
  have hn : xs.length = n := h.1
  obtain ⟨ad, c, e, _, hK, hc⟩ := Kd.C_get h (⟨0, 0, 0, 0, []⟩ : Act) (i : Int) (by omega) (by omega)
  rw [Int.toNat_natCast] at hK hc
  have hx : xs[i]? = some (xs.getD i ⟨0, 0, 0, 0, []⟩) := by simp [List.getD_eq_getElem?_getD, hn, h1]
  generalize xs.getD i ⟨0, 0, 0, 0, []⟩ = x at *
  obtain ⟨A4, c4, rfl, h4, g4⟩ := KA_open hK
  exact ⟨ad, x, A4, c4, e, hx, fun j v hv => hc j v hv, h4, g4⟩
def SP (g : Nat) (n : Int) (v : Value) (ad : Addr) (j : Nat) (x : Act) (A4 : Option Addr) (c4 : Nat) (W : World) : Prop :=
  W.rangeAt g 0 [.int .i64 n, v] ∧ ∀ (i : Nat) (y : Value), [Value.int .u8 x.f0, .int .i64 x.f1, .int .i64 x.f2, .int .i64 x.f3, .slice A4 x.f4.length c4][i]? = some y → W.cell? ((ad.add (j * 5)).add i) = some y
theorem box_range {g : Nat} {n : Int} {v : Value} {W : World} (h : W.heap[g]? = some (.cells #[.int .i64 n, v] 39 (0, 0))) : W.rangeAt g 0 [.int .i64 n, v] := fun j x hx => by rw [blk_cell h, Nat.zero_add]; simpa using hx
theorem same_ps {w0 w : World} {gp gm : Nat} {n : Int} {L : List (Int × Int × Value)} {Q : Qt} {S P : Nat → Prop} {Ar : Option Addr} {cr : Nat} {R : List Lt} (hP : Ps w0 gp gm n L Q S w) (hm : Sm n Q R) (hR : Kd.R KL TL w w0.heap.size P (.slice Ar R.length cr) R) :
    Calls Try.prog 17 #[.pointer (some ⟨gp, 0, none⟩), .agg #[.int .i64 n, .slice Ar R.length cr]] w fun e w' => e = .returned (.bool true) ∧ Below w.heap.size w w' :=
  same_calls (fun W => Ps w0 gp gm n L Q S W ∧ Kd.R KL TL W w0.heap.size P (.slice Ar R.length cr) R) (fun W W' h hb => ⟨h.1.step hb, Kd.R_below h.2 hb⟩) hm (fun W a b h ha hb => Len_calls h.1 ha hb)
    (fun W a b k l h hmay hin hl => by
      have hlf : lookF n Q a b k = (l, 0) := by
        have h1 := look_is hmay hin
        have h2 := look_yes h1.1
        rw [hl] at h2
        exact Prod.ext (Option.some.inj h2.2.2).symm h1.1
      have hL := Look_any (a := a) (b := b) (k := k) h.1 hm.qs
      rw [hlf] at hL
      exact hL.mono fun e w' ⟨A, c, he, hO, _, hb⟩ => ⟨A, c, he, (Kd.R_reads' hO).2.2, hb⟩) Ar cr (Kd.R_reads' hR).2.1 (fun W h => (Kd.R_reads' h.2).2.2) ⟨hP, hR⟩
theorem same_cl {w : World} {gp gm : Nat} {n : Int} (n1 : 1 ≤ n) (n8 : n ≤ 8) (hC : Cl gp gm n w) :
    Calls Try.prog 17 #[.pointer (some ⟨gp, 0, none⟩), .agg #[.int .i64 n, .slice none 0 0]] w fun e w' => e = .returned (.bool true) ∧ Below w.heap.size w w' :=
  same_calls (fun W => Cl gp gm n W) (fun W W' h hb => h.step hb) (Sm.none n1 n8) (fun W a b h ha hb => h.len_calls ha hb)
    (fun W a b k l h hmay hin hl => by simp at hl) none 0 (Nat.le_refl _) (fun W h => (Kd.R_reads' (Kd.R_nil KL TL W 0 (fun _ => True))).2.2) hC
end Go.Proofs.Ytnjnljnhpihemaa.Po
namespace Go.Proofs.Ytnjnljnhpihemaa.PA
open Go Go.RowKit Go.Proofs.YtnjnljnhpihemaaW.PrintWords Go.Proofs.YtnjnljnhpihemaaW.PrintLast Go.Proofs.Ytnjnljnhpihemaa.Po
open Classical in
noncomputable def stemmalaw23_PostPlays.f (n : Int) (l : List S45) : Option Bool := if ∀ y ∈ l, (0 ≤ y.f0 ∧ y.f0 < 256) ∧ (∀ x ∈ y.f4, 0 ≤ x ∧ x < 256) ∧ y.f4.length ≤ 140737488351232 then some true else none
set_option maxRecDepth 100000 in
set_option maxHeartbeats 8000000 in
theorem stemmalaw23_PostPlays.calls (n : Int) (A1 : Option Addr) (c1 : Nat) (l1 : List S45) (r : Bool) (w : World) (hr1 : Kd.C k45 w A1 l1.length l1) (hc1 : l1.length ≤ c1) (hr_ : Aside0 (r = true)) (h : stemmalaw23_PostPlays.f n l1 = some r) :
    Calls Try.prog 5 #[.int .i64 n, .slice A1 l1.length c1] w fun e w' => e = .returned (.bool r) ∧ Below w.heap.size w w' := by
  obtain ⟨rfl⟩ := hr_
  unfold stemmalaw23_PostPlays.f at h
  split at h
  case isFalse => cases h
  case isTrue hh =>
  have HX := Aside0.mk hh
  have HR := Aside0.mk hr1
  have hmax : l1.length ≤ 9223372036854775807 := hr1.2.1
  have hu39 := Try.underlying39
  have hi39 : (Try.prog.info? 39).map (·.size) = some 2 := by kernel_rfl
  have hu45 := Try.underlying45
  have hi45 : (Try.prog.info? 45).map (·.size) = some 5 := by kernel_rfl
  clear h hh hr1 hc1
  by_cases hn : 1 ≤ n ∧ n ≤ 8
  · obtain ⟨n1, n8⟩ := hn
    have HN := Aside0.mk (New_calls n n1 n8 w)
    have hrn : stemmaref23_New.f n = some (n, [], 0) := by unfold stemmaref23_New.f; rw [if_neg (by omega), if_neg (by omega)]
    have HRN := Aside0.mk (fun (W : World) => stemmaref23_New.calls n n [] 0 W hrn)
    clear hrn
    go_enter Try.func5, Try.ntmps5
    go_upto_region 3 with (first | (go_at_call 7; refine HN.out.mono ?_; rintro e w2 ⟨gp, gm, rfl, hP⟩; have HP := Aside0.mk hP; clear hP) | (go_at_call 15; refine (HRN.out w2).mono ?_; rintro e w3 ⟨v1, rfl, hR3, hb3⟩; obtain ⟨A3, c3, rfl⟩ := Kd.R_slice hR3; have HR3 := Aside0.mk hR3; have HP3 := Aside0.mk (HP.out.step hb3); clear hR3 hb3))
    have HPL : Aside0 (Pl w gp gm n w3.heap.size (w3.alloc (.cells #[.int .i64 n, .slice A3 0 c3] 39))) := ⟨⟨⟨[], _, _, _, _, [], HP3.out.step (below_alloc (Below.refl _ _) _), Sm.none n1 n8, Kd.R_below (Kd.R_lower HR3.out HP.out.below.size) (below_alloc (Below.refl _ _) _), blk_new w3 _⟩, HP3.out.below.size⟩⟩
    clear HN HRN HP HP3 HR3
    generalize hg : w3.heap.size = g at *
    generalize w3.alloc (.cells #[.int .i64 n, .slice A3 0 c3] 39) = wa at *
    clear hg
    go_wp2_with fail
    go_loopw [9] (fun i wr => ∃ j : Nat, j ≤ l1.length ∧ i = .int .i64 j ∧ Aside0 (Pl w gp gm n g wr)) (fun i _ => l1.length - (intOf i).toNat)
    case atStart => exact ⟨0, by omega, rfl, HPL⟩
    case round =>
      clear HPL
      obtain ⟨j, hj, rfl, HW⟩ := hrel
      obtain ⟨⟨L, Q, S, P, v, R, hP, hm, hR, hG⟩, hg0⟩ := HW.out
      by_cases hlt : j < l1.length
      · obtain ⟨ad, x, A4, c4, he, hxe, hac, h4, g4⟩ := act_at HR.out j hlt
        subst he
        have HXX := Aside0.mk (HX.out x (List.mem_of_getElem? hxe))
        have HAC : Aside0 (∀ W, Below w.heap.size w W → ∀ (i : Nat) (y : Value), [Value.int .u8 x.f0, .int .i64 x.f1, .int .i64 x.f2, .int .i64 x.f3, .slice A4 x.f4.length c4][i]? = some y → W.cell? ((ad.add (j * 5)).add i) = some y) := ⟨fun W hb i y hy => by rw [Go.Deep.add_add]; exact pw_cell_below hb (hac i y hy)⟩
        have HA4 := Aside0.mk (And.intro h4 g4)
        have HP := Aside0.mk hP.typed
        have HRR := Aside0.mk (R_typed hR)
        have HSM := Aside0.mk hm
        have HG := Aside0.mk hG
        have HG0 := Aside0.mk hg0
        clear hac h4 g4 hP hR hm hG hg0 HW hxe
        go_upto_region 9 with fail
        -- [plays
        refine start_ (n := 12) (S := SP g n v ad j x A4 c4) (ds := [10]) #[false, false, false, false, false, false, false, false, false, false, false, false] (by kernel_rfl) rfl rfl ⟨box_range (blk_below HG.out (pw_below_drewN (Below.refl _ _) 1)), HAC.out _ (HP.out.step (pw_below_drewN (Below.refl wr.heap.size wr) 1)).below⟩ (fun hHeld => ?_)
        have HPd := Aside0.mk (HP.out.step (pw_below_drewN (Below.refl wr.heap.size wr) 1))
        have HRd := Aside0.mk (Kd.R_below HRR.out (pw_below_drewN (Below.refl wr.heap.size wr) 1))
        have HGd := Aside0.mk (blk_below HG.out (pw_below_drewN (Below.refl wr.heap.size wr) 1))
        generalize hwd : wr.drewN 1 = wd at HPd HRd HGd
        rw [show wr.drew = wd from hwd] at hHeld ⊢
        clear HP HRR hwd
        refine pure_ (i := 0) (N := some 42) (v := ?_) (a' := ?_) #[true, false, false, false, false, false, false, false, false, false, false, false] rfl rfl (by kernel_rfl) (fun _ _ _ h => h) (Or.inl ⟨by rfl, ?_⟩) ?_ ?_
        rotate_left
        · intro w'
          go_simp
          with_reducible rfl
        rotate_left
        · simp only [Act.put, List.setIfInBounds_toArray, List.set_cons_zero, List.set_cons_succ, i64_w, i32_w]
          rfl
        refine take_ (i := 1) (N := some 43) (v := .agg #[.int .i64 n, v]) (a' := ?_) #[true, true, false, false, false, false, false, false, false, false, false, false] rfl rfl (by kernel_rfl) (fun _ _ _ h => h) (yieldsIf_load_mid (by rfl) 39 (.tmp 7) rfl g 0 rfl [.int .i64 n, v] _ (fun w' hS => hS.1) hu39 rfl hi39) hHeld ?_ ?_
        rotate_left
        · simp only [Act.put, List.setIfInBounds_toArray, List.set_cons_zero, List.set_cons_succ, i64_w, i32_w]
          rfl
        refine pure_ (i := 2) (N := some 44) (v := ?_) (a' := ?_) #[true, true, true, false, false, false, false, false, false, false, false, false] rfl rfl (by kernel_rfl) (fun _ _ _ h => h) (Or.inl ⟨by rfl, ?_⟩) ?_ ?_
        rotate_left
        · intro w'
          go_simp
          with_reducible rfl
        rotate_left
        · simp only [Act.put, List.setIfInBounds_toArray, List.set_cons_zero, List.set_cons_succ, i64_w, i32_w]
          rfl
        refine pure_ (i := 3) (N := some 45) (v := ?_) (a' := ?_) #[true, true, true, true, false, false, false, false, false, false, false, false] rfl rfl (by kernel_rfl) (fun _ _ _ h => h) (Or.inl ⟨by rfl, ?_⟩) ?_ ?_
        rotate_left
        · intro w'
          go_simp
          with_reducible rfl
        rotate_left
        · simp only [Act.put, List.setIfInBounds_toArray, List.set_cons_zero, List.set_cons_succ, i64_w, i32_w]
          rfl
        refine pure_ (i := 4) (N := some 46) (v := ?_) (a' := ?_) #[true, true, true, true, true, false, false, false, false, false, false, false] rfl rfl (by kernel_rfl) (fun _ _ _ h => h) (Or.inl ⟨by rfl, ?_⟩) ?_ ?_
        rotate_left
        · intro w'
          go_simp
          with_reducible rfl
        rotate_left
        · simp only [Act.put, List.setIfInBounds_toArray, List.set_cons_zero, List.set_cons_succ, i64_w, i32_w]
          rfl
        refine take_ (i := 5) (N := some 47) (v := .agg #[.int .u8 x.f0, .int .i64 x.f1, .int .i64 x.f2, .int .i64 x.f3, .slice A4 x.f4.length c4]) (a' := ?_) #[true, true, true, true, true, true, false, false, false, false, false, false] rfl rfl (by kernel_rfl) (fun _ _ _ h => h) (yields_load_add (by rfl) 45 (.tmp 46) rfl (ad.add (j * 5)) rfl [.int .u8 x.f0, .int .i64 x.f1, .int .i64 x.f2, .int .i64 x.f3, .slice A4 x.f4.length c4] _ (fun w' hS => hS.2) hu45 rfl hi45) hHeld ?_ ?_
        rotate_left
        · simp only [Act.put, List.setIfInBounds_toArray, List.set_cons_zero, List.set_cons_succ, i64_w, i32_w]
          rfl
        refine one_ (i := 6) (N := some 48) #[true, true, true, true, true, true, true, false, false, false, false, false] rfl rfl (by kernel_rfl) (by decide) (fun K hK => ?_)
        refine goes_ Try.func16 (by kernel_rfl) rfl #[.pointer (some ⟨gp, 0, none⟩), .agg #[.int .i64 n, v], .agg #[.int .u8 x.f0, .int .i64 x.f1, .int .i64 x.f2, .int .i64 x.f3, .slice A4 x.f4.length c4]] (by rfl) rfl rfl (by first | rfl | (simp only [List.map_toArray, List.map_cons, List.map_nil]; done) | (simp only [List.map_toArray, List.map_cons, List.map_nil]; rfl)) ?_
        refine (do_calls HPd.out HSM.out HRd.out x.f0 x.f1 x.f2 x.f3 x.f4 A4 c4 HA4.out.1 HA4.out.2 HXX.out.1 HXX.out.2.1 HXX.out.2.2).mono ?_
        rintro e5 w5 ⟨L5, Q5, S5, P5, v5, R5, rfl, hP5, hm5, hR5, hk5⟩
        have hG5 := blk_kept HGd.out hk5 (fun hx => by
          rcases hx with rfl | hx | hx
          · have h1 := HGd.out; rw [HPd.out.mb] at h1; cases h1
          · rcases hx.2.2 with h2 | h2
            · exact absurd (Ty.ne h2 ⟨_, HG.out⟩) (by decide)
            · exact absurd (Ty.ne h2 ⟨_, HG.out⟩) (by decide)
          · exact absurd (Ty.ne hx.2.2 ⟨_, HG.out⟩) (by decide))
        have hS2 : SP g n v ad j x A4 c4 w5 := ⟨box_range hG5, HAC.out _ hP5.below⟩
        obtain ⟨A6, c6, rfl⟩ := Kd.R_slice hR5
        have HP5 := Aside0.mk hP5
        have HM5 := Aside0.mk hm5
        have HR5 := Aside0.mk hR5
        have HG5 := Aside0.mk hG5
        refine ⟨_, rfl, ?_⟩
        clear hP5 hm5 hR5 hk5 hG5 hHeld HPd HRd HGd HG
        refine hK.out _ _ hS2 (fun hHeld => ?_)
        clear hK K hS2
        refine norm_ (a' := ?_) ?_ ?_
        rotate_left
        · show Act.put _ (some 48) _ = _
          simp only [Act.put, List.setIfInBounds_toArray, List.set_cons_zero, List.set_cons_succ, i64_w, i32_w]
          rfl
        refine pure_ (i := 7) (N := some 41) (v := ?_) (a' := ?_) #[true, true, true, true, true, true, true, true, false, false, false, false] rfl rfl (by kernel_rfl) (fun _ _ _ h => h) (Or.inl ⟨by rfl, ?_⟩) ?_ ?_
        rotate_left
        · intro w'
          go_simp
          with_reducible rfl
        rotate_left
        · simp only [Act.put, List.setIfInBounds_toArray, List.set_cons_zero, List.set_cons_succ, i64_w, i32_w]
          rfl
        refine pure_ (i := 8) (N := some 49) (v := ?_) (a' := ?_) #[true, true, true, true, true, true, true, true, true, false, false, false] rfl rfl (by kernel_rfl) (fun _ _ _ h => h) (Or.inl ⟨by rfl, ?_⟩) ?_ ?_
        rotate_left
        · intro w'
          go_simp
          with_reducible rfl
        rotate_left
        · simp only [Act.put, List.setIfInBounds_toArray, List.set_cons_zero, List.set_cons_succ, i64_w, i32_w]
          rfl
        refine pure_ (i := 9) (N := some 50) (v := ?_) (a' := ?_) #[true, true, true, true, true, true, true, true, true, true, false, false] rfl rfl (by kernel_rfl) (fun _ _ _ h => h) (Or.inl ⟨by rfl, ?_⟩) ?_ ?_
        rotate_left
        · intro w'
          go_simp
          with_reducible rfl
        rotate_left
        · simp only [Act.put, List.setIfInBounds_toArray, List.set_cons_zero, List.set_cons_succ, i64_w, i32_w]
          rfl
        refine last_ (i := 10) (N := none) #[true, true, true, true, true, true, true, true, true, true, true, false] rfl rfl (by kernel_rfl) (by decide) (fun K hK => ?_)
        refine store_goes (by rfl) rfl 39 (.tmp 7) (.tmp 49) rfl g #[.int .i64 n, .slice A6 R5.length c6] rfl rfl _ _ HG5.out rfl hi39 (one2 _ _ _ _) ?_
        refine hK.out _ _ ?_
        clear hK K hHeld
        refine pure_ (i := 11) (N := some 10) (v := ?_) (a' := ?_) #[true, true, true, true, true, true, true, true, true, true, true, true] rfl rfl (by kernel_rfl) (fun _ _ _ h => h) (Or.inl ⟨by rfl, ?_⟩) ?_ ?_
        rotate_left
        · intro w'
          go_simp
          with_reducible rfl
        rotate_left
        · simp only [Act.put, List.setIfInBounds_toArray, List.set_cons_zero, List.set_cons_succ, i64_w, i32_w]
          rfl
        refine done_ (by kernel_rfl) ?_
        -- plays]
        have HPL := Aside0.mk (Pl.mk ⟨L5, Q5, S5, P5, _, R5, HP5.out.box ⟨_, HG5.out⟩ HG0.out #[.int .i64 n, .slice A6 R5.length c6], HM5.out, R_box HR5.out ⟨_, HG5.out⟩ _, setRow_heap _ _ _ _ _ _ HG5.out⟩ HG0.out)
        clear HP5 HM5 HR5 HG5
        generalize w5.setRow g #[.int .i64 n, .slice A6 R5.length c6] = w6 at *
        go_wp2_with fail
        go_roundw
        case rel => exact ⟨j + 1, by omega, by go_num, HPL⟩
        case measure => simp [intOf]; omega
      · obtain rfl : j = l1.length := by omega
        obtain ⟨Ar, cr, rfl⟩ := Kd.R_slice hR
        have HSAME := Aside0.mk (same_ps hP hm hR)
        have HP := Aside0.mk hP
        have HG := Aside0.mk hG
        have HG0 := Aside0.mk hg0
        clear hP hR hm hG hg0 HW hj hlt
        go_upto_region 16 with (first | ((with_reducible refine gate_ (Op.load 39 (.tmp 7)) rfl ?_); refine wpList_load_row rfl 39 (.tmp 7) rfl g rfl _ _ _ _ HG.out hu39 rfl hi39 ?_) | (go_at_call 17; refine HSAME.out.mono ?_; rintro e w4 ⟨rfl, hb4⟩; have HP4 := Aside0.mk (HP.out.step hb4); have HG4 := Aside0.mk (blk_below HG.out hb4); clear hb4))
        have HCL := Aside0.mk (Clear_calls HP4.out)
        have HCL5 := Aside0.mk (Cl.of HP4.out)
        have HB5 := Aside0.mk (below_set (o := .map #[] L.length) HP4.out.below HP4.out.g0.1)
        have HG5 : Aside0 ((ChangeMaps.setBlock w4 gm (.map #[] L.length)).heap[g]? = some (.cells #[.int .i64 n, .slice Ar R.length cr] 39 (0, 0))) := ⟨(set_other (fun e => by subst e; have h1 := HG4.out; rw [HP4.out.mb] at h1; cases h1)).trans HG4.out⟩
        clear HSAME HP HG HP4 HG4
        go_upto_region 17 with (go_at_call 18; refine HCL.out.mono ?_; rintro e w5 ⟨rfl, rfl⟩)
        generalize ChangeMaps.setBlock w4 gm (.map #[] L.length) = w5 at *
        have c0 : w5.cell? ⟨g, 0, none⟩ = some (.int .i64 n) := (blk_cell HG5.out 0).trans rfl
        have HS2 := Aside0.mk (same_cl n1 n8 HCL5.out)
        clear HCL HCL5
        go_wp2_with (first | (go_at_call 17; refine HS2.out.mono ?_; rintro e w6 ⟨rfl, hb6⟩; have HB6 := Aside0.mk (HB5.out.trans (hb6.mono HB5.out.size)); clear hb6) | (go_at_call 9; refine (awake_calls _).mono ?_; rintro e w7 ⟨rfl, hb7⟩; have HB7 := Aside0.mk (HB6.out.trans (hb7.mono HB6.out.size)); clear hb7))
        go_ret
        exact ⟨rfl, HB7.out⟩
  · have HN := Aside0.mk (New_bad n hn w)
    have hrn : stemmaref23_New.f n = some (0, [], 2) := by
      unfold stemmaref23_New.f
      by_cases h1 : n < 1
      · rw [if_pos h1]
      · rw [if_neg h1, if_pos (by omega)]
    have HRN := Aside0.mk (fun (W : World) => stemmaref23_New.calls n 0 [] 2 W hrn)
    clear hrn hn
    go_enter Try.func5, Try.ntmps5
    go_upto_region 3 with (first | (go_at_call 7; refine HN.out.mono ?_; rintro e w2 ⟨rfl, hb2⟩; have HB2 := Aside0.mk hb2; clear hb2) | (go_at_call 15; refine (HRN.out w2).mono ?_; rintro e w3 ⟨v1, rfl, hR3, hb3⟩; obtain ⟨A3, c3, rfl⟩ := Kd.R_slice hR3; have HB3 := Aside0.mk (HB2.out.trans (hb3.mono HB2.out.size)); clear hR3 hb3))
    have HB4 := Aside0.mk (below_alloc HB3.out (.cells #[.int .i64 0, .slice A3 0 c3] 39))
    generalize hg : w3.heap.size = g at *
    generalize w3.alloc (.cells #[.int .i64 0, .slice A3 0 c3] 39) = wa at *
    clear hg HN HRN HB2 HB3
    go_wp2_with fail
    go_loopw [9] (fun i wr => i = .int .i64 0 ∧ Aside0 (Below w.heap.size w wr)) (fun _ _ => 0)
    case atStart => exact ⟨rfl, HB4⟩
    case round =>
      clear HB4
      obtain ⟨rfl, HW⟩ := hrel
      by_cases hlt : 0 < l1.length
      · have t1 : decide ((0 : Int) < (l1.length : Int)) = true := decide_eq_true (by omega)
        go_wp2_with (go_at_call 9; refine (awake_calls _).mono ?_; rintro e w7 ⟨rfl, hb7⟩; have HB7 := Aside0.mk (HW.out.trans (hb7.mono HW.out.size)); clear hb7)
        go_ret
        exact ⟨rfl, HB7.out⟩
      · have t1 : decide ((0 : Int) < (l1.length : Int)) = false := decide_eq_false (by omega)
        go_wp2_with (go_at_call 9; refine (awake_calls _).mono ?_; rintro e w7 ⟨rfl, hb7⟩; have HB7 := Aside0.mk (HW.out.trans (hb7.mono HW.out.size)); clear hb7)
        go_ret
        exact ⟨rfl, HB7.out⟩
end Go.Proofs.Ytnjnljnhpihemaa.PA

/- PostPlays: what is left beside the walk: the bytes' ranges. -/
set_option linter.unusedVariables false
namespace Go.Proofs.Ytnjnljnhpihemaa.Pure
open Go Go.Proofs.Ytnjnljnhpihemaa.PA
theorem byte_of {x : Int} (h : (Lit.int .u8 x).wf = true) : 0 ≤ x ∧ x < 256 := by
  simp only [Lit.wf, IntKind.min, IntKind.max, IntKind.signed, IntKind.bits, Bool.and_eq_true] at h
  simp at h
  exact ⟨by omega, by omega⟩
theorem PostPlays (a0 : Int) (a1 : (List S45)) (q0 : (Lit.int .i64 a0).wf = true) (q1 : a1.length ≤ maxLen ∧ a1.length * 56 ≤ 140737488351232 ∧ ∀ y36 ∈ a1, ((Lit.int .u8 y36.f0).wf = true) ∧ ((Lit.int .i64 y36.f1).wf = true) ∧ ((Lit.int .i64 y36.f2).wf = true) ∧ ((Lit.int .i64 y36.f3).wf = true) ∧ y36.f4.length ≤ maxLen ∧ y36.f4.length * 1 ≤ 140737488351232 ∧ ∀ y23 ∈ y36.f4, (Lit.int .u8 y23).wf = true) : PA.stemmalaw23_PostPlays.f a0 a1 = some true := by
  unfold PA.stemmalaw23_PostPlays.f
  rw [if_pos (fun y hy => ?_)]
  obtain ⟨h0, _, _, _, _, h5, h6⟩ := q1.2.2 y hy
  exact ⟨byte_of h0, fun x hx => byte_of (h6 x hx), by omega⟩
end Go.Proofs.Ytnjnljnhpihemaa.Pure
