/- manifest.Get: what is read. -/
import Derived.Test.YtonpiacnljcohaaDoorMaP
import Derived.Test.YtonpiacnljcohaaDoorPAx48
import Derived.Test.YtonpiacnljcohaaDoorFrO
import Derived.RegionTactic
import Derived.BigRegion
set_option linter.unusedVariables false
set_option linter.unusedSimpArgs false
namespace Go.Proofs.YtonpiacnljcohaaDoor.MaT
open Go Go.RowKit Go.Proofs.YtonpiacnljcohaaDoor.PA Go.Proofs.YtonpiacnljcohaaDoorW.PrintWords Go.Proofs.YtonpiacnljcohaaDoorW.PrintLast Go.Proofs.YtonpiacnljcohaaDoor.LebT Go.Proofs.YtonpiacnljcohaaDoor.LebP Go.Proofs.YtonpiacnljcohaaDoor.ColT Go.Proofs.YtonpiacnljcohaaDoor.FrT Go.Proofs.YtonpiacnljcohaaDoor.Rdr
def GetPost (w : World) (r1 r2 : Int) (r3 : List Int) (r4 : Int) (e : Ending) (w' : World) : Prop :=
  ∃ v0_ : Value, e = .returned (.tuple #[.agg #[.int .i64 r1, .int .i64 r2, v0_], .int .i64 r4]) ∧ Kd.R (Kd.int .u8) 5 w' w.heap.size (fun _ => True) v0_ r3 ∧ Below w.heap.size w w'
theorem get_some {w W : World} {b : List Int} {v1 v2 : Int} {l2 : List Int} (v : Value) (e : Ending) (hm : mget b = (v1, v2, l2, 0)) (he : e = .returned (.tuple #[.agg #[.int .i64 v1, .int .i64 v2, v], .int .i64 0])) (hR : Kd.R (Kd.int .u8) 5 W w.heap.size (fun _ => True) v l2) (hB : Below w.heap.size w W) :
    GetPost w (mget b).1 (mget b).2.1 (mget b).2.2.1 (mget b).2.2.2 e W := by
  rw [hm]
  exact ⟨_, he, hR, hB⟩
theorem get_none {w W : World} {b : List Int} (v : Value) (e : Ending) (hm : mget b = (0, 0, [], 4)) (he : e = .returned (.tuple #[.agg #[.int .i64 0, .int .i64 0, .slice none 0 0], .int .i64 4])) (hB : Below w.heap.size w W) :
    GetPost w (mget b).1 (mget b).2.1 (mget b).2.2.1 (mget b).2.2.2 e W := by
  rw [hm]
  exact ⟨_, he, Kd.R_nil _ _ _ _ _, hB⟩
/-- Open, in any later world: its row is told by its footprint. -/
theorem open_calls (A0 : Option Addr) (c0 : Nat) (b : List Int) (hb : ∀ x ∈ b, isByte x) (hl : b.length ≤ 140737488351232) (w W : World) (hr : Kd.C (Kd.int .u8) w A0 b.length b) (hc : b.length ≤ c0) (hG : Gl w) (hB : Below w.heap.size w W) :
    Calls Tryd.prog 18 #[.slice A0 b.length c0] W fun e w' => ∃ A c, e = .returned (.tuple #[.agg #[.int .u8 (opn b).1, .slice A (opn b).2.1.length c], .int .i64 (opn b).2.2.1, .int .i64 (opn b).2.2.2]) ∧ (opn b).2.1.length ≤ c ∧ Kd.F (Kd.int .u8) w' (fun k => W.heap.size ≤ k ∧ k < w'.heap.size) A (opn b).2.1.length (opn b).2.1 ∧ Below W.heap.size W w' := by
  refine (frame_Open.calls A0 c0 b (opn b).1 (opn b).2.1 (opn b).2.2.1 (opn b).2.2.2 W (Kd.C_below hr hB) hc (hG.below hB) (open_f b hb hl)).mono ?_
  rintro e w' ⟨v, rfl, hR, hb2⟩
  obtain ⟨A, c, rfl, hlc, _⟩ := Kd.R_reads hR
  exact ⟨A, c, rfl, hlc, Kd.F_mono (Kd.V_F (base := 0) (Kd.R_V (Kd.R_bound hR))) (fun k h => ⟨h.2.1, h.2.2.1⟩), hb2⟩
theorem kept60 (w w2 : World) (h : Below (w.alloc (.cells #[.int .i64 0, .int .i64 0, .slice none 0 0] 60)).heap.size (w.alloc (.cells #[.int .i64 0, .int .i64 0, .slice none 0 0] 60)) w2) :
    w.heap.size < w2.heap.size ∧ (w.heap.size = w2.heap.size) = False ∧ (w2.heap.size = w.heap.size) = False ∧ w2.cell? ⟨w.heap.size, 0, none⟩ = some (.int .i64 0) ∧ w2.cell? ⟨w.heap.size, 1, none⟩ = some (.int .i64 0) ∧ w2.cell? ⟨w.heap.size, 2, none⟩ = some (.slice none 0 0) ∧
      w2.frozen? ⟨w.heap.size, 0, none⟩ = false ∧ w2.frozen? ⟨w.heap.size, 1, none⟩ = false ∧ w2.frozen? ⟨w.heap.size, 2, none⟩ = false := by
  have hb := blk_below (blk_new w _) h
  have hlt := blk_lt hb
  exact ⟨hlt, eq_false (by omega), eq_false (by omega), (blk_cell hb 0).trans rfl, (blk_cell hb 1).trans rfl, (blk_cell hb 2).trans rfl, blk_frozen hb 0, blk_frozen hb 1, blk_frozen hb 2⟩
/-- What stands while the reader reads. -/
structure In (w : World) (n2 gr : Nat) (A2 : Option Addr) (c2 : Nat) (o2 : List Int) (w' : World) : Prop where
  lt : w.heap.size < n2
  lt2 : n2 < gr
  blk2 : w'.heap[w.heap.size]? = some (.cells #[.int .i64 0, .int .i64 0, .slice none 0 0] 60 (0, 0))
  blk4 : w'.heap[n2]? = some (.cells #[.int .u8 3, .slice A2 o2.length c2] 33 (0, 0))
  row : Kd.F (Kd.int .u8) w' (fun k => w.heap.size < k ∧ k < n2) A2 o2.length o2
  bel : Below w.heap.size w w'
section
variable {w W W' : World} {n2 gr c2 : Nat} {A2 : Option Addr} {o2 : List Int}
theorem In.only (h : In w n2 gr A2 c2 o2 W) (ho : Only gr W W') : In w n2 gr A2 c2 o2 W' := by
  have h1 := h.lt
  have h2 := h.lt2
  exact ⟨h1, h2, (ho.block _ (by omega)).trans h.blk2, (ho.block _ (by omega)).trans h.blk4, Kd.F_step h.row (fun k hk _ => ho.block k (by omega)), h.bel.trans (ho.below (by omega))⟩
theorem In.far {n8 : Nat} (h : In w n2 gr A2 c2 o2 W) (hg : gr < n8) (i : Nat) (v : Value) : In w n2 gr A2 c2 o2 (W.setCell ⟨n8, i, none⟩ v) := by
  have h1 := h.lt
  have h2 := h.lt2
  exact ⟨h1, h2, blk_far h.blk2 (show w.heap.size ≠ n8 by omega) v, blk_far h.blk4 (show n2 ≠ n8 by omega) v, Kd.F_far h.row (fun k hk => show k ≠ n8 by omega) v, h.bel.setCell (show w.heap.size ≤ n8 by omega) v⟩
theorem In.below (h : In w n2 gr A2 c2 o2 W) (hb : Below W.heap.size W W') : In w n2 gr A2 c2 o2 W' :=
  ⟨h.lt, h.lt2, blk_below h.blk2 hb, blk_below h.blk4 hb, Kd.F_below h.row hb, h.bel.trans (hb.mono h.bel.size)⟩
end
theorem kept2 {w W : World} {n2 gr c2 : Nat} {A2 : Option Addr} {o2 : List Int} (h : In w n2 gr A2 c2 o2 W) : W.cell? ⟨w.heap.size, 0, none⟩ = some (.int .i64 0) ∧ W.cell? ⟨w.heap.size, 1, none⟩ = some (.int .i64 0) ∧ W.cell? ⟨w.heap.size, 2, none⟩ = some (.slice none 0 0) ∧
      W.frozen? ⟨w.heap.size, 0, none⟩ = false ∧ W.frozen? ⟨w.heap.size, 1, none⟩ = false ∧ W.frozen? ⟨w.heap.size, 2, none⟩ = false :=
  ⟨(blk_cell h.blk2 0).trans rfl, (blk_cell h.blk2 1).trans rfl, (blk_cell h.blk2 2).trans rfl, blk_frozen h.blk2 0, blk_frozen h.blk2 1, blk_frozen h.blk2 2⟩
theorem kept8 {W : World} {n8 : Nat} {v1 v2 : Int} {v : Value} (h : W.heap[n8]? = some (.cells #[.int .i64 v1, .int .i64 v2, v] 60 (0, 0))) : W.cell? ⟨n8, 0, none⟩ = some (.int .i64 v1) ∧ W.cell? ⟨n8, 1, none⟩ = some (.int .i64 v2) ∧ W.cell? ⟨n8, 2, none⟩ = some v :=
  ⟨(blk_cell h 0).trans rfl, (blk_cell h 1).trans rfl, (blk_cell h 2).trans rfl⟩
theorem In.begin {w w2 w4 : World} {gr c2 : Nat} {A2 : Option Addr} {o2 : List Int} (hB : Below (w.alloc (.cells #[.int .i64 0, .int .i64 0, .slice none 0 0] 60)).heap.size (w.alloc (.cells #[.int .i64 0, .int .i64 0, .slice none 0 0] 60)) w2)
    (hF : Kd.F (Kd.int .u8) w2 (fun k => (w.alloc (.cells #[.int .i64 0, .int .i64 0, .slice none 0 0] 60)).heap.size ≤ k ∧ k < w2.heap.size) A2 o2.length o2) (hg : (w2.alloc (.cells #[.int .u8 3, .slice A2 o2.length c2] 33)).heap.size ≤ gr)
    (hB4 : Below (w2.alloc (.cells #[.int .u8 3, .slice A2 o2.length c2] 33)).heap.size (w2.alloc (.cells #[.int .u8 3, .slice A2 o2.length c2] 33)) w4) : In w w2.heap.size gr A2 c2 o2 w4 := by
  have bk := blk_below (blk_new w _) hB
  have hlt := blk_lt bk
  simp at hg
  have hb2 : Below w.heap.size w w2 := (below_alloc (Below.refl _ _) _).trans (hB.mono (by simp))
  refine ⟨hlt, by omega, blk_below (blk_alloc bk _) hB4, blk_below (blk_new w2 _) hB4, Kd.F_below (Kd.F_mono (Kd.F_alloc hF _) (fun k h => ⟨by have := h.1; simp at this; omega, h.2⟩)) hB4, (hb2.alloc (by omega) _).trans (hB4.mono (by simp; omega))⟩
set_option maxHeartbeats 4000000 in
set_option maxRecDepth 100000 in
theorem Get_calls (A0 : Option Addr) (c0 : Nat) (b : List Int) (hb : ∀ x ∈ b, isByte x) (hl : b.length ≤ 140737488351232) (w : World) (hr : Kd.C (Kd.int .u8) w A0 b.length b) (hc : b.length ≤ c0) (hG : Gl w) :
    Calls Tryd.prog 28 #[.slice A0 b.length c0] w (GetPost w (mget b).1 (mget b).2.1 (mget b).2.2.1 (mget b).2.2.2) := by
  have HOp := Aside0.mk (fun W hB => open_calls A0 c0 b hb hl w W hr hc hG hB)
  obtain ⟨o1, ho1⟩ : ∃ o, (opn b).1 = o := ⟨_, rfl⟩
  obtain ⟨o2, ho2⟩ : ∃ o, (opn b).2.1 = o := ⟨_, rfl⟩
  obtain ⟨o3, ho3⟩ : ∃ o, (opn b).2.2.1 = o := ⟨_, rfl⟩
  obtain ⟨o4, ho4⟩ : ∃ o, (opn b).2.2.2 = o := ⟨_, rfl⟩
  rw [ho1, ho2, ho3, ho4] at HOp
  have HO1 := Aside0.mk ho1
  have HO2 := Aside0.mk ho2
  have HO4 := Aside0.mk ho4
  have HRw := Aside0.mk hr
  have HBb := Aside0.mk hb
  have HLb := Aside0.mk hl
  have HGw := Aside0.mk hG
  have hu60 := Tryd.underlying60
  have hu33 := Tryd.underlying33
  clear hb hl hr hG ho1 ho2 ho3 ho4
  by_cases d1 : o4 = 0
  · subst d1
    by_cases d2 : o1 = 3
    · subst d2
      have HL2 := Aside0.mk (show o2.length < 140737488355328 by have := opn_len2 b; rw [HO2.out] at this; have := HLb.out; omega)
      have HB2 := Aside0.mk (show ∀ x ∈ o2, isByte x by rw [← HO2.out]; exact opn_bytes HBb.out)
      obtain ⟨v1, hv1⟩ : ∃ x, (rdU 999999 o2 0).1 = x := ⟨_, rfl⟩
      obtain ⟨l1, hl1⟩ : ∃ x, (rdU 999999 o2 0).2.1 = x := ⟨_, rfl⟩
      obtain ⟨e1, he1⟩ : ∃ x, (rdU 999999 o2 0).2.2 = x := ⟨_, rfl⟩
      obtain ⟨v2, hv2⟩ : ∃ x, (rdU 16777216 l1 e1).1 = x := ⟨_, rfl⟩
      obtain ⟨l2, hl2⟩ : ∃ x, (rdU 16777216 l1 e1).2.1 = x := ⟨_, rfl⟩
      obtain ⟨e2, he2⟩ : ∃ x, (rdU 16777216 l1 e1).2.2 = x := ⟨_, rfl⟩
      have hb1 : ∀ x ∈ l1, isByte x := by
        obtain ⟨j, hj⟩ := rdU_suffix 999999 o2 0
        rw [← hl1, hj]
        exact fun x hx => HB2.out x (List.mem_of_mem_drop hx)
      have r1 := rdU_rng 999999 o2 HB2.out 0 (by omega)
      have r2 := rdU_rng 16777216 l1 hb1 e1 (by omega)
      rw [hv1] at r1
      rw [hv2] at r2
      have hw1 : wrap64 v1 = v1 := by unfold wrap64; omega
      have hw2 : wrap64 v2 = v2 := by unfold wrap64; omega
      have R1 := Aside0.mk r1
      have R2 := Aside0.mk r2
      clear r1 r2
      have HU1 := Aside0.mk (fun (W : World) (g c : Nat) (P : Nat → Prop) (A : Option Addr) (h : Rd W g P A c o2 0) => (Uint_calls W g c P A o2 0 999999 HB2.out h).mono (R' := fun e w' => ∃ A' c', e = .returned (.int .u64 v1) ∧ Only g W w' ∧ Rd w' g P A' c' l1 e1) (by
        rintro e w' ⟨A', c', rfl, hO, hR⟩
        rw [hv1]; rw [hl1, he1] at hR
        exact ⟨A', c', rfl, hO, hR⟩))
      have HU2 := Aside0.mk (fun (W : World) (g c : Nat) (P : Nat → Prop) (A : Option Addr) (h : Rd W g P A c l1 e1) => (Uint_calls W g c P A l1 e1 16777216 hb1 h).mono (R' := fun e w' => ∃ A' c', e = .returned (.int .u64 v2) ∧ Only g W w' ∧ Rd w' g P A' c' l2 e2) (by
        rintro e w' ⟨A', c', rfl, hO, hR⟩
        rw [hv2]; rw [hl2, he2] at hR
        exact ⟨A', c', rfl, hO, hR⟩))
      obtain ⟨j, hj⟩ : ∃ j, l2 = o2.drop j := by
        obtain ⟨j1, h1⟩ := rdU_suffix 999999 o2 0
        obtain ⟨j2, h2⟩ := rdU_suffix 16777216 l1 e1
        rw [hl1] at h1; rw [hl2] at h2
        exact ⟨j1 + j2, by rw [h2, h1, List.drop_drop]⟩
      have hll : l2.length ≤ o2.length := by rw [hj, List.length_drop]; omega
      have hdr : o2.drop (o2.length - l2.length) = l2 := by
        rw [hj, List.length_drop]
        by_cases hjl : j ≤ o2.length
        · rw [show o2.length - (o2.length - j) = j by omega]
        · rw [List.drop_of_length_le (by omega), List.drop_of_length_le (by omega)]
      obtain ⟨u, hu⟩ : ∃ u, o2.length - l2.length = u := ⟨_, rfl⟩
      rw [hu] at hdr
      have HSub := Aside0.mk (show wrap64 ((o2.length : Int) - (l2.length : Int)) = (u : Int) by have := HL2.out; unfold wrap64; omega)
      have HU := Aside0.mk (show u ≤ o2.length by omega)
      have HLu := Aside0.mk (show o2.length - u = l2.length by omega)
      have HLL := Aside0.mk hll
      have HDR := Aside0.mk hdr
      clear hj j hll hdr hu
      have HX := Aside0.mk (And.intro hv1 (And.intro hl1 (And.intro he1 (And.intro hv2 (And.intro hl2 he2)))))
      have HB1 := Aside0.mk hb1
      have hb2l : ∀ x ∈ l2, isByte x := by
        obtain ⟨j2, h2⟩ := rdU_suffix 16777216 l1 e1
        rw [hl2] at h2
        rw [h2]
        exact fun x hx => hb1 x (List.mem_of_mem_drop hx)
      obtain ⟨p1, hp1⟩ : ∃ x, (mput v1 v2 l2).1 = x := ⟨_, rfl⟩
      obtain ⟨p2, hp2⟩ : ∃ x, (mput v1 v2 l2).2 = x := ⟨_, rfl⟩
      have hpf : manifest_Put.f 30 v1 v2 l2 = some (p1, p2) := by rw [put_f v1 v2 l2 hb2l (Nat.le_refl _), ← hp1, ← hp2]
      have hp1b : ∀ x ∈ p1, isByte x := by rw [← hp1]; exact mput_bytes v1 v2 hb2l
      have hmg : mget b = if e2 = 0 ∧ p2 = 0 ∧ p1 = b then (v1, v2, l2, 0) else (0, 0, [], 4) := by
        unfold mget
        rw [if_pos ⟨HO4.out, HO1.out⟩, HO2.out, hl1, he1, hv1, hv2, hl2, he2, hp1, hp2]
      have HMG := Aside0.mk hmg
      have HEq := Aside0.mk (fun (h : (strOfNums p1).toList = (strOfNums b).toList) => str_eq hp1b HBb.out h)
      have HPC := Aside0.mk (fun (W : World) (A : Option Addr) (c base : Nat) (hR : Kd.R (Kd.int .u8) 5 W base (fun _ => True) (.slice A l2.length c) l2) (hB : Below w.heap.size w W) =>
        (manifest_Put.calls 30 v1 v2 (fun _ => True) A c l2 p1 p2 W (Kd.R_V hR) (HGw.out.below hB) hpf).mono (R' := fun e w' => ∃ A' c', e = .returned (.tuple #[.slice A' p1.length c', .int .i64 p2]) ∧ p1.length ≤ c' ∧ Kd.C (Kd.int .u8) w' A' p1.length p1 ∧ Below W.heap.size W w') (by
          rintro e w' ⟨v, rfl, hR', hB'⟩
          obtain ⟨A', c', rfl, hl', hC'⟩ := Kd.R_reads hR'
          exact ⟨A', c', rfl, hl', hC', hB'⟩))
      have HEC := Aside0.mk (fun (W : World) (A : Option Addr) (c : Nat) (hC : Kd.C (Kd.int .u8) W A p1.length p1) (hc' : p1.length ≤ c) (hB : Below w.heap.size w W) =>
        bytes_Equal.calls A c p1 A0 c0 b _ W hC hc' (Kd.C_below HRw.out hB) hc rfl)
      clear hp1 hp2 hpf hp1b hmg hb2l
      clear hv1 hl1 he1 hv2 hl2 he2 hb1
      go_enter Tryd.func28, Tryd.ntmps28
      go_wp2_with (first | ((with_reducible refine gate_callee (f := 18) rfl ?_); refine goesL_ (some 13) rfl rfl Tryd.func18 (by kernel_rfl) rfl #[.slice A0 b.length c0] rfl (by (try simp only [List.map_toArray, List.map_cons, List.map_nil]); first | done | rfl) ?_; (with_reducible refine (HOp.out _ (below_alloc (Below.refl _ _) _)).mono ?_); rintro e_ w2 ⟨A2, c2, rfl, hlc, hF, hB⟩; refine ⟨_, rfl, ?_⟩; have HF := Aside0.mk hF; have HC2 := Aside0.mk hlc; have HB := Aside0.mk hB; obtain ⟨hlt2, ne2, ne2', c20, c21, c22, f20, f21, f22⟩ := kept60 w w2 hB; clear hF hB hlc) | ((with_reducible refine gate_callee (f := 43) rfl ?_); refine goesL_ (some 27) rfl rfl Tryd.func43 (by kernel_rfl) rfl #[.slice A2 o2.length c2] rfl (by (try simp only [List.map_toArray, List.map_cons, List.map_nil]); first | done | rfl) ?_; (with_reducible refine (Read_calls _ _ _ _ (Kd.F_now (Kd.F_alloc HF.out _)) HC2.out HL2.out).mono ?_); rintro e_ w4 ⟨gr, P, A4, c4, rfl, hge, hP, hRd, hB4⟩; refine ⟨_, rfl, ?_⟩; have HRd := Aside0.mk hRd; have HIn := Aside0.mk (In.begin HB.out HF.out hge hB4); have HP := Aside0.mk hP; clear hRd hB4 hge hP HF) | (go_at_call 44; (with_reducible refine (HU1.out _ _ _ _ _ HRd.out).mono ?_); rintro e_ w5 ⟨A5, c5, rfl, hO5, hR5⟩; have HIn5 := Aside0.mk (HIn.out.only hO5); have HRd5 := Aside0.mk hR5; clear hO5 hR5 HIn HRd) | (go_at_call 44; (with_reducible refine (HU2.out _ _ _ _ _ HRd5.out).mono ?_); rintro e_ w6 ⟨A6, c6, rfl, hO6, hR6⟩; have HIn6 := Aside0.mk (HIn5.out.only hO6); have HRd6 := Aside0.mk hR6; clear hO6 hR6 HIn5 HRd5))
      obtain ⟨A8, hcut8, hC8, hc8⟩ := cut_of c2 A2 o2 HC2.out u HU.out
      have HCut := Aside0.mk hcut8
      have H7 := Aside0.mk (HIn6.out.below (below_drew (below_alloc (Below.refl _ _) (.cells #[.int .i64 v1, .int .i64 v2, .slice none 0 0] 60))))
      have HR7 := Aside0.mk (HRd6.out.bound.below (below_drew (below_alloc (Below.refl _ _) (.cells #[.int .i64 v1, .int .i64 v2, .slice none 0 0] 60))))
      have HK7 := Aside0.mk (blk_drew (blk_new w6 (.cells #[.int .i64 v1, .int .i64 v2, .slice none 0 0] 60)))
      have HG8 := Aside0.mk (show gr < w6.heap.size from HRd6.out.lt)
      refine start_ (n := 12) (S := fun w' => In w w2.heap.size gr A2 c2 o2 w' ∧ Rd w' gr (fun k => P k ∧ k < w6.heap.size) A6 c6 l2 e2) (ds := []) #[false, false, false, false, false, false, false, false, false, false, false, false] (by kernel_rfl) rfl rfl ⟨H7.out, HR7.out⟩ (fun hHeld => ?_)
      generalize hn8 : w6.heap.size = n8 at HK7 HG8 hHeld ⊢
      generalize (w6.alloc (.cells #[.int .i64 v1, .int .i64 v2, .slice none 0 0] 60)).drew = w7 at HK7 hHeld ⊢
      clear H7 HR7 HIn6 HRd6
      refine pure_ (i := 0) (N := some 35) (v := ?_) (a' := ?_) #[true, false, false, false, false, false, false, false, false, false, false, false] rfl rfl (by kernel_rfl) (fun _ _ _ h => h) (Or.inl ⟨by rfl, ?_⟩) ?_ ?_
      rotate_left
      · intro w'
        go_simp
        with_reducible rfl
      rotate_left
      · simp only [Act.put, List.setIfInBounds_toArray, List.set_cons_zero, List.set_cons_succ, i64_w, i32_w]
        rfl
      refine pure_ (i := 2) (N := some 37) (v := ?_) (a' := ?_) #[true, false, true, false, false, false, false, false, false, false, false, false] rfl rfl (by kernel_rfl) (fun _ _ _ h => h) (Or.inl ⟨by rfl, ?_⟩) ?_ ?_
      rotate_left
      · intro w'
        go_simp
        with_reducible rfl
      rotate_left
      · simp only [Act.put, List.setIfInBounds_toArray, List.set_cons_zero, List.set_cons_succ, i64_w, i32_w]
        rfl
      refine pure_ (i := 5) (N := some 40) (v := ?_) (a' := ?_) #[true, false, true, false, false, true, false, false, false, false, false, false] rfl rfl (by kernel_rfl) (fun _ _ _ h => h) (Or.inl ⟨by rfl, ?_⟩) ?_ ?_
      rotate_left
      · intro w'
        go_simp
        with_reducible rfl
      rotate_left
      · simp only [Act.put, List.setIfInBounds_toArray, List.set_cons_zero, List.set_cons_succ, i64_w, i32_w]
        rfl
      refine take_ (i := 1) (N := some 36) (v := ?_) (a' := ?_) #[true, true, true, false, false, true, false, false, false, false, false, false] rfl rfl (by kernel_rfl) (fun _ _ _ h => h) (Or.inl ⟨by rfl, ?_⟩) hHeld ?_ ?_
      rotate_left
      · rintro w' d0_
        have hc_ := (blk_cell d0_.1.blk4 1).trans rfl
        go_simp
        with_reducible rfl
      rotate_left
      · simp only [Act.put, List.setIfInBounds_toArray, List.set_cons_zero, List.set_cons_succ, i64_w, i32_w]
        rfl
      refine take_ (i := 3) (N := some 38) (v := ?_) (a' := ?_) #[true, true, true, true, false, true, false, false, false, false, false, false] rfl rfl (by kernel_rfl) (fun _ _ _ h => h) (Or.inl ⟨by rfl, ?_⟩) hHeld ?_ ?_
      rotate_left
      · rintro w' d0_
        have hc_ := (blk_cell d0_.1.blk4 1).trans rfl
        go_simp
        with_reducible rfl
      rotate_left
      · simp only [Act.put, List.setIfInBounds_toArray, List.set_cons_zero, List.set_cons_succ, i64_w, i32_w]
        rfl
      refine pure_ (i := 4) (N := some 39) (v := ?_) (a' := ?_) #[true, true, true, true, true, true, false, false, false, false, false, false] rfl rfl (by kernel_rfl) (fun _ _ _ h => h) (Or.inl ⟨by rfl, ?_⟩) ?_ ?_
      rotate_left
      · intro w'
        go_simp
        with_reducible rfl
      rotate_left
      · simp only [Act.put, List.setIfInBounds_toArray, List.set_cons_zero, List.set_cons_succ, i64_w, i32_w]
        rfl
      refine one_ (i := 6) (N := some 41) #[true, true, true, true, true, true, true, false, false, false, false, false] rfl rfl (by kernel_rfl) (by decide) (fun K hK => ?_)
      refine goes_ Tryd.func46 (by kernel_rfl) rfl #[.pointer (some ⟨gr, 0, none⟩)] (by rfl) rfl rfl (by (try simp only [List.map_toArray, List.map_cons, List.map_nil]); first | done | rfl) ?_
      refine (Left_calls w7 gr c6 _ A6 l2 e2 hHeld.2).mono ?_
      rintro e w8 ⟨rfl, rfl⟩
      refine ⟨_, rfl, ?_⟩
      refine hK.out _ _ hHeld (fun hHeld => ?_)
      clear hK K
      refine norm_ (a' := ?_) ?_ ?_
      rotate_left
      · show Act.put _ (some 41) _ = _
        simp only [Act.put, List.setIfInBounds_toArray, List.set_cons_zero, List.set_cons_succ, i64_w, i32_w]
        rfl
      refine pure_ (i := 7) (N := some 42) (v := ?_) (a' := ?_) #[true, true, true, true, true, true, true, true, false, false, false, false] rfl rfl (by kernel_rfl) (fun _ _ _ h => h) (Or.inl ⟨by rfl, ?_⟩) ?_ ?_
      rotate_left
      · intro w'
        have hs_ := HSub.out
        have hs2_ := (i64_w _).trans HSub.out
        go_simp
        with_reducible rfl
      rotate_left
      · simp only [Act.put, List.setIfInBounds_toArray, List.set_cons_zero, List.set_cons_succ, i64_w, i32_w]
        rfl
      refine pure_ (i := 8) (N := some 43) (v := ?_) (a' := ?_) #[true, true, true, true, true, true, true, true, true, false, false, false] rfl rfl (by kernel_rfl) (fun _ _ _ h => h) (Or.inl ⟨by rfl, ?_⟩) ?_ ?_
      rotate_left
      · intro w'
        have hs_ := HCut.out
        go_simp
        with_reducible rfl
      rotate_left
      · simp only [Act.put, List.setIfInBounds_toArray, List.set_cons_zero, List.set_cons_succ, i64_w, i32_w]
        rfl
      refine one_ (i := 9) (N := some 44) #[true, true, true, true, true, true, true, true, true, true, false, false] rfl rfl (by kernel_rfl) (by decide) (fun K hK => ?_)
      rw [HLu.out]
      have hC9 : Kd.C (Kd.int .u8) w8 A8 l2.length l2 := by have := hC8 w8 (Kd.F_now hHeld.1.row); rwa [HDR.out] at this
      have hc9 : l2.length ≤ c2 - u := by rw [HDR.out] at hc8; exact hc8
      refine goes_ Tryd.func45 (by kernel_rfl) rfl #[.slice A8 l2.length (c2 - u)] (by rfl) rfl rfl (by (try simp only [List.map_toArray, List.map_cons, List.map_nil]); first | done | rfl) ?_
      refine (slices_Clone_byte_byte.calls A8 (c2 - u) l2 l2 w8 hC9 hc9 (by unfold slices_Clone_byte_byte.f; rw [if_pos (by have := HL2.out; have := HLL.out; omega)])).mono ?_
      rintro e w9 ⟨v9, rfl, ho9, hb9⟩
      refine ⟨_, rfl, ?_⟩
      have HO9 := Aside0.mk (Kd.R_lower ho9 hHeld.1.bel.size)
      have HK9 := Aside0.mk (blk_below HK7.out hb9)
      have HI9 := Aside0.mk (hHeld.1.below hb9)
      have HR9 := Aside0.mk (hHeld.2.below hb9)
      clear ho9 hb9 hC9 hc9 hC8 hc8 HK7 hHeld
      refine hK.out _ _ ⟨HI9.out, HR9.out⟩ (fun hHeld => ?_)
      clear hK K
      obtain ⟨A9, c9, rfl⟩ := Kd.R_slice HO9.out
      refine norm_ (a' := ?_) ?_ ?_
      rotate_left
      · show Act.put _ (some 44) _ = _
        simp only [Act.put, List.setIfInBounds_toArray, List.set_cons_zero, List.set_cons_succ, i64_w, i32_w]
        rfl
      refine pure_ (i := 10) (N := some 45) (v := ?_) (a' := ?_) #[true, true, true, true, true, true, true, true, true, true, true, false] rfl rfl (by kernel_rfl) (fun _ _ _ h => h) (Or.inl ⟨by rfl, ?_⟩) ?_ ?_
      rotate_left
      · intro w'
        go_simp
        with_reducible rfl
      rotate_left
      · simp only [Act.put, List.setIfInBounds_toArray, List.set_cons_zero, List.set_cons_succ, i64_w, i32_w]
        rfl
      refine one_ (i := 11) (N := none) #[true, true, true, true, true, true, true, true, true, true, true, true] rfl rfl (by kernel_rfl) (by decide) (fun K hK => ?_)
      have h80 : w9.cell? ⟨n8, 2, none⟩ = some (.slice none 0 0) := (blk_cell HK9.out 2).trans rfl
      have f80 := blk_frozen HK9.out 2
      refine skip_ (by rfl) rfl (w1 := w9.setCell ⟨n8, 2, none⟩ (.slice A9 l2.length c9)) (by go_simp; try rfl) ?_
      have HI10 := Aside0.mk (HI9.out.far HG8.out 2 (.slice A9 l2.length c9))
      have HR10 := Aside0.mk (HR9.out.far (by have := HG8.out; omega) (fun k hk => Nat.ne_of_lt hk.2) 2 (.slice A9 l2.length c9))
      have HO10 := Aside0.mk (Kd.R_mono (ok' := fun _ => True) (Kd.R_far (p := ⟨n8, 2, none⟩) (Kd.R_types HO9.out HK9.out (by decide)) (fun _ hk => hk.2) (.slice A9 l2.length c9)) (fun _ _ => trivial))
      have HK10 := Aside0.mk (show (w9.setCell ⟨n8, 2, none⟩ (.slice A9 l2.length c9)).heap[n8]? = some (.cells #[.int .i64 v1, .int .i64 v2, .slice A9 l2.length c9] 60 (0, 0)) from blk_put HK9.out 2 _ rfl)
      clear HO9 HK9 HI9 HR9 h80 f80 hHeld
      refine hK.out _ _ ⟨HI10.out, HR10.out⟩ (fun hHeld => ?_)
      clear hK K
      generalize (w9.setCell ⟨n8, 2, none⟩ (.slice A9 l2.length c9)) = w10 at HO10 HK10 HI10 HR10 ⊢
      clear hHeld
      refine done_ (by kernel_rfl) ?_
      obtain ⟨h80, h81, h82⟩ := kept8 HK10.out
      have n28 : (w.heap.size = n8) = False := eq_false (by have := HI10.out.lt; have := HI10.out.lt2; have := HG8.out; omega)
      have n82 : (n8 = w.heap.size) = False := eq_false (by have := HI10.out.lt; have := HI10.out.lt2; have := HG8.out; omega)
      by_cases d3 : e2 = 0
      · by_cases d4 : p2 = 0
        · by_cases d5 : p1 = b
          · have b3 : ((strOfNums p1).toList == (strOfNums b).toList) = true := by rw [d5]; exact beq_self_eq_true _
            have HM := Aside0.mk (show mget b = (v1, v2, l2, 0) by rw [HMG.out, if_pos ⟨d3, d4, d5⟩])
            have b1 : (e2 != 0) = false := by simp [d3]
            have b2 : (p2 != 0) = false := by simp [d4]
            clear d3 d4 d5
            go_wp2_with (first | ((with_reducible refine gate_callee (f := 25) rfl ?_); refine goesL_ (some 48) rfl rfl Tryd.func25 (by kernel_rfl) rfl #[.agg #[.int .i64 v1, .int .i64 v2, .slice A9 l2.length c9]] rfl (by (try simp only [List.map_toArray, List.map_cons, List.map_nil]); first | done | rfl) ?_; (refine (HPC.out w10 A9 c9 w.heap.size HO10.out HI10.out.bel).mono ?_); rintro e_ w11 ⟨A11, c11, rfl, hc11, hC11, hb11⟩; refine ⟨_, rfl, ?_⟩; have HI11 := Aside0.mk (HI10.out.below hb11); have HR11 := Aside0.mk (HR10.out.below hb11); have HK11 := Aside0.mk (blk_below HK10.out hb11); have HO11 := Aside0.mk (Kd.R_below HO10.out hb11); have HC11 := Aside0.mk hC11; have HL11 := Aside0.mk hc11; clear h80 h81 h82; obtain ⟨h80, h81, h82⟩ := kept8 HK11.out; obtain ⟨c20, c21, c22, f20, f21, f22⟩ := kept2 HI11.out; clear hC11 hc11 hb11 HI10 HR10 HK10 HO10) | (go_at_call 47; (with_reducible refine (Err_calls _ _ _ _ _ _ _ HR11.out).mono ?_); rintro e_ w12 ⟨rfl, hw12⟩; subst hw12) | (go_at_call 48; (with_reducible refine (HEC.out _ A11 c11 HC11.out HL11.out HI11.out.bel).mono ?_); rintro e_ w13 ⟨rfl, hd13⟩; have hb13 := hd13.below; have HI13 := Aside0.mk (HI11.out.below hb13); have HK13 := Aside0.mk (blk_below HK11.out hb13); have HO13 := Aside0.mk (Kd.R_below HO11.out hb13); clear h80 h81 h82 c20 c21 c22 f20 f21 f22; obtain ⟨h80, h81, h82⟩ := kept8 HK13.out; obtain ⟨c20, c21, c22, f20, f21, f22⟩ := kept2 HI13.out; clear hd13 hb13 HI11 HK11 HO11 HR11))
            refine bodyPost_ret (results_ct rfl _ _ w.heap.size 60 #[.int .i64 v1, .int .i64 v2, .slice A9 l2.length c9] (0, 0) _ rfl (blk_put (blk_put (blk_put HI13.out.blk2 0 _ rfl) 1 _ rfl) 2 _ rfl) Tryd.underlying60 rfl (by kernel_rfl)) rfl ?_
            refine get_some _ _ HM.out rfl ?_ (((HI13.out.bel.setCell (Nat.le_refl _) _).setCell (Nat.le_refl _) _).setCell (Nat.le_refl _) _)
            exact Kd.R_mono (Kd.R_far (p := ⟨w.heap.size, 2, none⟩) (Kd.R_far (p := ⟨w.heap.size, 1, none⟩) (Kd.R_far (p := ⟨w.heap.size, 0, none⟩) (Kd.R_types HO13.out HI13.out.blk2 (by decide)) (fun _ hk => hk.2) _) (fun _ hk => hk.2) _) (fun _ hk => hk.2) _) (fun _ _ => trivial)
          · have b3 : ((strOfNums p1).toList == (strOfNums b).toList) = false := beq_eq_false_iff_ne.mpr (fun h => d5 (HEq.out h))
            have HM := Aside0.mk (show mget b = (0, 0, [], 4) by rw [HMG.out, if_neg (fun h => d5 h.2.2)])
            have b1 : (e2 != 0) = false := by simp [d3]
            have b2 : (p2 != 0) = false := by simp [d4]
            clear d3 d4 d5
            go_wp2_with (first | ((with_reducible refine gate_callee (f := 25) rfl ?_); refine goesL_ (some 48) rfl rfl Tryd.func25 (by kernel_rfl) rfl #[.agg #[.int .i64 v1, .int .i64 v2, .slice A9 l2.length c9]] rfl (by (try simp only [List.map_toArray, List.map_cons, List.map_nil]); first | done | rfl) ?_; (refine (HPC.out w10 A9 c9 w.heap.size HO10.out HI10.out.bel).mono ?_); rintro e_ w11 ⟨A11, c11, rfl, hc11, hC11, hb11⟩; refine ⟨_, rfl, ?_⟩; have HI11 := Aside0.mk (HI10.out.below hb11); have HR11 := Aside0.mk (HR10.out.below hb11); have HK11 := Aside0.mk (blk_below HK10.out hb11); have HO11 := Aside0.mk (Kd.R_below HO10.out hb11); have HC11 := Aside0.mk hC11; have HL11 := Aside0.mk hc11; clear h80 h81 h82; obtain ⟨h80, h81, h82⟩ := kept8 HK11.out; obtain ⟨c20, c21, c22, f20, f21, f22⟩ := kept2 HI11.out; clear hC11 hc11 hb11 HI10 HR10 HK10 HO10) | (go_at_call 47; (with_reducible refine (Err_calls _ _ _ _ _ _ _ HR11.out).mono ?_); rintro e_ w12 ⟨rfl, hw12⟩; subst hw12) | (go_at_call 48; (with_reducible refine (HEC.out _ A11 c11 HC11.out HL11.out HI11.out.bel).mono ?_); rintro e_ w13 ⟨rfl, hd13⟩; have hb13 := hd13.below; have HI13 := Aside0.mk (HI11.out.below hb13); have HK13 := Aside0.mk (blk_below HK11.out hb13); have HO13 := Aside0.mk (Kd.R_below HO11.out hb13); clear h80 h81 h82 c20 c21 c22 f20 f21 f22; obtain ⟨h80, h81, h82⟩ := kept8 HK13.out; obtain ⟨c20, c21, c22, f20, f21, f22⟩ := kept2 HI13.out; clear hd13 hb13 HI11 HK11 HO11 HR11))
            refine bodyPost_ret (results_ct rfl _ _ w.heap.size 60 #[.int .i64 0, .int .i64 0, .slice none 0 0] (0, 0) _ rfl (blk_put (blk_put (blk_put HI13.out.blk2 0 _ rfl) 1 _ rfl) 2 _ rfl) Tryd.underlying60 rfl (by kernel_rfl)) rfl ?_
            refine get_none .nilIface _ HM.out rfl ?_
            exact ((HI13.out.bel.setCell (Nat.le_refl _) _).setCell (Nat.le_refl _) _).setCell (Nat.le_refl _) _
        · have HM := Aside0.mk (show mget b = (0, 0, [], 4) by rw [HMG.out, if_neg (fun h => d4 h.2.1)])
          have b1 : (e2 != 0) = false := by simp [d3]
          have b2 : (p2 != 0) = true := by simp [d4]
          clear d3 d4
          go_wp2_with (first | ((with_reducible refine gate_callee (f := 25) rfl ?_); refine goesL_ (some 48) rfl rfl Tryd.func25 (by kernel_rfl) rfl #[.agg #[.int .i64 v1, .int .i64 v2, .slice A9 l2.length c9]] rfl (by (try simp only [List.map_toArray, List.map_cons, List.map_nil]); first | done | rfl) ?_; (refine (HPC.out w10 A9 c9 w.heap.size HO10.out HI10.out.bel).mono ?_); rintro e_ w11 ⟨A11, c11, rfl, hc11, hC11, hb11⟩; refine ⟨_, rfl, ?_⟩; have HI11 := Aside0.mk (HI10.out.below hb11); have HR11 := Aside0.mk (HR10.out.below hb11); have HK11 := Aside0.mk (blk_below HK10.out hb11); have HO11 := Aside0.mk (Kd.R_below HO10.out hb11); have HC11 := Aside0.mk hC11; have HL11 := Aside0.mk hc11; clear h80 h81 h82; obtain ⟨h80, h81, h82⟩ := kept8 HK11.out; obtain ⟨c20, c21, c22, f20, f21, f22⟩ := kept2 HI11.out; clear hC11 hc11 hb11 HI10 HR10 HK10 HO10) | (go_at_call 47; (with_reducible refine (Err_calls _ _ _ _ _ _ _ HR11.out).mono ?_); rintro e_ w12 ⟨rfl, hw12⟩; subst hw12))
          refine bodyPost_ret (results_ct rfl _ _ w.heap.size 60 #[.int .i64 0, .int .i64 0, .slice none 0 0] (0, 0) _ rfl (blk_put (blk_put (blk_put HI11.out.blk2 0 _ rfl) 1 _ rfl) 2 _ rfl) Tryd.underlying60 rfl (by kernel_rfl)) rfl ?_
          refine get_none .nilIface _ HM.out rfl ?_
          exact ((HI11.out.bel.setCell (Nat.le_refl _) _).setCell (Nat.le_refl _) _).setCell (Nat.le_refl _) _
      · have HM := Aside0.mk (show mget b = (0, 0, [], 4) by rw [HMG.out, if_neg (fun h => d3 h.1)])
        have b1 : (e2 != 0) = true := by simp [d3]
        clear d3
        go_wp2_with (first | ((with_reducible refine gate_callee (f := 25) rfl ?_); refine goesL_ (some 48) rfl rfl Tryd.func25 (by kernel_rfl) rfl #[.agg #[.int .i64 v1, .int .i64 v2, .slice A9 l2.length c9]] rfl (by (try simp only [List.map_toArray, List.map_cons, List.map_nil]); first | done | rfl) ?_; (refine (HPC.out w10 A9 c9 w.heap.size HO10.out HI10.out.bel).mono ?_); rintro e_ w11 ⟨A11, c11, rfl, hc11, hC11, hb11⟩; refine ⟨_, rfl, ?_⟩; have HI11 := Aside0.mk (HI10.out.below hb11); have HR11 := Aside0.mk (HR10.out.below hb11); have HK11 := Aside0.mk (blk_below HK10.out hb11); have HO11 := Aside0.mk (Kd.R_below HO10.out hb11); have HC11 := Aside0.mk hC11; have HL11 := Aside0.mk hc11; clear h80 h81 h82; obtain ⟨h80, h81, h82⟩ := kept8 HK11.out; obtain ⟨c20, c21, c22, f20, f21, f22⟩ := kept2 HI11.out; clear hC11 hc11 hb11 HI10 HR10 HK10 HO10) | (go_at_call 47; (with_reducible refine (Err_calls _ _ _ _ _ _ _ HR11.out).mono ?_); rintro e_ w12 ⟨rfl, hw12⟩; subst hw12))
        refine bodyPost_ret (results_ct rfl _ _ w.heap.size 60 #[.int .i64 0, .int .i64 0, .slice none 0 0] (0, 0) _ rfl (blk_put (blk_put (blk_put HI11.out.blk2 0 _ rfl) 1 _ rfl) 2 _ rfl) Tryd.underlying60 rfl (by kernel_rfl)) rfl ?_
        refine get_none .nilIface _ HM.out rfl ?_
        exact ((HI11.out.bel.setCell (Nat.le_refl _) _).setCell (Nat.le_refl _) _).setCell (Nat.le_refl _) _
    · have b1 : (o1 == 3) = false := beq_eq_false_iff_ne.mpr d2
      have b2 : (o1 != 3) = true := bne_iff_ne.mpr d2
      have HM := Aside0.mk (show mget b = (0, 0, [], 4) by unfold mget; rw [if_neg]; rw [HO4.out, HO1.out]; exact fun h => d2 h.2)
      clear d2
      go_enter Tryd.func28, Tryd.ntmps28
      go_wp2_with (first | ((with_reducible refine gate_callee (f := 18) rfl ?_); refine goesL_ (some 13) rfl rfl Tryd.func18 (by kernel_rfl) rfl #[.slice A0 b.length c0] rfl (by (try simp only [List.map_toArray, List.map_cons, List.map_nil]); first | done | rfl) ?_; (with_reducible refine (HOp.out _ (below_alloc (Below.refl _ _) _)).mono ?_); rintro e_ w2 ⟨A2, c2, rfl, hlc, hF, hB⟩; refine ⟨_, rfl, ?_⟩; have HF := Aside0.mk hF; have HC2 := Aside0.mk hlc; have HB := Aside0.mk hB; obtain ⟨hlt2, ne2, ne2', c20, c21, c22, f20, f21, f22⟩ := kept60 w w2 hB; clear hF hB hlc))
      have hb2 : Below w.heap.size w w2 := (below_alloc (Below.refl _ _) _).trans (HB.out.mono (by simp))
      have bk := blk_below (blk_new w _) HB.out
      refine bodyPost_ret (results_ct rfl _ _ w.heap.size 60 #[.int .i64 0, .int .i64 0, .slice none 0 0] (0, 0) _ rfl (blk_alloc (blk_put (blk_put (blk_put bk 0 _ rfl) 1 _ rfl) 2 _ rfl) _) Tryd.underlying60 rfl (by kernel_rfl)) rfl ?_
      refine get_none .nilIface _ HM.out rfl ?_
      exact (((hb2.setCell (Nat.le_refl _) _).setCell (Nat.le_refl _) _).setCell (Nat.le_refl _) _).alloc (by simp [World.setCell]; omega) _
  · have b1 : (o4 == 0) = false := beq_eq_false_iff_ne.mpr d1
    have b2 : (o4 != 0) = true := bne_iff_ne.mpr d1
    have HM := Aside0.mk (show mget b = (0, 0, [], 4) by unfold mget; rw [if_neg]; rw [HO4.out]; exact fun h => d1 h.1)
    clear d1
    go_enter Tryd.func28, Tryd.ntmps28
    go_wp2_with (first | ((with_reducible refine gate_callee (f := 18) rfl ?_); refine goesL_ (some 13) rfl rfl Tryd.func18 (by kernel_rfl) rfl #[.slice A0 b.length c0] rfl (by (try simp only [List.map_toArray, List.map_cons, List.map_nil]); first | done | rfl) ?_; (with_reducible refine (HOp.out _ (below_alloc (Below.refl _ _) _)).mono ?_); rintro e_ w2 ⟨A2, c2, rfl, hlc, hF, hB⟩; refine ⟨_, rfl, ?_⟩; have HF := Aside0.mk hF; have HC2 := Aside0.mk hlc; have HB := Aside0.mk hB; obtain ⟨hlt2, ne2, ne2', c20, c21, c22, f20, f21, f22⟩ := kept60 w w2 hB; clear hF hB hlc))
    have hb2 : Below w.heap.size w w2 := (below_alloc (Below.refl _ _) _).trans (HB.out.mono (by simp))
    have bk := blk_below (blk_new w _) HB.out
    refine bodyPost_ret (results_ct rfl _ _ w.heap.size 60 #[.int .i64 0, .int .i64 0, .slice none 0 0] (0, 0) _ rfl (blk_alloc (blk_put (blk_put (blk_put bk 0 _ rfl) 1 _ rfl) 2 _ rfl) _) Tryd.underlying60 rfl (by kernel_rfl)) rfl ?_
    refine get_none .nilIface _ HM.out rfl ?_
    exact (((hb2.setCell (Nat.le_refl _) _).setCell (Nat.le_refl _) _).setCell (Nat.le_refl _) _).alloc (by simp [World.setCell]; omega) _
end Go.Proofs.YtonpiacnljcohaaDoor.MaT
namespace Go.Proofs.YtonpiacnljcohaaDoor.PA
open Go Go.RowKit Go.Proofs.YtonpiacnljcohaaDoorW.PrintWords Go.Proofs.YtonpiacnljcohaaDoor.LebT Go.Proofs.YtonpiacnljcohaaDoor.MaT
def bytesB (b : List Int) : Bool := b.all fun x => decide (0 ≤ x) && decide (x < 256)
theorem bytesB_iff (b : List Int) : bytesB b = true ↔ ∀ x ∈ b, isByte x := by simp [bytesB, List.all_eq_true, isByte]
def manifest_Get.f (b : List Int) : Option (Int × Int × List Int × Int) := if b.length ≤ 140737488351232 ∧ bytesB b = true then some (mget b) else none
theorem manifest_Get.calls (A0 : Option Addr) (c0 : Nat) (l0 : List Int) (r1 r2 : Int) (r3 : List Int) (r4 : Int) (w : World) (hr0 : Kd.C (Kd.int .u8) w A0 l0.length l0) (hc0 : l0.length ≤ c0) (hG : Gl w) (h : manifest_Get.f l0 = some (r1, r2, r3, r4)) :
    Calls Tryd.prog 28 #[.slice A0 l0.length c0] w fun e w' => ∃ v0_ : Value, e = .returned (.tuple #[.agg #[.int .i64 r1, .int .i64 r2, v0_], .int .i64 r4]) ∧ Kd.R (Kd.int .u8) 5 w' w.heap.size (fun _ => True) v0_ r3 ∧ Below w.heap.size w w' := by
  unfold manifest_Get.f at h
  split at h
  · rename_i hl
    have hm := Option.some.inj h
    have hc := Get_calls A0 c0 l0 ((bytesB_iff l0).1 hl.2) hl.1 w hr0 hc0 hG
    rw [hm] at hc
    exact hc
  · cases h
end Go.Proofs.YtonpiacnljcohaaDoor.PA
