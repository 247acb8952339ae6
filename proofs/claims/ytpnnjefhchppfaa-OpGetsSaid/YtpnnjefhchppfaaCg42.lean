/- Own texts of this claim. -/
import Derived.Lib.Bytes
import Derived.Test.YtpnnjefhchppfaaCg25
import Derived.Test.YtpnnjefhchppfaaCg31
import Derived.Test.YtpnnjefhchppfaaCg39
import Derived.Test.YtpnnjefhchppfaaCg40
set_option linter.unusedVariables false
set_option linter.unusedSimpArgs false
namespace Go.Proofs.Ytpnnjefhchppfaa.Op
open Go Go.RowKit Go.Proofs.YtpnnjefhchppfaaW.PrintWords Go.Proofs.YtpnnjefhchppfaaW.PrintLast Go.Proofs.YtpnnjefhchppfaaW.PrintMore Go.Proofs.Ytpnnjefhchppfaa.PA
theorem at_int {W : World} {A : Option Addr} {n : Nat} {xs : List Int} (h : Kd.C (Kd.int .i64) W A n xs) (i : Nat) (hi : i < n) : ∃ ad, A = some ad ∧ W.cell? (ad.add i) = some (.int .i64 (xs.getD i 0)) := by
 obtain ⟨ad, c, e, _, hK, hc0⟩ := Kd.C_get h (0 : Int) (i : Int) (by omega) (by omega)
 obtain rfl : c = [.int .i64 (xs.getD (i : Int).toNat 0)] := hK
 rw [Int.toNat_natCast] at hc0
 exact ⟨ad, e, by have hq := hc0 0 _ rfl; rwa [show i * _ + 0 = i from by show i * 1 + 0 = i; omega] at hq⟩
theorem at_str {W : World} {A : Option Addr} {n : Nat} {xs : List ByteArray} (h : Kd.C Kd.string W A n xs) (i : Nat) (hi : i < n) : ∃ ad, A = some ad ∧ W.cell? (ad.add i) = some (.string (xs.getD i e0)) := by
 obtain ⟨ad, c, e, _, hK, hc0⟩ := Kd.C_get h (e0 : ByteArray) (i : Int) (by omega) (by omega)
 obtain rfl : c = [.string (xs.getD (i : Int).toNat e0)] := hK
 rw [Int.toNat_natCast] at hc0
 exact ⟨ad, e, by have hq := hc0 0 _ rfl; rwa [show i * _ + 0 = i from by show i * 1 + 0 = i; omega] at hq⟩
theorem getRuns_256 (b : List Int) : (ColT.getRuns b 256).1.length ≤ 256 := by
 unfold ColT.getRuns
 split
 ·split
  ·simp
  ·refine Nat.le_trans (ColT.gR_len _ _ _ _ _ (by simp)) ?_
   simp [mx, mn]
 ·simp
theorem colS_len (s : St) : (colS runG s).1.length ≤ 256 := by
 unfold colS
 split
 ·exact getRuns_256 _
 ·simp
theorem sums_len : ∀ (a : Int) (l : List Int), (ColT.sums a l).length = l.length
 | _, [] => rfl
 | a, x :: r => by simp [ColT.sums, sums_len _ r]
theorem sums0_len : ∀ l : List Int, (ColT.sums0 l).length = l.length
 | [] => rfl
 | x :: r => by simp [ColT.sums0, sums_len]
theorem colS_len' (s : St) : (colS delG s).1.length ≤ 256 := by
 unfold colS
 split
 ·exact Nat.le_trans (Nat.le_of_eq (sums0_len _)) (getRuns_256 _)
 ·simp
theorem infoOp : (Try.prog.info? 33).map (fun i => (i.zero, i.size, i.bytes)) = some (some (.agg #[.int .i64 0, .string ⟨#[]⟩, .int .i64 0, .int .i64 0, .string ⟨#[]⟩]), 5, 56) := by kernel_rfl
theorem rowsS_none {ns : List ByteArray} {ks ws ps ys : List Int} {s : St} {j : Nat} (h : rowsS ns ks ws ps ys s j = none) : ∀ d, rowsS ns ks ws ps ys s (j + d) = none
 | 0 => h
 | d + 1 => by rw [← Nat.add_assoc, rowsS, rowsS_none h d]
theorem Rg.far {w0 w : World} {g c n : Nat} {A : Option Addr} {s : St} (h : Rg w0 w g A c s) (hn : w0.heap.size ≤ n) (hg : g ≠ n) (i : Nat) (v : Value) : Rg w0 (w.setCell ⟨n, i, none⟩ v) g A c s :=
 ⟨blk_far h.blk hg v, h.len, h.row, below_set h.bel hn, h.lo, h.byte, h.short⟩
theorem keep_far2 {w W : World} {g n : Nat} (h : KeepBut w W g none) (hn : w.heap.size ≤ n) (i : Nat) (v : Value) : KeepBut w (W.setCell ⟨n, i, none⟩ v) g none := keep_far (p := ⟨n, i, none⟩) h hn v
theorem dn_heap (w : World) (k : Nat) : (w.drewN k).heap = w.heap := by
 induction k with
 | zero => rfl
 | succ k ih => exact ih
theorem runs_bytes (l : List Int) : ∀ x ∈ ColS.runs l, LebT.isByte x := by
 intro x hx
 unfold ColS.runs at hx
 rcases List.mem_append.1 hx with hx | hx
 ·exact LebT.putU_bytes _ x hx
 ·unfold ColS.flat at hx
  obtain ⟨p, _, hp⟩ := List.mem_flatMap.1 hx
  rcases List.mem_append.1 hp with hp | hp
  ·exact LebT.putU_bytes _ x hp
  ·exact LebT.putI_bytes _ p.1 rfl x hp
theorem str_bytes (s : ByteArray) : ∀ x ∈ bytesOf s, LebT.isByte x := by
 intro x hx
 unfold bytesOf at hx
 obtain ⟨b, _, rfl⟩ := List.mem_map.1 hx
 have := b.toNat_lt
 exact ⟨by omega, by omega⟩
theorem textP_bytes (s : ByteArray) : ∀ x ∈ textP s, LebT.isByte x := LebP.append_byte (LebT.putU_bytes _) (str_bytes s)
theorem putB_bytes (l : List Sop) : ∀ x ∈ putB l, LebT.isByte x := by
 unfold putB
 split
 ·unfold layF
  refine LebP.append_byte (LebP.append_byte (LebP.append_byte (LebP.append_byte (LebP.append_byte (LebP.append_byte (runs_bytes _) (LebT.putU_bytes _)) ?_) (runs_bytes _)) (runs_bytes _)) (runs_bytes _)) ?_
  ·intro x hx
   obtain ⟨s, _, hs⟩ := List.mem_flatMap.1 hx
   exact textP_bytes s x hs
  ·intro x hx
   obtain ⟨o, _, ho⟩ := List.mem_flatMap.1 hx
   unfold txF at ho
   split at ho
   ·exact textP_bytes _ x ho
   ·simp at ho
 ·simp
theorem cell_size (w : World) (p : Addr) (v : Value) : (w.setCell p v).heap.size = w.heap.size := by simp [World.setCell]
theorem get_none {b : List Int} (hl : lensOk (colsS b)) {x : Cols} (hx : colsS b = x) {j : Nat} (hj : j ≤ x.ks.length) (h : rowsS x.ns x.ks x.ws x.ps x.ys x.st j = none) : getS b = ([], 4) := by
 obtain ⟨d, hd⟩ : ∃ d, x.ks.length = j + d := ⟨x.ks.length - j, by omega⟩
 have := rowsS_none h d
 rw [← hd] at this
 unfold getS
 rw [if_pos hl, hx, this]
theorem get_some {b : List Int} (hl : lensOk (colsS b)) {x : Cols} (hx : colsS b = x) {l : List Sop} {s : St} (h : rowsS x.ns x.ks x.ws x.ps x.ys x.st x.ks.length = some (l, s)) : getS b = endS b l s := by
 unfold getS
 rw [if_pos hl, hx, h]
theorem str_eq7 {a b : List Int} (ha : ∀ x ∈ a, LebT.isByte x) (hb : ∀ x ∈ b, LebT.isByte x) (h : (strOfNums a).toList = (strOfNums b).toList) : a = b := by
 rw [Go.Lib.strOfNums_toList, Go.Lib.strOfNums_toList] at h
 unfold Go.Lib.bytesOf at h
 have inv : ∀ l : List Int, (∀ x ∈ l, LebT.isByte x) → (l.map fun n => UInt8.ofNat n.toNat).map (fun u => (u.toNat : Int)) = l := by
  intro l hl
  rw [List.map_map]
  conv => rhs; rw [← List.map_id l]
  refine List.map_congr_left (fun x hx => ?_)
  have := hl x hx
  unfold LebT.isByte at this
  simp [UInt8.toNat_ofNat']
  omega
 rw [← inv a ha, ← inv b hb, h]
theorem get_bad {b : List Int} (h : ¬ lensOk (colsS b)) : getS b = ([], 4) := if_neg h
def GetPost (w : World) (b : List Int) (e : Ending) (w' : World) : Prop :=
 ∃ v : Value, e = .returned (.tuple #[v, .int .i64 (getS b).2]) ∧ Kd.R k33 33 w' w.heap.size (fun _ => True) v (getS b).1 ∧ Below w.heap.size w w'
set_option maxHeartbeats 8000000 in
set_option maxRecDepth 100000 in
theorem Get_calls (A0 : Option Addr) (c0 : Nat) (b : List Int) (w : World) (hr0 : Kd.C (Kd.int .u8) w A0 b.length b) (hc0 : b.length ≤ c0) (hb : ∀ x ∈ b, LebT.isByte x) (hs : b.length ≤ 140737488351232) :
  Calls Try.prog 17 #[.slice A0 b.length c0] w (GetPost w b) := by
 have HR0 := Aside0.mk hr0
 have HC0 := Aside0.mk hc0
 have HBY := Aside0.mk hb
 have HSH := Aside0.mk hs
 have HRg := Aside0.mk (fun (W : World) (g : Nat) (hblk : W.heap[g]? = some (.cells #[.slice A0 b.length c0, .bool false] 58 (0, 0))) (hbel : Below w.heap.size w W) (hlo : w.heap.size ≤ g) => (⟨hblk, hc0, hr0, hbel, hlo, hb, hs⟩ : Rg w W g A0 c0 (b, false)))
 have HB := Aside0.mk (Below.refl w.heap.size w)
 clear hr0 hc0 hb hs
 go_enter Try.func17, Try.ntmps17
 go_upto_region 2 with (fail)
 have H0 := Aside0.mk (HRg.out _ w.heap.size (blk_new w _) (below_alloc (Below.refl _ _) _) (Nat.le_refl _))
 clear HRg HB
 obtain ⟨W0, hW0⟩ : ∃ W0, w.alloc (.cells #[.slice A0 b.length c0, .bool false] 58) = W0 := ⟨_, rfl⟩
 rw [hW0] at H0 ⊢
 clear hW0
 obtain ⟨g, hgs⟩ : ∃ g, w.heap.size = g := ⟨_, rfl⟩
 rw [hgs] at H0 ⊢
 clear hgs
 go_upto_region 3 with (go_at_call 39; refine (column_runs w _ g A0 c0 (b, false) H0.out).mono ?_; rintro e_ w1 ⟨v1, A1, c1, rfl, ho, hr, hk⟩; have H1 := Aside0.mk hr; have HO1 := Aside0.mk ho; clear ho hr hk)
 obtain ⟨x1, s1, hq1⟩ : ∃ x s, colS runG (b, false) = (x, s) := ⟨_, _, rfl⟩
 have HQ1 := Aside0.mk hq1
 simp only [hq1] at H1 HO1
 clear hq1 H0
 go_upto_region 4 with (go_at_call 41; refine (names_calls w _ g A1 c1 s1 H1.out).mono ?_; rintro e_ w2 ⟨v2, A2, c2, rfl, ho, hr, hk⟩; have H2 := Aside0.mk hr; have HO2 := Aside0.mk ho; have HO1_ := Aside0.mk (Kd.R_keep HO1.out hk (fun k hk => hk)); clear HO1; have HO1 := HO1_; clear HO1_; clear ho hr hk)
 obtain ⟨x2, s2, hq2⟩ : ∃ x s, namesS s1 = (x, s) := ⟨_, _, rfl⟩
 have HQ2 := Aside0.mk hq2
 simp only [hq2] at H2 HO2
 clear hq2 H1
 go_upto_region 5 with (go_at_call 39; refine (column_runs w _ g A2 c2 s2 H2.out).mono ?_; rintro e_ w3 ⟨v3, A3, c3, rfl, ho, hr, hk⟩; have H3 := Aside0.mk hr; have HO3 := Aside0.mk ho; have HO1_ := Aside0.mk (Kd.R_keep HO1.out hk (fun k hk => hk)); clear HO1; have HO1 := HO1_; clear HO1_; have HO2_ := Aside0.mk (Kd.R_keep HO2.out hk (fun k hk => hk)); clear HO2; have HO2 := HO2_; clear HO2_; clear ho hr hk)
 obtain ⟨x3, s3, hq3⟩ : ∃ x s, colS runG s2 = (x, s) := ⟨_, _, rfl⟩
 have HQ3 := Aside0.mk hq3
 simp only [hq3] at H3 HO3
 clear hq3 H2
 go_upto_region 6 with (go_at_call 39; refine (column_deltas w _ g A3 c3 s3 H3.out).mono ?_; rintro e_ w4 ⟨v4, A4, c4, rfl, ho, hr, hk⟩; have H4 := Aside0.mk hr; have HO4 := Aside0.mk ho; have HO1_ := Aside0.mk (Kd.R_keep HO1.out hk (fun k hk => hk)); clear HO1; have HO1 := HO1_; clear HO1_; have HO2_ := Aside0.mk (Kd.R_keep HO2.out hk (fun k hk => hk)); clear HO2; have HO2 := HO2_; clear HO2_; have HO3_ := Aside0.mk (Kd.R_keep HO3.out hk (fun k hk => hk)); clear HO3; have HO3 := HO3_; clear HO3_; clear ho hr hk)
 obtain ⟨x4, s4, hq4⟩ : ∃ x s, colS delG s3 = (x, s) := ⟨_, _, rfl⟩
 have HQ4 := Aside0.mk hq4
 simp only [hq4] at H4 HO4
 clear hq4 H3
 go_upto_region 7 with (go_at_call 39; refine (column_runs w _ g A4 c4 s4 H4.out).mono ?_; rintro e_ w5 ⟨v5, A5, c5, rfl, ho, hr, hk⟩; have H5 := Aside0.mk hr; have HO5 := Aside0.mk ho; have HO1_ := Aside0.mk (Kd.R_keep HO1.out hk (fun k hk => hk)); clear HO1; have HO1 := HO1_; clear HO1_; have HO2_ := Aside0.mk (Kd.R_keep HO2.out hk (fun k hk => hk)); clear HO2; have HO2 := HO2_; clear HO2_; have HO3_ := Aside0.mk (Kd.R_keep HO3.out hk (fun k hk => hk)); clear HO3; have HO3 := HO3_; clear HO3_; have HO4_ := Aside0.mk (Kd.R_keep HO4.out hk (fun k hk => hk)); clear HO4; have HO4 := HO4_; clear HO4_; clear ho hr hk)
 obtain ⟨x5, s5, hq5⟩ : ∃ x s, colS runG s4 = (x, s) := ⟨_, _, rfl⟩
 have HQ5 := Aside0.mk hq5
 simp only [hq5] at H5 HO5
 clear hq5 H4
 have hcols : colsS b = ⟨x1, x2, x3, x4, x5, s5⟩ := by
  simp only [colsS, HQ1.out, HQ2.out, HQ3.out, HQ4.out, HQ5.out]
 have HCOL := Aside0.mk hcols
 have HLN : Aside0 (x1.length ≤ 256 ∧ x3.length ≤ 256 ∧ x4.length ≤ 256 ∧ x5.length ≤ 256) := ⟨by
  have l1 := colS_len (b, false)
  have l3 := colS_len s2
  have l4 := colS_len' s3
  have l5 := colS_len s4
  rw [HQ1.out] at l1
  rw [HQ3.out] at l3
  rw [HQ4.out] at l4
  rw [HQ5.out] at l5
  exact ⟨l1, l3, l4, l5⟩⟩
 clear hcols HQ1 HQ2 HQ3 HQ4 HQ5
 obtain ⟨B1, e1, ee1⟩ := Kd.R_slice HO1.out
 subst ee1
 obtain ⟨B2, e2, ee2⟩ := Kd.R_slice HO2.out
 subst ee2
 obtain ⟨B3, e3, ee3⟩ := Kd.R_slice HO3.out
 subst ee3
 obtain ⟨B4, e4, ee4⟩ := Kd.R_slice HO4.out
 subst ee4
 obtain ⟨B5, e5, ee5⟩ := Kd.R_slice HO5.out
 subst ee5
 have r1 := H5.out.c1
 by_cases hbad : s5.2 = true
 ·rw [hbad] at r1
  have HBD := Aside0.mk hbad
  clear hbad
  go_wp2
  go_ret2
  have hg := get_bad (b := b) (by rw [HCOL.out]; exact fun h => absurd (h.1.symm.trans HBD.out) (by decide))
  exact ⟨_, by rw [hg]; rfl, by rw [hg]; exact Kd.R_nil _ _ _ _ _, H5.out.bel⟩
 have hbf : s5.2 = false := by simpa using hbad
 rw [hbf] at r1
 have HBF := Aside0.mk hbf
 clear hbad hbf
 by_cases q3 : x3.length = x1.length
 rotate_left
 ·have b30 : ((x3.length : Int) == (x1.length : Int)) = false := beq_eq_false_iff_ne.mpr (by omega)
  have b31 : ((x3.length : Int) != (x1.length : Int)) = true := bne_iff_ne.mpr (by omega)
  have HQ := Aside0.mk q3
  clear q3
  go_wp2
  go_ret2
  have hg := get_bad (b := b) (by rw [HCOL.out]; exact fun h => HQ.out (h.2.1))
  exact ⟨_, by rw [hg]; rfl, by rw [hg]; exact Kd.R_nil _ _ _ _ _, H5.out.bel⟩
 have b30 : ((x3.length : Int) == (x1.length : Int)) = true := beq_iff_eq.mpr (by omega)
 have b31 : ((x3.length : Int) != (x1.length : Int)) = false := by rw [q3]; exact bne_self_eq_false _
 have Q3 := Aside0.mk q3
 clear q3
 by_cases q4 : x4.length = x1.length
 rotate_left
 ·have b40 : ((x4.length : Int) == (x1.length : Int)) = false := beq_eq_false_iff_ne.mpr (by omega)
  have b41 : ((x4.length : Int) != (x1.length : Int)) = true := bne_iff_ne.mpr (by omega)
  have HQ := Aside0.mk q4
  clear q4
  go_wp2
  go_ret2
  have hg := get_bad (b := b) (by rw [HCOL.out]; exact fun h => HQ.out (h.2.2.1))
  exact ⟨_, by rw [hg]; rfl, by rw [hg]; exact Kd.R_nil _ _ _ _ _, H5.out.bel⟩
 have b40 : ((x4.length : Int) == (x1.length : Int)) = true := beq_iff_eq.mpr (by omega)
 have b41 : ((x4.length : Int) != (x1.length : Int)) = false := by rw [q4]; exact bne_self_eq_false _
 have Q4 := Aside0.mk q4
 clear q4
 by_cases q5 : x5.length = x1.length
 rotate_left
 ·have b50 : ((x5.length : Int) == (x1.length : Int)) = false := beq_eq_false_iff_ne.mpr (by omega)
  have b51 : ((x5.length : Int) != (x1.length : Int)) = true := bne_iff_ne.mpr (by omega)
  have HQ := Aside0.mk q5
  clear q5
  go_wp2
  go_ret2
  have hg := get_bad (b := b) (by rw [HCOL.out]; exact fun h => HQ.out (h.2.2.2))
  exact ⟨_, by rw [hg]; rfl, by rw [hg]; exact Kd.R_nil _ _ _ _ _, H5.out.bel⟩
 have b50 : ((x5.length : Int) == (x1.length : Int)) = true := beq_iff_eq.mpr (by omega)
 have b51 : ((x5.length : Int) != (x1.length : Int)) = false := by rw [q5]; exact bne_self_eq_false _
 have Q5 := Aside0.mk q5
 clear q5
 have HLO : Aside0 (lensOk (colsS b)) := ⟨by rw [HCOL.out]; exact ⟨HBF.out, Q3.out, Q4.out, Q5.out⟩⟩
 go_wp2_with (first | fail | ((with_reducible refine gate_dst (N := 56) rfl ?_); refine Kd.R_make0 k33 (w0 := w5) w5.heap.size 33 rfl (N := 56) rfl 22 _ _ rfl (x1.length : Int) rfl rfl Try.underlying22 (.agg #[.int .i64 0, .string ⟨#[]⟩, .int .i64 0, .int .i64 0, .string ⟨#[]⟩]) 56 infoOp rfl (by decide) (by decide) (ok := fun k => k ≠ g) (okp := fun k => k ≠ g) (fun _ h => h) (show w5.heap.size ≠ g from by have := H5.out.lt; omega) (by omega) (by have := HLN.out; omega) (Below.refl _ _) (Nat.le_refl _) ?_; intro v6 w6 ho hb hg hat; have HO6 := Aside0.mk ho; have H6 := Aside0.mk (H5.out.step hb); have HK6 := Aside0.mk (KeepBut.of_below hb g none); clear ho hb hg hat))
 have HW5 := Aside0.mk H5.out.bel.size
 go_loopw [10, 59] (fun v10 v59 wr => ∃ (j : Nat) (acc : List Sop) (t : St) (A' : Option Addr) (c' : Nat), j ≤ x1.length ∧ v59 = .int .i64 j ∧ Aside0 (Kd.R k33 33 wr w5.heap.size (fun k => k ≠ g) v10 acc) ∧ Aside0 (Rg w wr g A' c' t) ∧ Aside0 (KeepBut w5 wr g none) ∧ Aside0 (rowsS x2 x1 x3 x4 x5 s5 j = some (acc, t)) ∧ Aside0 (acc.length = j)) (fun _ v59 _ => x1.length - (intOf v59).toNat)
 case atStart => exact ⟨0, [], s5, A5, c5, by omega, rfl, HO6, H6, HK6, ⟨rfl⟩, ⟨rfl⟩⟩
 case round =>
  clear H6 HO6 HK6
  obtain ⟨j, acc, t, A6, c6, hj, rfl, HO, HR, HK, HN, HL⟩ := hrel
  by_cases hjl : j < x1.length
  ·obtain ⟨a1, f1, k1⟩ := at_int (Kd.R_reads' (Kd.R_keep HO1.out HK.out (fun k hk => hk))).2.2 j hjl
   obtain ⟨a3, f3, k3⟩ := at_int (Kd.R_reads' (Kd.R_keep HO3.out HK.out (fun k hk => hk))).2.2 j (by rw [Q3.out]; exact hjl)
   obtain ⟨a4, f4, k4⟩ := at_int (Kd.R_reads' (Kd.R_keep HO4.out HK.out (fun k hk => hk))).2.2 j (by rw [Q4.out]; exact hjl)
   obtain ⟨a5, f5, k5⟩ := at_int (Kd.R_reads' (Kd.R_keep HO5.out HK.out (fun k hk => hk))).2.2 j (by rw [Q5.out]; exact hjl)
   subst f1 f3 f4 f5
   obtain ⟨kv, hkv⟩ : ∃ kv, x1.getD j 0 = kv := ⟨_, rfl⟩
   obtain ⟨wv, hwv⟩ : ∃ wv, x3.getD j 0 = wv := ⟨_, rfl⟩
   obtain ⟨pv, hpv⟩ : ∃ pv, x4.getD j 0 = pv := ⟨_, rfl⟩
   obtain ⟨yv, hyv⟩ : ∃ yv, x5.getD j 0 = yv := ⟨_, rfl⟩
   rw [hkv] at k1
   rw [hwv] at k3
   rw [hpv] at k4
   rw [hyv] at k5
   have HV := Aside0.mk (And.intro hkv (And.intro hwv (And.intro hpv hyv)))
   clear hkv hwv hpv hyv
   have HJ3 : j < x3.length := by rw [Q3.out]; exact hjl
   have HJ4 : j < x4.length := by rw [Q4.out]; exact hjl
   have HJ5 : j < x5.length := by rw [Q5.out]; exact hjl
   by_cases hw0 : wv < 0
   ·have d0 : decide (wv < 0) = true := decide_eq_true hw0
    have hn : rowsS x2 x1 x3 x4 x5 s5 (j + 1) = none := by
     rw [rowsS, HN.out]
     simp only [HV.out.1, HV.out.2.1, HV.out.2.2.1, HV.out.2.2.2]
     rw [rowS, if_pos (Or.inl hw0)]
    have hg := get_none HLO.out HCOL.out (j := j + 1) hjl hn
    have HG := Aside0.mk hg
    clear hn hg hw0
    go_wp2
    go_ret2
    exact ⟨_, by rw [HG.out]; rfl, by rw [HG.out]; exact Kd.R_nil _ _ _ _ _, HR.out.bel⟩
   ·have d0 : decide (wv < 0) = false := decide_eq_false hw0
    by_cases hw1 : wv ≥ (x2.length : Int)
    ·have d1 : decide ((x2.length : Int) ≤ wv) = true := decide_eq_true hw1
     have hn : rowsS x2 x1 x3 x4 x5 s5 (j + 1) = none := by
      rw [rowsS, HN.out]
      simp only [HV.out.1, HV.out.2.1, HV.out.2.2.1, HV.out.2.2.2]
      rw [rowS, if_pos (Or.inr hw1)]
     have hg := get_none HLO.out HCOL.out (j := j + 1) hjl hn
     have HG := Aside0.mk hg
     clear hn hg hw0 hw1
     go_wp2
     go_ret2
     exact ⟨_, by rw [HG.out]; rfl, by rw [HG.out]; exact Kd.R_nil _ _ _ _ _, HR.out.bel⟩
    ·have d1 : decide ((x2.length : Int) ≤ wv) = false := decide_eq_false hw1
     obtain ⟨wn, rfl⟩ : ∃ wn : Nat, wv = (wn : Int) := ⟨wv.toNat, by omega⟩
     have HWN : wn < x2.length := by omega
     obtain ⟨a2, f2, k2⟩ := at_str (Kd.R_reads' (Kd.R_keep HO2.out HK.out (fun k hk => hk))).2.2 wn HWN
     subst f2
     obtain ⟨nm, hnm⟩ : ∃ nm, x2.getD wn e0 = nm := ⟨_, rfl⟩
     rw [hnm] at k2
     have HNM := Aside0.mk hnm
     have HW := Aside0.mk (And.intro hw0 hw1)
     clear hnm hw0 hw1
     go_upto_region 15 with (fail)
     refine start_ (n := 19) (S := fun w' => w'.cell? (a3.add j) = some (.int .i64 (wn : Int)) ∧ w'.cell? (a2.add wn) = some (.string nm) ∧ w'.cell? (a4.add j) = some (.int .i64 pv) ∧ w'.cell? (a5.add j) = some (.int .i64 yv)) (ds := []) #[false, false, false, false, false, false, false, false, false, false, false, false, false, false, false, false, false, false, false] (by kernel_rfl) rfl rfl (⟨k3, k2, k4, k5⟩) (fun hHeld => ?_)
     have HSd := Aside0.mk hHeld
     have HOd := Aside0.mk (Kd.R_drew HO.out)
     have HRd := Aside0.mk (HR.out.step (pw_below_drewN (Below.refl wr.heap.size wr) 1))
     have HKd := Aside0.mk (keep_drew HK.out)
     generalize hwd : wr.drewN 1 = wd at HRd
     rw [show wr.drew = wd from hwd] at hHeld HSd HOd HKd ⊢
     clear hwd HO HR HK k2 k3 k4 k5 k1 r1
     refine pure_ (i := 0) (N := some 78) (v := ?_) (a' := ?_) #[true, false, false, false, false, false, false, false, false, false, false, false, false, false, false, false, false, false, false] rfl rfl (by kernel_rfl) (fun _ _ _ h => h) (Or.inl ⟨by rfl, ?_⟩) ?_ ?_
     rotate_left
     ·intro w'
      go_simp
      with_reducible rfl
     rotate_left
     ·simp only [Act.put, List.setIfInBounds_toArray, List.set_cons_zero, List.set_cons_succ, i64_w, i32_w]
      rfl
     refine pure_ (i := 1) (N := some 79) (v := ?_) (a' := ?_) #[true, true, false, false, false, false, false, false, false, false, false, false, false, false, false, false, false, false, false] rfl rfl (by kernel_rfl) (fun _ _ _ h => h) (Or.inl ⟨by rfl, ?_⟩) ?_ ?_
     rotate_left
     ·intro w'
      go_simp
      with_reducible rfl
     rotate_left
     ·simp only [Act.put, List.setIfInBounds_toArray, List.set_cons_zero, List.set_cons_succ, i64_w, i32_w]
      rfl
     refine pure_ (i := 2) (N := some 80) (v := ?_) (a' := ?_) #[true, true, true, false, false, false, false, false, false, false, false, false, false, false, false, false, false, false, false] rfl rfl (by kernel_rfl) (fun _ _ _ h => h) (Or.inl ⟨by rfl, ?_⟩) ?_ ?_
     rotate_left
     ·intro w'
      go_simp
      with_reducible rfl
     rotate_left
     ·simp only [Act.put, List.setIfInBounds_toArray, List.set_cons_zero, List.set_cons_succ, i64_w, i32_w]
      rfl
     refine pure_ (i := 3) (N := some 81) (v := ?_) (a' := ?_) #[true, true, true, true, false, false, false, false, false, false, false, false, false, false, false, false, false, false, false] rfl rfl (by kernel_rfl) (fun _ _ _ h => h) (Or.inl ⟨by rfl, ?_⟩) ?_ ?_
     rotate_left
     ·intro w'
      go_simp
      with_reducible rfl
     rotate_left
     ·simp only [Act.put, List.setIfInBounds_toArray, List.set_cons_zero, List.set_cons_succ, i64_w, i32_w]
      rfl
     refine pure_ (i := 4) (N := some 82) (v := ?_) (a' := ?_) #[true, true, true, true, true, false, false, false, false, false, false, false, false, false, false, false, false, false, false] rfl rfl (by kernel_rfl) (fun _ _ _ h => h) (Or.inl ⟨by rfl, ?_⟩) ?_ ?_
     rotate_left
     ·intro w'
      go_simp
      with_reducible rfl
     rotate_left
     ·simp only [Act.put, List.setIfInBounds_toArray, List.set_cons_zero, List.set_cons_succ, i64_w, i32_w]
      rfl
     refine take_ (i := 5) (N := some 83) (v := ?_) (a' := ?_) #[true, true, true, true, true, true, false, false, false, false, false, false, false, false, false, false, false, false, false] rfl rfl (by kernel_rfl) (fun _ _ _ h => h) (Or.inl ⟨by rfl, ?_⟩) hHeld ?_ ?_
     rotate_left
     ·rintro w' ⟨s0, s1, s2, s3⟩
      go_simp
      with_reducible rfl
     rotate_left
     ·simp only [Act.put, List.setIfInBounds_toArray, List.set_cons_zero, List.set_cons_succ, i64_w, i32_w]
      rfl
     refine pure_ (i := 6) (N := some 84) (v := ?_) (a' := ?_) #[true, true, true, true, true, true, true, false, false, false, false, false, false, false, false, false, false, false, false] rfl rfl (by kernel_rfl) (fun _ _ _ h => h) (Or.inl ⟨by rfl, ?_⟩) ?_ ?_
     rotate_left
     ·intro w'
      go_simp
      with_reducible rfl
     rotate_left
     ·simp only [Act.put, List.setIfInBounds_toArray, List.set_cons_zero, List.set_cons_succ, i64_w, i32_w]
      rfl
     refine take_ (i := 7) (N := some 85) (v := ?_) (a' := ?_) #[true, true, true, true, true, true, true, true, false, false, false, false, false, false, false, false, false, false, false] rfl rfl (by kernel_rfl) (fun _ _ _ h => h) (Or.inl ⟨by rfl, ?_⟩) hHeld ?_ ?_
     rotate_left
     ·rintro w' ⟨s0, s1, s2, s3⟩
      go_simp
      with_reducible rfl
     rotate_left
     ·simp only [Act.put, List.setIfInBounds_toArray, List.set_cons_zero, List.set_cons_succ, i64_w, i32_w]
      rfl
     refine pure_ (i := 8) (N := some 86) (v := ?_) (a' := ?_) #[true, true, true, true, true, true, true, true, true, false, false, false, false, false, false, false, false, false, false] rfl rfl (by kernel_rfl) (fun _ _ _ h => h) (Or.inl ⟨by rfl, ?_⟩) ?_ ?_
     rotate_left
     ·intro w'
      go_simp
      with_reducible rfl
     rotate_left
     ·simp only [Act.put, List.setIfInBounds_toArray, List.set_cons_zero, List.set_cons_succ, i64_w, i32_w]
      rfl
     refine pure_ (i := 9) (N := some 87) (v := ?_) (a' := ?_) #[true, true, true, true, true, true, true, true, true, true, false, false, false, false, false, false, false, false, false] rfl rfl (by kernel_rfl) (fun _ _ _ h => h) (Or.inl ⟨by rfl, ?_⟩) ?_ ?_
     rotate_left
     ·intro w'
      go_simp
      with_reducible rfl
     rotate_left
     ·simp only [Act.put, List.setIfInBounds_toArray, List.set_cons_zero, List.set_cons_succ, i64_w, i32_w]
      rfl
     refine pure_ (i := 10) (N := some 88) (v := ?_) (a' := ?_) #[true, true, true, true, true, true, true, true, true, true, true, false, false, false, false, false, false, false, false] rfl rfl (by kernel_rfl) (fun _ _ _ h => h) (Or.inl ⟨by rfl, ?_⟩) ?_ ?_
     rotate_left
     ·intro w'
      go_simp
      with_reducible rfl
     rotate_left
     ·simp only [Act.put, List.setIfInBounds_toArray, List.set_cons_zero, List.set_cons_succ, i64_w, i32_w]
      rfl
     refine take_ (i := 11) (N := some 89) (v := ?_) (a' := ?_) #[true, true, true, true, true, true, true, true, true, true, true, true, false, false, false, false, false, false, false] rfl rfl (by kernel_rfl) (fun _ _ _ h => h) (Or.inl ⟨by rfl, ?_⟩) hHeld ?_ ?_
     rotate_left
     ·rintro w' ⟨s0, s1, s2, s3⟩
      go_simp
      with_reducible rfl
     rotate_left
     ·simp only [Act.put, List.setIfInBounds_toArray, List.set_cons_zero, List.set_cons_succ, i64_w, i32_w]
      rfl
     refine pure_ (i := 12) (N := some 90) (v := ?_) (a' := ?_) #[true, true, true, true, true, true, true, true, true, true, true, true, true, false, false, false, false, false, false] rfl rfl (by kernel_rfl) (fun _ _ _ h => h) (Or.inl ⟨by rfl, ?_⟩) ?_ ?_
     rotate_left
     ·intro w'
      go_simp
      with_reducible rfl
     rotate_left
     ·simp only [Act.put, List.setIfInBounds_toArray, List.set_cons_zero, List.set_cons_succ, i64_w, i32_w]
      rfl
     refine pure_ (i := 13) (N := some 91) (v := ?_) (a' := ?_) #[true, true, true, true, true, true, true, true, true, true, true, true, true, true, false, false, false, false, false] rfl rfl (by kernel_rfl) (fun _ _ _ h => h) (Or.inl ⟨by rfl, ?_⟩) ?_ ?_
     rotate_left
     ·intro w'
      go_simp
      with_reducible rfl
     rotate_left
     ·simp only [Act.put, List.setIfInBounds_toArray, List.set_cons_zero, List.set_cons_succ, i64_w, i32_w]
      rfl
     refine pure_ (i := 14) (N := some 92) (v := ?_) (a' := ?_) #[true, true, true, true, true, true, true, true, true, true, true, true, true, true, true, false, false, false, false] rfl rfl (by kernel_rfl) (fun _ _ _ h => h) (Or.inl ⟨by rfl, ?_⟩) ?_ ?_
     rotate_left
     ·intro w'
      go_simp
      with_reducible rfl
     rotate_left
     ·simp only [Act.put, List.setIfInBounds_toArray, List.set_cons_zero, List.set_cons_succ, i64_w, i32_w]
      rfl
     refine take_ (i := 15) (N := some 93) (v := ?_) (a' := ?_) #[true, true, true, true, true, true, true, true, true, true, true, true, true, true, true, true, false, false, false] rfl rfl (by kernel_rfl) (fun _ _ _ h => h) (Or.inl ⟨by rfl, ?_⟩) hHeld ?_ ?_
     rotate_left
     ·rintro w' ⟨s0, s1, s2, s3⟩
      go_simp
      with_reducible rfl
     rotate_left
     ·simp only [Act.put, List.setIfInBounds_toArray, List.set_cons_zero, List.set_cons_succ, i64_w, i32_w]
      rfl
     refine pure_ (i := 16) (N := some 94) (v := ?_) (a' := ?_) #[true, true, true, true, true, true, true, true, true, true, true, true, true, true, true, true, true, false, false] rfl rfl (by kernel_rfl) (fun _ _ _ h => h) (Or.inl ⟨by rfl, ?_⟩) ?_ ?_
     rotate_left
     ·intro w'
      go_simp
      with_reducible rfl
     rotate_left
     ·simp only [Act.put, List.setIfInBounds_toArray, List.set_cons_zero, List.set_cons_succ, i64_w, i32_w]
      rfl
     refine one_ (i := 17) (N := some 13) #[true, true, true, true, true, true, true, true, true, true, true, true, true, true, true, true, true, true, false] rfl rfl (by kernel_rfl) (by decide) (fun K hK => ?_)
     refine value_ (v := .pointer (some ⟨wd.heap.size, 0, none⟩)) (w1 := wd.alloc (.cells #[.int .i64 0, .string ⟨#[]⟩, .int .i64 0, .int .i64 0, .string ⟨#[]⟩] 33)) (by rfl) rfl (by go_simp) ?_
     have hba := below_alloc (Below.refl wd.heap.size wd) (.cells #[.int .i64 0, .string ⟨#[]⟩, .int .i64 0, .int .i64 0, .string ⟨#[]⟩] 33)
     refine hK.out _ _ (⟨(hba.cell (World.block_lt_of_cell? _ _ HSd.out.1)).trans HSd.out.1, (hba.cell (World.block_lt_of_cell? _ _ HSd.out.2.1)).trans HSd.out.2.1, (hba.cell (World.block_lt_of_cell? _ _ HSd.out.2.2.1)).trans HSd.out.2.2.1, (hba.cell (World.block_lt_of_cell? _ _ HSd.out.2.2.2)).trans HSd.out.2.2.2⟩) (fun hHeld => ?_)
     clear hK K
     refine norm_ (a' := ?_) ?_ ?_
     rotate_left
     ·show Act.put _ (some 13) _ = _
      simp only [Act.put, List.setIfInBounds_toArray, List.set_cons_zero, List.set_cons_succ, i64_w, i32_w]
      rfl
     clear hba
     refine one_ (i := 18) (N := none) #[true, true, true, true, true, true, true, true, true, true, true, true, true, true, true, true, true, true, true] rfl rfl (by kernel_rfl) (by decide) (fun K hK => ?_)
     refine skip_ (w1 := ((((((wd.alloc (.cells #[.int .i64 0, .string ⟨#[]⟩, .int .i64 0, .int .i64 0, .string ⟨#[]⟩] 33)).setCell ⟨wd.heap.size, 0, none⟩ (.int .i64 kv)).setCell ⟨wd.heap.size, 1, none⟩ (.string nm)).setCell ⟨wd.heap.size, 2, none⟩ (.int .i64 pv)).setCell ⟨wd.heap.size, 3, none⟩ (.int .i64 yv)).setCell ⟨wd.heap.size, 4, none⟩ (.string ⟨#[]⟩))) (by rfl) rfl (by go_simp; try rfl) ?_
     have hba : Below wd.heap.size wd ((((((wd.alloc (.cells #[.int .i64 0, .string ⟨#[]⟩, .int .i64 0, .int .i64 0, .string ⟨#[]⟩] 33)).setCell ⟨wd.heap.size, 0, none⟩ (.int .i64 kv)).setCell ⟨wd.heap.size, 1, none⟩ (.string nm)).setCell ⟨wd.heap.size, 2, none⟩ (.int .i64 pv)).setCell ⟨wd.heap.size, 3, none⟩ (.int .i64 yv)).setCell ⟨wd.heap.size, 4, none⟩ (.string ⟨#[]⟩)) := below_set (below_set (below_set (below_set (below_set (below_alloc (Below.refl wd.heap.size wd) _) (Nat.le_refl _)) (Nat.le_refl _)) (Nat.le_refl _)) (Nat.le_refl _)) (Nat.le_refl _)
     have hbk : ((((((wd.alloc (.cells #[.int .i64 0, .string ⟨#[]⟩, .int .i64 0, .int .i64 0, .string ⟨#[]⟩] 33)).setCell ⟨wd.heap.size, 0, none⟩ (.int .i64 kv)).setCell ⟨wd.heap.size, 1, none⟩ (.string nm)).setCell ⟨wd.heap.size, 2, none⟩ (.int .i64 pv)).setCell ⟨wd.heap.size, 3, none⟩ (.int .i64 yv)).setCell ⟨wd.heap.size, 4, none⟩ (.string ⟨#[]⟩)).heap[wd.heap.size]? = some (.cells #[.int .i64 kv, .string nm, .int .i64 pv, .int .i64 yv, .string ⟨#[]⟩] 33 (0, 0)) := (blk_set (blk_set (blk_set (blk_set (blk_set (blk_new wd _) 0 _) 1 _) 2 _) 3 _) 4 _).trans rfl
     refine hK.out _ _ (⟨(hba.cell (World.block_lt_of_cell? _ _ HSd.out.1)).trans HSd.out.1, (hba.cell (World.block_lt_of_cell? _ _ HSd.out.2.1)).trans HSd.out.2.1, (hba.cell (World.block_lt_of_cell? _ _ HSd.out.2.2.1)).trans HSd.out.2.2.1, (hba.cell (World.block_lt_of_cell? _ _ HSd.out.2.2.2)).trans HSd.out.2.2.2⟩) (fun hHeld => ?_)
     clear hK K
     clear hHeld HSd
     have HBk := Aside0.mk hbk
     have HOb := Aside0.mk (Kd.R_below (Kd.R_mono (Kd.R_bound HOd.out) (fun k hk => (⟨hk.1, by have := hk.2.2.1; omega⟩ : k ≠ g ∧ k ≠ wd.heap.size))) hba)
     have HRb := Aside0.mk (HRd.out.step hba)
     have HKb := Aside0.mk (HKd.out.trans (KeepBut.of_below hba g none) (.inl rfl))
     have HGB : Aside0 (g < wd.heap.size) := ⟨HRd.out.lt⟩
     have HGL : Aside0 (w5.heap.size ≤ wd.heap.size) := ⟨HKd.out.1⟩
     clear hbk hba HOd HRd HKd
     obtain ⟨gb, hgb⟩ : ∃ gb, wd.heap.size = gb := ⟨_, rfl⟩
     rw [hgb] at HBk HOb HRb HKb HGB HGL ⊢
     obtain ⟨wb, hwb⟩ : ∃ wb, ((((((wd.alloc (.cells #[.int .i64 0, .string ⟨#[]⟩, .int .i64 0, .int .i64 0, .string ⟨#[]⟩] 33)).setCell ⟨gb, 0, none⟩ (.int .i64 kv)).setCell ⟨gb, 1, none⟩ (.string nm)).setCell ⟨gb, 2, none⟩ (.int .i64 pv)).setCell ⟨gb, 3, none⟩ (.int .i64 yv)).setCell ⟨gb, 4, none⟩ (.string ⟨#[]⟩)) = wb := ⟨_, rfl⟩
     rw [hwb] at HBk HOb HRb HKb ⊢
     clear hwb hgb
     refine done_ (by kernel_rfl) ?_
     obtain ⟨A8, c8, ee8⟩ := Kd.R_slice HOb.out
     subst ee8
     have b0 : wb.cell? ⟨gb, 0, none⟩ = some (.int .i64 kv) := (blk_cell HBk.out 0).trans rfl
     have HTX := Aside0.mk (texted_f kv)
     have HBL := Aside0.mk HRb.out.bel.size
     by_cases htx : kv = 1 ∨ kv = 4
     ·rw [decide_eq_true htx] at HTX
      have HTT := Aside0.mk htx
      clear htx
      go_wp2_with (first | (go_at_call 21; refine (op_texted.calls kv true _ HTX.out).mono ?_; rintro e w' ⟨rfl, ⟨nd, rfl⟩⟩; have HR2 := Aside0.mk (HRb.out.step (pw_below_drewN (Below.refl _ _) nd)); have HO2 := Aside0.mk (Kd.R_drewN HOb.out nd); have HK2 := Aside0.mk (keep_drewN HKb.out nd); have HB2 := Aside0.mk (blk_drewN HBk.out nd); clear b0) | (go_at_call 43; refine (text_calls w _ g A6 c6 t 1024 (by decide) (by decide) HR2.out).mono ?_; rintro e_ w3 ⟨A7, c7, rfl, hr, hk⟩; have HR3 := Aside0.mk hr; have HO3 := Aside0.mk (Kd.R_keep HO2.out hk (fun k hk => hk.1)); have HK3 := Aside0.mk (HK2.out.trans hk (.inl rfl)); have HB3 := Aside0.mk (hk.blk HB2.out (fun e => by have := HGB.out; omega) (by simp)); clear hr hk; have f4 := blk_frozen HB3.out 4; have y4 : w3.cell? ⟨gb, 4, none⟩ = some (.string ⟨#[]⟩) := (blk_cell HB3.out 4).trans rfl; have HB4 : Aside0 ((w3.setCell ⟨gb, 4, none⟩ (.string (textS 1024 t).1)).heap[gb]? = some (.cells #[.int .i64 kv, .string nm, .int .i64 pv, .int .i64 yv, .string (textS 1024 t).1] 33 (0, 0))) := ⟨(blk_set HB3.out 4 _).trans rfl⟩; have z0 : (w3.setCell ⟨gb, 4, none⟩ (.string (textS 1024 t).1)).cell? ⟨gb, 0, none⟩ = some (.int .i64 kv) := (blk_cell HB4.out 0).trans rfl; have z1 : (w3.setCell ⟨gb, 4, none⟩ (.string (textS 1024 t).1)).cell? ⟨gb, 1, none⟩ = some (.string nm) := (blk_cell HB4.out 1).trans rfl; have z2 : (w3.setCell ⟨gb, 4, none⟩ (.string (textS 1024 t).1)).cell? ⟨gb, 2, none⟩ = some (.int .i64 pv) := (blk_cell HB4.out 2).trans rfl; have z3 : (w3.setCell ⟨gb, 4, none⟩ (.string (textS 1024 t).1)).cell? ⟨gb, 3, none⟩ = some (.int .i64 yv) := (blk_cell HB4.out 3).trans rfl; have z4 : (w3.setCell ⟨gb, 4, none⟩ (.string (textS 1024 t).1)).cell? ⟨gb, 4, none⟩ = some (.string (textS 1024 t).1) := (blk_cell HB4.out 4).trans rfl; have HGS : Aside0 (w.heap.size ≤ gb) := ⟨by have := HR3.out.lo; have := HGB.out; omega⟩; have HR4 := Aside0.mk (HR3.out.far HGS.out (fun e => by have := HGB.out; omega) 4 (.string (textS 1024 t).1)); have HO4_ := Aside0.mk (Kd.R_far (p := ⟨gb, 4, none⟩) HO3.out (fun k hk => hk.2) (.string (textS 1024 t).1)); have HK4 := Aside0.mk (keep_far2 HK3.out HGL.out 4 (.string (textS 1024 t).1)); clear HO3 HK3 HR3 HB3) | ((with_reducible refine gate_builtin (b := .append) (xs := #[.tmp 101, .tmp 103]) rfl ?_); at_builtin; refine Kd.R_append k33 (w0 := w3.setCell ⟨gb, 4, none⟩ (.string (textS 1024 t).1)) w5.heap.size rfl (.tmp 101) (.tmp 103) 22 33 (.agg #[.int .i64 0, .string ⟨#[]⟩, .int .i64 0, .int .i64 0, .string ⟨#[]⟩]) 56 rfl Try.underlying22 infoOp rfl (by decide) (by omega) (.slice A8 acc.length c8) acc (⟨kv, nm, pv, yv, (textS 1024 t).1⟩ : Sop) [.int .i64 kv, .string nm, .int .i64 pv, .int .i64 yv, .string (textS 1024 t).1] (fun k => k ≠ g) (fun _ => False) rfl (show Value.slice (some ⟨w3.heap.size, 0, none⟩) 1 1 = .slice (some ⟨(w3.setCell ⟨gb, 4, none⟩ (.string (textS 1024 t).1)).heap.size, 0, none⟩) 1 1 from by rw [cell_size]) ?aP (fun _ hk => hk.elim) ?aF ?aO ?aB ?aS ?aL ?_; (case aP => exact k33_mkM _ _ _ (⟨kv, nm, pv, yv, (textS 1024 t).1⟩ : Sop)); (case aB => exact Below.refl _ _); (case aF => exact (fun k hk => by have := HR4.out.lt; show k ≠ g; omega)); (case aO => exact Kd.R_mono HO4_.out (fun _ hk => hk.1)); (case aS => exact HK4.out.1); (case aL => (have := HL.out; have := HLN.out.1; omega)); intro v7 w7 ho hb hg hat; have HO7 := Aside0.mk ho; have HK7 := Aside0.mk (HK4.out.trans (KeepBut.of_grown hg g) (Kd.R_base2 HO4_.out)); have HR7 := Aside0.mk (HR4.out.grown hg (fun e => (HO4_.out.1 g e.symm).1 rfl) (HR4.out.bel.trans (hb.mono HW5.out))); clear ho hb hg hat))
      go_roundw
      case rel =>
       have hw : wrap64 ((j : Int) + 1) = ((j + 1 : Nat) : Int) := by have := HLN.out.1; unfold wrap64; omega
       refine ⟨j + 1, acc ++ [(⟨kv, nm, pv, yv, (textS 1024 t).1⟩ : Sop)], (textS 1024 t).2, A7, c7, hjl, by rw [hw], HO7, HR7, HK7, ⟨?_⟩, ⟨by rw [List.length_append, HL.out]; rfl⟩⟩
       rw [rowsS, HN.out]
       simp only [HV.out.1, HV.out.2.1, HV.out.2.2.1, HV.out.2.2.2]
       rw [rowS, if_neg (by have := HW.out; omega), if_pos HTT.out, Int.toNat_natCast, HNM.out]
      case measure =>
       have hw : wrap64 ((j : Int) + 1) = ((j + 1 : Nat) : Int) := by have := HLN.out.1; unfold wrap64; omega
       rw [hw]
       show x1.length - ((j + 1 : Nat) : Int).toNat < x1.length - ((j : Nat) : Int).toNat
       rw [Int.toNat_natCast, Int.toNat_natCast]
       omega
     ·rw [decide_eq_false htx] at HTX
      have HTT := Aside0.mk htx
      clear htx
      go_wp2_with (first | (go_at_call 21; refine (op_texted.calls kv false _ HTX.out).mono ?_; rintro e w' ⟨rfl, ⟨nd, rfl⟩⟩; have HR4 := Aside0.mk (HRb.out.step (pw_below_drewN (Below.refl _ _) nd)); have HO4_ := Aside0.mk (Kd.R_drewN HOb.out nd); have HK4 := Aside0.mk (keep_drewN HKb.out nd); have HB4 := Aside0.mk (blk_drewN HBk.out nd); clear b0; have z0 : (wb.drewN nd).cell? ⟨gb, 0, none⟩ = some (.int .i64 kv) := (blk_cell HB4.out 0).trans rfl; have z1 : (wb.drewN nd).cell? ⟨gb, 1, none⟩ = some (.string nm) := (blk_cell HB4.out 1).trans rfl; have z2 : (wb.drewN nd).cell? ⟨gb, 2, none⟩ = some (.int .i64 pv) := (blk_cell HB4.out 2).trans rfl; have z3 : (wb.drewN nd).cell? ⟨gb, 3, none⟩ = some (.int .i64 yv) := (blk_cell HB4.out 3).trans rfl; have z4 : (wb.drewN nd).cell? ⟨gb, 4, none⟩ = some (.string e0) := (blk_cell HB4.out 4).trans rfl) | ((with_reducible refine gate_builtin (b := .append) (xs := #[.tmp 101, .tmp 103]) rfl ?_); at_builtin; refine Kd.R_append k33 (w0 := wb.drewN nd) w5.heap.size rfl (.tmp 101) (.tmp 103) 22 33 (.agg #[.int .i64 0, .string ⟨#[]⟩, .int .i64 0, .int .i64 0, .string ⟨#[]⟩]) 56 rfl Try.underlying22 infoOp rfl (by decide) (by omega) (.slice A8 acc.length c8) acc (⟨kv, nm, pv, yv, e0⟩ : Sop) [.int .i64 kv, .string nm, .int .i64 pv, .int .i64 yv, .string e0] (fun k => k ≠ g) (fun _ => False) rfl (show Value.slice (some ⟨wb.heap.size, 0, none⟩) 1 1 = .slice (some ⟨(wb.drewN nd).heap.size, 0, none⟩) 1 1 from by rw [dn_heap]) ?aP (fun _ hk => hk.elim) ?aF ?aO ?aB ?aS ?aL ?_; (case aP => exact k33_mkM _ _ _ (⟨kv, nm, pv, yv, e0⟩ : Sop)); (case aB => exact Below.refl _ _); (case aF => exact (fun k hk => by have := HR4.out.lt; show k ≠ g; omega)); (case aO => exact Kd.R_mono HO4_.out (fun _ hk => hk.1)); (case aS => exact HK4.out.1); (case aL => (have := HL.out; have := HLN.out.1; omega)); intro v7 w7 ho hb hg hat; have HO7 := Aside0.mk ho; have HK7 := Aside0.mk (HK4.out.trans (KeepBut.of_grown hg g) (Kd.R_base2 HO4_.out)); have HR7 := Aside0.mk (HR4.out.grown hg (fun e => (HO4_.out.1 g e.symm).1 rfl) (HR4.out.bel.trans (hb.mono HW5.out))); clear ho hb hg hat))
      go_roundw
      case rel =>
       have hw : wrap64 ((j : Int) + 1) = ((j + 1 : Nat) : Int) := by have := HLN.out.1; unfold wrap64; omega
       refine ⟨j + 1, acc ++ [(⟨kv, nm, pv, yv, e0⟩ : Sop)], t, A6, c6, hjl, by rw [hw], HO7, HR7, HK7, ⟨?_⟩, ⟨by rw [List.length_append, HL.out]; rfl⟩⟩
       rw [rowsS, HN.out]
       simp only [HV.out.1, HV.out.2.1, HV.out.2.2.1, HV.out.2.2.2]
       rw [rowS, if_neg (by have := HW.out; omega), if_neg HTT.out, Int.toNat_natCast, HNM.out]
      case measure =>
       have hw : wrap64 ((j : Int) + 1) = ((j + 1 : Nat) : Int) := by have := HLN.out.1; unfold wrap64; omega
       rw [hw]
       show x1.length - ((j + 1 : Nat) : Int).toNat < x1.length - ((j : Nat) : Int).toNat
       rw [Int.toNat_natCast, Int.toNat_natCast]
       omega
  ·obtain rfl : j = x1.length := by omega
   have hgs := get_some HLO.out HCOL.out HN.out
   have HG := Aside0.mk hgs
   clear hgs hjl
   obtain ⟨A8, c8, ee8⟩ := Kd.R_slice HO.out
   subst ee8
   have HLA : Aside0 (acc.length ≤ 256) := ⟨by have := HL.out; have := HLN.out.1; omega⟩
   have HPU := Aside0.mk (Put_calls A8 c8 acc wr (Kd.R_reads' HO.out).2.2 HLA.out)
   have HPY := Aside0.mk (putB_bytes acc)
   obtain ⟨PE, hPE⟩ : ∃ E, putE acc = E := ⟨_, rfl⟩
   obtain ⟨PB, hPB⟩ : ∃ B, putB acc = B := ⟨_, rfl⟩
   rw [hPE, hPB] at HPU
   rw [hPB] at HPY
   have HPP := Aside0.mk (And.intro hPE hPB)
   clear hPE hPB
   go_upto_region 21 with (go_at_call 9; refine HPU.out.mono ?_; rintro e_ w7 ⟨v7, rfl, ho, hb⟩; have HO7 := Aside0.mk ho; have HR7 := Aside0.mk (HR.out.step hb); have HA7 := Aside0.mk (Kd.R_below HO.out hb); clear ho hb)
   clear HPU
   obtain ⟨A9, c9, ee9⟩ := Kd.R_slice HO7.out
   subst ee9
   have hst1 := Kd.C_string (P := Try.prog) (c := c9) Try.underlying23 Try.underlying5 Try.underlying9 (Kd.R_reads' HO7.out).2.2
   have hst2 := Kd.C_string (P := Try.prog) (c := c0) Try.underlying23 Try.underlying5 Try.underlying9 (Kd.C_below HR0.out HR7.out.bel)
   have r1 := HR7.out.c1
   by_cases hbad : t.2 = true
   ·rw [hbad] at r1
    have hx : endS b acc t = ([], 4) := if_neg (by rw [hbad]; exact fun h => absurd h.1 (by decide))
    clear hbad
    have HX := Aside0.mk hx
    clear hx
    go_wp2
    go_ret2
    exact ⟨_, by rw [HG.out, HX.out]; rfl, by rw [HG.out, HX.out]; exact Kd.R_nil _ _ _ _ _, HR7.out.bel⟩
   ·have hbf : t.2 = false := by simpa using hbad
    rw [hbf] at r1
    have HBF := Aside0.mk hbf
    clear hbad hbf
    by_cases hE : PE = 0
    ·have p0 : (PE == 0) = true := beq_iff_eq.mpr hE
     have p1 : (PE != 0) = false := by rw [hE]; rfl
     have HEE := Aside0.mk hE
     clear hE
     by_cases hq : (strOfNums PB).toList = (strOfNums b).toList
     ·have q0 : ((strOfNums PB).toList == (strOfNums b).toList) = true := beq_iff_eq.mpr hq
      have q1 : ((strOfNums PB).toList != (strOfNums b).toList) = false := bne_eq_false_iff_eq.mpr hq
      have hx : endS b acc t = (acc, 0) := if_pos ⟨HBF.out, HPP.out.1.trans HEE.out, HPP.out.2.trans (str_eq7 HPY.out HBY.out hq)⟩
      have HX := Aside0.mk hx
      clear hx hq
      go_wp2
      go_ret2
      exact ⟨_, by rw [HG.out, HX.out]; rfl, by rw [HG.out, HX.out]; exact Kd.R_mono (Kd.R_lower HA7.out HW5.out) (fun _ _ => trivial), HR7.out.bel⟩
     ·have q0 : ((strOfNums PB).toList == (strOfNums b).toList) = false := beq_eq_false_iff_ne.mpr hq
      have q1 : ((strOfNums PB).toList != (strOfNums b).toList) = true := bne_iff_ne.mpr hq
      have hx : endS b acc t = ([], 4) := if_neg (fun h => hq (by rw [← HPP.out.2, h.2.2]))
      clear hq
      have HX := Aside0.mk hx
      clear hx
      go_wp2
      go_ret2
      exact ⟨_, by rw [HG.out, HX.out]; rfl, by rw [HG.out, HX.out]; exact Kd.R_nil _ _ _ _ _, HR7.out.bel⟩
    ·have p0 : (PE == 0) = false := beq_eq_false_iff_ne.mpr hE
     have p1 : (PE != 0) = true := bne_iff_ne.mpr hE
     have hx : endS b acc t = ([], 4) := if_neg (fun h => hE (by rw [← HPP.out.1]; exact h.2.1))
     clear hE
     have HX := Aside0.mk hx
     clear hx
     go_wp2
     go_ret2
     exact ⟨_, by rw [HG.out, HX.out]; rfl, by rw [HG.out, HX.out]; exact Kd.R_nil _ _ _ _ _, HR7.out.bel⟩
end Go.Proofs.Ytpnnjefhchppfaa.Op

set_option linter.unusedVariables false
set_option linter.unusedSimpArgs false
namespace Go.Proofs.Ytpnnjefhchppfaa.PA
open Go Go.RowKit Go.Proofs.YtpnnjefhchppfaaW.PrintWords Go.Proofs.YtpnnjefhchppfaaW.PrintLast Go.Proofs.YtpnnjefhchppfaaW.PrintMore
def op_Put.f (l : List S33) : Option (List Int × Int) := some (Op.putR l)
theorem op_Put.calls (A0 : Option Addr) (c0 : Nat) (l0 : List (S33)) (r1 : List Int) (r2 : Int) (w : World) (hr0 : Kd.C k33 w A0 l0.length l0) (hc0 : l0.length ≤ c0) (h : op_Put.f l0 = some (r1, r2)) :
    Calls Try.prog 9 #[.slice A0 l0.length c0] w fun e w' => ∃ v0_ : Value, e = .returned (.tuple #[v0_, .int .i64 r2]) ∧ Kd.R (Kd.int .u8) 5 w' w.heap.size (fun _ => True) v0_ r1 ∧ Below w.heap.size w w' := by
  unfold op_Put.f Op.putR at h
  split at h
  · rename_i hl
    injection h with h
    rw [Prod.mk.injEq] at h
    obtain ⟨rfl, rfl⟩ := h
    exact Op.Put_long A0 c0 l0 w hl
  · rename_i hl
    injection h with h
    rw [Prod.mk.injEq] at h
    obtain ⟨rfl, rfl⟩ := h
    exact Op.Put_calls A0 c0 l0 w hr0 (by omega)
def bytesB (l : List Int) : Bool := (l.all fun x => decide (0 ≤ x ∧ x < 256)) && decide (l.length ≤ 140737488351232)
theorem bytesB_of {l : List Int} (h : bytesB l = true) : (∀ x ∈ l, LebT.isByte x) ∧ l.length ≤ 140737488351232 := by
  unfold bytesB at h
  rw [Bool.and_eq_true, List.all_eq_true] at h
  exact ⟨fun x hx => (of_decide_eq_true (h.1 x hx) : 0 ≤ x ∧ x < 256), of_decide_eq_true h.2⟩
theorem bytesB_to {l : List Int} (h : ∀ x ∈ l, LebT.isByte x) (h2 : l.length ≤ 140737488351232) : bytesB l = true := by
  unfold bytesB
  rw [Bool.and_eq_true, List.all_eq_true]
  exact ⟨fun x hx => decide_eq_true (p := 0 ≤ x ∧ x < 256) (h x hx), decide_eq_true h2⟩
def op_Get.f (l : List Int) : Option (List S33 × Int) := if bytesB l = true then some (Op.getS l) else none
theorem op_Get.calls (A0 : Option Addr) (c0 : Nat) (l0 : List Int) (r1 : List S33) (r2 : Int) (w : World) (hr0 : Kd.C (Kd.int .u8) w A0 l0.length l0) (hc0 : l0.length ≤ c0) (h : op_Get.f l0 = some (r1, r2)) :
    Calls Try.prog 17 #[.slice A0 l0.length c0] w fun e w' => ∃ v0_ : Value, e = .returned (.tuple #[v0_, .int .i64 r2]) ∧ Kd.R k33 33 w' w.heap.size (fun _ => True) v0_ r1 ∧ Below w.heap.size w w' := by
  unfold op_Get.f at h
  split at h
  case isFalse => cases h
  rename_i hb
  obtain ⟨hb, hl⟩ := bytesB_of hb
  injection h with h
  have := Op.Get_calls A0 c0 l0 w hr0 hc0 hb hl
  unfold Op.GetPost at this
  rw [h] at this
  exact this
end Go.Proofs.Ytpnnjefhchppfaa.PA

namespace Go.Proofs.Ytpnnjefhchppfaa.PA
open Go.RowKit Go.Proofs.YtpnnjefhchppfaaW.PrintWords Go.Proofs.YtpnnjefhchppfaaW.PrintLast Go.Proofs.YtpnnjefhchppfaaW.PrintMore
attribute [local go_sem] max2_int min2_int max_two min_two max_three min_three max_four min_four
set_option linter.unusedVariables false
set_option linter.unusedSimpArgs false

def stemmalaw07_awake.f  : Option (Bool) := (op_Put.f (([(⟨2, (⟨#[97]⟩ : ByteArray), 0, 0, (⟨#[]⟩ : ByteArray)⟩ : S33)] : List (S33)))).bind fun bt325 => ((op_Get.f bt325.1).bind fun bt329 => (if (strOfNums bt325.1).toList = ([1, 1, 2, 1, 1, 97, 1, 1, 0, 1, 1, 0, 1, 1, 0] : List UInt8) then (if bt325.2 = 0 then (if bt329.2 = 0 then (if (bt329.1.length : Int) = 1 then (if 0 < (bt329.1.length : Int) then (if ((rd_T33 bt329.1 0).f1).toList = ([97] : List UInt8) then (if ((rd_T33 bt329.1 0).f0) = 2 then (some true) else (some false)) else (some false)) else (none)) else (some false)) else (some false)) else (some false)) else (some false)))
set_option maxHeartbeats 8000000 in
set_option maxRecDepth 100000 in
theorem stemmalaw07_awake.calls  (r : Bool) (w : World) (h : stemmalaw07_awake.f  = some r) :
  Calls Try.prog 12 #[] w fun e w' => e = .returned (.bool r) ∧ Below w.heap.size w w' := by
 have hu33 := Try.underlying33
 have HB := Aside0.mk (Below.refl w.heap.size w)
 have H : ((op_Put.f (([(⟨2, (⟨#[97]⟩ : ByteArray), 0, 0, (⟨#[]⟩ : ByteArray)⟩ : S33)] : List (S33)))).bind fun bt325 => ((op_Get.f bt325.1).bind fun bt329 => (if (strOfNums bt325.1).toList = ([1, 1, 2, 1, 1, 97, 1, 1, 0, 1, 1, 0, 1, 1, 0] : List UInt8) then (if bt325.2 = 0 then (if bt329.2 = 0 then (if (bt329.1.length : Int) = 1 then (if 0 < (bt329.1.length : Int) then (if ((rd_T33 bt329.1 0).f1).toList = ([97] : List UInt8) then (if ((rd_T33 bt329.1 0).f0) = 2 then (some true) else (some false)) else (some false)) else (none)) else (some false)) else (some false)) else (some false)) else (some false)))) = some r := h
 clear h
 obtain ⟨y322, hy322⟩ : ∃ y_ : List (S33), y_ = (([(⟨2, (⟨#[97]⟩ : ByteArray), 0, 0, (⟨#[]⟩ : ByteArray)⟩ : S33)] : List (S33))) := ⟨_, rfl⟩
 replace H : ((op_Put.f y322).bind fun bt325 => ((op_Get.f bt325.1).bind fun bt329 => (if (strOfNums bt325.1).toList = ([1, 1, 2, 1, 1, 97, 1, 1, 0, 1, 1, 0, 1, 1, 0] : List UInt8) then (if bt325.2 = 0 then (if bt329.2 = 0 then (if (bt329.1.length : Int) = 1 then (if 0 < (bt329.1.length : Int) then (if ((rd_T33 bt329.1 0).f1).toList = ([97] : List UInt8) then (if ((rd_T33 bt329.1 0).f0) = 2 then (some true) else (some false)) else (some false)) else (none)) else (some false)) else (some false)) else (some false)) else (some false)))) = some r := by first | (rw [hy322]; with_reducible exact H) | (have H2_ := (Option.bind_some _ _).symm.trans H; rw [hy322]; with_reducible exact H2_) | (have H2_ := (Option.bind_some _ _).symm.trans H; with_reducible exact H2_) | with_reducible exact H | (rw [hy322]; exact H) | exact H
 have Ny322 := Aside0.mk hy322
 clear hy322
 replace H := Option.bind_eq_some_iff.mp H
 obtain ⟨⟨t325, t326⟩, A10, H⟩ := H
 replace H : ((op_Get.f t325).bind fun bt329 => (if (strOfNums t325).toList = ([1, 1, 2, 1, 1, 97, 1, 1, 0, 1, 1, 0, 1, 1, 0] : List UInt8) then (if t326 = 0 then (if bt329.2 = 0 then (if (bt329.1.length : Int) = 1 then (if 0 < (bt329.1.length : Int) then (if ((rd_T33 bt329.1 0).f1).toList = ([97] : List UInt8) then (if ((rd_T33 bt329.1 0).f0) = 2 then (some true) else (some false)) else (some false)) else (none)) else (some false)) else (some false)) else (some false)) else (some false))) = some r := H
 have A1 := Aside0.mk A10
 clear A10
 replace H := Option.bind_eq_some_iff.mp H
 obtain ⟨⟨t329, t330⟩, A20, H⟩ := H
 replace H : (if (strOfNums t325).toList = ([1, 1, 2, 1, 1, 97, 1, 1, 0, 1, 1, 0, 1, 1, 0] : List UInt8) then (if t326 = 0 then (if t330 = 0 then (if (t329.length : Int) = 1 then (if 0 < (t329.length : Int) then (if ((rd_T33 t329 0).f1).toList = ([97] : List UInt8) then (if ((rd_T33 t329 0).f0) = 2 then (some true) else (some false)) else (some false)) else (none)) else (some false)) else (some false)) else (some false)) else (some false)) = some r := H
 have A2 := Aside0.mk A20
 clear A20
 by_cases c3 : (strOfNums t325).toList = ([1, 1, 2, 1, 1, 97, 1, 1, 0, 1, 1, 0, 1, 1, 0] : List UInt8)
 ·rw [if_pos c3] at H
  have c3b0 : ((strOfNums t325).toList == ([1, 1, 2, 1, 1, 97, 1, 1, 0, 1, 1, 0, 1, 1, 0] : List UInt8)) = true := beq_iff_eq.mpr c3
  have c3b1 : ((strOfNums t325).toList != ([1, 1, 2, 1, 1, 97, 1, 1, 0, 1, 1, 0, 1, 1, 0] : List UInt8)) = false := bne_eq_false_iff_eq.mpr c3
  clear c3
  by_cases c4 : t326 = 0
  ·rw [if_pos c4] at H
   have c4b0 : (t326 == 0) = true := beq_iff_eq.mpr c4
   have c4b1 : (t326 != 0) = false := bne_eq_false_iff_eq.mpr c4
   clear c4
   by_cases c5 : t330 = 0
   ·rw [if_pos c5] at H
    have c5b0 : (t330 == 0) = true := beq_iff_eq.mpr c5
    have c5b1 : (t330 != 0) = false := bne_eq_false_iff_eq.mpr c5
    clear c5
    by_cases c6 : (t329.length : Int) = 1
    ·rw [if_pos c6] at H
     have c6b0 : ((t329.length : Int) == 1) = true := beq_iff_eq.mpr c6
     have c6b1 : ((t329.length : Int) != 1) = false := bne_eq_false_iff_eq.mpr c6
     clear c6
     by_cases c7 : 0 < (t329.length : Int)
     ·rw [if_pos c7] at H
      have c7b0 : decide (0 < (t329.length : Int)) = true := decide_eq_true c7
      have c7b1 : decide (0 < t329.length) = true := decide_eq_true (by omega)
      clear c7
      by_cases c8 : ((rd_T33 t329 0).f1).toList = ([97] : List UInt8)
      ·rw [if_pos c8] at H
       have c8b0 : (((rd_T33 t329 0).f1).toList == ([97] : List UInt8)) = true := beq_iff_eq.mpr c8
       have c8b1 : (((rd_T33 t329 0).f1).toList != ([97] : List UInt8)) = false := bne_eq_false_iff_eq.mpr c8
       clear c8
       by_cases c9 : ((rd_T33 t329 0).f0) = 2
       ·rw [if_pos c9] at H
        have c9b0 : (((rd_T33 t329 0).f0) == 2) = true := beq_iff_eq.mpr c9
        have c9b1 : (((rd_T33 t329 0).f0) != 2) = false := bne_eq_false_iff_eq.mpr c9
        clear c9
        obtain rfl := Option.some.inj H
        go_enter Try.func12, Try.ntmps12
        go_wp2_with (first | ((with_reducible refine gate_dst (N := 7) rfl ?_); (try (refine gate_guard (by rfl) ?_; dsimp only)); refine Kd.R_lit k33 _ 33 ?hg (N := 7) ?hd (xs := ([(⟨2, (⟨#[97]⟩ : ByteArray), 0, 0, (⟨#[]⟩ : ByteArray)⟩ : S33)] : List (S33))) (inner := [.int .i64 2, .string (⟨#[97]⟩ : ByteArray), .int .i64 0, .int .i64 0, .string (⟨#[]⟩ : ByteArray)]) (ok := fun _ => True) (okp := fun _ => True) ?hr ?hp (fun _ hk => hk) trivial (Below.refl _ _) (Nat.le_refl _) (by simp) ?_; (case hd => rfl); (case hg => rfl); (case hr => first | (go_simp; done) | (go_simp; rfl)); (case hp => exact (Reps.c5 (show Kd.M k33 _ _ _ (⟨2, (⟨#[97]⟩ : ByteArray), 0, 0, (⟨#[]⟩ : ByteArray)⟩ : S33) [.int .i64 2, .string (⟨#[97]⟩ : ByteArray), .int .i64 0, .int .i64 0, .string (⟨#[]⟩ : ByteArray)] from (k33_mkM _ _ _ (⟨2, (⟨#[97]⟩ : ByteArray), 0, 0, (⟨#[]⟩ : ByteArray)⟩ : S33) )) (Reps.none _ _))); intro v323 w10 ho11 hb hg_ hnew_; clear hg_ hnew_; (first | rw [← Ny322.out] at ho11 | (simp only [Int.reduceToNat] at ho11; rw [← Ny322.out] at ho11)); have n0_ := Aside0.mk (Kd.R_lower ho11 (below_size (zb_ HB.out))); have n1_ := Aside0.mk (below_step (zb_ HB.out) hb); clear HB; have HO324 := n0_; have HB := n1_; clear n0_ n1_; clear hb ho11; obtain ⟨Ao12, co12, eo12⟩ := Kd.R_slice HO324.out; subst eo12) | ((with_reducible refine gate_callee (f := 9) rfl ?_); refine goesL_ (some 8) rfl rfl Try.func9 (by kernel_rfl) rfl #[.slice Ao12 y322.length co12] rfl zc_ ?_; (with_reducible refine (op_Put.calls _ _ y322 t325 t326 _ ?side1 ?side2 A1.out).mono ?_); (case side1 => repeat (first | exact (Kd.R_reads' HO324.out).2.2 | (with_reducible refine Kd.C_alloc ?_ _) | (with_reducible refine Kd.C_drewN ?_ _) | (with_reducible refine Kd.C_drew ?_))); (case side2 => exact (Kd.R_reads' HO324.out).2.1); rintro e w13 ⟨v327, rfl, ho0, hb⟩; refine ⟨_, rfl, ?_⟩; have n0_ := Aside0.mk (Kd.R_below (zr_ HO324.out) hb); have n1_ := Aside0.mk (Kd.R_lower ho0 (below_size (zb_ HB.out))); have n2_ := Aside0.mk (below_step (zb_ HB.out) hb); clear HO324; clear HB; have HO324 := n0_; have HO328 := n1_; have HB := n2_; clear n0_ n1_ n2_; (try clear hb); (try clear hb2); (try clear hk); (try clear hi); (try clear ho0); obtain ⟨Ao14, co14, eo14⟩ := Kd.R_slice HO328.out; subst eo14) | ((with_reducible refine gate_callee (f := 17) rfl ?_); refine goesL_ (some 13) rfl rfl Try.func17 (by kernel_rfl) rfl #[.slice Ao14 t325.length co14] rfl zc_ ?_; (with_reducible refine (op_Get.calls _ _ t325 t329 t330 _ ?side1 ?side2 A2.out).mono ?_); (case side1 => repeat (first | exact (Kd.R_reads' HO328.out).2.2 | (with_reducible refine Kd.C_alloc ?_ _) | (with_reducible refine Kd.C_drewN ?_ _) | (with_reducible refine Kd.C_drew ?_))); (case side2 => exact (Kd.R_reads' HO328.out).2.1); rintro e w15 ⟨v331, rfl, ho0, hb⟩; refine ⟨_, rfl, ?_⟩; have n0_ := Aside0.mk (Kd.R_elder' (zr_ HO324.out) (Kd.R_base ho0) hb); have n1_ := Aside0.mk (Kd.R_below (zr_ HO328.out) hb); have n2_ := Aside0.mk (Kd.R_lower (Kd.R_new' ho0 (Kd.R_lt (zr_ HO324.out))) (below_size (zb_ HB.out))); have n3_ := Aside0.mk (below_step (zb_ HB.out) hb); clear HO324; clear HO328; clear HB; have HO324 := n0_; have HO328 := n1_; have HO332 := n2_; have HB := n3_; clear n0_ n1_ n2_ n3_; (try clear hb); (try clear hb2); (try clear hk); (try clear hi); (try clear ho0); have hcv16 := own_string (P := Try.prog) Try.underlying23 Try.underlying5 Try.underlying9 (Kd.own_of_R HO328.out); have hcd16 := fun m_ : Nat => own_string (P := Try.prog) Try.underlying23 Try.underlying5 Try.underlying9 (Kd.own_of_R (Kd.R_drewN HO328.out m_)); obtain ⟨Ao17, co17, eo17⟩ := Kd.R_slice HO332.out; subst eo17; have p333 : 0 ≤ (0 : Int) := (by omega); have q333 : 0 < (t329.length : Int) := of_decide_eq_true (by first | (with_reducible assumption) | assumption); obtain ⟨ad333, e333, hx333_0, hx333_1, hx333_2, hx333_3, hx333_4⟩ := at_T33 (Kd.R_reads' HO332.out).2.2 0 p333 q333; cases e333; have qi333 : (0 < t329.length) = True := eq_true (by omega); (try rw [show ((0 : Int)).toNat = 0 from rfl] at hx333_0); (try rw [show 0 * 5 = 0 from rfl] at hx333_0); (try rw [Addr.add_zero'] at hx333_0); (try rw [show ((0 : Int)).toNat = 0 from rfl] at hx333_1); (try rw [show 0 * 5 = 0 from rfl] at hx333_1); (try rw [Addr.add_zero'] at hx333_1); (try rw [show ((0 : Int)).toNat = 0 from rfl] at hx333_2); (try rw [show 0 * 5 = 0 from rfl] at hx333_2); (try rw [Addr.add_zero'] at hx333_2); (try rw [show ((0 : Int)).toNat = 0 from rfl] at hx333_3); (try rw [show 0 * 5 = 0 from rfl] at hx333_3); (try rw [Addr.add_zero'] at hx333_3); (try rw [show ((0 : Int)).toNat = 0 from rfl] at hx333_4); (try rw [show 0 * 5 = 0 from rfl] at hx333_4); (try rw [Addr.add_zero'] at hx333_4); replace p333 := eq_true p333; replace q333 := eq_true q333; have p334 : 0 ≤ (0 : Int) := (by omega); have q334 : 0 < (t329.length : Int) := of_decide_eq_true (by first | (with_reducible assumption) | assumption); obtain ⟨ad334, e334, hx334_0, hx334_1, hx334_2, hx334_3, hx334_4⟩ := at_T33 (Kd.R_reads' HO332.out).2.2 0 p334 q334; obtain rfl : ad333 = ad334 := (by injection e334); have qi334 : (0 < t329.length) = True := eq_true (by omega); (try rw [show ((0 : Int)).toNat = 0 from rfl] at hx334_0); (try rw [show 0 * 5 = 0 from rfl] at hx334_0); (try rw [Addr.add_zero'] at hx334_0); (try rw [show ((0 : Int)).toNat = 0 from rfl] at hx334_1); (try rw [show 0 * 5 = 0 from rfl] at hx334_1); (try rw [Addr.add_zero'] at hx334_1); (try rw [show ((0 : Int)).toNat = 0 from rfl] at hx334_2); (try rw [show 0 * 5 = 0 from rfl] at hx334_2); (try rw [Addr.add_zero'] at hx334_2); (try rw [show ((0 : Int)).toNat = 0 from rfl] at hx334_3); (try rw [show 0 * 5 = 0 from rfl] at hx334_3); (try rw [Addr.add_zero'] at hx334_3); (try rw [show ((0 : Int)).toNat = 0 from rfl] at hx334_4); (try rw [show 0 * 5 = 0 from rfl] at hx334_4); (try rw [Addr.add_zero'] at hx334_4); replace p334 := eq_true p334; replace q334 := eq_true q334))
        go_ret
        exact ⟨zd_, by repeat (first | (with_reducible first | exact HB.out | apply below_alloc | apply pw_below_drewN | apply below_drew1) | exact HB.out)⟩
       ·rw [if_neg c9] at H
        have c9b0 : (((rd_T33 t329 0).f0) == 2) = false := beq_eq_false_iff_ne.mpr c9
        have c9b1 : (((rd_T33 t329 0).f0) != 2) = true := bne_iff_ne.mpr c9
        obtain rfl := Option.some.inj H
        go_enter Try.func12, Try.ntmps12
        go_wp2_with (first | ((with_reducible refine gate_dst (N := 7) rfl ?_); (try (refine gate_guard (by rfl) ?_; dsimp only)); refine Kd.R_lit k33 _ 33 ?hg (N := 7) ?hd (xs := ([(⟨2, (⟨#[97]⟩ : ByteArray), 0, 0, (⟨#[]⟩ : ByteArray)⟩ : S33)] : List (S33))) (inner := [.int .i64 2, .string (⟨#[97]⟩ : ByteArray), .int .i64 0, .int .i64 0, .string (⟨#[]⟩ : ByteArray)]) (ok := fun _ => True) (okp := fun _ => True) ?hr ?hp (fun _ hk => hk) trivial (Below.refl _ _) (Nat.le_refl _) (by simp) ?_; (case hd => rfl); (case hg => rfl); (case hr => first | (go_simp; done) | (go_simp; rfl)); (case hp => exact (Reps.c5 (show Kd.M k33 _ _ _ (⟨2, (⟨#[97]⟩ : ByteArray), 0, 0, (⟨#[]⟩ : ByteArray)⟩ : S33) [.int .i64 2, .string (⟨#[97]⟩ : ByteArray), .int .i64 0, .int .i64 0, .string (⟨#[]⟩ : ByteArray)] from (k33_mkM _ _ _ (⟨2, (⟨#[97]⟩ : ByteArray), 0, 0, (⟨#[]⟩ : ByteArray)⟩ : S33) )) (Reps.none _ _))); intro v323 w18 ho19 hb hg_ hnew_; clear hg_ hnew_; (first | rw [← Ny322.out] at ho19 | (simp only [Int.reduceToNat] at ho19; rw [← Ny322.out] at ho19)); have n0_ := Aside0.mk (Kd.R_lower ho19 (below_size (zb_ HB.out))); have n1_ := Aside0.mk (below_step (zb_ HB.out) hb); clear HB; have HO324 := n0_; have HB := n1_; clear n0_ n1_; clear hb ho19; obtain ⟨Ao20, co20, eo20⟩ := Kd.R_slice HO324.out; subst eo20) | ((with_reducible refine gate_callee (f := 9) rfl ?_); refine goesL_ (some 8) rfl rfl Try.func9 (by kernel_rfl) rfl #[.slice Ao20 y322.length co20] rfl zc_ ?_; (with_reducible refine (op_Put.calls _ _ y322 t325 t326 _ ?side1 ?side2 A1.out).mono ?_); (case side1 => repeat (first | exact (Kd.R_reads' HO324.out).2.2 | (with_reducible refine Kd.C_alloc ?_ _) | (with_reducible refine Kd.C_drewN ?_ _) | (with_reducible refine Kd.C_drew ?_))); (case side2 => exact (Kd.R_reads' HO324.out).2.1); rintro e w21 ⟨v327, rfl, ho0, hb⟩; refine ⟨_, rfl, ?_⟩; have n0_ := Aside0.mk (Kd.R_below (zr_ HO324.out) hb); have n1_ := Aside0.mk (Kd.R_lower ho0 (below_size (zb_ HB.out))); have n2_ := Aside0.mk (below_step (zb_ HB.out) hb); clear HO324; clear HB; have HO324 := n0_; have HO328 := n1_; have HB := n2_; clear n0_ n1_ n2_; (try clear hb); (try clear hb2); (try clear hk); (try clear hi); (try clear ho0); obtain ⟨Ao22, co22, eo22⟩ := Kd.R_slice HO328.out; subst eo22) | ((with_reducible refine gate_callee (f := 17) rfl ?_); refine goesL_ (some 13) rfl rfl Try.func17 (by kernel_rfl) rfl #[.slice Ao22 t325.length co22] rfl zc_ ?_; (with_reducible refine (op_Get.calls _ _ t325 t329 t330 _ ?side1 ?side2 A2.out).mono ?_); (case side1 => repeat (first | exact (Kd.R_reads' HO328.out).2.2 | (with_reducible refine Kd.C_alloc ?_ _) | (with_reducible refine Kd.C_drewN ?_ _) | (with_reducible refine Kd.C_drew ?_))); (case side2 => exact (Kd.R_reads' HO328.out).2.1); rintro e w23 ⟨v331, rfl, ho0, hb⟩; refine ⟨_, rfl, ?_⟩; have n0_ := Aside0.mk (Kd.R_elder' (zr_ HO324.out) (Kd.R_base ho0) hb); have n1_ := Aside0.mk (Kd.R_below (zr_ HO328.out) hb); have n2_ := Aside0.mk (Kd.R_lower (Kd.R_new' ho0 (Kd.R_lt (zr_ HO324.out))) (below_size (zb_ HB.out))); have n3_ := Aside0.mk (below_step (zb_ HB.out) hb); clear HO324; clear HO328; clear HB; have HO324 := n0_; have HO328 := n1_; have HO332 := n2_; have HB := n3_; clear n0_ n1_ n2_ n3_; (try clear hb); (try clear hb2); (try clear hk); (try clear hi); (try clear ho0); have hcv24 := own_string (P := Try.prog) Try.underlying23 Try.underlying5 Try.underlying9 (Kd.own_of_R HO328.out); have hcd24 := fun m_ : Nat => own_string (P := Try.prog) Try.underlying23 Try.underlying5 Try.underlying9 (Kd.own_of_R (Kd.R_drewN HO328.out m_)); obtain ⟨Ao25, co25, eo25⟩ := Kd.R_slice HO332.out; subst eo25; have p333 : 0 ≤ (0 : Int) := (by omega); have q333 : 0 < (t329.length : Int) := of_decide_eq_true (by first | (with_reducible assumption) | assumption); obtain ⟨ad333, e333, hx333_0, hx333_1, hx333_2, hx333_3, hx333_4⟩ := at_T33 (Kd.R_reads' HO332.out).2.2 0 p333 q333; cases e333; have qi333 : (0 < t329.length) = True := eq_true (by omega); (try rw [show ((0 : Int)).toNat = 0 from rfl] at hx333_0); (try rw [show 0 * 5 = 0 from rfl] at hx333_0); (try rw [Addr.add_zero'] at hx333_0); (try rw [show ((0 : Int)).toNat = 0 from rfl] at hx333_1); (try rw [show 0 * 5 = 0 from rfl] at hx333_1); (try rw [Addr.add_zero'] at hx333_1); (try rw [show ((0 : Int)).toNat = 0 from rfl] at hx333_2); (try rw [show 0 * 5 = 0 from rfl] at hx333_2); (try rw [Addr.add_zero'] at hx333_2); (try rw [show ((0 : Int)).toNat = 0 from rfl] at hx333_3); (try rw [show 0 * 5 = 0 from rfl] at hx333_3); (try rw [Addr.add_zero'] at hx333_3); (try rw [show ((0 : Int)).toNat = 0 from rfl] at hx333_4); (try rw [show 0 * 5 = 0 from rfl] at hx333_4); (try rw [Addr.add_zero'] at hx333_4); replace p333 := eq_true p333; replace q333 := eq_true q333; have p334 : 0 ≤ (0 : Int) := (by omega); have q334 : 0 < (t329.length : Int) := of_decide_eq_true (by first | (with_reducible assumption) | assumption); obtain ⟨ad334, e334, hx334_0, hx334_1, hx334_2, hx334_3, hx334_4⟩ := at_T33 (Kd.R_reads' HO332.out).2.2 0 p334 q334; obtain rfl : ad333 = ad334 := (by injection e334); have qi334 : (0 < t329.length) = True := eq_true (by omega); (try rw [show ((0 : Int)).toNat = 0 from rfl] at hx334_0); (try rw [show 0 * 5 = 0 from rfl] at hx334_0); (try rw [Addr.add_zero'] at hx334_0); (try rw [show ((0 : Int)).toNat = 0 from rfl] at hx334_1); (try rw [show 0 * 5 = 0 from rfl] at hx334_1); (try rw [Addr.add_zero'] at hx334_1); (try rw [show ((0 : Int)).toNat = 0 from rfl] at hx334_2); (try rw [show 0 * 5 = 0 from rfl] at hx334_2); (try rw [Addr.add_zero'] at hx334_2); (try rw [show ((0 : Int)).toNat = 0 from rfl] at hx334_3); (try rw [show 0 * 5 = 0 from rfl] at hx334_3); (try rw [Addr.add_zero'] at hx334_3); (try rw [show ((0 : Int)).toNat = 0 from rfl] at hx334_4); (try rw [show 0 * 5 = 0 from rfl] at hx334_4); (try rw [Addr.add_zero'] at hx334_4); replace p334 := eq_true p334; replace q334 := eq_true q334))
        go_ret
        exact ⟨zd_, by repeat (first | (with_reducible first | exact HB.out | apply below_alloc | apply pw_below_drewN | apply below_drew1) | exact HB.out)⟩
      ·rw [if_neg c8] at H
       have c8b0 : (((rd_T33 t329 0).f1).toList == ([97] : List UInt8)) = false := beq_eq_false_iff_ne.mpr c8
       have c8b1 : (((rd_T33 t329 0).f1).toList != ([97] : List UInt8)) = true := bne_iff_ne.mpr c8
       obtain rfl := Option.some.inj H
       go_enter Try.func12, Try.ntmps12
       go_wp2_with (first | ((with_reducible refine gate_dst (N := 7) rfl ?_); (try (refine gate_guard (by rfl) ?_; dsimp only)); refine Kd.R_lit k33 _ 33 ?hg (N := 7) ?hd (xs := ([(⟨2, (⟨#[97]⟩ : ByteArray), 0, 0, (⟨#[]⟩ : ByteArray)⟩ : S33)] : List (S33))) (inner := [.int .i64 2, .string (⟨#[97]⟩ : ByteArray), .int .i64 0, .int .i64 0, .string (⟨#[]⟩ : ByteArray)]) (ok := fun _ => True) (okp := fun _ => True) ?hr ?hp (fun _ hk => hk) trivial (Below.refl _ _) (Nat.le_refl _) (by simp) ?_; (case hd => rfl); (case hg => rfl); (case hr => first | (go_simp; done) | (go_simp; rfl)); (case hp => exact (Reps.c5 (show Kd.M k33 _ _ _ (⟨2, (⟨#[97]⟩ : ByteArray), 0, 0, (⟨#[]⟩ : ByteArray)⟩ : S33) [.int .i64 2, .string (⟨#[97]⟩ : ByteArray), .int .i64 0, .int .i64 0, .string (⟨#[]⟩ : ByteArray)] from (k33_mkM _ _ _ (⟨2, (⟨#[97]⟩ : ByteArray), 0, 0, (⟨#[]⟩ : ByteArray)⟩ : S33) )) (Reps.none _ _))); intro v323 w26 ho27 hb hg_ hnew_; clear hg_ hnew_; (first | rw [← Ny322.out] at ho27 | (simp only [Int.reduceToNat] at ho27; rw [← Ny322.out] at ho27)); have n0_ := Aside0.mk (Kd.R_lower ho27 (below_size (zb_ HB.out))); have n1_ := Aside0.mk (below_step (zb_ HB.out) hb); clear HB; have HO324 := n0_; have HB := n1_; clear n0_ n1_; clear hb ho27; obtain ⟨Ao28, co28, eo28⟩ := Kd.R_slice HO324.out; subst eo28) | ((with_reducible refine gate_callee (f := 9) rfl ?_); refine goesL_ (some 8) rfl rfl Try.func9 (by kernel_rfl) rfl #[.slice Ao28 y322.length co28] rfl zc_ ?_; (with_reducible refine (op_Put.calls _ _ y322 t325 t326 _ ?side1 ?side2 A1.out).mono ?_); (case side1 => repeat (first | exact (Kd.R_reads' HO324.out).2.2 | (with_reducible refine Kd.C_alloc ?_ _) | (with_reducible refine Kd.C_drewN ?_ _) | (with_reducible refine Kd.C_drew ?_))); (case side2 => exact (Kd.R_reads' HO324.out).2.1); rintro e w29 ⟨v327, rfl, ho0, hb⟩; refine ⟨_, rfl, ?_⟩; have n0_ := Aside0.mk (Kd.R_below (zr_ HO324.out) hb); have n1_ := Aside0.mk (Kd.R_lower ho0 (below_size (zb_ HB.out))); have n2_ := Aside0.mk (below_step (zb_ HB.out) hb); clear HO324; clear HB; have HO324 := n0_; have HO328 := n1_; have HB := n2_; clear n0_ n1_ n2_; (try clear hb); (try clear hb2); (try clear hk); (try clear hi); (try clear ho0); obtain ⟨Ao30, co30, eo30⟩ := Kd.R_slice HO328.out; subst eo30) | ((with_reducible refine gate_callee (f := 17) rfl ?_); refine goesL_ (some 13) rfl rfl Try.func17 (by kernel_rfl) rfl #[.slice Ao30 t325.length co30] rfl zc_ ?_; (with_reducible refine (op_Get.calls _ _ t325 t329 t330 _ ?side1 ?side2 A2.out).mono ?_); (case side1 => repeat (first | exact (Kd.R_reads' HO328.out).2.2 | (with_reducible refine Kd.C_alloc ?_ _) | (with_reducible refine Kd.C_drewN ?_ _) | (with_reducible refine Kd.C_drew ?_))); (case side2 => exact (Kd.R_reads' HO328.out).2.1); rintro e w31 ⟨v331, rfl, ho0, hb⟩; refine ⟨_, rfl, ?_⟩; have n0_ := Aside0.mk (Kd.R_elder' (zr_ HO324.out) (Kd.R_base ho0) hb); have n1_ := Aside0.mk (Kd.R_below (zr_ HO328.out) hb); have n2_ := Aside0.mk (Kd.R_lower (Kd.R_new' ho0 (Kd.R_lt (zr_ HO324.out))) (below_size (zb_ HB.out))); have n3_ := Aside0.mk (below_step (zb_ HB.out) hb); clear HO324; clear HO328; clear HB; have HO324 := n0_; have HO328 := n1_; have HO332 := n2_; have HB := n3_; clear n0_ n1_ n2_ n3_; (try clear hb); (try clear hb2); (try clear hk); (try clear hi); (try clear ho0); have hcv32 := own_string (P := Try.prog) Try.underlying23 Try.underlying5 Try.underlying9 (Kd.own_of_R HO328.out); have hcd32 := fun m_ : Nat => own_string (P := Try.prog) Try.underlying23 Try.underlying5 Try.underlying9 (Kd.own_of_R (Kd.R_drewN HO328.out m_)); obtain ⟨Ao33, co33, eo33⟩ := Kd.R_slice HO332.out; subst eo33; have p333 : 0 ≤ (0 : Int) := (by omega); have q333 : 0 < (t329.length : Int) := of_decide_eq_true (by first | (with_reducible assumption) | assumption); obtain ⟨ad333, e333, hx333_0, hx333_1, hx333_2, hx333_3, hx333_4⟩ := at_T33 (Kd.R_reads' HO332.out).2.2 0 p333 q333; cases e333; have qi333 : (0 < t329.length) = True := eq_true (by omega); (try rw [show ((0 : Int)).toNat = 0 from rfl] at hx333_0); (try rw [show 0 * 5 = 0 from rfl] at hx333_0); (try rw [Addr.add_zero'] at hx333_0); (try rw [show ((0 : Int)).toNat = 0 from rfl] at hx333_1); (try rw [show 0 * 5 = 0 from rfl] at hx333_1); (try rw [Addr.add_zero'] at hx333_1); (try rw [show ((0 : Int)).toNat = 0 from rfl] at hx333_2); (try rw [show 0 * 5 = 0 from rfl] at hx333_2); (try rw [Addr.add_zero'] at hx333_2); (try rw [show ((0 : Int)).toNat = 0 from rfl] at hx333_3); (try rw [show 0 * 5 = 0 from rfl] at hx333_3); (try rw [Addr.add_zero'] at hx333_3); (try rw [show ((0 : Int)).toNat = 0 from rfl] at hx333_4); (try rw [show 0 * 5 = 0 from rfl] at hx333_4); (try rw [Addr.add_zero'] at hx333_4); replace p333 := eq_true p333; replace q333 := eq_true q333))
       go_ret
       exact ⟨zd_, by repeat (first | (with_reducible first | exact HB.out | apply below_alloc | apply pw_below_drewN | apply below_drew1) | exact HB.out)⟩
     ·rw [if_neg c7] at H
      exact absurd H (by simp)
    ·rw [if_neg c6] at H
     have c6b0 : ((t329.length : Int) == 1) = false := beq_eq_false_iff_ne.mpr c6
     have c6b1 : ((t329.length : Int) != 1) = true := bne_iff_ne.mpr c6
     obtain rfl := Option.some.inj H
     go_enter Try.func12, Try.ntmps12
     go_wp2_with (first | ((with_reducible refine gate_dst (N := 7) rfl ?_); (try (refine gate_guard (by rfl) ?_; dsimp only)); refine Kd.R_lit k33 _ 33 ?hg (N := 7) ?hd (xs := ([(⟨2, (⟨#[97]⟩ : ByteArray), 0, 0, (⟨#[]⟩ : ByteArray)⟩ : S33)] : List (S33))) (inner := [.int .i64 2, .string (⟨#[97]⟩ : ByteArray), .int .i64 0, .int .i64 0, .string (⟨#[]⟩ : ByteArray)]) (ok := fun _ => True) (okp := fun _ => True) ?hr ?hp (fun _ hk => hk) trivial (Below.refl _ _) (Nat.le_refl _) (by simp) ?_; (case hd => rfl); (case hg => rfl); (case hr => first | (go_simp; done) | (go_simp; rfl)); (case hp => exact (Reps.c5 (show Kd.M k33 _ _ _ (⟨2, (⟨#[97]⟩ : ByteArray), 0, 0, (⟨#[]⟩ : ByteArray)⟩ : S33) [.int .i64 2, .string (⟨#[97]⟩ : ByteArray), .int .i64 0, .int .i64 0, .string (⟨#[]⟩ : ByteArray)] from (k33_mkM _ _ _ (⟨2, (⟨#[97]⟩ : ByteArray), 0, 0, (⟨#[]⟩ : ByteArray)⟩ : S33) )) (Reps.none _ _))); intro v323 w34 ho35 hb hg_ hnew_; clear hg_ hnew_; (first | rw [← Ny322.out] at ho35 | (simp only [Int.reduceToNat] at ho35; rw [← Ny322.out] at ho35)); have n0_ := Aside0.mk (Kd.R_lower ho35 (below_size (zb_ HB.out))); have n1_ := Aside0.mk (below_step (zb_ HB.out) hb); clear HB; have HO324 := n0_; have HB := n1_; clear n0_ n1_; clear hb ho35; obtain ⟨Ao36, co36, eo36⟩ := Kd.R_slice HO324.out; subst eo36) | ((with_reducible refine gate_callee (f := 9) rfl ?_); refine goesL_ (some 8) rfl rfl Try.func9 (by kernel_rfl) rfl #[.slice Ao36 y322.length co36] rfl zc_ ?_; (with_reducible refine (op_Put.calls _ _ y322 t325 t326 _ ?side1 ?side2 A1.out).mono ?_); (case side1 => repeat (first | exact (Kd.R_reads' HO324.out).2.2 | (with_reducible refine Kd.C_alloc ?_ _) | (with_reducible refine Kd.C_drewN ?_ _) | (with_reducible refine Kd.C_drew ?_))); (case side2 => exact (Kd.R_reads' HO324.out).2.1); rintro e w37 ⟨v327, rfl, ho0, hb⟩; refine ⟨_, rfl, ?_⟩; have n0_ := Aside0.mk (Kd.R_below (zr_ HO324.out) hb); have n1_ := Aside0.mk (Kd.R_lower ho0 (below_size (zb_ HB.out))); have n2_ := Aside0.mk (below_step (zb_ HB.out) hb); clear HO324; clear HB; have HO324 := n0_; have HO328 := n1_; have HB := n2_; clear n0_ n1_ n2_; (try clear hb); (try clear hb2); (try clear hk); (try clear hi); (try clear ho0); obtain ⟨Ao38, co38, eo38⟩ := Kd.R_slice HO328.out; subst eo38) | ((with_reducible refine gate_callee (f := 17) rfl ?_); refine goesL_ (some 13) rfl rfl Try.func17 (by kernel_rfl) rfl #[.slice Ao38 t325.length co38] rfl zc_ ?_; (with_reducible refine (op_Get.calls _ _ t325 t329 t330 _ ?side1 ?side2 A2.out).mono ?_); (case side1 => repeat (first | exact (Kd.R_reads' HO328.out).2.2 | (with_reducible refine Kd.C_alloc ?_ _) | (with_reducible refine Kd.C_drewN ?_ _) | (with_reducible refine Kd.C_drew ?_))); (case side2 => exact (Kd.R_reads' HO328.out).2.1); rintro e w39 ⟨v331, rfl, ho0, hb⟩; refine ⟨_, rfl, ?_⟩; have n0_ := Aside0.mk (Kd.R_elder' (zr_ HO324.out) (Kd.R_base ho0) hb); have n1_ := Aside0.mk (Kd.R_below (zr_ HO328.out) hb); have n2_ := Aside0.mk (Kd.R_lower (Kd.R_new' ho0 (Kd.R_lt (zr_ HO324.out))) (below_size (zb_ HB.out))); have n3_ := Aside0.mk (below_step (zb_ HB.out) hb); clear HO324; clear HO328; clear HB; have HO324 := n0_; have HO328 := n1_; have HO332 := n2_; have HB := n3_; clear n0_ n1_ n2_ n3_; (try clear hb); (try clear hb2); (try clear hk); (try clear hi); (try clear ho0); have hcv40 := own_string (P := Try.prog) Try.underlying23 Try.underlying5 Try.underlying9 (Kd.own_of_R HO328.out); have hcd40 := fun m_ : Nat => own_string (P := Try.prog) Try.underlying23 Try.underlying5 Try.underlying9 (Kd.own_of_R (Kd.R_drewN HO328.out m_)); obtain ⟨Ao41, co41, eo41⟩ := Kd.R_slice HO332.out; subst eo41))
     go_ret
     exact ⟨zd_, by repeat (first | (with_reducible first | exact HB.out | apply below_alloc | apply pw_below_drewN | apply below_drew1) | exact HB.out)⟩
   ·rw [if_neg c5] at H
    have c5b0 : (t330 == 0) = false := beq_eq_false_iff_ne.mpr c5
    have c5b1 : (t330 != 0) = true := bne_iff_ne.mpr c5
    obtain rfl := Option.some.inj H
    go_enter Try.func12, Try.ntmps12
    go_wp2_with (first | ((with_reducible refine gate_dst (N := 7) rfl ?_); (try (refine gate_guard (by rfl) ?_; dsimp only)); refine Kd.R_lit k33 _ 33 ?hg (N := 7) ?hd (xs := ([(⟨2, (⟨#[97]⟩ : ByteArray), 0, 0, (⟨#[]⟩ : ByteArray)⟩ : S33)] : List (S33))) (inner := [.int .i64 2, .string (⟨#[97]⟩ : ByteArray), .int .i64 0, .int .i64 0, .string (⟨#[]⟩ : ByteArray)]) (ok := fun _ => True) (okp := fun _ => True) ?hr ?hp (fun _ hk => hk) trivial (Below.refl _ _) (Nat.le_refl _) (by simp) ?_; (case hd => rfl); (case hg => rfl); (case hr => first | (go_simp; done) | (go_simp; rfl)); (case hp => exact (Reps.c5 (show Kd.M k33 _ _ _ (⟨2, (⟨#[97]⟩ : ByteArray), 0, 0, (⟨#[]⟩ : ByteArray)⟩ : S33) [.int .i64 2, .string (⟨#[97]⟩ : ByteArray), .int .i64 0, .int .i64 0, .string (⟨#[]⟩ : ByteArray)] from (k33_mkM _ _ _ (⟨2, (⟨#[97]⟩ : ByteArray), 0, 0, (⟨#[]⟩ : ByteArray)⟩ : S33) )) (Reps.none _ _))); intro v323 w42 ho43 hb hg_ hnew_; clear hg_ hnew_; (first | rw [← Ny322.out] at ho43 | (simp only [Int.reduceToNat] at ho43; rw [← Ny322.out] at ho43)); have n0_ := Aside0.mk (Kd.R_lower ho43 (below_size (zb_ HB.out))); have n1_ := Aside0.mk (below_step (zb_ HB.out) hb); clear HB; have HO324 := n0_; have HB := n1_; clear n0_ n1_; clear hb ho43; obtain ⟨Ao44, co44, eo44⟩ := Kd.R_slice HO324.out; subst eo44) | ((with_reducible refine gate_callee (f := 9) rfl ?_); refine goesL_ (some 8) rfl rfl Try.func9 (by kernel_rfl) rfl #[.slice Ao44 y322.length co44] rfl zc_ ?_; (with_reducible refine (op_Put.calls _ _ y322 t325 t326 _ ?side1 ?side2 A1.out).mono ?_); (case side1 => repeat (first | exact (Kd.R_reads' HO324.out).2.2 | (with_reducible refine Kd.C_alloc ?_ _) | (with_reducible refine Kd.C_drewN ?_ _) | (with_reducible refine Kd.C_drew ?_))); (case side2 => exact (Kd.R_reads' HO324.out).2.1); rintro e w45 ⟨v327, rfl, ho0, hb⟩; refine ⟨_, rfl, ?_⟩; have n0_ := Aside0.mk (Kd.R_below (zr_ HO324.out) hb); have n1_ := Aside0.mk (Kd.R_lower ho0 (below_size (zb_ HB.out))); have n2_ := Aside0.mk (below_step (zb_ HB.out) hb); clear HO324; clear HB; have HO324 := n0_; have HO328 := n1_; have HB := n2_; clear n0_ n1_ n2_; (try clear hb); (try clear hb2); (try clear hk); (try clear hi); (try clear ho0); obtain ⟨Ao46, co46, eo46⟩ := Kd.R_slice HO328.out; subst eo46) | ((with_reducible refine gate_callee (f := 17) rfl ?_); refine goesL_ (some 13) rfl rfl Try.func17 (by kernel_rfl) rfl #[.slice Ao46 t325.length co46] rfl zc_ ?_; (with_reducible refine (op_Get.calls _ _ t325 t329 t330 _ ?side1 ?side2 A2.out).mono ?_); (case side1 => repeat (first | exact (Kd.R_reads' HO328.out).2.2 | (with_reducible refine Kd.C_alloc ?_ _) | (with_reducible refine Kd.C_drewN ?_ _) | (with_reducible refine Kd.C_drew ?_))); (case side2 => exact (Kd.R_reads' HO328.out).2.1); rintro e w47 ⟨v331, rfl, ho0, hb⟩; refine ⟨_, rfl, ?_⟩; have n0_ := Aside0.mk (Kd.R_elder' (zr_ HO324.out) (Kd.R_base ho0) hb); have n1_ := Aside0.mk (Kd.R_below (zr_ HO328.out) hb); have n2_ := Aside0.mk (Kd.R_lower (Kd.R_new' ho0 (Kd.R_lt (zr_ HO324.out))) (below_size (zb_ HB.out))); have n3_ := Aside0.mk (below_step (zb_ HB.out) hb); clear HO324; clear HO328; clear HB; have HO324 := n0_; have HO328 := n1_; have HO332 := n2_; have HB := n3_; clear n0_ n1_ n2_ n3_; (try clear hb); (try clear hb2); (try clear hk); (try clear hi); (try clear ho0); have hcv48 := own_string (P := Try.prog) Try.underlying23 Try.underlying5 Try.underlying9 (Kd.own_of_R HO328.out); have hcd48 := fun m_ : Nat => own_string (P := Try.prog) Try.underlying23 Try.underlying5 Try.underlying9 (Kd.own_of_R (Kd.R_drewN HO328.out m_))))
    go_ret
    exact ⟨zd_, by repeat (first | (with_reducible first | exact HB.out | apply below_alloc | apply pw_below_drewN | apply below_drew1) | exact HB.out)⟩
  ·rw [if_neg c4] at H
   have c4b0 : (t326 == 0) = false := beq_eq_false_iff_ne.mpr c4
   have c4b1 : (t326 != 0) = true := bne_iff_ne.mpr c4
   obtain rfl := Option.some.inj H
   go_enter Try.func12, Try.ntmps12
   go_wp2_with (first | ((with_reducible refine gate_dst (N := 7) rfl ?_); (try (refine gate_guard (by rfl) ?_; dsimp only)); refine Kd.R_lit k33 _ 33 ?hg (N := 7) ?hd (xs := ([(⟨2, (⟨#[97]⟩ : ByteArray), 0, 0, (⟨#[]⟩ : ByteArray)⟩ : S33)] : List (S33))) (inner := [.int .i64 2, .string (⟨#[97]⟩ : ByteArray), .int .i64 0, .int .i64 0, .string (⟨#[]⟩ : ByteArray)]) (ok := fun _ => True) (okp := fun _ => True) ?hr ?hp (fun _ hk => hk) trivial (Below.refl _ _) (Nat.le_refl _) (by simp) ?_; (case hd => rfl); (case hg => rfl); (case hr => first | (go_simp; done) | (go_simp; rfl)); (case hp => exact (Reps.c5 (show Kd.M k33 _ _ _ (⟨2, (⟨#[97]⟩ : ByteArray), 0, 0, (⟨#[]⟩ : ByteArray)⟩ : S33) [.int .i64 2, .string (⟨#[97]⟩ : ByteArray), .int .i64 0, .int .i64 0, .string (⟨#[]⟩ : ByteArray)] from (k33_mkM _ _ _ (⟨2, (⟨#[97]⟩ : ByteArray), 0, 0, (⟨#[]⟩ : ByteArray)⟩ : S33) )) (Reps.none _ _))); intro v323 w49 ho50 hb hg_ hnew_; clear hg_ hnew_; (first | rw [← Ny322.out] at ho50 | (simp only [Int.reduceToNat] at ho50; rw [← Ny322.out] at ho50)); have n0_ := Aside0.mk (Kd.R_lower ho50 (below_size (zb_ HB.out))); have n1_ := Aside0.mk (below_step (zb_ HB.out) hb); clear HB; have HO324 := n0_; have HB := n1_; clear n0_ n1_; clear hb ho50; obtain ⟨Ao51, co51, eo51⟩ := Kd.R_slice HO324.out; subst eo51) | ((with_reducible refine gate_callee (f := 9) rfl ?_); refine goesL_ (some 8) rfl rfl Try.func9 (by kernel_rfl) rfl #[.slice Ao51 y322.length co51] rfl zc_ ?_; (with_reducible refine (op_Put.calls _ _ y322 t325 t326 _ ?side1 ?side2 A1.out).mono ?_); (case side1 => repeat (first | exact (Kd.R_reads' HO324.out).2.2 | (with_reducible refine Kd.C_alloc ?_ _) | (with_reducible refine Kd.C_drewN ?_ _) | (with_reducible refine Kd.C_drew ?_))); (case side2 => exact (Kd.R_reads' HO324.out).2.1); rintro e w52 ⟨v327, rfl, ho0, hb⟩; refine ⟨_, rfl, ?_⟩; have n0_ := Aside0.mk (Kd.R_below (zr_ HO324.out) hb); have n1_ := Aside0.mk (Kd.R_lower ho0 (below_size (zb_ HB.out))); have n2_ := Aside0.mk (below_step (zb_ HB.out) hb); clear HO324; clear HB; have HO324 := n0_; have HO328 := n1_; have HB := n2_; clear n0_ n1_ n2_; (try clear hb); (try clear hb2); (try clear hk); (try clear hi); (try clear ho0); obtain ⟨Ao53, co53, eo53⟩ := Kd.R_slice HO328.out; subst eo53) | ((with_reducible refine gate_callee (f := 17) rfl ?_); refine goesL_ (some 13) rfl rfl Try.func17 (by kernel_rfl) rfl #[.slice Ao53 t325.length co53] rfl zc_ ?_; (with_reducible refine (op_Get.calls _ _ t325 t329 t330 _ ?side1 ?side2 A2.out).mono ?_); (case side1 => repeat (first | exact (Kd.R_reads' HO328.out).2.2 | (with_reducible refine Kd.C_alloc ?_ _) | (with_reducible refine Kd.C_drewN ?_ _) | (with_reducible refine Kd.C_drew ?_))); (case side2 => exact (Kd.R_reads' HO328.out).2.1); rintro e w54 ⟨v331, rfl, ho0, hb⟩; refine ⟨_, rfl, ?_⟩; have n0_ := Aside0.mk (Kd.R_elder' (zr_ HO324.out) (Kd.R_base ho0) hb); have n1_ := Aside0.mk (Kd.R_below (zr_ HO328.out) hb); have n2_ := Aside0.mk (Kd.R_lower (Kd.R_new' ho0 (Kd.R_lt (zr_ HO324.out))) (below_size (zb_ HB.out))); have n3_ := Aside0.mk (below_step (zb_ HB.out) hb); clear HO324; clear HO328; clear HB; have HO324 := n0_; have HO328 := n1_; have HO332 := n2_; have HB := n3_; clear n0_ n1_ n2_ n3_; (try clear hb); (try clear hb2); (try clear hk); (try clear hi); (try clear ho0); have hcv55 := own_string (P := Try.prog) Try.underlying23 Try.underlying5 Try.underlying9 (Kd.own_of_R HO328.out); have hcd55 := fun m_ : Nat => own_string (P := Try.prog) Try.underlying23 Try.underlying5 Try.underlying9 (Kd.own_of_R (Kd.R_drewN HO328.out m_))))
   go_ret
   exact ⟨zd_, by repeat (first | (with_reducible first | exact HB.out | apply below_alloc | apply pw_below_drewN | apply below_drew1) | exact HB.out)⟩
 ·rw [if_neg c3] at H
  have c3b0 : ((strOfNums t325).toList == ([1, 1, 2, 1, 1, 97, 1, 1, 0, 1, 1, 0, 1, 1, 0] : List UInt8)) = false := beq_eq_false_iff_ne.mpr c3
  have c3b1 : ((strOfNums t325).toList != ([1, 1, 2, 1, 1, 97, 1, 1, 0, 1, 1, 0, 1, 1, 0] : List UInt8)) = true := bne_iff_ne.mpr c3
  obtain rfl := Option.some.inj H
  go_enter Try.func12, Try.ntmps12
  go_wp2_with (first | ((with_reducible refine gate_dst (N := 7) rfl ?_); (try (refine gate_guard (by rfl) ?_; dsimp only)); refine Kd.R_lit k33 _ 33 ?hg (N := 7) ?hd (xs := ([(⟨2, (⟨#[97]⟩ : ByteArray), 0, 0, (⟨#[]⟩ : ByteArray)⟩ : S33)] : List (S33))) (inner := [.int .i64 2, .string (⟨#[97]⟩ : ByteArray), .int .i64 0, .int .i64 0, .string (⟨#[]⟩ : ByteArray)]) (ok := fun _ => True) (okp := fun _ => True) ?hr ?hp (fun _ hk => hk) trivial (Below.refl _ _) (Nat.le_refl _) (by simp) ?_; (case hd => rfl); (case hg => rfl); (case hr => first | (go_simp; done) | (go_simp; rfl)); (case hp => exact (Reps.c5 (show Kd.M k33 _ _ _ (⟨2, (⟨#[97]⟩ : ByteArray), 0, 0, (⟨#[]⟩ : ByteArray)⟩ : S33) [.int .i64 2, .string (⟨#[97]⟩ : ByteArray), .int .i64 0, .int .i64 0, .string (⟨#[]⟩ : ByteArray)] from (k33_mkM _ _ _ (⟨2, (⟨#[97]⟩ : ByteArray), 0, 0, (⟨#[]⟩ : ByteArray)⟩ : S33) )) (Reps.none _ _))); intro v323 w56 ho57 hb hg_ hnew_; clear hg_ hnew_; (first | rw [← Ny322.out] at ho57 | (simp only [Int.reduceToNat] at ho57; rw [← Ny322.out] at ho57)); have n0_ := Aside0.mk (Kd.R_lower ho57 (below_size (zb_ HB.out))); have n1_ := Aside0.mk (below_step (zb_ HB.out) hb); clear HB; have HO324 := n0_; have HB := n1_; clear n0_ n1_; clear hb ho57; obtain ⟨Ao58, co58, eo58⟩ := Kd.R_slice HO324.out; subst eo58) | ((with_reducible refine gate_callee (f := 9) rfl ?_); refine goesL_ (some 8) rfl rfl Try.func9 (by kernel_rfl) rfl #[.slice Ao58 y322.length co58] rfl zc_ ?_; (with_reducible refine (op_Put.calls _ _ y322 t325 t326 _ ?side1 ?side2 A1.out).mono ?_); (case side1 => repeat (first | exact (Kd.R_reads' HO324.out).2.2 | (with_reducible refine Kd.C_alloc ?_ _) | (with_reducible refine Kd.C_drewN ?_ _) | (with_reducible refine Kd.C_drew ?_))); (case side2 => exact (Kd.R_reads' HO324.out).2.1); rintro e w59 ⟨v327, rfl, ho0, hb⟩; refine ⟨_, rfl, ?_⟩; have n0_ := Aside0.mk (Kd.R_below (zr_ HO324.out) hb); have n1_ := Aside0.mk (Kd.R_lower ho0 (below_size (zb_ HB.out))); have n2_ := Aside0.mk (below_step (zb_ HB.out) hb); clear HO324; clear HB; have HO324 := n0_; have HO328 := n1_; have HB := n2_; clear n0_ n1_ n2_; (try clear hb); (try clear hb2); (try clear hk); (try clear hi); (try clear ho0); obtain ⟨Ao60, co60, eo60⟩ := Kd.R_slice HO328.out; subst eo60) | ((with_reducible refine gate_callee (f := 17) rfl ?_); refine goesL_ (some 13) rfl rfl Try.func17 (by kernel_rfl) rfl #[.slice Ao60 t325.length co60] rfl zc_ ?_; (with_reducible refine (op_Get.calls _ _ t325 t329 t330 _ ?side1 ?side2 A2.out).mono ?_); (case side1 => repeat (first | exact (Kd.R_reads' HO328.out).2.2 | (with_reducible refine Kd.C_alloc ?_ _) | (with_reducible refine Kd.C_drewN ?_ _) | (with_reducible refine Kd.C_drew ?_))); (case side2 => exact (Kd.R_reads' HO328.out).2.1); rintro e w61 ⟨v331, rfl, ho0, hb⟩; refine ⟨_, rfl, ?_⟩; have n0_ := Aside0.mk (Kd.R_elder' (zr_ HO324.out) (Kd.R_base ho0) hb); have n1_ := Aside0.mk (Kd.R_below (zr_ HO328.out) hb); have n2_ := Aside0.mk (Kd.R_lower (Kd.R_new' ho0 (Kd.R_lt (zr_ HO324.out))) (below_size (zb_ HB.out))); have n3_ := Aside0.mk (below_step (zb_ HB.out) hb); clear HO324; clear HO328; clear HB; have HO324 := n0_; have HO328 := n1_; have HO332 := n2_; have HB := n3_; clear n0_ n1_ n2_ n3_; (try clear hb); (try clear hb2); (try clear hk); (try clear hi); (try clear ho0); have hcv62 := own_string (P := Try.prog) Try.underlying23 Try.underlying5 Try.underlying9 (Kd.own_of_R HO328.out); have hcd62 := fun m_ : Nat => own_string (P := Try.prog) Try.underlying23 Try.underlying5 Try.underlying9 (Kd.own_of_R (Kd.R_drewN HO328.out m_))))
  go_ret
  exact ⟨zd_, by repeat (first | (with_reducible first | exact HB.out | apply below_alloc | apply pw_below_drewN | apply below_drew1) | exact HB.out)⟩

end Go.Proofs.Ytpnnjefhchppfaa.PA

set_option linter.unusedVariables false
set_option linter.unusedSimpArgs false
namespace Go.Proofs.Ytpnnjefhchppfaa.Op
open Go Go.RowKit Go.Proofs.YtpnnjefhchppfaaW.PrintWords Go.Proofs.YtpnnjefhchppfaaW.PrintLast Go.Proofs.YtpnnjefhchppfaaW.PrintMore Go.Proofs.Ytpnnjefhchppfaa.PA
theorem rgText (b : List Int) (most : Int) (hm : 0 ≤ most) (hm2 : most ≤ 4096) (hb : ∀ x ∈ b, LebT.isByte x) (hl : b.length ≤ 281474976710656) {k : Nat} (hk : 32 ≤ k) : stemmaref02_GetText.f k b most = some (gT most b) := by
  obtain ⟨k, rfl⟩ : ∃ m, k = m + 1 := ⟨k - 1, by omega⟩
  unfold stemmaref02_GetText.f gT
  rw [ColT.rgetU_f (by omega) hb]
  simp only [Option.bind_some]
  by_cases h : (LebT.gU 0 0 b).2.2 = 0
  · obtain ⟨m, j, e, h1, h2, h3, h4, _⟩ := ColT.gU_rng hb h
    rw [e]
    simp only [if_true]
    rw [if_neg (by omega), show IntKind.u64.wrap most = most by rw [IntKind.wrap_u64]; omega]
    by_cases c1 : (m : Int) > most
    · rw [if_pos c1, show decide ((m : Int) > most) = true by simpa using c1]
      simp only [stemmaref02_GetText.j0]; rw [if_pos trivial]
    · rw [if_neg c1, show decide ((m : Int) > most) = false by simpa using c1, stemmaref02_GetText.j0.eq_2, if_neg (by decide)]
      have e1 : IntKind.u64.wrap (wrap64 ((b.length : Int) - (j : Int))) = (b.length : Int) - j := by rw [IntKind.wrap_u64]; unfold wrap64; omega
      rw [e1]
      by_cases c2 : (m : Int) > (b.length : Int) - j
      · rw [if_pos c2, if_pos c2]
      · rw [if_neg c2, if_neg c2]
        have e2 : wrap64 ((j : Int) + wrap64 (m : Int)) = (j : Int) + m := by unfold wrap64; omega
        rw [e2, if_pos (by omega), if_pos (by omega), if_pos (by omega)]
  · rw [if_neg h, if_neg h]
theorem str_size (l : List Int) : (strOfNums l).size = l.length := by
  show (strOfNums l).data.size = _
  rw [← Array.length_toList, strOfNums_data, List.length_map]
theorem gT_size {b : List Int} {most : Nat} : (gT most b).1.size ≤ most := by
  unfold gT
  by_cases h : (LebT.gU 0 0 b).2.2 = 0
  · rw [if_pos h]
    by_cases c1 : (LebT.gU 0 0 b).1 > (most : Int)
    · rw [if_pos c1]; exact Nat.zero_le _
    · rw [if_neg c1]
      by_cases c2 : (LebT.gU 0 0 b).1 > (b.length : Int) - (LebT.gU 0 0 b).2.1
      · rw [if_pos c2]; exact Nat.zero_le _
      · rw [if_neg c2]
        show (strOfNums _).size ≤ _
        rw [str_size, List.length_drop, List.length_take]
        omega
  · rw [if_neg h]; exact Nat.zero_le _
theorem runs_used' {b : List Int} (hb : ∀ x ∈ b, LebT.isByte x) : ∃ u : Nat, (ColT.getRuns b 256).2.1 = (u : Int) ∧ u ≤ b.length := by
  by_cases he : (ColT.getRuns b 256).2.2 = 0
  · exact runs_used hb he
  · refine ⟨0, ?_, Nat.zero_le _⟩
    have key : ∀ (n : Nat) (acc : List Int) (used : Nat) (c : List Int), (ColT.gR 256 n acc used c).2.2 ≠ 0 → (ColT.gR 256 n acc used c).2.1 = 0 := by
      intro n
      induction n with
      | zero => intro acc used c h; exact absurd rfl h
      | succ n ih =>
        intro acc used c h
        rw [ColT.gR] at h ⊢
        split
        · rename_i h1
          rw [if_pos h1] at h
          split
          · rfl
          · rename_i h2
            rw [if_neg h2] at h
            split
            · rfl
            · rename_i h3
              rw [if_neg h3] at h
              split
              · rename_i h4
                rw [if_pos h4] at h
                split
                · rfl
                · rename_i h5
                  rw [if_neg h5] at h
                  exact ih _ _ _ h
              · rfl
        · rfl
    unfold ColT.getRuns at he ⊢
    split
    · rename_i h1
      rw [if_pos h1] at he
      split
      · rfl
      · rename_i h2
        rw [if_neg h2] at he
        exact key _ _ _ _ he
    · rfl
theorem gU_used' {b : List Int} (hb : ∀ x ∈ b, LebT.isByte x) : ∃ m u : Nat, LebT.gU 0 0 b = ((m : Int), (u : Int), (LebT.gU 0 0 b).2.2) ∧ u ≤ b.length ∧ m < 18446744073709551616 := by
  by_cases he : (LebT.gU 0 0 b).2.2 = 0
  · obtain ⟨v, k, e, h1, h2, h3, _⟩ := ColT.gU_rng hb he
    exact ⟨v, k, by rw [e], h3, h1⟩
  · rcases LebT.gU_errs b 0 0 with h | h | h
    · exact absurd h he
    · exact ⟨0, 0, by rw [h]; rfl, Nat.zero_le _, by omega⟩
    · exact ⟨0, 0, by rw [h]; rfl, Nat.zero_le _, by omega⟩
theorem gT_used' {b : List Int} (hb : ∀ x ∈ b, LebT.isByte x) (most : Int) : ∃ u : Nat, (gT most b).2.1 = (u : Int) ∧ u ≤ b.length := by
  by_cases h : (gT most b).2.2 = 0
  · exact gT_used hb h
  · refine ⟨0, ?_, Nat.zero_le _⟩
    unfold gT at h ⊢
    split
    · rename_i h1
      rw [if_pos h1] at h
      split
      · rfl
      · rename_i h2
        rw [if_neg h2] at h
        split
        · rfl
        · rename_i h3
          rw [if_neg h3] at h
          exact absurd rfl h
    · rfl
attribute [local go_sem] max2_int min2_int max_two min_two max_three min_three max_four min_four
set_option maxHeartbeats 4000000 in
set_option maxRecDepth 100000 in
theorem rest_calls (A : Option Addr) (c : Nat) (l : List Int) (u : Nat) (w : World) (hl : l.length ≤ c) (hu : u ≤ l.length) :
    Calls Try.prog 45 #[.slice A l.length c, .int .i64 (u : Int)] w fun e w' => ∃ (A' : Option Addr) (c' : Nat), e = .returned (.slice A' (l.drop u).length c') ∧ w' = w ∧ (l.drop u).length ≤ c' ∧ ∀ W, Kd.C (Kd.int .u8) W A l.length l → Kd.C (Kd.int .u8) W A' (l.drop u).length (l.drop u) := by
  obtain ⟨A', hcut, hC, hcl⟩ := cut_of A l c hl u hu
  have hmn : ¬ ((l.length : Int) < (u : Int)) := by omega
  have HC := Aside0.mk hC
  have HCL := Aside0.mk hcl
  clear hC hcl hu
  go_enter Try.func45, Try.ntmps45
  go_wp2
  go_ret
  have h1 := HCL.out
  rw [List.length_drop] at h1
  refine ⟨A', c - u, rfl, rfl, by omega, fun W hW => ?_⟩
  have h2 := HC.out W hW
  rw [List.length_drop] at h2
  exact h2
end Go.Proofs.Ytpnnjefhchppfaa.Op

