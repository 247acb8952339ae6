/- Own texts of this claim. -/
import Derived.Test.YtpnnjefhchppfaaCg25
import Derived.Test.YtpnnjefhchppfaaCg29
import Derived.Test.YtpnnjefhchppfaaCg33
import Derived.Test.YtpnnjefhchppfaaCg41
import Derived.Test.YtpnnjefhchppfaaCg42
set_option linter.unusedVariables false
set_option linter.unusedSimpArgs false
namespace Go.Proofs.Ytpnnjefhchppfaa.Op
open Go Go.RowKit Go.Proofs.YtpnnjefhchppfaaW.PrintWords Go.Proofs.YtpnnjefhchppfaaW.PrintLast Go.Proofs.YtpnnjefhchppfaaW.PrintMore Go.Proofs.Ytpnnjefhchppfaa.PA
structure In (w : World) (A : Option Addr) (c : Nat) (l : List Int) : Prop where
 row : Kd.C (Kd.int .u8) w A l.length l
 len : l.length ≤ c
 byte : ∀ x ∈ l, LebT.isByte x
 short : l.length ≤ 140737488351232
section
variable {w W : World} {A : Option Addr} {c : Nat} {l : List Int}
theorem rs_calls (h : In w A c l) (u : Nat) (hu : u ≤ l.length) : Calls Try.prog 45 #[.slice A l.length c, .int .i64 (u : Int)] W fun e w' => ∃ (A' : Option Addr) (c' : Nat) (l' : List Int), e = .returned (.slice A' l'.length c') ∧ W = w' ∧ In w A' c' l' ∧ l.drop u = l' :=
 (rest_calls A c l u W h.len hu).mono fun e w' ⟨A', c', he, hw, hl, hC⟩ => ⟨A', c', _, he, hw.symm, ⟨hC _ h.row, hl, ColT.drop_byte h.byte u, by rw [List.length_drop]; have := h.short; omega⟩, rfl⟩
theorem rr_calls (h : In w A c l) (hB : Below w.heap.size w W) {x : List Int} {u e : Int} (hg : runG l = (x, u, e)) : Calls Try.prog 44 #[.slice A l.length c, .int .i64 256] W fun r w' => ∃ v : Value, r = .returned (.tuple #[v, .int .i64 u, .int .i64 e]) ∧ Kd.R (Kd.int .i64) 2 w' W.heap.size (fun _ => True) v x ∧ Below W.heap.size W w' :=
 stemmaref03_GetRuns.calls 800000 A c l 256 x u e W (Kd.C_below h.row hB) h.len (by rw [ColT.rgetRuns_f (Nat.le_refl _) h.byte h.short 256]; exact congrArg some hg)
theorem rd_calls (h : In w A c l) (hB : Below w.heap.size w W) {x : List Int} {u e : Int} (hg : delG l = (x, u, e)) : Calls Try.prog 48 #[.slice A l.length c, .int .i64 256] W fun r w' => ∃ v : Value, r = .returned (.tuple #[v, .int .i64 u, .int .i64 e]) ∧ Kd.R (Kd.int .i64) 2 w' W.heap.size (fun _ => True) v x ∧ Below W.heap.size W w' :=
 stemmaref03_GetDeltas.calls 800000 A c l 256 x u e W (Kd.C_below h.row hB) h.len (by rw [ColT.rgetDeltas_f (Nat.le_refl _) h.byte h.short 256]; exact congrArg some hg)
theorem ru_calls (h : In w A c l) (hB : Below w.heap.size w W) {m u e : Int} (hg : LebT.gU 0 0 l = (m, u, e)) : Calls Try.prog 46 #[.slice A l.length c] W fun r w' => r = .returned (.tuple #[.int .u64 m, .int .i64 u, .int .i64 e]) ∧ Below W.heap.size W w' :=
 stemmaref02_GetUint.calls 30 A c l m u e W (Kd.C_below h.row hB) h.len (by rw [ColT.rgetU_f (Nat.le_refl _) h.byte]; exact congrArg some hg)
theorem rt_calls (h : In w A c l) (hB : Below w.heap.size w W) (most : Int) (hm0 : 0 ≤ most) (hm1 : most ≤ 4096) {s : ByteArray} {u e : Int} (hg : gT most l = (s, u, e)) : Calls Try.prog 47 #[.slice A l.length c, .int .i64 most] W fun r w' => r = .returned (.tuple #[.string s, .int .i64 u, .int .i64 e]) ∧ Below W.heap.size W w' :=
 stemmaref02_GetText.calls 32 A c l most s u e W (Kd.C_below h.row hB) h.len (by rw [rgText l most hm0 hm1 h.byte (by have := h.short; omega) (Nat.le_refl _)]; exact congrArg some hg)
theorem run_form (h : In w A c l) : ∃ (x : List Int) (u : Nat) (e : Int), runG l = (x, (u : Int), e) ∧ u ≤ l.length := by
 obtain ⟨u, h1, h2⟩ := runs_used' h.byte
 exact ⟨_, u, _, by rw [← h1]; rfl, h2⟩
theorem del_form (h : In w A c l) : ∃ (x : List Int) (u : Nat) (e : Int), delG l = (x, (u : Int), e) ∧ u ≤ l.length := by
 obtain ⟨u, h1, h2⟩ := runs_used' h.byte
 exact ⟨_, u, _, by rw [← h1]; rfl, h2⟩
theorem uint_form (h : In w A c l) : ∃ (m u : Nat) (e : Int), LebT.gU 0 0 l = ((m : Int), (u : Int), e) ∧ u ≤ l.length := by
 obtain ⟨m, u, h1, h2, _⟩ := gU_used' h.byte
 exact ⟨m, u, _, h1, h2⟩
theorem text_form (h : In w A c l) (M : Int) (most : Nat) (hM : M = most) : ∃ (s : ByteArray) (u : Nat) (e : Int), gT M l = (s, (u : Int), e) ∧ u ≤ l.length ∧ s.size ≤ most := by
 subst hM
 obtain ⟨u, h1, h2⟩ := gT_used' h.byte most
 exact ⟨_, u, _, by rw [← h1], h2, gT_size⟩
end
theorem colS_ok {G : List Int → List Int × Int × Int} {l x : List Int} {u : Nat} {e : Int} (hg : G l = (x, (u : Int), e)) (he : e = 0) : colS G (l, false) = (x, l.drop u, false) := by
 unfold colS
 rw [hg, if_pos ⟨rfl, he⟩]
 rfl
theorem colS_err {G : List Int → List Int × Int × Int} {l x : List Int} {u : Int} {e : Int} (hg : G l = (x, u, e)) (he : e ≠ 0) : (colS G (l, false)).2.2 = true := by
 unfold colS
 rw [hg, if_neg (fun h => he h.2)]
theorem colS_bad {G : List Int → List Int × Int × Int} {s : St} (h : s.2 = true) : (colS G s).2.2 = true := by
 unfold colS
 rw [if_neg (by rw [h]; exact fun hh => absurd hh.1 (by decide))]
theorem namesS_bad {s : St} (h : s.2 = true) : (namesS s).2.2 = true := by
 unfold namesS
 rw [if_neg (by rw [h]; exact fun hh => absurd hh.1 (by decide))]
theorem namesS_err {l : List Int} {m u e : Int} (hg : LebT.gU 0 0 l = (m, u, e)) (h : ¬ (e = 0 ∧ m ≤ 256)) : (namesS (l, false)).2.2 = true := by
 unfold namesS
 rw [hg, if_neg (fun hh => h hh.2)]
theorem namesS_ok {l : List Int} {m u : Nat} {e : Int} (hg : LebT.gU 0 0 l = ((m : Int), (u : Int), e)) (he : e = 0) (hm : m ≤ 256) : namesS (l, false) = nmS m [] (l.drop u, false) := by
 unfold namesS
 rw [hg, if_pos ⟨rfl, he, by show (m : Int) ≤ 256; omega⟩]
 rfl
theorem textS_ok {most : Int} {l : List Int} {s : ByteArray} {u : Nat} {e : Int} (hg : gT most l = (s, (u : Int), e)) (he : e = 0) : textS most (l, false) = (s, l.drop u, false) := by
 unfold textS
 rw [hg, if_pos ⟨rfl, he⟩]
 rfl
theorem textS_err {most : Int} {l : List Int} {s : ByteArray} {u e : Int} (hg : gT most l = (s, u, e)) (he : e ≠ 0) : textS most (l, false) = (e0, l, true) := by
 unfold textS
 rw [hg, if_neg (fun h => he h.2)]
theorem textS_bad {most : Int} {s : St} (h : s.2 = true) : (textS most s).2.2 = true := by
 unfold textS
 rw [if_neg (by rw [h]; exact fun hh => absurd hh.1 (by decide))]
theorem bad_st {b : List Int} (h : (colsS b).st.2 = true) : getS b = ([], 4) := get_bad (fun hl => by rw [hl.1] at h; cases h)
theorem bad1 {b : List Int} (h : (colS runG (b, false)).2.2 = true) : getS b = ([], 4) := bad_st (colS_bad (colS_bad (colS_bad (namesS_bad h))))
theorem bad2 {b x1 : List Int} {s1 : St} (h1 : colS runG (b, false) = (x1, s1)) (h : (namesS s1).2.2 = true) : getS b = ([], 4) := bad_st (colS_bad (colS_bad (colS_bad (by rw [h1]; exact h))))
theorem bad3 {b x1 : List Int} {x2 : List ByteArray} {s1 s2 : St} (h1 : colS runG (b, false) = (x1, s1)) (h2 : namesS s1 = (x2, s2)) (h : (colS runG s2).2.2 = true) : getS b = ([], 4) := bad_st (colS_bad (colS_bad (by rw [h1, h2]; exact h)))
theorem bad4 {b x1 x3 : List Int} {x2 : List ByteArray} {s1 s2 s3 : St} (h1 : colS runG (b, false) = (x1, s1)) (h2 : namesS s1 = (x2, s2)) (h3 : colS runG s2 = (x3, s3)) (h : (colS delG s3).2.2 = true) : getS b = ([], 4) := bad_st (colS_bad (by rw [h1, h2, h3]; exact h))
theorem bad5 {b x1 x3 x4 : List Int} {x2 : List ByteArray} {s1 s2 s3 s4 : St} (h1 : colS runG (b, false) = (x1, s1)) (h2 : namesS s1 = (x2, s2)) (h3 : colS runG s2 = (x3, s3)) (h4 : colS delG s3 = (x4, s4)) (h : (colS runG s4).2.2 = true) : getS b = ([], 4) := bad_st (by show (colS runG (colS delG (colS runG (namesS (colS runG (b, false)).2).2).2).2).2.2 = true; rw [h1]; show (colS runG (colS delG (colS runG (namesS s1).2).2).2).2.2 = true; rw [h2]; show (colS runG (colS delG (colS runG s2).2).2).2.2 = true; rw [h3]; show (colS runG (colS delG s3).2).2.2 = true; rw [h4]; exact h)
theorem rows_bad {ns : List ByteArray} {ks ws ps ys : List Int} {s : St} {j : Nat} {l : List Sop} {t : St} (h : rowsS ns ks ws ps ys s j = some (l, t)) (ht : t.2 = true) : ∀ d, rowsS ns ks ws ps ys s (j + d) = none ∨ ∃ l' t', rowsS ns ks ws ps ys s (j + d) = some (l', t') ∧ t'.2 = true
 | 0 => Or.inr ⟨l, t, h, ht⟩
 | d + 1 => by
  have e : rowsS ns ks ws ps ys s (j + (d + 1)) = (match rowsS ns ks ws ps ys s (j + d) with | none => none | some (l, t) => match rowS ns (ks.getD (j + d) 0) (ws.getD (j + d) 0) (ps.getD (j + d) 0) (ys.getD (j + d) 0) t with | none => none | some (o, u) => some (l ++ [o], u)) := rfl
  rcases rows_bad h ht d with h1 | ⟨l', t', h1, h2⟩
  ·rw [e, h1]; exact Or.inl rfl
  ·rw [e, h1]
   cases h3 : rowS ns (ks.getD (j + d) 0) (ws.getD (j + d) 0) (ps.getD (j + d) 0) (ys.getD (j + d) 0) t' with
   | none => exact Or.inl (by simp only [h3])
   | some q =>
    obtain ⟨o, u⟩ := q
    refine Or.inr ⟨l' ++ [o], u, by simp only [h3], ?_⟩
    unfold rowS at h3
    split at h3
    ·cases h3
    ·split at h3
     ·injection h3 with h3
      rw [Prod.mk.injEq] at h3
      rw [← h3.2]
      exact textS_bad h2
     ·injection h3 with h3
      rw [Prod.mk.injEq] at h3
      rw [← h3.2]
      exact h2
theorem get_rows_bad {b : List Int} (hl : lensOk (colsS b)) {x : Cols} (hx : colsS b = x) {j : Nat} (hj : j ≤ x.ks.length) {l : List Sop} {t : St} (h : rowsS x.ns x.ks x.ws x.ps x.ys x.st j = some (l, t)) (ht : t.2 = true) : getS b = ([], 4) := by
 obtain ⟨d, hd⟩ : ∃ d, x.ks.length = j + d := ⟨x.ks.length - j, by omega⟩
 have h1 := rows_bad h ht d
 rw [← hd] at h1
 rcases h1 with h1 | ⟨l', t', h1, h2⟩
 ·exact get_none hl hx (Nat.le_refl _) h1
 ·rw [get_some hl hx h1]
  exact if_neg (by rw [h2]; exact fun hh => absurd hh.1 (by decide))
set_option maxHeartbeats 8000000 in
set_option maxRecDepth 100000 in
theorem RGet_calls (A0 : Option Addr) (c0 : Nat) (b : List Int) (w : World) (hr0 : Kd.C (Kd.int .u8) w A0 b.length b) (hc0 : b.length ≤ c0) (hb : ∀ x ∈ b, LebT.isByte x) (hs : b.length ≤ 140737488351232) :
  Calls Try.prog 18 #[.slice A0 b.length c0] w (GetPost w b) := by
 have I0 : Aside0 (In w A0 c0 b) := ⟨⟨hr0, hc0, hb, hs⟩⟩
 have HB0 := Aside0.mk (Below.refl w.heap.size w)
 clear hr0 hc0 hb hs
 go_enter Try.func18, Try.ntmps18
 obtain ⟨x1, u1, e1, hg1, hu1⟩ := run_form I0.out
 have G1 := Aside0.mk hg1
 have U1 := Aside0.mk hu1
 clear hg1 hu1
 go_upto_region 2 with (go_at_call 44; refine (rr_calls I0.out HB0.out G1.out).mono ?_; rintro e_ w1 ⟨v1, rfl, ho, hb⟩; have HO1 := Aside0.mk ho; have HB1 := Aside0.mk (below_step HB0.out hb); clear ho hb)
 go_upto_region 3 with (go_at_call 45; refine (rs_calls I0.out u1 U1.out).mono ?_; rintro e_ w_ ⟨A1, c1, l1, rfl, rfl, hi, hl⟩; have I1 := Aside0.mk hi; have L1 := Aside0.mk hl; clear hi hl)
 obtain ⟨m, k1, f1, hg2, hu2⟩ := uint_form I1.out
 have G2 := Aside0.mk hg2
 have U2 := Aside0.mk hu2
 clear hg2 hu2
 go_upto_region 4 with (go_at_call 46; refine (ru_calls I1.out HB1.out G2.out).mono ?_; rintro e_ w2 ⟨rfl, hb⟩; have HO1_ := Aside0.mk (Kd.R_below HO1.out hb); clear HO1; have HO1 := HO1_; clear HO1_; have HB2 := Aside0.mk (below_step HB1.out hb); clear hb)
 go_upto_region 5 with (go_at_call 45; refine (rs_calls I1.out k1 U2.out).mono ?_; rintro e_ w_ ⟨A2, c2, l2, rfl, rfl, hi, hl⟩; have I2 := Aside0.mk hi; have L2 := Aside0.mk hl; clear hi hl)
 by_cases q1 : e1 = 0
 rotate_left
 ·have b0 : (e1 == 0) = false := beq_eq_false_iff_ne.mpr q1
  have b1 : (e1 != 0) = true := bne_iff_ne.mpr q1
  have Q := Aside0.mk q1
  clear q1
  have HG := Aside0.mk (show getS b = ([], 4) from bad1 (colS_err G1.out Q.out))
  go_wp2
  go_ret2
  exact ⟨_, by rw [HG.out]; rfl, by rw [HG.out]; exact Kd.R_nil _ _ _ _ _, HB2.out⟩
 subst q1
 have S1 : Aside0 (colS runG (b, false) = (x1, l1, false)) := ⟨by rw [← L1.out]; exact colS_ok G1.out rfl⟩
 by_cases q2 : f1 = 0
 rotate_left
 ·have b0 : (f1 == 0) = false := beq_eq_false_iff_ne.mpr q2
  have b1 : (f1 != 0) = true := bne_iff_ne.mpr q2
  have Q := Aside0.mk q2
  clear q2
  have HG := Aside0.mk (show getS b = ([], 4) from bad2 S1.out (namesS_err G2.out (fun h => Q.out h.1)))
  go_wp2
  go_ret2
  exact ⟨_, by rw [HG.out]; rfl, by rw [HG.out]; exact Kd.R_nil _ _ _ _ _, HB2.out⟩
 subst q2
 by_cases q3 : m ≤ 256
 rotate_left
 ·have b0 : decide ((256 : Int) < (m : Int)) = true := decide_eq_true (by omega)
  have Q := Aside0.mk q3
  clear q3
  have HG := Aside0.mk (show getS b = ([], 4) from bad2 S1.out (namesS_err G2.out (fun h => Q.out (by have := h.2; omega))))
  go_wp2
  go_ret2
  exact ⟨_, by rw [HG.out]; rfl, by rw [HG.out]; exact Kd.R_nil _ _ _ _ _, HB2.out⟩
 have d0 : decide ((256 : Int) < (m : Int)) = false := decide_eq_false (by omega)
 have M1 := Aside0.mk q3
 clear q3
 have S2 : Aside0 (namesS (l1, false) = nmS m [] (l2, false)) := ⟨by rw [← L2.out]; exact namesS_ok G2.out rfl M1.out⟩
 go_wp2_with fail
 clear d0
 have HW2 := Aside0.mk HB2.out.size
 go_loopw [7, 10, 11] (fun v7 v10 v11 wr => ∃ (i d : Nat) (acc : List ByteArray) (A' : Option Addr) (c' : Nat) (l' : List Int), i + d = m ∧ v11 = .int .u64 i ∧ v7 = .slice A' l'.length c' ∧ Aside0 (In w A' c' l') ∧ Aside0 (Kd.R Kd.string 9 wr w2.heap.size (fun _ => True) v10 acc) ∧ Aside0 (Below w2.heap.size w2 wr) ∧ Aside0 (nmS d acc (l', false) = namesS (l1, false)) ∧ Aside0 (acc.length = i) ∧ Aside0 (∀ s ∈ acc, s.size ≤ 32)) (fun _ _ v11 _ => m - (intOf v11).toNat)
 case atStart => exact ⟨0, m, [], A2, c2, l2, by omega, rfl, rfl, I2, ⟨Kd.R_nil _ _ _ _ _⟩, ⟨Below.refl _ _⟩, ⟨S2.out.symm⟩, ⟨rfl⟩, ⟨by simp⟩⟩
 case round =>
  clear S2 I2 L2
  obtain ⟨i, d, acc, A3, c3, l3, hi, rfl, rfl, I3, HO, HB3, HN, HL, HZ⟩ := hrel
  by_cases him : i < m
  ·have d0 : decide ((i : Int) < (m : Int)) = true := decide_eq_true (by omega)
   obtain ⟨d, rfl⟩ : ∃ q, d = q + 1 := ⟨d - 1, by omega⟩
   have HBw := Aside0.mk (HB2.out.trans (HB3.out.mono HW2.out))
   obtain ⟨s, u, e, hg, hu, hz⟩ := text_form I3.out 32 32 rfl
   have G3 := Aside0.mk hg
   have U3 := Aside0.mk hu
   have Z3 := Aside0.mk hz
   clear hg hu hz
   go_upto_region 12 with (go_at_call 47; refine (rt_calls I3.out HBw.out 32 (by decide) (by decide) G3.out).mono ?_; rintro e_ w4 ⟨rfl, hb⟩; have HO4 := Aside0.mk (Kd.R_below HO.out hb); have HB4 := Aside0.mk (below_step HB3.out hb); have HBw4 := Aside0.mk (below_step HBw.out hb); clear hb)
   by_cases q : e = 0
   rotate_left
   ·have b0 : (e == 0) = false := beq_eq_false_iff_ne.mpr q
    have b1 : (e != 0) = true := bne_iff_ne.mpr q
    have Q := Aside0.mk q
    clear q
    have HG := Aside0.mk (show getS b = ([], 4) from bad2 S1.out (by rw [← HN.out, nmS_next d acc (l3, false) rfl, textS_err G3.out Q.out, nmS_bad _ _ _ rfl]))
    go_wp2
    go_ret2
    exact ⟨_, by rw [HG.out]; rfl, by rw [HG.out]; exact Kd.R_nil _ _ _ _ _, HBw4.out⟩
   subst q
   obtain ⟨A6, c6, e6⟩ := Kd.R_slice HO4.out
   subst e6
   go_wp2_with (first | ((with_reducible refine gate_builtin (b := .append) (xs := #[.tmp 68, .tmp 70]) rfl ?_); at_builtin; refine Kd.R_append Kd.string (w0 := w2) w2.heap.size rfl (.tmp 68) (.tmp 70) 53 9 (.string ⟨#[]⟩) 16 rfl Try.underlying53 info9 rfl (by decide) (by omega) (.slice A6 acc.length c6) acc s [.string s] (fun _ => True) (fun _ => False) rfl rfl ?aP (fun _ hk => hk.elim) ?aF ?aO ?aB ?aS ?aL ?_; (case aP => exact rfl); (case aB => exact HB4.out); (case aF => exact (fun _ _ => trivial)); (case aO => exact HO4.out); (case aS => exact HB4.out.size); (case aL => (have := HL.out; have := M1.out; omega)); intro v5 w5 ho hb hg hat; have HO5 := Aside0.mk ho; have HB5 := Aside0.mk hb; clear ho hb hg hat) | (go_at_call 45; refine (rs_calls I3.out u U3.out).mono ?_; rintro e_ w_ ⟨A7, c7, l7, rfl, rfl, hi, hl⟩; have I7 := Aside0.mk hi; have L7 := Aside0.mk hl; clear hi hl))
   go_roundw
   case rel =>
    refine ⟨i + 1, d, acc ++ [s], A7, c7, l7, by omega, ?_, rfl, I7, HO5, HB5, ⟨?_⟩, ⟨by rw [List.length_append, HL.out]; rfl⟩, ⟨fun x hx => ?_⟩⟩
    ·first | rfl | (rw [ColT.u64a i (by have := M1.out; omega)])
    ·have := HN.out
     rw [nmS_next d acc (l3, false) rfl, textS_ok G3.out rfl] at this
     rw [← L7.out]
     exact this
    ·rcases List.mem_append.1 hx with hx | hx
     ·exact HZ.out x hx
     ·obtain rfl : x = s := by simpa using hx
      exact Z3.out
   case measure =>
    have hw := ColT.u64a i (by have := M1.out; omega)
    first | rw [hw] | skip
    show m - ((i + 1 : Nat) : Int).toNat < m - ((i : Nat) : Int).toNat
    rw [Int.toNat_natCast, Int.toNat_natCast]
    omega
  ·obtain rfl : i = m := by omega
   obtain rfl : d = 0 := by omega
   have d0 : decide ((i : Int) < (i : Int)) = false := decide_eq_false (by omega)
   clear d0 him
   have S2 : Aside0 (namesS (l1, false) = (acc, l3, false)) := ⟨HN.out.symm⟩
   have HO1_ := Aside0.mk (Kd.R_below HO1.out HB3.out)
   clear HO1
   have HO1 := HO1_
   clear HO1_
   have HBw := Aside0.mk (HB2.out.trans (HB3.out.mono HW2.out))
   have HO2 := HO
   clear HO HN HB3
   obtain ⟨x3, u3, e3, hg3, hu3⟩ := run_form I3.out
   have G3 := Aside0.mk hg3
   have U3 := Aside0.mk hu3
   clear hg3 hu3
   go_upto_region 17 with (go_at_call 44; refine (rr_calls I3.out HBw.out G3.out).mono ?_; rintro e_ w13 ⟨v3, rfl, ho, hb⟩; have HO3 := Aside0.mk ho; have HO1_ := Aside0.mk (Kd.R_below HO1.out hb); clear HO1; have HO1 := HO1_; clear HO1_; have HO2_ := Aside0.mk (Kd.R_below HO2.out hb); clear HO2; have HO2 := HO2_; clear HO2_; have HB_w13 := Aside0.mk (below_step HBw.out hb); clear ho hb)
   go_upto_region 18 with (go_at_call 45; refine (rs_calls I3.out u3 U3.out).mono ?_; rintro e_ w_ ⟨A_l4, c_l4, l4, rfl, rfl, hi, hl⟩; have I_l4 := Aside0.mk hi; have L_l4 := Aside0.mk hl; clear hi hl)
   obtain ⟨x4, u4, e4, hg4, hu4⟩ := del_form I_l4.out
   have G4 := Aside0.mk hg4
   have U4 := Aside0.mk hu4
   clear hg4 hu4
   go_upto_region 19 with (go_at_call 48; refine (rd_calls I_l4.out HB_w13.out G4.out).mono ?_; rintro e_ w14 ⟨v4, rfl, ho, hb⟩; have HO4 := Aside0.mk ho; have HO1_ := Aside0.mk (Kd.R_below HO1.out hb); clear HO1; have HO1 := HO1_; clear HO1_; have HO2_ := Aside0.mk (Kd.R_below HO2.out hb); clear HO2; have HO2 := HO2_; clear HO2_; have HO3_ := Aside0.mk (Kd.R_below HO3.out hb); clear HO3; have HO3 := HO3_; clear HO3_; have HB_w14 := Aside0.mk (below_step HB_w13.out hb); clear ho hb)
   go_upto_region 20 with (go_at_call 45; refine (rs_calls I_l4.out u4 U4.out).mono ?_; rintro e_ w_ ⟨A_l5, c_l5, l5, rfl, rfl, hi, hl⟩; have I_l5 := Aside0.mk hi; have L_l5 := Aside0.mk hl; clear hi hl)
   obtain ⟨x5, u5, e5, hg5, hu5⟩ := run_form I_l5.out
   have G5 := Aside0.mk hg5
   have U5 := Aside0.mk hu5
   clear hg5 hu5
   go_upto_region 21 with (go_at_call 44; refine (rr_calls I_l5.out HB_w14.out G5.out).mono ?_; rintro e_ w15 ⟨v5, rfl, ho, hb⟩; have HO5 := Aside0.mk ho; have HO1_ := Aside0.mk (Kd.R_below HO1.out hb); clear HO1; have HO1 := HO1_; clear HO1_; have HO2_ := Aside0.mk (Kd.R_below HO2.out hb); clear HO2; have HO2 := HO2_; clear HO2_; have HO3_ := Aside0.mk (Kd.R_below HO3.out hb); clear HO3; have HO3 := HO3_; clear HO3_; have HO4_ := Aside0.mk (Kd.R_below HO4.out hb); clear HO4; have HO4 := HO4_; clear HO4_; have HB_w15 := Aside0.mk (below_step HB_w14.out hb); clear ho hb)
   go_upto_region 22 with (go_at_call 45; refine (rs_calls I_l5.out u5 U5.out).mono ?_; rintro e_ w_ ⟨A_l6, c_l6, l6, rfl, rfl, hi, hl⟩; have I_l6 := Aside0.mk hi; have L_l6 := Aside0.mk hl; clear hi hl)
   by_cases q3 : e3 = 0
   rotate_left
   ·have b0 : (e3 == 0) = false := beq_eq_false_iff_ne.mpr q3
    have b1 : (e3 != 0) = true := bne_iff_ne.mpr q3
    have Q := Aside0.mk q3
    clear q3
    have HG := Aside0.mk (show getS b = ([], 4) from bad3 S1.out S2.out (colS_err G3.out Q.out))
    go_wp2
    go_ret2
    exact ⟨_, by rw [HG.out]; rfl, by rw [HG.out]; exact Kd.R_nil _ _ _ _ _, HB_w15.out⟩
   subst q3
   have S3 : Aside0 (colS runG (l3, false) = (x3, l4, false)) := ⟨by rw [← L_l4.out]; exact colS_ok G3.out rfl⟩
   by_cases q4 : e4 = 0
   rotate_left
   ·have b0 : (e4 == 0) = false := beq_eq_false_iff_ne.mpr q4
    have b1 : (e4 != 0) = true := bne_iff_ne.mpr q4
    have Q := Aside0.mk q4
    clear q4
    have HG := Aside0.mk (show getS b = ([], 4) from bad4 S1.out S2.out S3.out (colS_err G4.out Q.out))
    go_wp2
    go_ret2
    exact ⟨_, by rw [HG.out]; rfl, by rw [HG.out]; exact Kd.R_nil _ _ _ _ _, HB_w15.out⟩
   subst q4
   have S4 : Aside0 (colS delG (l4, false) = (x4, l5, false)) := ⟨by rw [← L_l5.out]; exact colS_ok G4.out rfl⟩
   by_cases q5 : e5 = 0
   rotate_left
   ·have b0 : (e5 == 0) = false := beq_eq_false_iff_ne.mpr q5
    have b1 : (e5 != 0) = true := bne_iff_ne.mpr q5
    have Q := Aside0.mk q5
    clear q5
    have HG := Aside0.mk (show getS b = ([], 4) from bad5 S1.out S2.out S3.out S4.out (colS_err G5.out Q.out))
    go_wp2
    go_ret2
    exact ⟨_, by rw [HG.out]; rfl, by rw [HG.out]; exact Kd.R_nil _ _ _ _ _, HB_w15.out⟩
   subst q5
   have S5 : Aside0 (colS runG (l5, false) = (x5, l6, false)) := ⟨by rw [← L_l6.out]; exact colS_ok G5.out rfl⟩
   have HCOL : Aside0 (colsS b = ⟨x1, acc, x3, x4, x5, (l6, false)⟩) := ⟨by simp only [colsS, S1.out, S2.out, S3.out, S4.out, S5.out]⟩
   have HLN : Aside0 (x1.length ≤ 256 ∧ x3.length ≤ 256 ∧ x4.length ≤ 256 ∧ x5.length ≤ 256) := ⟨by
    have l1_ := colS_len (b, false)
    have l3_ := colS_len (l3, false)
    have l4_ := colS_len' (l4, false)
    have l5_ := colS_len (l5, false)
    rw [S1.out] at l1_
    rw [S3.out] at l3_
    rw [S4.out] at l4_
    rw [S5.out] at l5_
    exact ⟨l1_, l3_, l4_, l5_⟩⟩
   clear S1 S2 S3 S4 S5 G1 G2 G3 G4 G5 U1 U2 U3 U4 U5 L1 L_l4 L_l5 L_l6
   obtain ⟨B1, z1, ee1⟩ := Kd.R_slice HO1.out
   subst ee1
   obtain ⟨B2, z2, ee2⟩ := Kd.R_slice HO2.out
   subst ee2
   obtain ⟨B3, z3, ee3⟩ := Kd.R_slice HO3.out
   subst ee3
   obtain ⟨B4, z4, ee4⟩ := Kd.R_slice HO4.out
   subst ee4
   obtain ⟨B5, z5, ee5⟩ := Kd.R_slice HO5.out
   subst ee5
   by_cases q3 : x3.length = x1.length
   rotate_left
   ·have b30 : ((x3.length : Int) == (x1.length : Int)) = false := beq_eq_false_iff_ne.mpr (by omega)
    have b31 : ((x3.length : Int) != (x1.length : Int)) = true := bne_iff_ne.mpr (by omega)
    have HQ := Aside0.mk q3
    clear q3
    have HG := Aside0.mk (show getS b = ([], 4) from get_bad (by rw [HCOL.out]; exact fun h => HQ.out (h.2.1)))
    go_wp2
    go_ret2
    exact ⟨_, by rw [HG.out]; rfl, by rw [HG.out]; exact Kd.R_nil _ _ _ _ _, HB_w15.out⟩
   have b30 : ((x3.length : Int) == (x1.length : Int)) = true := beq_iff_eq.mpr (by omega)
   have b31 : ((x3.length : Int) != (x1.length : Int)) = false := by rw [q3]; exact bne_self_eq_false _
   have Q3 := Aside0.mk q3
   clear q3
   by_cases q4 : x4.length = x1.length
   rotate_left
   ·have b40 : ((x4.length : Int) == (x1.length : Int)) = false := beq_eq_false_iff_ne.mpr (by omega)
    have b41 : ((x4.length : Int) != (x1.length : Int)) = true := bne_iff_ne.mpr (by omega)
    have HQ := Aside0.mk q4
    clear q4
    have HG := Aside0.mk (show getS b = ([], 4) from get_bad (by rw [HCOL.out]; exact fun h => HQ.out (h.2.2.1)))
    go_wp2
    go_ret2
    exact ⟨_, by rw [HG.out]; rfl, by rw [HG.out]; exact Kd.R_nil _ _ _ _ _, HB_w15.out⟩
   have b40 : ((x4.length : Int) == (x1.length : Int)) = true := beq_iff_eq.mpr (by omega)
   have b41 : ((x4.length : Int) != (x1.length : Int)) = false := by rw [q4]; exact bne_self_eq_false _
   have Q4 := Aside0.mk q4
   clear q4
   by_cases q5 : x5.length = x1.length
   rotate_left
   ·have b50 : ((x5.length : Int) == (x1.length : Int)) = false := beq_eq_false_iff_ne.mpr (by omega)
    have b51 : ((x5.length : Int) != (x1.length : Int)) = true := bne_iff_ne.mpr (by omega)
    have HQ := Aside0.mk q5
    clear q5
    have HG := Aside0.mk (show getS b = ([], 4) from get_bad (by rw [HCOL.out]; exact fun h => HQ.out (h.2.2.2)))
    go_wp2
    go_ret2
    exact ⟨_, by rw [HG.out]; rfl, by rw [HG.out]; exact Kd.R_nil _ _ _ _ _, HB_w15.out⟩
   have b50 : ((x5.length : Int) == (x1.length : Int)) = true := beq_iff_eq.mpr (by omega)
   have b51 : ((x5.length : Int) != (x1.length : Int)) = false := by rw [q5]; exact bne_self_eq_false _
   have Q5 := Aside0.mk q5
   clear q5
   have HLO : Aside0 (lensOk (colsS b)) := ⟨by rw [HCOL.out]; exact ⟨rfl, Q3.out, Q4.out, Q5.out⟩⟩
   go_wp2_with fail
   have HW15 := Aside0.mk HB_w15.out.size
   go_loopw [7, 19, 20] (fun v7 v19 v20 wr => ∃ (j : Nat) (L : List Sop) (A' : Option Addr) (c' : Nat) (l' : List Int), j ≤ x1.length ∧ v20 = .int .i64 j ∧ v7 = .slice A' l'.length c' ∧ Aside0 (In w A' c' l') ∧ Aside0 (Kd.R k33 33 wr w15.heap.size (fun _ => True) v19 L) ∧ Aside0 (Below w15.heap.size w15 wr) ∧ Aside0 (rowsS acc x1 x3 x4 x5 (l6, false) j = some (L, (l', false))) ∧ Aside0 (L.length = j) ∧ Aside0 (∀ o ∈ L, o.f1.size ≤ 32)) (fun _ _ v20 _ => x1.length - (intOf v20).toNat)
   case atStart => exact ⟨0, [], A_l6, c_l6, l6, by omega, rfl, rfl, I_l6, ⟨Kd.R_nil _ _ _ _ _⟩, ⟨Below.refl _ _⟩, ⟨rfl⟩, ⟨rfl⟩, ⟨by simp⟩⟩
   case round =>
    clear I_l6 I_l5 I_l4 I3 I1
    obtain ⟨j, L, A6, c6, l7, hj, rfl, rfl, I6, HO, HBL, HN, HL, HZL⟩ := hrel
    have HBW := Aside0.mk (HB_w15.out.trans (HBL.out.mono HW15.out))
    by_cases hjl : j < x1.length
    ·obtain ⟨a1, f1, k1⟩ := at_int (Kd.R_reads' (Kd.R_below HO1.out HBL.out)).2.2 j hjl
     obtain ⟨a3, f3, k3⟩ := at_int (Kd.R_reads' (Kd.R_below HO3.out HBL.out)).2.2 j (by rw [Q3.out]; exact hjl)
     obtain ⟨a4, f4, k4⟩ := at_int (Kd.R_reads' (Kd.R_below HO4.out HBL.out)).2.2 j (by rw [Q4.out]; exact hjl)
     obtain ⟨a5, f5, k5⟩ := at_int (Kd.R_reads' (Kd.R_below HO5.out HBL.out)).2.2 j (by rw [Q5.out]; exact hjl)
     subst f1 f3 f4 f5
     obtain ⟨kv, hkv⟩ : ∃ kv, x1.getD j 0 = kv := ⟨_, rfl⟩
     obtain ⟨wv, hwv⟩ : ∃ wv, x3.getD j 0 = wv := ⟨_, rfl⟩
     obtain ⟨pv, hpv⟩ : ∃ pv, x4.getD j 0 = pv := ⟨_, rfl⟩
     obtain ⟨yv, hyv⟩ : ∃ yv, x5.getD j 0 = yv := ⟨_, rfl⟩
     rw [hkv] at k1
     rw [hwv] at k3
     rw [hpv] at k4
     rw [hyv] at k5
     have HV := Aside0.mk (And.intro hkv (And.intro hwv (And.intro hpv hyv)))
     clear hkv hwv hpv hyv
     have HJ3 : j < x3.length := by rw [Q3.out]; exact hjl
     have HJ4 : j < x4.length := by rw [Q4.out]; exact hjl
     have HJ5 : j < x5.length := by rw [Q5.out]; exact hjl
     by_cases hw0 : wv < 0
     ·have d0 : decide (wv < 0) = true := decide_eq_true hw0
      have hn : rowsS acc x1 x3 x4 x5 (l6, false) (j + 1) = none := by
       rw [rowsS, HN.out]
       simp only [HV.out.1, HV.out.2.1, HV.out.2.2.1, HV.out.2.2.2]
       rw [rowS, if_pos (Or.inl hw0)]
      have hg := get_none HLO.out HCOL.out (j := j + 1) hjl hn
      have HG := Aside0.mk hg
      clear hn hg hw0
      go_wp2
      go_ret2
      exact ⟨_, by rw [HG.out]; rfl, by rw [HG.out]; exact Kd.R_nil _ _ _ _ _, HBW.out⟩
     ·have d0 : decide (wv < 0) = false := decide_eq_false hw0
      by_cases hw1 : wv ≥ (acc.length : Int)
      ·have d1 : decide ((acc.length : Int) ≤ wv) = true := decide_eq_true hw1
       have hn : rowsS acc x1 x3 x4 x5 (l6, false) (j + 1) = none := by
        rw [rowsS, HN.out]
        simp only [HV.out.1, HV.out.2.1, HV.out.2.2.1, HV.out.2.2.2]
        rw [rowS, if_pos (Or.inr hw1)]
       have hg := get_none HLO.out HCOL.out (j := j + 1) hjl hn
       have HG := Aside0.mk hg
       clear hn hg hw0 hw1
       go_wp2
       go_ret2
       exact ⟨_, by rw [HG.out]; rfl, by rw [HG.out]; exact Kd.R_nil _ _ _ _ _, HBW.out⟩
      ·have d1 : decide ((acc.length : Int) ≤ wv) = false := decide_eq_false hw1
       obtain ⟨wn, rfl⟩ : ∃ wn : Nat, wv = (wn : Int) := ⟨wv.toNat, by omega⟩
       have HWN : wn < acc.length := by omega
       obtain ⟨a2, f2, k2⟩ := at_str (Kd.R_reads' (Kd.R_below HO2.out HBL.out)).2.2 wn HWN
       subst f2
       obtain ⟨nm, hnm⟩ : ∃ nm, acc.getD wn e0 = nm := ⟨_, rfl⟩
       rw [hnm] at k2
       have HNM := Aside0.mk hnm
       have HNZ : Aside0 (nm.size ≤ 32) := ⟨by
        rw [← hnm, List.getD_eq_getElem?_getD, List.getElem?_eq_getElem HWN]
        exact HZ.out _ (List.getElem_mem HWN)⟩
       have HW : Aside0 (¬ ((wn : Int) < 0 ∨ (wn : Int) ≥ (acc.length : Int))) := ⟨by omega⟩
       clear hnm hw0 hw1
       go_upto_region 30 with (fail)
       refine start_ (n := 22) (S := fun w' => w'.cell? (a3.add j) = some (.int .i64 (wn : Int)) ∧ w'.cell? (a2.add wn) = some (.string nm) ∧ w'.cell? (a4.add j) = some (.int .i64 pv) ∧ w'.cell? (a5.add j) = some (.int .i64 yv) ∧ w'.cell? (a1.add j) = some (.int .i64 kv)) (ds := []) #[false, false, false, false, false, false, false, false, false, false, false, false, false, false, false, false, false, false, false, false, false, false] (by kernel_rfl) rfl rfl (⟨k3, k2, k4, k5, k1⟩) (fun hHeld => ?_)
       have HSd := Aside0.mk hHeld
       have HOd := Aside0.mk (Kd.R_drew HO.out)
       have HBd := Aside0.mk (below_drew1 HBL.out)
       obtain ⟨wd, hwd⟩ : ∃ wd, wr.drew = wd := ⟨_, rfl⟩
       rw [hwd] at hHeld HSd HOd HBd ⊢
       clear hwd HO HBL k2 k3 k4 k5 k1 HBW
       refine pure_ (i := 0) (N := some 153) (v := ?_) (a' := ?_) #[true, false, false, false, false, false, false, false, false, false, false, false, false, false, false, false, false, false, false, false, false, false] rfl rfl (by kernel_rfl) (fun _ _ _ h => h) (Or.inl ⟨by rfl, ?_⟩) ?_ ?_
       rotate_left
       ·intro w'
        go_simp
        with_reducible rfl
       rotate_left
       ·simp only [Act.put, List.setIfInBounds_toArray, List.set_cons_zero, List.set_cons_succ, i64_w, i32_w]
        rfl
       refine pure_ (i := 1) (N := some 154) (v := ?_) (a' := ?_) #[true, true, false, false, false, false, false, false, false, false, false, false, false, false, false, false, false, false, false, false, false, false] rfl rfl (by kernel_rfl) (fun _ _ _ h => h) (Or.inl ⟨by rfl, ?_⟩) ?_ ?_
       rotate_left
       ·intro w'
        go_simp
        with_reducible rfl
       rotate_left
       ·simp only [Act.put, List.setIfInBounds_toArray, List.set_cons_zero, List.set_cons_succ, i64_w, i32_w]
        rfl
       refine pure_ (i := 2) (N := some 155) (v := ?_) (a' := ?_) #[true, true, true, false, false, false, false, false, false, false, false, false, false, false, false, false, false, false, false, false, false, false] rfl rfl (by kernel_rfl) (fun _ _ _ h => h) (Or.inl ⟨by rfl, ?_⟩) ?_ ?_
       rotate_left
       ·intro w'
        go_simp
        with_reducible rfl
       rotate_left
       ·simp only [Act.put, List.setIfInBounds_toArray, List.set_cons_zero, List.set_cons_succ, i64_w, i32_w]
        rfl
       refine take_ (i := 3) (N := some 156) (v := ?_) (a' := ?_) #[true, true, true, true, false, false, false, false, false, false, false, false, false, false, false, false, false, false, false, false, false, false] rfl rfl (by kernel_rfl) (fun _ _ _ h => h) (Or.inl ⟨by rfl, ?_⟩) hHeld ?_ ?_
       rotate_left
       ·rintro w' ⟨s0, s1, s2, s3, s4⟩
        go_simp
        with_reducible rfl
       rotate_left
       ·simp only [Act.put, List.setIfInBounds_toArray, List.set_cons_zero, List.set_cons_succ, i64_w, i32_w]
        rfl
       refine pure_ (i := 4) (N := some 157) (v := ?_) (a' := ?_) #[true, true, true, true, true, false, false, false, false, false, false, false, false, false, false, false, false, false, false, false, false, false] rfl rfl (by kernel_rfl) (fun _ _ _ h => h) (Or.inl ⟨by rfl, ?_⟩) ?_ ?_
       rotate_left
       ·intro w'
        go_simp
        with_reducible rfl
       rotate_left
       ·simp only [Act.put, List.setIfInBounds_toArray, List.set_cons_zero, List.set_cons_succ, i64_w, i32_w]
        rfl
       refine pure_ (i := 5) (N := some 158) (v := ?_) (a' := ?_) #[true, true, true, true, true, true, false, false, false, false, false, false, false, false, false, false, false, false, false, false, false, false] rfl rfl (by kernel_rfl) (fun _ _ _ h => h) (Or.inl ⟨by rfl, ?_⟩) ?_ ?_
       rotate_left
       ·intro w'
        go_simp
        with_reducible rfl
       rotate_left
       ·simp only [Act.put, List.setIfInBounds_toArray, List.set_cons_zero, List.set_cons_succ, i64_w, i32_w]
        rfl
       refine pure_ (i := 6) (N := some 159) (v := ?_) (a' := ?_) #[true, true, true, true, true, true, true, false, false, false, false, false, false, false, false, false, false, false, false, false, false, false] rfl rfl (by kernel_rfl) (fun _ _ _ h => h) (Or.inl ⟨by rfl, ?_⟩) ?_ ?_
       rotate_left
       ·intro w'
        go_simp
        with_reducible rfl
       rotate_left
       ·simp only [Act.put, List.setIfInBounds_toArray, List.set_cons_zero, List.set_cons_succ, i64_w, i32_w]
        rfl
       refine pure_ (i := 7) (N := some 160) (v := ?_) (a' := ?_) #[true, true, true, true, true, true, true, true, false, false, false, false, false, false, false, false, false, false, false, false, false, false] rfl rfl (by kernel_rfl) (fun _ _ _ h => h) (Or.inl ⟨by rfl, ?_⟩) ?_ ?_
       rotate_left
       ·intro w'
        go_simp
        with_reducible rfl
       rotate_left
       ·simp only [Act.put, List.setIfInBounds_toArray, List.set_cons_zero, List.set_cons_succ, i64_w, i32_w]
        rfl
       refine take_ (i := 8) (N := some 161) (v := ?_) (a' := ?_) #[true, true, true, true, true, true, true, true, true, false, false, false, false, false, false, false, false, false, false, false, false, false] rfl rfl (by kernel_rfl) (fun _ _ _ h => h) (Or.inl ⟨by rfl, ?_⟩) hHeld ?_ ?_
       rotate_left
       ·rintro w' ⟨s0, s1, s2, s3, s4⟩
        go_simp
        with_reducible rfl
       rotate_left
       ·simp only [Act.put, List.setIfInBounds_toArray, List.set_cons_zero, List.set_cons_succ, i64_w, i32_w]
        rfl
       refine pure_ (i := 9) (N := some 162) (v := ?_) (a' := ?_) #[true, true, true, true, true, true, true, true, true, true, false, false, false, false, false, false, false, false, false, false, false, false] rfl rfl (by kernel_rfl) (fun _ _ _ h => h) (Or.inl ⟨by rfl, ?_⟩) ?_ ?_
       rotate_left
       ·intro w'
        go_simp
        with_reducible rfl
       rotate_left
       ·simp only [Act.put, List.setIfInBounds_toArray, List.set_cons_zero, List.set_cons_succ, i64_w, i32_w]
        rfl
       refine take_ (i := 10) (N := some 163) (v := ?_) (a' := ?_) #[true, true, true, true, true, true, true, true, true, true, true, false, false, false, false, false, false, false, false, false, false, false] rfl rfl (by kernel_rfl) (fun _ _ _ h => h) (Or.inl ⟨by rfl, ?_⟩) hHeld ?_ ?_
       rotate_left
       ·rintro w' ⟨s0, s1, s2, s3, s4⟩
        go_simp
        with_reducible rfl
       rotate_left
       ·simp only [Act.put, List.setIfInBounds_toArray, List.set_cons_zero, List.set_cons_succ, i64_w, i32_w]
        rfl
       refine pure_ (i := 11) (N := some 164) (v := ?_) (a' := ?_) #[true, true, true, true, true, true, true, true, true, true, true, true, false, false, false, false, false, false, false, false, false, false] rfl rfl (by kernel_rfl) (fun _ _ _ h => h) (Or.inl ⟨by rfl, ?_⟩) ?_ ?_
       rotate_left
       ·intro w'
        go_simp
        with_reducible rfl
       rotate_left
       ·simp only [Act.put, List.setIfInBounds_toArray, List.set_cons_zero, List.set_cons_succ, i64_w, i32_w]
        rfl
       refine pure_ (i := 12) (N := some 165) (v := ?_) (a' := ?_) #[true, true, true, true, true, true, true, true, true, true, true, true, true, false, false, false, false, false, false, false, false, false] rfl rfl (by kernel_rfl) (fun _ _ _ h => h) (Or.inl ⟨by rfl, ?_⟩) ?_ ?_
       rotate_left
       ·intro w'
        go_simp
        with_reducible rfl
       rotate_left
       ·simp only [Act.put, List.setIfInBounds_toArray, List.set_cons_zero, List.set_cons_succ, i64_w, i32_w]
        rfl
       refine pure_ (i := 13) (N := some 166) (v := ?_) (a' := ?_) #[true, true, true, true, true, true, true, true, true, true, true, true, true, true, false, false, false, false, false, false, false, false] rfl rfl (by kernel_rfl) (fun _ _ _ h => h) (Or.inl ⟨by rfl, ?_⟩) ?_ ?_
       rotate_left
       ·intro w'
        go_simp
        with_reducible rfl
       rotate_left
       ·simp only [Act.put, List.setIfInBounds_toArray, List.set_cons_zero, List.set_cons_succ, i64_w, i32_w]
        rfl
       refine take_ (i := 14) (N := some 167) (v := ?_) (a' := ?_) #[true, true, true, true, true, true, true, true, true, true, true, true, true, true, true, false, false, false, false, false, false, false] rfl rfl (by kernel_rfl) (fun _ _ _ h => h) (Or.inl ⟨by rfl, ?_⟩) hHeld ?_ ?_
       rotate_left
       ·rintro w' ⟨s0, s1, s2, s3, s4⟩
        go_simp
        with_reducible rfl
       rotate_left
       ·simp only [Act.put, List.setIfInBounds_toArray, List.set_cons_zero, List.set_cons_succ, i64_w, i32_w]
        rfl
       refine pure_ (i := 15) (N := some 168) (v := ?_) (a' := ?_) #[true, true, true, true, true, true, true, true, true, true, true, true, true, true, true, true, false, false, false, false, false, false] rfl rfl (by kernel_rfl) (fun _ _ _ h => h) (Or.inl ⟨by rfl, ?_⟩) ?_ ?_
       rotate_left
       ·intro w'
        go_simp
        with_reducible rfl
       rotate_left
       ·simp only [Act.put, List.setIfInBounds_toArray, List.set_cons_zero, List.set_cons_succ, i64_w, i32_w]
        rfl
       refine pure_ (i := 16) (N := some 169) (v := ?_) (a' := ?_) #[true, true, true, true, true, true, true, true, true, true, true, true, true, true, true, true, true, false, false, false, false, false] rfl rfl (by kernel_rfl) (fun _ _ _ h => h) (Or.inl ⟨by rfl, ?_⟩) ?_ ?_
       rotate_left
       ·intro w'
        go_simp
        with_reducible rfl
       rotate_left
       ·simp only [Act.put, List.setIfInBounds_toArray, List.set_cons_zero, List.set_cons_succ, i64_w, i32_w]
        rfl
       refine pure_ (i := 17) (N := some 170) (v := ?_) (a' := ?_) #[true, true, true, true, true, true, true, true, true, true, true, true, true, true, true, true, true, true, false, false, false, false] rfl rfl (by kernel_rfl) (fun _ _ _ h => h) (Or.inl ⟨by rfl, ?_⟩) ?_ ?_
       rotate_left
       ·intro w'
        go_simp
        with_reducible rfl
       rotate_left
       ·simp only [Act.put, List.setIfInBounds_toArray, List.set_cons_zero, List.set_cons_succ, i64_w, i32_w]
        rfl
       refine take_ (i := 18) (N := some 171) (v := ?_) (a' := ?_) #[true, true, true, true, true, true, true, true, true, true, true, true, true, true, true, true, true, true, true, false, false, false] rfl rfl (by kernel_rfl) (fun _ _ _ h => h) (Or.inl ⟨by rfl, ?_⟩) hHeld ?_ ?_
       rotate_left
       ·rintro w' ⟨s0, s1, s2, s3, s4⟩
        go_simp
        with_reducible rfl
       rotate_left
       ·simp only [Act.put, List.setIfInBounds_toArray, List.set_cons_zero, List.set_cons_succ, i64_w, i32_w]
        rfl
       refine pure_ (i := 19) (N := some 172) (v := ?_) (a' := ?_) #[true, true, true, true, true, true, true, true, true, true, true, true, true, true, true, true, true, true, true, true, false, false] rfl rfl (by kernel_rfl) (fun _ _ _ h => h) (Or.inl ⟨by rfl, ?_⟩) ?_ ?_
       rotate_left
       ·intro w'
        go_simp
        with_reducible rfl
       rotate_left
       ·simp only [Act.put, List.setIfInBounds_toArray, List.set_cons_zero, List.set_cons_succ, i64_w, i32_w]
        rfl
       refine one_ (i := 20) (N := some 21) #[true, true, true, true, true, true, true, true, true, true, true, true, true, true, true, true, true, true, true, true, true, false] rfl rfl (by kernel_rfl) (by decide) (fun K hK => ?_)
       refine value_ (v := .pointer (some ⟨wd.heap.size, 0, none⟩)) (w1 := wd.alloc (.cells #[.int .i64 0, .string ⟨#[]⟩, .int .i64 0, .int .i64 0, .string ⟨#[]⟩] 33)) (by rfl) rfl (by go_simp) ?_
       have hba := below_alloc (Below.refl wd.heap.size wd) (.cells #[.int .i64 0, .string ⟨#[]⟩, .int .i64 0, .int .i64 0, .string ⟨#[]⟩] 33)
       refine hK.out _ _ (⟨(hba.cell (World.block_lt_of_cell? _ _ HSd.out.1)).trans HSd.out.1, (hba.cell (World.block_lt_of_cell? _ _ HSd.out.2.1)).trans HSd.out.2.1, (hba.cell (World.block_lt_of_cell? _ _ HSd.out.2.2.1)).trans HSd.out.2.2.1, (hba.cell (World.block_lt_of_cell? _ _ HSd.out.2.2.2.1)).trans HSd.out.2.2.2.1, (hba.cell (World.block_lt_of_cell? _ _ HSd.out.2.2.2.2)).trans HSd.out.2.2.2.2⟩) (fun hHeld => ?_)
       clear hK K
       refine norm_ (a' := ?_) ?_ ?_
       rotate_left
       ·show Act.put _ (some 21) _ = _
        simp only [Act.put, List.setIfInBounds_toArray, List.set_cons_zero, List.set_cons_succ, i64_w, i32_w]
        rfl
       clear hba
       refine one_ (i := 21) (N := none) #[true, true, true, true, true, true, true, true, true, true, true, true, true, true, true, true, true, true, true, true, true, true] rfl rfl (by kernel_rfl) (by decide) (fun K hK => ?_)
       refine skip_ (w1 := ((((((wd.alloc (.cells #[.int .i64 0, .string ⟨#[]⟩, .int .i64 0, .int .i64 0, .string ⟨#[]⟩] 33)).setCell ⟨wd.heap.size, 0, none⟩ (.int .i64 kv)).setCell ⟨wd.heap.size, 1, none⟩ (.string nm)).setCell ⟨wd.heap.size, 2, none⟩ (.int .i64 pv)).setCell ⟨wd.heap.size, 3, none⟩ (.int .i64 yv)).setCell ⟨wd.heap.size, 4, none⟩ (.string ⟨#[]⟩))) (by rfl) rfl (by go_simp; try rfl) ?_
       have hba : Below wd.heap.size wd ((((((wd.alloc (.cells #[.int .i64 0, .string ⟨#[]⟩, .int .i64 0, .int .i64 0, .string ⟨#[]⟩] 33)).setCell ⟨wd.heap.size, 0, none⟩ (.int .i64 kv)).setCell ⟨wd.heap.size, 1, none⟩ (.string nm)).setCell ⟨wd.heap.size, 2, none⟩ (.int .i64 pv)).setCell ⟨wd.heap.size, 3, none⟩ (.int .i64 yv)).setCell ⟨wd.heap.size, 4, none⟩ (.string ⟨#[]⟩)) := below_set (below_set (below_set (below_set (below_set (below_alloc (Below.refl wd.heap.size wd) _) (Nat.le_refl _)) (Nat.le_refl _)) (Nat.le_refl _)) (Nat.le_refl _)) (Nat.le_refl _)
       have hbk : ((((((wd.alloc (.cells #[.int .i64 0, .string ⟨#[]⟩, .int .i64 0, .int .i64 0, .string ⟨#[]⟩] 33)).setCell ⟨wd.heap.size, 0, none⟩ (.int .i64 kv)).setCell ⟨wd.heap.size, 1, none⟩ (.string nm)).setCell ⟨wd.heap.size, 2, none⟩ (.int .i64 pv)).setCell ⟨wd.heap.size, 3, none⟩ (.int .i64 yv)).setCell ⟨wd.heap.size, 4, none⟩ (.string ⟨#[]⟩)).heap[wd.heap.size]? = some (.cells #[.int .i64 kv, .string nm, .int .i64 pv, .int .i64 yv, .string ⟨#[]⟩] 33 (0, 0)) := (blk_set (blk_set (blk_set (blk_set (blk_set (blk_new wd _) 0 _) 1 _) 2 _) 3 _) 4 _).trans rfl
       refine hK.out _ _ (⟨(hba.cell (World.block_lt_of_cell? _ _ HSd.out.1)).trans HSd.out.1, (hba.cell (World.block_lt_of_cell? _ _ HSd.out.2.1)).trans HSd.out.2.1, (hba.cell (World.block_lt_of_cell? _ _ HSd.out.2.2.1)).trans HSd.out.2.2.1, (hba.cell (World.block_lt_of_cell? _ _ HSd.out.2.2.2.1)).trans HSd.out.2.2.2.1, (hba.cell (World.block_lt_of_cell? _ _ HSd.out.2.2.2.2)).trans HSd.out.2.2.2.2⟩) (fun hHeld => ?_)
       clear hK K
       clear hHeld HSd
       have HBk := Aside0.mk hbk
       have HOb := Aside0.mk (Kd.R_below (Kd.R_mono (Kd.R_bound HOd.out) (fun k hk => (show k ≠ wd.heap.size from by have := hk.2.2.1; omega))) hba)
       have HBb := Aside0.mk (below_step HBd.out hba)
       have HGL : Aside0 (w15.heap.size ≤ wd.heap.size) := ⟨HBd.out.size⟩
       clear hbk hba HOd HBd
       obtain ⟨gb, hgb⟩ : ∃ gb, wd.heap.size = gb := ⟨_, rfl⟩
       rw [hgb] at HBk HOb HBb HGL ⊢
       obtain ⟨wb, hwb⟩ : ∃ wb, ((((((wd.alloc (.cells #[.int .i64 0, .string ⟨#[]⟩, .int .i64 0, .int .i64 0, .string ⟨#[]⟩] 33)).setCell ⟨gb, 0, none⟩ (.int .i64 kv)).setCell ⟨gb, 1, none⟩ (.string nm)).setCell ⟨gb, 2, none⟩ (.int .i64 pv)).setCell ⟨gb, 3, none⟩ (.int .i64 yv)).setCell ⟨gb, 4, none⟩ (.string ⟨#[]⟩)) = wb := ⟨_, rfl⟩
       rw [hwb] at HBk HOb HBb ⊢
       clear hwb hgb
       refine done_ (by kernel_rfl) ?_
       obtain ⟨A8, c8, ee8⟩ := Kd.R_slice HOb.out
       subst ee8
       have b0 : wb.cell? ⟨gb, 0, none⟩ = some (.int .i64 kv) := (blk_cell HBk.out 0).trans rfl
       have HBW := Aside0.mk (HB_w15.out.trans (HBb.out.mono HW15.out))
       by_cases hk1 : kv = 1
       ·have t0 : (kv == 1) = true := beq_iff_eq.mpr hk1
        have HKV : Aside0 (kv = 1 ∨ kv = 4) := ⟨Or.inl hk1⟩
        clear hk1
        obtain ⟨s, u, e, hg, hu, hz⟩ := text_form I6.out 1024 1024 rfl
        have G6 := Aside0.mk hg
        have U6 := Aside0.mk hu
        clear hg hu hz
        go_upto_region 33 with (go_at_call 47; refine (rt_calls I6.out HBW.out 1024 (by decide) (by decide) G6.out).mono ?_; rintro e_ w4 ⟨rfl, hb⟩; have HO4_ := Aside0.mk (Kd.R_below HOb.out hb); have HB4 := Aside0.mk (below_step HBb.out hb); have HBW4 := Aside0.mk (below_step HBW.out hb); have HK4 := Aside0.mk (blk_below HBk.out hb); clear hb b0)
        by_cases q : e = 0
        rotate_left
        ·have b0 : (e == 0) = false := beq_eq_false_iff_ne.mpr q
         have b1 : (e != 0) = true := bne_iff_ne.mpr q
         have Q := Aside0.mk q
         clear q
         have hn : rowsS acc x1 x3 x4 x5 (l6, false) (j + 1) = some (L ++ [(⟨kv, nm, pv, yv, e0⟩ : Sop)], (l7, true)) := by
          rw [rowsS, HN.out]
          simp only [HV.out.1, HV.out.2.1, HV.out.2.2.1, HV.out.2.2.2]
          rw [rowS, if_neg HW.out, if_pos HKV.out, Int.toNat_natCast, HNM.out, textS_err G6.out Q.out]
         have HG := Aside0.mk (get_rows_bad HLO.out HCOL.out (j := j + 1) hjl hn rfl)
         clear hn
         go_wp2
         go_ret2
         exact ⟨_, by rw [HG.out]; rfl, by rw [HG.out]; exact Kd.R_nil _ _ _ _ _, HBW4.out⟩
        subst q
        have f4 := blk_frozen HK4.out 4
        have y4 : w4.cell? ⟨gb, 4, none⟩ = some (.string ⟨#[]⟩) := (blk_cell HK4.out 4).trans rfl
        have HK5 : Aside0 ((w4.setCell ⟨gb, 4, none⟩ (.string s)).heap[gb]? = some (.cells #[.int .i64 kv, .string nm, .int .i64 pv, .int .i64 yv, .string s] 33 (0, 0))) := ⟨(blk_set HK4.out 4 _).trans rfl⟩
        have z0 : (w4.setCell ⟨gb, 4, none⟩ (.string s)).cell? ⟨gb, 0, none⟩ = some (.int .i64 kv) := (blk_cell HK5.out 0).trans rfl
        have z1 : (w4.setCell ⟨gb, 4, none⟩ (.string s)).cell? ⟨gb, 1, none⟩ = some (.string nm) := (blk_cell HK5.out 1).trans rfl
        have z2 : (w4.setCell ⟨gb, 4, none⟩ (.string s)).cell? ⟨gb, 2, none⟩ = some (.int .i64 pv) := (blk_cell HK5.out 2).trans rfl
        have z3 : (w4.setCell ⟨gb, 4, none⟩ (.string s)).cell? ⟨gb, 3, none⟩ = some (.int .i64 yv) := (blk_cell HK5.out 3).trans rfl
        have z4 : (w4.setCell ⟨gb, 4, none⟩ (.string s)).cell? ⟨gb, 4, none⟩ = some (.string s) := (blk_cell HK5.out 4).trans rfl
        have HO5_ : Aside0 (Kd.R k33 33 (w4.setCell ⟨gb, 4, none⟩ (.string s)) w15.heap.size (fun _ => True) (.slice A8 L.length c8) L) := ⟨Kd.R_mono (Kd.R_far (p := ⟨gb, 4, none⟩) HO4_.out (fun k hk => hk) (.string s)) (fun _ _ => trivial)⟩
        have HB5 : Aside0 (Below w15.heap.size w15 (w4.setCell ⟨gb, 4, none⟩ (.string s))) := ⟨below_set HB4.out HGL.out⟩
        go_wp2_with (first | ((with_reducible refine gate_builtin (b := .append) (xs := #[.tmp 194, .tmp 196]) rfl ?_); at_builtin; refine Kd.R_append k33 (w0 := w15) w15.heap.size rfl (.tmp 194) (.tmp 196) 22 33 (.agg #[.int .i64 0, .string ⟨#[]⟩, .int .i64 0, .int .i64 0, .string ⟨#[]⟩]) 56 rfl Try.underlying22 infoOp rfl (by decide) (by omega) (.slice A8 L.length c8) L (⟨kv, nm, pv, yv, s⟩ : Sop) [.int .i64 kv, .string nm, .int .i64 pv, .int .i64 yv, .string s] (fun _ => True) (fun _ => False) rfl (show Value.slice (some ⟨w4.heap.size, 0, none⟩) 1 1 = .slice (some ⟨(w4.setCell ⟨gb, 4, none⟩ (.string s)).heap.size, 0, none⟩) 1 1 from by rw [cell_size]) ?aP (fun _ hk => hk.elim) ?aF ?aO ?aB ?aS ?aL ?_; (case aP => exact k33_mkM _ _ _ (⟨kv, nm, pv, yv, s⟩ : Sop)); (case aB => exact HB5.out); (case aF => exact (fun _ _ => trivial)); (case aO => exact HO5_.out); (case aS => exact (HB5.out).size); (case aL => (have := HL.out; have := HLN.out.1; omega)); intro v7 w7 ho hb hg hat; have HO7 := Aside0.mk ho; have HB7 := Aside0.mk hb; clear ho hb hg hat) | (go_at_call 45; refine (rs_calls I6.out u U6.out).mono ?_; rintro e_ w_ ⟨A7, c7, l8, rfl, rfl, hi, hl⟩; have I7 := Aside0.mk hi; have L7 := Aside0.mk hl; clear hi hl))
        go_roundw
        case rel =>
         have hw : wrap64 ((j : Int) + 1) = ((j + 1 : Nat) : Int) := by have := HLN.out.1; unfold wrap64; omega
         refine ⟨j + 1, L ++ [(⟨kv, nm, pv, yv, s⟩ : Sop)], A7, c7, l8, hjl, by rw [hw], rfl, I7, HO7, HB7, ⟨?_⟩, ⟨by rw [List.length_append, HL.out]; rfl⟩, ⟨fun o ho => ?_⟩⟩
         ·rw [rowsS, HN.out]
          simp only [HV.out.1, HV.out.2.1, HV.out.2.2.1, HV.out.2.2.2]
          rw [rowS, if_neg HW.out, if_pos HKV.out, textS_ok G6.out rfl, L7.out, Int.toNat_natCast, HNM.out]
         ·rcases List.mem_append.1 ho with ho | ho
          ·exact HZL.out o ho
          ·obtain rfl : o = _ := by simpa using ho
           exact HNZ.out
        case measure =>
         have hw : wrap64 ((j : Int) + 1) = ((j + 1 : Nat) : Int) := by have := HLN.out.1; unfold wrap64; omega
         rw [hw]
         show x1.length - ((j + 1 : Nat) : Int).toNat < x1.length - ((j : Nat) : Int).toNat
         rw [Int.toNat_natCast, Int.toNat_natCast]
         omega
       ·have t0 : (kv == 1) = false := beq_eq_false_iff_ne.mpr hk1
        by_cases hk4 : kv = 4
        ·have t1 : (kv == 4) = true := beq_iff_eq.mpr hk4
         have HKV : Aside0 (kv = 1 ∨ kv = 4) := ⟨Or.inr hk4⟩
         clear hk1 hk4
         obtain ⟨s, u, e, hg, hu, hz⟩ := text_form I6.out 1024 1024 rfl
         have G6 := Aside0.mk hg
         have U6 := Aside0.mk hu
         clear hg hu hz
         go_upto_region 33 with (go_at_call 47; refine (rt_calls I6.out HBW.out 1024 (by decide) (by decide) G6.out).mono ?_; rintro e_ w4 ⟨rfl, hb⟩; have HO4_ := Aside0.mk (Kd.R_below HOb.out hb); have HB4 := Aside0.mk (below_step HBb.out hb); have HBW4 := Aside0.mk (below_step HBW.out hb); have HK4 := Aside0.mk (blk_below HBk.out hb); clear hb b0)
         by_cases q : e = 0
         rotate_left
         ·have b0 : (e == 0) = false := beq_eq_false_iff_ne.mpr q
          have b1 : (e != 0) = true := bne_iff_ne.mpr q
          have Q := Aside0.mk q
          clear q
          have hn : rowsS acc x1 x3 x4 x5 (l6, false) (j + 1) = some (L ++ [(⟨kv, nm, pv, yv, e0⟩ : Sop)], (l7, true)) := by
           rw [rowsS, HN.out]
           simp only [HV.out.1, HV.out.2.1, HV.out.2.2.1, HV.out.2.2.2]
           rw [rowS, if_neg HW.out, if_pos HKV.out, Int.toNat_natCast, HNM.out, textS_err G6.out Q.out]
          have HG := Aside0.mk (get_rows_bad HLO.out HCOL.out (j := j + 1) hjl hn rfl)
          clear hn
          go_wp2
          go_ret2
          exact ⟨_, by rw [HG.out]; rfl, by rw [HG.out]; exact Kd.R_nil _ _ _ _ _, HBW4.out⟩
         subst q
         have f4 := blk_frozen HK4.out 4
         have y4 : w4.cell? ⟨gb, 4, none⟩ = some (.string ⟨#[]⟩) := (blk_cell HK4.out 4).trans rfl
         have HK5 : Aside0 ((w4.setCell ⟨gb, 4, none⟩ (.string s)).heap[gb]? = some (.cells #[.int .i64 kv, .string nm, .int .i64 pv, .int .i64 yv, .string s] 33 (0, 0))) := ⟨(blk_set HK4.out 4 _).trans rfl⟩
         have z0 : (w4.setCell ⟨gb, 4, none⟩ (.string s)).cell? ⟨gb, 0, none⟩ = some (.int .i64 kv) := (blk_cell HK5.out 0).trans rfl
         have z1 : (w4.setCell ⟨gb, 4, none⟩ (.string s)).cell? ⟨gb, 1, none⟩ = some (.string nm) := (blk_cell HK5.out 1).trans rfl
         have z2 : (w4.setCell ⟨gb, 4, none⟩ (.string s)).cell? ⟨gb, 2, none⟩ = some (.int .i64 pv) := (blk_cell HK5.out 2).trans rfl
         have z3 : (w4.setCell ⟨gb, 4, none⟩ (.string s)).cell? ⟨gb, 3, none⟩ = some (.int .i64 yv) := (blk_cell HK5.out 3).trans rfl
         have z4 : (w4.setCell ⟨gb, 4, none⟩ (.string s)).cell? ⟨gb, 4, none⟩ = some (.string s) := (blk_cell HK5.out 4).trans rfl
         have HO5_ : Aside0 (Kd.R k33 33 (w4.setCell ⟨gb, 4, none⟩ (.string s)) w15.heap.size (fun _ => True) (.slice A8 L.length c8) L) := ⟨Kd.R_mono (Kd.R_far (p := ⟨gb, 4, none⟩) HO4_.out (fun k hk => hk) (.string s)) (fun _ _ => trivial)⟩
         have HB5 : Aside0 (Below w15.heap.size w15 (w4.setCell ⟨gb, 4, none⟩ (.string s))) := ⟨below_set HB4.out HGL.out⟩
         go_wp2_with (first | ((with_reducible refine gate_builtin (b := .append) (xs := #[.tmp 194, .tmp 196]) rfl ?_); at_builtin; refine Kd.R_append k33 (w0 := w15) w15.heap.size rfl (.tmp 194) (.tmp 196) 22 33 (.agg #[.int .i64 0, .string ⟨#[]⟩, .int .i64 0, .int .i64 0, .string ⟨#[]⟩]) 56 rfl Try.underlying22 infoOp rfl (by decide) (by omega) (.slice A8 L.length c8) L (⟨kv, nm, pv, yv, s⟩ : Sop) [.int .i64 kv, .string nm, .int .i64 pv, .int .i64 yv, .string s] (fun _ => True) (fun _ => False) rfl (show Value.slice (some ⟨w4.heap.size, 0, none⟩) 1 1 = .slice (some ⟨(w4.setCell ⟨gb, 4, none⟩ (.string s)).heap.size, 0, none⟩) 1 1 from by rw [cell_size]) ?aP (fun _ hk => hk.elim) ?aF ?aO ?aB ?aS ?aL ?_; (case aP => exact k33_mkM _ _ _ (⟨kv, nm, pv, yv, s⟩ : Sop)); (case aB => exact HB5.out); (case aF => exact (fun _ _ => trivial)); (case aO => exact HO5_.out); (case aS => exact (HB5.out).size); (case aL => (have := HL.out; have := HLN.out.1; omega)); intro v7 w7 ho hb hg hat; have HO7 := Aside0.mk ho; have HB7 := Aside0.mk hb; clear ho hb hg hat) | (go_at_call 45; refine (rs_calls I6.out u U6.out).mono ?_; rintro e_ w_ ⟨A7, c7, l8, rfl, rfl, hi, hl⟩; have I7 := Aside0.mk hi; have L7 := Aside0.mk hl; clear hi hl))
         go_roundw
         case rel =>
          have hw : wrap64 ((j : Int) + 1) = ((j + 1 : Nat) : Int) := by have := HLN.out.1; unfold wrap64; omega
          refine ⟨j + 1, L ++ [(⟨kv, nm, pv, yv, s⟩ : Sop)], A7, c7, l8, hjl, by rw [hw], rfl, I7, HO7, HB7, ⟨?_⟩, ⟨by rw [List.length_append, HL.out]; rfl⟩, ⟨fun o ho => ?_⟩⟩
          ·rw [rowsS, HN.out]
           simp only [HV.out.1, HV.out.2.1, HV.out.2.2.1, HV.out.2.2.2]
           rw [rowS, if_neg HW.out, if_pos HKV.out, textS_ok G6.out rfl, L7.out, Int.toNat_natCast, HNM.out]
          ·rcases List.mem_append.1 ho with ho | ho
           ·exact HZL.out o ho
           ·obtain rfl : o = _ := by simpa using ho
            exact HNZ.out
         case measure =>
          have hw : wrap64 ((j : Int) + 1) = ((j + 1 : Nat) : Int) := by have := HLN.out.1; unfold wrap64; omega
          rw [hw]
          show x1.length - ((j + 1 : Nat) : Int).toNat < x1.length - ((j : Nat) : Int).toNat
          rw [Int.toNat_natCast, Int.toNat_natCast]
          omega
        ·have t1 : (kv == 4) = false := beq_eq_false_iff_ne.mpr hk4
         have HKV : Aside0 (¬ (kv = 1 ∨ kv = 4)) := ⟨fun h => h.elim hk1 hk4⟩
         clear hk1 hk4
         have z1 : wb.cell? ⟨gb, 1, none⟩ = some (.string nm) := (blk_cell HBk.out 1).trans rfl
         have z2 : wb.cell? ⟨gb, 2, none⟩ = some (.int .i64 pv) := (blk_cell HBk.out 2).trans rfl
         have z3 : wb.cell? ⟨gb, 3, none⟩ = some (.int .i64 yv) := (blk_cell HBk.out 3).trans rfl
         have z4 : wb.cell? ⟨gb, 4, none⟩ = some (.string ⟨#[]⟩) := (blk_cell HBk.out 4).trans rfl
         go_wp2_with (first | fail | ((with_reducible refine gate_builtin (b := .append) (xs := #[.tmp 194, .tmp 196]) rfl ?_); at_builtin; refine Kd.R_append k33 (w0 := w15) w15.heap.size rfl (.tmp 194) (.tmp 196) 22 33 (.agg #[.int .i64 0, .string ⟨#[]⟩, .int .i64 0, .int .i64 0, .string ⟨#[]⟩]) 56 rfl Try.underlying22 infoOp rfl (by decide) (by omega) (.slice A8 L.length c8) L (⟨kv, nm, pv, yv, e0⟩ : Sop) [.int .i64 kv, .string nm, .int .i64 pv, .int .i64 yv, .string e0] (fun _ => True) (fun _ => False) rfl rfl ?aP (fun _ hk => hk.elim) ?aF ?aO ?aB ?aS ?aL ?_; (case aP => exact k33_mkM _ _ _ (⟨kv, nm, pv, yv, e0⟩ : Sop)); (case aB => exact HBb.out); (case aF => exact (fun _ _ => trivial)); (case aO => exact Kd.R_mono HOb.out (fun _ _ => trivial)); (case aS => exact (HBb.out).size); (case aL => (have := HL.out; have := HLN.out.1; omega)); intro v7 w7 ho hb hg hat; have HO7 := Aside0.mk ho; have HB7 := Aside0.mk hb; clear ho hb hg hat))
         go_roundw
         case rel =>
          have hw : wrap64 ((j : Int) + 1) = ((j + 1 : Nat) : Int) := by have := HLN.out.1; unfold wrap64; omega
          refine ⟨j + 1, L ++ [(⟨kv, nm, pv, yv, e0⟩ : Sop)], A6, c6, l7, hjl, by rw [hw], rfl, I6, HO7, HB7, ⟨?_⟩, ⟨by rw [List.length_append, HL.out]; rfl⟩, ⟨fun o ho => ?_⟩⟩
          ·rw [rowsS, HN.out]
           simp only [HV.out.1, HV.out.2.1, HV.out.2.2.1, HV.out.2.2.2]
           rw [rowS, if_neg HW.out, if_neg HKV.out, Int.toNat_natCast, HNM.out]
          ·rcases List.mem_append.1 ho with ho | ho
           ·exact HZL.out o ho
           ·obtain rfl : o = _ := by simpa using ho
            exact HNZ.out
         case measure =>
          have hw : wrap64 ((j : Int) + 1) = ((j + 1 : Nat) : Int) := by have := HLN.out.1; unfold wrap64; omega
          rw [hw]
          show x1.length - ((j + 1 : Nat) : Int).toNat < x1.length - ((j : Nat) : Int).toNat
          rw [Int.toNat_natCast, Int.toNat_natCast]
          omega
    ·obtain rfl : j = x1.length := by omega
     have hgs := get_some HLO.out HCOL.out HN.out
     have HG := Aside0.mk hgs
     clear hgs hjl
     obtain ⟨A8, c8, ee8⟩ := Kd.R_slice HO.out
     subst ee8
     have HLA : Aside0 (¬ 256 < L.length) := ⟨by have := HL.out; have := HLN.out.1; omega⟩
     have HPY := Aside0.mk (putB_bytes L)
     obtain ⟨PE, hPE⟩ : ∃ E, putE L = E := ⟨_, rfl⟩
     obtain ⟨PB, hPB⟩ : ∃ B, putB L = B := ⟨_, rfl⟩
     rw [hPB] at HPY
     have HPF : Aside0 (stemmaref07_Put.f L = some (PB, PE)) := ⟨by
      rw [RPut_eq L (fun o ho => by have := HZL.out o ho; omega), putR, if_neg HLA.out, hPB, hPE]⟩
     have HPP := Aside0.mk (And.intro hPE hPB)
     clear hPE hPB
     go_upto_region 39 with (go_at_call 10; refine (stemmaref07_Put.calls A8 c8 L PB PE _ (Kd.R_reads' HO.out).2.2 (Kd.R_reads' HO.out).2.1 HPF.out).mono ?_; rintro e_ w7 ⟨v7, rfl, ho, hb⟩; have HO7 := Aside0.mk ho; have HB7 := Aside0.mk (below_step HBW.out hb); have HA7 := Aside0.mk (Kd.R_below HO.out hb); clear ho hb)
     obtain ⟨A9, c9, ee9⟩ := Kd.R_slice HO7.out
     subst ee9
     have hst1 := Kd.C_string (P := Try.prog) (c := c9) Try.underlying23 Try.underlying5 Try.underlying9 (Kd.R_reads' HO7.out).2.2
     have hst2 := Kd.C_string (P := Try.prog) (c := c0) Try.underlying23 Try.underlying5 Try.underlying9 (Kd.C_below I0.out.row HB7.out)
     have HWL : Aside0 (w.heap.size ≤ w15.heap.size) := HW15
     by_cases hE : PE = 0
     ·have p0 : (PE == 0) = true := beq_iff_eq.mpr hE
      have p1 : (PE != 0) = false := by rw [hE]; rfl
      have HEE := Aside0.mk hE
      clear hE
      by_cases hq : (strOfNums PB).toList = (strOfNums b).toList
      ·have q0 : ((strOfNums PB).toList == (strOfNums b).toList) = true := beq_iff_eq.mpr hq
       have q1 : ((strOfNums PB).toList != (strOfNums b).toList) = false := bne_eq_false_iff_eq.mpr hq
       have hx : endS b L (l7, false) = (L, 0) := if_pos ⟨rfl, HPP.out.1.trans HEE.out, HPP.out.2.trans (ColT.str_eq HPY.out I0.out.byte hq)⟩
       have HX := Aside0.mk hx
       clear hx hq
       go_wp2
       go_ret2
       exact ⟨_, by rw [HG.out, HX.out]; rfl, by rw [HG.out, HX.out]; exact Kd.R_lower HA7.out HWL.out, HB7.out⟩
      ·have q0 : ((strOfNums PB).toList == (strOfNums b).toList) = false := beq_eq_false_iff_ne.mpr hq
       have q1 : ((strOfNums PB).toList != (strOfNums b).toList) = true := bne_iff_ne.mpr hq
       have hx : endS b L (l7, false) = ([], 4) := if_neg (fun h => hq (by rw [← HPP.out.2, h.2.2]))
       have HX := Aside0.mk hx
       clear hx hq
       go_wp2
       go_ret2
       exact ⟨_, by rw [HG.out, HX.out]; rfl, by rw [HG.out, HX.out]; exact Kd.R_nil _ _ _ _ _, HB7.out⟩
     ·have p0 : (PE == 0) = false := beq_eq_false_iff_ne.mpr hE
      have p1 : (PE != 0) = true := bne_iff_ne.mpr hE
      have hx : endS b L (l7, false) = ([], 4) := if_neg (fun h => hE (by rw [← HPP.out.1]; exact h.2.1))
      have HX := Aside0.mk hx
      clear hx hE
      go_wp2
      go_ret2
      exact ⟨_, by rw [HG.out, HX.out]; rfl, by rw [HG.out, HX.out]; exact Kd.R_nil _ _ _ _ _, HB7.out⟩
end Go.Proofs.Ytpnnjefhchppfaa.Op

set_option linter.unusedVariables false
set_option linter.unusedSimpArgs false
namespace Go.Proofs.Ytpnnjefhchppfaa.PA
open Go Go.RowKit Go.Proofs.YtpnnjefhchppfaaW.PrintWords Go.Proofs.YtpnnjefhchppfaaW.PrintLast Go.Proofs.YtpnnjefhchppfaaW.PrintMore
def stemmaref07_Get.f (l : List Int) : Option (List S33 × Int) := if bytesB l = true then some (Op.getS l) else none
theorem stemmaref07_Get.calls (A0 : Option Addr) (c0 : Nat) (l0 : List Int) (r1 : List S33) (r2 : Int) (w : World) (hr0 : Kd.C (Kd.int .u8) w A0 l0.length l0) (hc0 : l0.length ≤ c0) (h : stemmaref07_Get.f l0 = some (r1, r2)) :
    Calls Try.prog 18 #[.slice A0 l0.length c0] w fun e w' => ∃ v0_ : Value, e = .returned (.tuple #[v0_, .int .i64 r2]) ∧ Kd.R k33 33 w' w.heap.size (fun _ => True) v0_ r1 ∧ Below w.heap.size w w' := by
  unfold stemmaref07_Get.f at h
  split at h
  case isFalse => cases h
  rename_i hb
  obtain ⟨hb, hl⟩ := bytesB_of hb
  injection h with h
  have := Op.RGet_calls A0 c0 l0 w hr0 hc0 hb hl
  unfold Op.GetPost at this
  rw [h] at this
  exact this
end Go.Proofs.Ytpnnjefhchppfaa.PA

namespace Go.Proofs.Ytpnnjefhchppfaa.PA
open Go.RowKit Go.Proofs.YtpnnjefhchppfaaW.PrintWords Go.Proofs.YtpnnjefhchppfaaW.PrintLast Go.Proofs.YtpnnjefhchppfaaW.PrintMore
attribute [local go_sem] max2_int min2_int max_two min_two max_three min_three max_four min_four
set_option linter.unusedVariables false
set_option linter.unusedSimpArgs false

def stemmalaw07_OpGets.f (k : Nat) (l0 : List Int) : Option (Bool) := (some (([] : List Int) : List Int)).bind fun y413 => (if y413.length + l0.length < 140737488355328 then ((some (y413 ++ l0 : List Int)).bind fun y416 => ((op_Get.f y416).bind fun bt419 => ((stemmaref07_Get.f l0).bind fun bt423 => ((stemmaref07_Same.f k bt419.1 bt423.1).bind fun t427 => (if t427 = true then (if bt419.2 = bt423.2 then ((op_Same.f k bt419.1 bt423.1).bind fun t428 => (if t428 = true then (if (strOfNums y416).toList = (strOfNums l0).toList then ((stemmalaw07_awake.f).bind fun t429 => (some t429)) else (some false)) else (some false))) else (some false)) else (some false)))))) else (none))
theorem stemmalaw07_OpGets.mono : ∀ a0 k, LeO (stemmalaw07_OpGets.f k a0) (stemmalaw07_OpGets.f (k + 1) a0) := by
 intro a0 k
 unfold stemmalaw07_OpGets.f
 repeat' first
   | (with_reducible exact op_Same.mono _ _ _)
   | (with_reducible exact stemmaref07_Same.mono _ _ _)
   | (with_reducible exact LeO.refl _)
   | (with_reducible exact LeO.none _)
   | (with_reducible refine LeO.ite ?_ ?_)
   | (with_reducible refine LeO.bind ?_ (fun _ => ?_))
   | exact op_Same.mono _ _ _
   | exact stemmaref07_Same.mono _ _ _
   | exact LeO.none _
   | refine LeO.ite ?_ ?_
   | refine LeO.bind ?_ (fun _ => ?_)
set_option maxHeartbeats 8000000 in
set_option maxRecDepth 100000 in
theorem stemmalaw07_OpGets.calls (k : Nat) (A0 : Option Addr) (c0 : Nat) (l0 : List Int) (r : Bool) (w : World) (hr0 : Kd.C (Kd.int .u8) w A0 l0.length l0) (hc0 : l0.length ≤ c0) (hr_ : Aside0 (r = true)) (h : stemmalaw07_OpGets.f k l0 = some r) :
  Calls Try.prog 5 #[.slice A0 l0.length c0] w fun e w' => e = .returned (.bool r) ∧ Below w.heap.size w w' := by
 have HR0 := Aside0.mk hr0
 have HC0 := Aside0.mk hc0
 clear hr0 hc0
 have HB := Aside0.mk (Below.refl w.heap.size w)
 have H : ((some (([] : List Int) : List Int)).bind fun y413 => (if y413.length + l0.length < 140737488355328 then ((some (y413 ++ l0 : List Int)).bind fun y416 => ((op_Get.f y416).bind fun bt419 => ((stemmaref07_Get.f l0).bind fun bt423 => ((stemmaref07_Same.f k bt419.1 bt423.1).bind fun t427 => (if t427 = true then (if bt419.2 = bt423.2 then ((op_Same.f k bt419.1 bt423.1).bind fun t428 => (if t428 = true then (if (strOfNums y416).toList = (strOfNums l0).toList then ((stemmalaw07_awake.f).bind fun t429 => (some t429)) else (some false)) else (some false))) else (some false)) else (some false)))))) else (none))) = some r := h
 clear h
 obtain ⟨y413, hy413⟩ : ∃ y_ : List Int, y_ = (([] : List Int)) := ⟨_, rfl⟩
 replace H : (if y413.length + l0.length < 140737488355328 then ((some (y413 ++ l0 : List Int)).bind fun y416 => ((op_Get.f y416).bind fun bt419 => ((stemmaref07_Get.f l0).bind fun bt423 => ((stemmaref07_Same.f k bt419.1 bt423.1).bind fun t427 => (if t427 = true then (if bt419.2 = bt423.2 then ((op_Same.f k bt419.1 bt423.1).bind fun t428 => (if t428 = true then (if (strOfNums y416).toList = (strOfNums l0).toList then ((stemmalaw07_awake.f).bind fun t429 => (some t429)) else (some false)) else (some false))) else (some false)) else (some false)))))) else (none)) = some r := by first | (rw [hy413]; with_reducible exact H) | (have H2_ := (Option.bind_some _ _).symm.trans H; rw [hy413]; with_reducible exact H2_) | (have H2_ := (Option.bind_some _ _).symm.trans H; with_reducible exact H2_) | with_reducible exact H | (rw [hy413]; exact H) | exact H
 have Ny413 := Aside0.mk hy413
 clear hy413
 by_cases c2 : y413.length + l0.length < 140737488355328
 ·rw [if_pos c2] at H
  have LMc2 := Aside0.mk c2
  clear c2
  obtain ⟨y416, hy416⟩ : ∃ y_ : List Int, y_ = (y413 ++ l0) := ⟨_, rfl⟩
  replace H : ((op_Get.f y416).bind fun bt419 => ((stemmaref07_Get.f l0).bind fun bt423 => ((stemmaref07_Same.f k bt419.1 bt423.1).bind fun t427 => (if t427 = true then (if bt419.2 = bt423.2 then ((op_Same.f k bt419.1 bt423.1).bind fun t428 => (if t428 = true then (if (strOfNums y416).toList = (strOfNums l0).toList then ((stemmalaw07_awake.f).bind fun t429 => (some t429)) else (some false)) else (some false))) else (some false)) else (some false))))) = some r := by first | (rw [hy416]; with_reducible exact H) | (have H2_ := (Option.bind_some _ _).symm.trans H; rw [hy416]; with_reducible exact H2_) | (have H2_ := (Option.bind_some _ _).symm.trans H; with_reducible exact H2_) | with_reducible exact H | (rw [hy416]; exact H) | exact H
  have Ny416 := Aside0.mk hy416
  clear hy416
  replace H := Option.bind_eq_some_iff.mp H
  obtain ⟨⟨t419, t420⟩, A30, H⟩ := H
  replace H : ((stemmaref07_Get.f l0).bind fun bt423 => ((stemmaref07_Same.f k t419 bt423.1).bind fun t427 => (if t427 = true then (if t420 = bt423.2 then ((op_Same.f k t419 bt423.1).bind fun t428 => (if t428 = true then (if (strOfNums y416).toList = (strOfNums l0).toList then ((stemmalaw07_awake.f).bind fun t429 => (some t429)) else (some false)) else (some false))) else (some false)) else (some false)))) = some r := H
  have A3 := Aside0.mk A30
  clear A30
  replace H := Option.bind_eq_some_iff.mp H
  obtain ⟨⟨t423, t424⟩, A40, H⟩ := H
  replace H : ((stemmaref07_Same.f k t419 t423).bind fun t427 => (if t427 = true then (if t420 = t424 then ((op_Same.f k t419 t423).bind fun t428 => (if t428 = true then (if (strOfNums y416).toList = (strOfNums l0).toList then ((stemmalaw07_awake.f).bind fun t429 => (some t429)) else (some false)) else (some false))) else (some false)) else (some false))) = some r := H
  have A4 := Aside0.mk A40
  clear A40
  replace H := Option.bind_eq_some_iff.mp H
  obtain ⟨t427, A50, H⟩ := H
  replace H : (if t427 = true then (if t420 = t424 then ((op_Same.f k t419 t423).bind fun t428 => (if t428 = true then (if (strOfNums y416).toList = (strOfNums l0).toList then ((stemmalaw07_awake.f).bind fun t429 => (some t429)) else (some false)) else (some false))) else (some false)) else (some false)) = some r := H
  have A5 := Aside0.mk A50
  clear A50
  by_cases c6 : t427 = true
  ·subst c6
   have H1 : (if t420 = t424 then ((op_Same.f k t419 t423).bind fun t428 => (if t428 = true then (if (strOfNums y416).toList = (strOfNums l0).toList then ((stemmalaw07_awake.f).bind fun t429 => (some t429)) else (some false)) else (some false))) else (some false)) = some r := by rw [if_pos rfl] at H; exact H
   clear H
   have H := H1
   clear H1
   by_cases c7 : t420 = t424
   ·rw [if_pos c7] at H
    have c7b0 : (t420 == t424) = true := beq_iff_eq.mpr c7
    have c7b1 : (t420 != t424) = false := bne_eq_false_iff_eq.mpr c7
    clear c7
    replace H := Option.bind_eq_some_iff.mp H
    obtain ⟨t428, A80, H⟩ := H
    replace H : (if t428 = true then (if (strOfNums y416).toList = (strOfNums l0).toList then ((stemmalaw07_awake.f).bind fun t429 => (some t429)) else (some false)) else (some false)) = some r := H
    have A8 := Aside0.mk A80
    clear A80
    by_cases c9 : t428 = true
    ·subst c9
     have H1 : (if (strOfNums y416).toList = (strOfNums l0).toList then ((stemmalaw07_awake.f).bind fun t429 => (some t429)) else (some false)) = some r := by rw [if_pos rfl] at H; exact H
     clear H
     have H := H1
     clear H1
     by_cases c10 : (strOfNums y416).toList = (strOfNums l0).toList
     ·rw [if_pos c10] at H
      have c10b0 : ((strOfNums y416).toList == (strOfNums l0).toList) = true := beq_iff_eq.mpr c10
      have c10b1 : ((strOfNums y416).toList != (strOfNums l0).toList) = false := bne_eq_false_iff_eq.mpr c10
      clear c10
      replace H := Option.bind_eq_some_iff.mp H
      obtain ⟨t429, A110, H⟩ := H
      replace H : (some t429) = some r := H
      have A11 := Aside0.mk A110
      clear A110
      obtain rfl := Option.some.inj H
      go_enter Try.func5, Try.ntmps5
      go_wp2_with (first | ((with_reducible refine gate_dst (N := 8) rfl ?_); refine Kd.R_lit (Kd.int .u8) _ 5 ?hg (N := 8) ?hd (xs := ([] : List Int)) (inner := []) (ok := fun _ => True) (okp := fun _ => True) ?hr ?hp (fun _ hk => hk) trivial (Below.refl _ _) (Nat.le_refl _) (by simp) ?_; (case hd => rfl); (case hg => rfl); (case hr => first | (go_simp; done) | (go_simp; rfl)); (case hp => exact (Reps.none _ _)); intro v414 w12 ho13 hb hg_ hnew_; clear hg_ hnew_; (first | rw [← Ny413.out] at ho13 | (simp only [Int.reduceToNat] at ho13; rw [← Ny413.out] at ho13)); have n0_ := Aside0.mk (Kd.R_lower ho13 (below_size (zb_ HB.out))); have n1_ := Aside0.mk (below_step (zb_ HB.out) hb); clear HB; have HO415 := n0_; have HB := n1_; clear n0_ n1_; clear hb ho13) | ((with_reducible refine gate_builtin (b := .append) (xs := #[.tmp 8, .tmp 9]) rfl ?_); at_builtin; refine Kd.R_append_rows (Kd.int .u8) (w0 := w) w.heap.size rfl (.tmp 8) (.tmp 9) 23 5 (.int .u8 0) 1 rfl Try.underlying23 info5 rfl (by decide) (by omega) v414 y413 l0 _ _ _ (fun _ => True) (fun _ => False) rfl rfl ?aO ?aR (fun _ _ h => h) (fun _ h => h.elim) ?aF ?aB ?aS ?aL ?_; (case aR => repeat (first | exact (Kd.C_below HR0.out HB.out) | (with_reducible refine Kd.C_alloc ?_ _) | (with_reducible refine Kd.C_drewN ?_ _) | (with_reducible refine Kd.C_drew ?_))); (case aB => exact (zb_ HB.out)); (case aF => exact (fun _ _ => trivial)); (case aO => exact (zr_ HO415.out)); (case aS => exact (below_size (zb_ HB.out))); (case aL => have := LMc2.out; omega); intro v417 w14 ho hb hg hat; rw [← Ny416.out] at ho; have n0_ := Aside0.mk (hb); have n1_ := Aside0.mk (ho); clear HB; clear HO415; have HB := n0_; have HO418 := n1_; clear n0_ n1_; clear ho hb hg hat; obtain ⟨Ao15, co15, eo15⟩ := Kd.R_slice HO418.out; subst eo15) | ((with_reducible refine gate_callee (f := 17) rfl ?_); refine goesL_ (some 13) rfl rfl Try.func17 (by kernel_rfl) rfl #[.slice Ao15 y416.length co15] rfl zc_ ?_; (with_reducible refine (op_Get.calls _ _ y416 t419 t420 _ ?side1 ?side2 A3.out).mono ?_); (case side1 => repeat (first | exact (Kd.R_reads' HO418.out).2.2 | (with_reducible refine Kd.C_alloc ?_ _) | (with_reducible refine Kd.C_drewN ?_ _) | (with_reducible refine Kd.C_drew ?_))); (case side2 => exact (Kd.R_reads' HO418.out).2.1); rintro e w16 ⟨v421, rfl, ho0, hb⟩; refine ⟨_, rfl, ?_⟩; have n0_ := Aside0.mk (Kd.R_below (zr_ HO418.out) hb); have n1_ := Aside0.mk (Kd.R_lower ho0 (below_size (zb_ HB.out))); have n2_ := Aside0.mk (below_step (zb_ HB.out) hb); clear HO418; clear HB; have HO418 := n0_; have HO422 := n1_; have HB := n2_; clear n0_ n1_ n2_; (try clear hb); (try clear hb2); (try clear hk); (try clear hi); (try clear ho0)) | ((with_reducible refine gate_callee (f := 18) rfl ?_); refine goesL_ (some 18) rfl rfl Try.func18 (by kernel_rfl) rfl #[.slice A0 l0.length c0] rfl zc_ ?_; (with_reducible refine (stemmaref07_Get.calls _ _ l0 t423 t424 _ ?side1 ?side2 A4.out).mono ?_); (case side1 => repeat (first | exact (Kd.C_below HR0.out HB.out) | (with_reducible refine Kd.C_alloc ?_ _) | (with_reducible refine Kd.C_drewN ?_ _) | (with_reducible refine Kd.C_drew ?_))); (case side2 => exact HC0.out); rintro e w17 ⟨v425, rfl, ho0, hb⟩; refine ⟨_, rfl, ?_⟩; have n0_ := Aside0.mk (Kd.R_below (zr_ HO418.out) hb); have n1_ := Aside0.mk (Kd.R_elder' (zr_ HO422.out) (Kd.R_base ho0) hb); have n2_ := Aside0.mk (Kd.R_lower (Kd.R_new' ho0 (Kd.R_lt (zr_ HO422.out))) (below_size (zb_ HB.out))); have n3_ := Aside0.mk (below_step (zb_ HB.out) hb); clear HO418; clear HO422; clear HB; have HO418 := n0_; have HO422 := n1_; have HO426 := n2_; have HB := n3_; clear n0_ n1_ n2_ n3_; (try clear hb); (try clear hb2); (try clear hk); (try clear hi); (try clear ho0); obtain ⟨Ao18, co18, eo18⟩ := Kd.R_slice HO422.out; subst eo18; obtain ⟨Ao19, co19, eo19⟩ := Kd.R_slice HO426.out; subst eo19) | ((with_reducible refine gate_callee (f := 11) rfl ?_); refine goesL_ (some 23) rfl rfl Try.func11 (by kernel_rfl) rfl #[.slice Ao18 t419.length co18, .slice Ao19 t423.length co19] rfl zc_ ?_; (with_reducible refine (stemmaref07_Same.calls k _ _ t419 _ _ t423 true _ ?side1 ?side2 ?side3 ?side4 A5.out).mono ?_); (case side1 => repeat (first | exact (Kd.R_reads' HO422.out).2.2 | (with_reducible refine Kd.C_alloc ?_ _) | (with_reducible refine Kd.C_drewN ?_ _) | (with_reducible refine Kd.C_drew ?_))); (case side2 => exact (Kd.R_reads' HO422.out).2.1); (case side3 => repeat (first | exact (Kd.R_reads' HO426.out).2.2 | (with_reducible refine Kd.C_alloc ?_ _) | (with_reducible refine Kd.C_drewN ?_ _) | (with_reducible refine Kd.C_drew ?_))); (case side4 => exact (Kd.R_reads' HO426.out).2.1); rintro e w' ⟨rfl, ⟨nd, rfl⟩⟩; refine ⟨_, rfl, ?_⟩) | (go_at_call 19; (with_reducible refine (op_Same.calls k _ _ t419 _ _ t423 true _ ?side1 ?side2 ?side3 ?side4 A8.out).mono ?_); (case side1 => repeat (first | exact (Kd.R_reads' HO422.out).2.2 | (with_reducible refine Kd.C_alloc ?_ _) | (with_reducible refine Kd.C_drewN ?_ _) | (with_reducible refine Kd.C_drew ?_))); (case side2 => exact (Kd.R_reads' HO422.out).2.1); (case side3 => repeat (first | exact (Kd.R_reads' HO426.out).2.2 | (with_reducible refine Kd.C_alloc ?_ _) | (with_reducible refine Kd.C_drewN ?_ _) | (with_reducible refine Kd.C_drew ?_))); (case side4 => exact (Kd.R_reads' HO426.out).2.1); rintro e w' ⟨rfl, ⟨nd, rfl⟩⟩; have hcv20 := own_string (P := Try.prog) Try.underlying23 Try.underlying5 Try.underlying9 (Kd.own_of_R HO418.out); have hcd20 := fun m_ : Nat => own_string (P := Try.prog) Try.underlying23 Try.underlying5 Try.underlying9 (Kd.own_of_R (Kd.R_drewN HO418.out m_)); have hcv21 := Kd.C_string (P := Try.prog) (A := A0) (c := c0) Try.underlying23 Try.underlying5 Try.underlying9 (Kd.C_below HR0.out HB.out); have hcd21 := fun m_ : Nat => Kd.C_string (P := Try.prog) (A := A0) (c := c0) Try.underlying23 Try.underlying5 Try.underlying9 (Kd.C_drewN (Kd.C_below HR0.out HB.out) m_)) | (go_at_call 12; (with_reducible refine (stemmalaw07_awake.calls  t429 _ A11.out).mono ?_); rintro e w22 ⟨rfl, hb⟩; have n0_ := Aside0.mk (Kd.R_below (zr_ HO418.out) hb); have n1_ := Aside0.mk (Kd.R_below (zr_ HO422.out) hb); have n2_ := Aside0.mk (Kd.R_below (zr_ HO426.out) hb); have n3_ := Aside0.mk (below_step (zb_ HB.out) hb); clear HO418; clear HO422; clear HO426; clear HB; have HO418 := n0_; have HO422 := n1_; have HO426 := n2_; have HB := n3_; clear n0_ n1_ n2_ n3_; (try clear hb); (try clear hb2); (try clear hk); (try clear hi)))
      go_ret
      exact ⟨zd_, by repeat (first | (with_reducible first | exact HB.out | apply below_alloc | apply pw_below_drewN | apply below_drew1) | exact HB.out)⟩
     ·rw [if_neg c10] at H
      have c10b0 : ((strOfNums y416).toList == (strOfNums l0).toList) = false := beq_eq_false_iff_ne.mpr c10
      have c10b1 : ((strOfNums y416).toList != (strOfNums l0).toList) = true := bne_iff_ne.mpr c10
      exact absurd ((Option.some.inj H).trans hr_.out) (by decide)
    ·replace c9 := Bool.eq_false_iff.mpr c9
     subst c9
     have H1 : (some false) = some r := by rw [if_neg (show ¬ (false = true) by decide)] at H; exact H
     clear H
     have H := H1
     clear H1
     exact absurd ((Option.some.inj H).trans hr_.out) (by decide)
   ·rw [if_neg c7] at H
    have c7b0 : (t420 == t424) = false := beq_eq_false_iff_ne.mpr c7
    have c7b1 : (t420 != t424) = true := bne_iff_ne.mpr c7
    exact absurd ((Option.some.inj H).trans hr_.out) (by decide)
  ·replace c6 := Bool.eq_false_iff.mpr c6
   subst c6
   have H1 : (some false) = some r := by rw [if_neg (show ¬ (false = true) by decide)] at H; exact H
   clear H
   have H := H1
   clear H1
   exact absurd ((Option.some.inj H).trans hr_.out) (by decide)
 ·rw [if_neg c2] at H
  exact absurd H (by simp)

def stemmalaw07_OpGets.Pure : Prop := ∀ (l0 : List Int), l0.length ≤ maxLen → l0.length * 1 ≤ 140737488351232 → (∀ x ∈ l0, (Lit.int .u8 x).wf = true) → ∃ k, stemmalaw07_OpGets.f k l0 = some true
end Go.Proofs.Ytpnnjefhchppfaa.PA

set_option linter.unusedVariables false
set_option linter.unusedSimpArgs false
namespace Go.Proofs.Ytpnnjefhchppfaa.Op
open Go Go.RowKit Go.Proofs.YtpnnjefhchppfaaW.PrintWords Go.Proofs.YtpnnjefhchppfaaW.PrintLast Go.Proofs.YtpnnjefhchppfaaW.PrintMore Go.Proofs.Ytpnnjefhchppfaa.PA
def neB (x y : Sop) : Bool := (!(x.f0 == y.f0) || (!((x.f1.toList) == (y.f1.toList)) || (!(x.f2 == y.f2) || (!(x.f3 == y.f3) || (!((x.f4.toList) == (y.f4.toList)))))))
theorem neB_self (x : Sop) : neB x x = false := by simp [neB]
theorem neB_eq {x y : Sop} (h : neB x y = false) : x = y := by
  unfold neB at h
  simp only [Bool.or_eq_false_iff, Bool.not_eq_false', beq_iff_eq] at h
  obtain ⟨h0, h1, h2, h3, h4⟩ := h
  have e1 := toList_inj h1
  have e4 := toList_inj h4
  cases x
  cases y
  simp only at h0 h2 h3 e1 e4
  subst h0 h2 h3 e1 e4
  rfl
theorem rd_at {l : List Sop} {i : Nat} (h : i < l.length) : rd_T33 l (i : Int) = l[i] := by
  simp only [rd_T33, Int.toNat_natCast]
  rw [List.getD_eq_getElem?_getD, List.getElem?_eq_getElem h]; rfl
theorem rsame_l0 (a b : List Sop) (hl : a.length = b.length) (hm : a.length < 4611686018427387900) : ∀ (d k i : Nat), i + d = a.length → d < k → (a.drop i = b.drop i → stemmaref07_Same.l0 k a b (i : Int) = some true) ∧ (a.drop i ≠ b.drop i → stemmaref07_Same.l0 k a b (i : Int) = some false)
  | 0, k, i, hi, hk => by
    obtain ⟨k, rfl⟩ : ∃ q, k = q + 1 := ⟨k - 1, by omega⟩
    rw [List.drop_of_length_le (by omega), List.drop_of_length_le (by omega), stemmaref07_Same.l0, if_neg (by omega)]
    exact ⟨fun _ => rfl, fun h => absurd rfl h⟩
  | d + 1, k, i, hi, hk => by
    obtain ⟨k, rfl⟩ : ∃ q, k = q + 1 := ⟨k - 1, by omega⟩
    have h1 : i < a.length := by omega
    have h2 : i < b.length := by omega
    obtain ⟨g1, g2⟩ := rsame_l0 a b hl hm d k (i + 1) (by omega) (by omega)
    rw [List.drop_eq_getElem_cons h1, List.drop_eq_getElem_cons h2, stemmaref07_Same.l0, if_pos (by omega), if_pos (by omega), if_pos (by omega), rd_at h1, rd_at h2, show wrap64 ((i : Int) + 1) = ((i + 1 : Nat) : Int) by unfold wrap64; omega]
    show (_ → (if neB a[i] b[i] = true then _ else _) = _) ∧ (_ → (if neB a[i] b[i] = true then _ else _) = _)
    cases hn : neB a[i] b[i] with
    | true =>
      rw [if_pos rfl]
      refine ⟨fun h => ?_, fun _ => rfl⟩
      rw [(List.cons.inj h).1, neB_self] at hn
      cases hn
    | false =>
      rw [if_neg (by decide)]
      have he := neB_eq hn
      exact ⟨fun h => g1 (List.cons.inj h).2, fun h => g2 (fun h' => h (by rw [he, h']))⟩
theorem rsame_true (a : List Sop) {k : Nat} (hk : a.length < k) (hm : a.length < 4611686018427387900) : stemmaref07_Same.f k a a = some true := by
  unfold stemmaref07_Same.f
  rw [if_pos rfl]
  exact (rsame_l0 a a rfl hm a.length k 0 (by omega) hk).1 rfl
theorem same_l0 (a b : List Sop) (hl : a.length = b.length) (hm : a.length < 4611686018427387900) : ∀ (d k i : Nat), i + d = a.length → d < k → (a.drop i = b.drop i → api_Op.l0 k a b (a.length : Int) (i : Int) = some true) ∧ (a.drop i ≠ b.drop i → api_Op.l0 k a b (a.length : Int) (i : Int) = some false)
  | 0, k, i, hi, hk => by
    obtain ⟨k, rfl⟩ : ∃ q, k = q + 1 := ⟨k - 1, by omega⟩
    rw [List.drop_of_length_le (by omega), List.drop_of_length_le (by omega), api_Op.l0, if_neg (by omega)]
    exact ⟨fun _ => rfl, fun h => absurd rfl h⟩
  | d + 1, k, i, hi, hk => by
    obtain ⟨k, rfl⟩ : ∃ q, k = q + 1 := ⟨k - 1, by omega⟩
    have h1 : i < a.length := by omega
    have h2 : i < b.length := by omega
    obtain ⟨g1, g2⟩ := same_l0 a b hl hm d k (i + 1) (by omega) (by omega)
    rw [List.drop_eq_getElem_cons h1, List.drop_eq_getElem_cons h2, api_Op.l0, if_pos (by omega), if_pos (by omega), if_pos (by omega), if_pos (by omega), rd_at h1, rd_at h2, show wrap64 ((i : Int) + 1) = ((i + 1 : Nat) : Int) by unfold wrap64; omega]
    show (_ → (if neB a[i] b[i] = true then _ else _) = _) ∧ (_ → (if neB a[i] b[i] = true then _ else _) = _)
    cases hn : neB a[i] b[i] with
    | true =>
      rw [if_pos rfl]
      refine ⟨fun h => ?_, fun _ => rfl⟩
      rw [(List.cons.inj h).1, neB_self] at hn
      cases hn
    | false =>
      rw [if_neg (by decide)]
      have he := neB_eq hn
      exact ⟨fun h => g1 (List.cons.inj h).2, fun h => g2 (fun h' => h (by rw [he, h']))⟩
theorem same_true (a : List Sop) {k : Nat} (hk : a.length < k) (hm : a.length < 4611686018427387900) : op_Same.f k a a = some true := by
  unfold op_Same.f api_Op.f
  have e := (same_l0 a a rfl hm a.length k 0 (by omega) hk).1 rfl
  rw [show ((0 : Nat) : Int) = 0 from rfl] at e
  rw [if_pos rfl, e]
  rfl
theorem str_back (s : ByteArray) : strOfNums (bytesOf s) = s := by
  have h : (strOfNums (bytesOf s)).data.toList = s.data.toList := by
    rw [strOfNums_data]
    unfold bytesOf
    rw [List.map_map]
    conv => rhs; rw [← List.map_id s.data.toList]
    refine List.map_congr_left (fun x _ => ?_)
    simp
  cases s with
  | mk d =>
    cases hs : strOfNums (bytesOf ⟨d⟩) with
    | mk e =>
      rw [hs] at h
      have : e = d := Array.toList_inj.1 h
      rw [this]
theorem gT_put (s : ByteArray) (most : Nat) (hs : s.size ≤ most) (hm : most ≤ 4096) (r : List Int) : gT most (textP s ++ r) = (s, ((textP s).length : Int), 0) := by
  have hbl : (bytesOf s).length = s.size := bytesOf_length s
  have hpl : (LebT.putU s.size).length ≤ 10 := LebT.putU_len64 (by omega)
  unfold gT textP
  rw [List.append_assoc, ColT.gU0 s.size (by omega)]
  simp only [if_true]
  rw [if_neg (by omega), if_neg (by simp only [List.length_append]; omega)]
  have e : ((((LebT.putU s.size).length : Nat) : Int) + (s.size : Int)).toNat = (LebT.putU s.size).length + s.size := by omega
  rw [e, Int.toNat_natCast, List.take_append, List.take_of_length_le (by omega), Nat.add_sub_cancel_left, List.take_left' hbl, List.drop_left' rfl, str_back, List.length_append, hbl]
  push_cast
  rfl
theorem textS_put (s : ByteArray) (most : Nat) (hs : s.size ≤ most) (hm : most ≤ 4096) (r : List Int) : textS most (textP s ++ r, false) = (s, r, false) := by
  unfold textS
  rw [gT_put s most hs hm r, if_pos ⟨rfl, rfl⟩]
  simp only [Int.toNat_natCast, List.drop_left]
theorem nmS_put : ∀ (ns acc : List ByteArray) (r : List Int), (∀ s ∈ ns, s.size ≤ 32) → nmS ns.length acc (ns.flatMap textP ++ r, false) = (acc ++ ns, r, false)
  | [], acc, r, _ => by simp [nmS]
  | s :: ns, acc, r, h => by
    have e := textS_put s 32 (h s (by simp)) (by omega) (ns.flatMap textP ++ r)
    rw [List.length_cons, nmS_next _ _ _ rfl, List.flatMap_cons, List.append_assoc]
    rw [show textS 32 (textP s ++ (ns.flatMap textP ++ r), false) = (s, ns.flatMap textP ++ r, false) from e]
    show nmS ns.length (acc ++ [s]) (ns.flatMap textP ++ r, false) = _
    rw [nmS_put ns _ r (fun x hx => h x (by simp [hx])), List.append_assoc, List.singleton_append]
theorem namesS_put (ns : List ByteArray) (hn : ns.length ≤ 256) (h : ∀ s ∈ ns, s.size ≤ 32) (r : List Int) : namesS (LebT.putU ns.length ++ (ns.flatMap textP ++ r), false) = (ns, r, false) := by
  have e := ColT.gU0 ns.length (by omega) (ns.flatMap textP ++ r)
  unfold namesS
  rw [e, if_pos ⟨rfl, rfl, by show (ns.length : Int) ≤ 256; omega⟩]
  show nmS ((ns.length : Int)).toNat [] (List.drop (((LebT.putU ns.length).length : Int)).toNat (LebT.putU ns.length ++ (ns.flatMap textP ++ r)), false) = _
  rw [Int.toNat_natCast, Int.toNat_natCast, List.drop_left, nmS_put ns [] r h, List.nil_append]
theorem colS_run_put (d : List Int) (hw : ∀ x ∈ d, in64 x) (hl : d.length ≤ 256) (r : List Int) : colS runG (ColS.runs d ++ r, false) = (d, r, false) := by
  have e := ColT.getRuns_put d hw 256 (by omega) (by omega) r
  unfold colS runG
  rw [e, if_pos ⟨rfl, rfl⟩]
  simp only [Int.toNat_natCast, List.drop_left]
theorem colS_del_put (d : List Int) (hw : ∀ x ∈ d, in64 x) (hl : d.length ≤ 256) (r : List Int) : colS delG (ColS.runs (ColT.dif0 d) ++ r, false) = (d, r, false) := by
  have e := ColT.getRuns_put (ColT.dif0 d) (ColT.dif0_rng d hw) 256 (by rw [ColT.dif0_length]; omega) (by rw [ColT.dif0_length]; omega) r
  unfold colS delG
  rw [e, if_pos ⟨rfl, rfl⟩]
  simp only [Int.toNat_natCast, List.drop_left]
  rw [ColT.sums0_dif0 d hw]
theorem cols_put (l : List Sop) (hl : l.length ≤ 256) (hc : ∀ o ∈ l, chkF o = true) (r : List Int) : colsS (layF l ++ r) = ⟨l.map (·.f0), nsF l, l.map (fun o => (idx (nsF l) o.f1 : Int)), l.map (·.f2), l.map (·.f3), (l.flatMap txF ++ r, false)⟩ := by
  obtain ⟨g1, g2, g3⟩ := nsF_ok _ l rfl hc
  have hn := nsF_len _ l rfl
  unfold layF
  simp only [List.append_assoc]
  unfold colsS
  simp only []
  rw [colS_run_put _ (kinds_ok hc) (by simp; omega)]
  simp only []
  rw [namesS_put (nsF l) (by omega) (fun s hs => by have := g1 s hs; unfold shortN at this; omega)]
  simp only []
  rw [colS_run_put _ (which_ok l (nsF l) (by omega)) (by simp; omega)]
  simp only []
  rw [colS_del_put _ (pos_ok hc) (by simp; omega)]
  simp only []
  rw [colS_run_put _ (by_ok hc) (by simp; omega)]
theorem getD_map {β : Type} (l : List Sop) (f : Sop → β) (d : β) {j : Nat} (h : j < l.length) : (l.map f).getD j d = f l[j] := by
  rw [List.getD_eq_getElem?_getD, List.getElem?_map, List.getElem?_eq_getElem h]
  rfl
theorem chk_none {o : Sop} (h : chkF o = true) (hk : ¬ (o.f0 = 1 ∨ o.f0 = 4)) : o.f4 = e0 := by
  unfold chkF at h
  simp only [Bool.and_eq_true, decide_eq_true_eq] at h
  have : o.f4.size = 0 := by omega
  refine toList_inj ?_
  rw [(nil_size o.f4).2 this, (nil_size e0).2 rfl]
theorem rows_put (l : List Sop) (hl : l.length ≤ 256) (hc : ∀ o ∈ l, chkF o = true) (r : List Int) : ∀ j, j ≤ l.length →
    rowsS (nsF l) (l.map (·.f0)) (l.map (fun o => (idx (nsF l) o.f1 : Int))) (l.map (·.f2)) (l.map (·.f3)) (l.flatMap txF ++ r, false) j = some (l.take j, ((l.drop j).flatMap txF ++ r, false))
  | 0, _ => by simp [rowsS]
  | j + 1, hj => by
    have hlt : j < l.length := hj
    obtain ⟨g1, g2, g3⟩ := nsF_ok _ l rfl hc
    have hm : l[j] ∈ l := List.getElem_mem hlt
    have hin := g3 _ hm
    have hix := idx_lt _ _ hin
    have hget := idx_mem _ _ hin
    rw [rowsS, rows_put l hl hc r j (by omega)]
    simp only [getD_map l _ _ hlt]
    rw [rowS, if_neg (by omega), Int.toNat_natCast]
    have hnm : (nsF l).getD (idx (nsF l) l[j].f1) e0 = l[j].f1 := by rw [List.getD_eq_getElem?_getD, hget]; rfl
    rw [hnm, List.drop_eq_getElem_cons hlt, List.flatMap_cons, List.append_assoc]
    have htk : l.take (j + 1) = l.take j ++ [l[j]] := by rw [List.take_add_one, List.getElem?_eq_getElem hlt, Option.toList_some]
    have hcx := hc _ hm
    by_cases hk : l[j].f0 = 1 ∨ l[j].f0 = 4
    · rw [if_pos hk, show txF l[j] = textP l[j].f4 from if_pos hk]
      have e := textS_put l[j].f4 1024 (chk_text hcx) (by omega) ((l.drop (j + 1)).flatMap txF ++ r)
      rw [show textS 1024 (textP l[j].f4 ++ ((l.drop (j + 1)).flatMap txF ++ r), false) = (l[j].f4, (l.drop (j + 1)).flatMap txF ++ r, false) from e, htk]
    · rw [if_neg hk, show txF l[j] = [] from if_neg hk, List.nil_append, htk]
      have e4 := chk_none hcx hk
      rw [← e4]
theorem get_put (l : List Sop) (hl : l.length ≤ 256) (hc : ∀ o ∈ l, chkF o = true) (r : List Int) : getS (putB l ++ r) = if r = [] then (l, 0) else ([], 4) := by
  have hB : putB l = layF l := if_pos (List.all_eq_true.2 hc)
  have hE : putE l = 0 := if_pos (List.all_eq_true.2 hc)
  have hcols := cols_put l hl hc r
  have hlens : lensOk (colsS (layF l ++ r)) := by
    rw [hcols]
    exact ⟨rfl, by simp, by simp, by simp⟩
  have hrows := rows_put l hl hc r l.length (Nat.le_refl _)
  rw [List.take_length, List.drop_of_length_le (Nat.le_refl _), List.flatMap_nil, List.nil_append] at hrows
  rw [hB, get_some hlens hcols (by show rowsS _ _ _ _ _ _ (l.map (·.f0)).length = _; rw [List.length_map]; exact hrows)]
  unfold endS
  by_cases hr : r = []
  · rw [if_pos hr, if_pos ⟨rfl, hE, by rw [hB, hr, List.append_nil]⟩]
  · rw [if_neg hr, if_neg (fun h => hr (by have := h.2.2; rw [hB] at this; simpa using this))]
theorem get_ok {b : List Int} (h : (getS b).2 = 0) : (getS b).1.length ≤ 256 ∧ putE (getS b).1 = 0 ∧ putB (getS b).1 = b := by
  unfold getS at h ⊢
  by_cases hl : lensOk (colsS b)
  · rw [if_pos hl] at h ⊢
    have hk : (colsS b).ks.length ≤ 256 := colS_len (b, false)
    have hlen : ∀ (j : Nat) (x : List Sop) (s : St), rowsS (colsS b).ns (colsS b).ks (colsS b).ws (colsS b).ps (colsS b).ys (colsS b).st j = some (x, s) → x.length = j := by
      intro j
      induction j with
      | zero => intro x s hx; rw [rowsS] at hx; injection hx with hx; rw [Prod.mk.injEq] at hx; rw [← hx.1]; rfl
      | succ j ih =>
        intro x s hx
        rw [rowsS] at hx
        split at hx
        · cases hx
        · rename_i l t h1
          split at hx
          · cases hx
          · injection hx with hx
            rw [Prod.mk.injEq] at hx
            rw [← hx.1, List.length_append, ih l t h1]
            rfl
    cases hr : rowsS (colsS b).ns (colsS b).ks (colsS b).ws (colsS b).ps (colsS b).ys (colsS b).st (colsS b).ks.length with
    | none => rw [hr] at h; exact absurd h (by show (4 : Int) ≠ 0; decide)
    | some q =>
      obtain ⟨x, s⟩ := q
      have hx := hlen _ x s hr
      rw [hr] at h
      show (endS b x s).1.length ≤ 256 ∧ putE (endS b x s).1 = 0 ∧ putB (endS b x s).1 = b
      have h' : (endS b x s).2 = 0 := h
      unfold endS at h' ⊢
      split
      · rename_i hh
        exact ⟨by show x.length ≤ 256; omega, hh.2.1, hh.2.2⟩
      · rename_i hh
        rw [if_neg hh] at h'
        exact absurd h' (by decide)
  · rw [if_neg hl] at h
    exact absurd h (by show (4 : Int) ≠ 0; decide)
theorem get_err (b : List Int) : (getS b).2 = 0 ∨ getS b = ([], 4) := by
  unfold getS
  split
  · split
    · exact Or.inr rfl
    · unfold endS
      split
      · exact Or.inl rfl
      · exact Or.inr rfl
  · exact Or.inr rfl
theorem get_len (b : List Int) : (getS b).1.length ≤ 256 := by
  rcases get_err b with h | h
  · exact (get_ok h).1
  · rw [h]; simp
def oA : Sop := ⟨2, ⟨#[97]⟩, 0, 0, ⟨#[]⟩⟩
theorem oA_chk : chkF oA = true := by decide +kernel
theorem oA_lay : putB [oA] = [1, 1, 2, 1, 1, 97, 1, 1, 0, 1, 1, 0, 1, 1, 0] := by
  have h : [oA].all chkF = true := by simp [oA_chk]
  rw [putB, if_pos h]
  have e1 : nsF [oA] = [⟨#[97]⟩] := by decide +kernel
  have e2 : bytesOf (⟨#[97]⟩ : ByteArray) = [97] := by decide +kernel
  have e3 : (⟨#[97]⟩ : ByteArray).size = 1 := rfl
  unfold layF
  rw [e1]
  simp [oA, ColS.runs, ColS.st, ColS.flat, LebT.putU_small, LebT.putI_small, ColT.dif0, ColT.dif, textP, txF, idx, e2, e3]
theorem awake07 : stemmalaw07_awake.f = some true := by
  have hc : ∀ o ∈ [oA], chkF o = true := fun o ho => by obtain rfl : o = oA := by simpa using ho
                                                        exact oA_chk
  have hg := get_put [oA] (by decide) hc []
  rw [List.append_nil, if_pos rfl, oA_lay] at hg
  have hE : putE [oA] = 0 := if_pos (List.all_eq_true.2 hc)
  have hP : op_Put.f [(⟨2, (⟨#[97]⟩ : ByteArray), 0, 0, (⟨#[]⟩ : ByteArray)⟩ : Sop)] = some ([1, 1, 2, 1, 1, 97, 1, 1, 0, 1, 1, 0, 1, 1, 0], 0) := by
    show some (putR [oA]) = _
    rw [putR, if_neg (by decide), oA_lay, hE]
  unfold stemmalaw07_awake.f
  rw [hP]
  simp only [Option.bind_some]
  rw [op_Get.f, if_pos (by decide +kernel), hg]
  simp only [Option.bind_some]
  rw [if_pos (by decide +kernel), if_pos (by decide +kernel), if_pos (by decide +kernel), if_pos (by decide +kernel), if_pos (by decide +kernel), if_pos (by decide +kernel), if_pos (by decide +kernel)]
end Go.Proofs.Ytpnnjefhchppfaa.Op

set_option linter.unusedVariables false
set_option linter.unusedSimpArgs false
namespace Go.Proofs.Ytpnnjefhchppfaa.Pure
open Go Go.RowKit Go.Proofs.Ytpnnjefhchppfaa.PA Go.Proofs.YtpnnjefhchppfaaW.PrintWords Go.Proofs.YtpnnjefhchppfaaW.PrintLast Go.Proofs.YtpnnjefhchppfaaW.PrintMore Go.Proofs.Ytpnnjefhchppfaa.Op
theorem OpGets (a0 : (List Int)) (q0 : a0.length ≤ maxLen ∧ a0.length * 1 ≤ 140737488351232 ∧ ∀ y23 ∈ a0, (Lit.int .u8 y23).wf = true) : ∃ k, PA.stemmalaw07_OpGets.f k a0 = some true := by
  have hl : a0.length ≤ 140737488351232 := by have := q0.2.1; omega
  have hb : ∀ x ∈ a0, LebT.isByte x := fun x hx => LebP.wf_u8 (q0.2.2 x hx)
  clear q0
  obtain ⟨k, hk⟩ : ∃ k, 1000 ≤ k := ⟨_, Nat.le_refl _⟩
  refine ⟨k, ?_⟩
  have hlen := get_len a0
  unfold stemmalaw07_OpGets.f op_Get.f stemmaref07_Get.f
  simp only [Option.bind_some, List.nil_append, List.length_nil, Nat.zero_add]
  rw [if_pos (by omega), if_pos (bytesB_to hb hl)]
  simp only [Option.bind_some]
  rw [rsame_true _ (by omega) (by omega)]
  simp only [Option.bind_some, if_true]
  rw [same_true _ (by omega) (by omega)]
  simp only [Option.bind_some, if_true, awake07]
end Go.Proofs.Ytpnnjefhchppfaa.Pure

