/- Own texts of this claim, and the words they use, one behind the other (wip/tools/trim.py). -/
import Derived.Test.YtpnnjefhchppfaaCm29
import Derived.Test.YtpnnjefhchppfaaCm30
import Derived.Test.YtpnnjefhchppfaaCm31
import Derived.Test.YtpnnjefhchppfaaCm32
import Derived.Test.YtpnnjefhchppfaaCm39
import Derived.Test.YtpnnjefhchppfaaCm40
import Derived.Test.YtpnnjefhchppfaaCm41
set_option linter.unusedVariables false
set_option linter.unusedSimpArgs false
namespace Go.Proofs.Ytpnnjefhchppfaa.Op
open Go Go.RowKit Go.Proofs.YtpnnjefhchppfaaW.PrintWords Go.Proofs.YtpnnjefhchppfaaW.PrintLast Go.Proofs.YtpnnjefhchppfaaW.PrintMore Go.Proofs.Ytpnnjefhchppfaa.PA
abbrev St := List Int × Bool
abbrev e0 : ByteArray := ⟨#[]⟩
def colS (g : List Int → List Int × Int × Int) (s : St) : List Int × St := if s.2 = false ∧ (g s.1).2.2 = 0 then ((g s.1).1, s.1.drop (g s.1).2.1.toNat, false) else ([], s.1, true)
def runG (b : List Int) : List Int × Int × Int := ColT.getRuns b 256
def delG (b : List Int) : List Int × Int × Int := (ColT.sums0 (ColT.getRuns b 256).1, (ColT.getRuns b 256).2.1, (ColT.getRuns b 256).2.2)
def gT (most : Int) (b : List Int) : ByteArray × Int × Int :=
  if (LebT.gU 0 0 b).2.2 = 0 then (if (LebT.gU 0 0 b).1 > most then (e0, 0, 5) else if (LebT.gU 0 0 b).1 > (b.length : Int) - (LebT.gU 0 0 b).2.1 then (e0, 0, 3) else (strOfNums ((b.take ((LebT.gU 0 0 b).2.1 + (LebT.gU 0 0 b).1).toNat).drop (LebT.gU 0 0 b).2.1.toNat), (LebT.gU 0 0 b).2.1 + (LebT.gU 0 0 b).1, 0)) else (e0, 0, (LebT.gU 0 0 b).2.2)
def textS (most : Int) (s : St) : ByteArray × St := if s.2 = false ∧ (gT most s.1).2.2 = 0 then ((gT most s.1).1, s.1.drop (gT most s.1).2.1.toNat, false) else (e0, s.1, true)
def nmS : Nat → List ByteArray → St → List ByteArray × St
  | 0, acc, s => (acc, s)
  | n + 1, acc, s => if s.2 = true then (acc, s) else nmS n (acc ++ [(textS 32 s).1]) (textS 32 s).2
def namesS (s : St) : List ByteArray × St :=
  if s.2 = false ∧ (LebT.gU 0 0 s.1).2.2 = 0 ∧ (LebT.gU 0 0 s.1).1 ≤ 256 then nmS (LebT.gU 0 0 s.1).1.toNat [] (s.1.drop (LebT.gU 0 0 s.1).2.1.toNat, false) else ([], s.1, true)
def rowS (ns : List ByteArray) (k w p y : Int) (s : St) : Option (Sop × St) :=
  if w < 0 ∨ w ≥ (ns.length : Int) then none
  else if k = 1 ∨ k = 4 then some (⟨k, ns.getD w.toNat e0, p, y, (textS 1024 s).1⟩, (textS 1024 s).2) else some (⟨k, ns.getD w.toNat e0, p, y, e0⟩, s)
def rowsS (ns : List ByteArray) (ks ws ps ys : List Int) (s : St) : Nat → Option (List Sop × St)
  | 0 => some ([], s)
  | j + 1 => match rowsS ns ks ws ps ys s j with
    | none => none
    | some (l, t) => match rowS ns (ks.getD j 0) (ws.getD j 0) (ps.getD j 0) (ys.getD j 0) t with
      | none => none
      | some (o, u) => some (l ++ [o], u)
structure Cols where
  ks : List Int
  ns : List ByteArray
  ws : List Int
  ps : List Int
  ys : List Int
  st : St
def colsS (b : List Int) : Cols :=
  let k := colS runG (b, false)
  let n := namesS k.2
  let w := colS runG n.2
  let p := colS delG w.2
  let y := colS runG p.2
  ⟨k.1, n.1, w.1, p.1, y.1, y.2⟩
def lensOk (c : Cols) : Prop := c.st.2 = false ∧ c.ws.length = c.ks.length ∧ c.ps.length = c.ks.length ∧ c.ys.length = c.ks.length
instance (c : Cols) : Decidable (lensOk c) := by unfold lensOk; infer_instance
def endS (b : List Int) (l : List Sop) (s : St) : List Sop × Int := if s.2 = false ∧ putE l = 0 ∧ putB l = b then (l, 0) else ([], 4)
def getS (b : List Int) : List Sop × Int :=
  if lensOk (colsS b) then (match rowsS (colsS b).ns (colsS b).ks (colsS b).ws (colsS b).ps (colsS b).ys (colsS b).st (colsS b).ks.length with
    | none => ([], 4)
    | some (l, s) => endS b l s) else ([], 4)
def putR (l : List Sop) : List Int × Int := if 256 < l.length then ([], 5) else (putB l, putE l)
end Go.Proofs.Ytpnnjefhchppfaa.Op

set_option linter.unusedVariables false
set_option linter.unusedSimpArgs false
namespace Go.Proofs.Ytpnnjefhchppfaa.Op
open Go Go.RowKit Go.Proofs.YtpnnjefhchppfaaW.PrintWords Go.Proofs.YtpnnjefhchppfaaW.PrintLast Go.Proofs.YtpnnjefhchppfaaW.PrintMore Go.Proofs.Ytpnnjefhchppfaa.PA
structure Rg (w0 w : World) (g : Nat) (A : Option Addr) (c : Nat) (s : St) : Prop where
  blk : w.heap[g]? = some (.cells #[.slice A s.1.length c, .bool s.2] 58 (0, 0))
  len : s.1.length ≤ c
  row : Kd.C (Kd.int .u8) w0 A s.1.length s.1
  bel : Below w0.heap.size w0 w
  lo : w0.heap.size ≤ g
  byte : ∀ x ∈ s.1, LebT.isByte x
  short : s.1.length ≤ 140737488351232
section
variable {w0 w w' : World} {g c : Nat} {A : Option Addr} {s : St}
theorem Rg.lt (h : Rg w0 w g A c s) : g < w.heap.size := blk_lt h.blk
theorem Rg.c0 (h : Rg w0 w g A c s) : w.cell? ⟨g, 0, none⟩ = some (.slice A s.1.length c) := (blk_cell h.blk 0).trans rfl
theorem Rg.c1 (h : Rg w0 w g A c s) : w.cell? ⟨g, 1, none⟩ = some (.bool s.2) := (blk_cell h.blk 1).trans rfl
theorem Rg.C (h : Rg w0 w g A c s) : Kd.C (Kd.int .u8) w A s.1.length s.1 := Kd.C_below h.row h.bel
theorem Rg.step (h : Rg w0 w g A c s) (hb : Below w.heap.size w w') : Rg w0 w' g A c s := ⟨blk_below h.blk hb, h.len, h.row, h.bel.trans (hb.mono h.bel.size), h.lo, h.byte, h.short⟩
theorem Rg.drawn (h : Rg w0 w g A c s) (hd : Drawn0 w w') : Rg w0 w' g A c s := by
  obtain ⟨n, rfl⟩ := hd.out
  exact h.step (pw_below_drewN (Below.refl _ _) n)
theorem Rg.setBad (h : Rg w0 w g A c s) (e : Bool) : Rg w0 (w.setCell ⟨g, 1, none⟩ (.bool e)) g A c (s.1, e) :=
  ⟨(blk_set h.blk 1 _).trans rfl, h.len, h.row, below_set h.bel h.lo, h.lo, h.byte, h.short⟩
theorem Rg.setB (h : Rg w0 w g A c s) {A' : Option Addr} {c' : Nat} {l' : List Int} (hl : l'.length ≤ c') (hr : Kd.C (Kd.int .u8) w0 A' l'.length l') (hb : ∀ x ∈ l', LebT.isByte x) (hs : l'.length ≤ 140737488351232) : Rg w0 (w.setCell ⟨g, 0, none⟩ (.slice A' l'.length c')) g A' c' (l', s.2) :=
  ⟨(blk_set h.blk 0 _).trans rfl, hl, hr, below_set h.bel h.lo, h.lo, hb, hs⟩
end
theorem cut_of (A : Option Addr) (l : List Int) (c : Nat) (hl : l.length ≤ c) (u : Nat) (hu : u ≤ l.length) : ∃ A', (∀ W : World, (Instr.slice 23 (.slice A l.length c) (some (.int .i64 (u : Int))) none none).run Try.prog W = .ok (.slice A' (l.length - u) (c - u)) W) ∧
    (∀ W, Kd.C (Kd.int .u8) W A l.length l → Kd.C (Kd.int .u8) W A' (l.drop u).length (l.drop u)) ∧ (l.drop u).length ≤ c - u := by
  obtain ⟨i0, hi0, _, hsz, _⟩ := info_parts info5
  obtain ⟨A', h1, h2, h3⟩ := print_drop_of (P := Try.prog) (Value.int .u8) 0 23 5 .i64 Try.underlying23 hi0 hsz A c l (u : Int) (by omega) (by omega) hl
  simp only [Int.toNat_natCast, List.length_drop] at h1 h2 h3
  exact ⟨A', h1, fun W hC => by rw [List.length_drop]; exact Kd.C_of_reads (h1 := fun _ => rfl) (h2 W (Kd.reads_of_C hC)), by rw [List.length_drop]; exact h3⟩
theorem runs_used {b : List Int} (hb : ∀ x ∈ b, LebT.isByte x) (he : (ColT.getRuns b 256).2.2 = 0) : ∃ u : Nat, (ColT.getRuns b 256).2.1 = (u : Int) ∧ u ≤ b.length := by
  obtain ⟨x, u, e, hx⟩ : ∃ x u e, ColT.getRuns b 256 = (x, u, e) := ⟨_, _, _, rfl⟩
  rw [hx] at he ⊢
  obtain rfl : e = 0 := he
  obtain ⟨m, rfl, h1, _, _⟩ := ColT.getRuns_only hb hx
  exact ⟨m, rfl, h1⟩
def ColPost (w0 w : World) (g : Nat) (G : List Int → List Int × Int × Int) (s : St) (e : Ending) (w' : World) : Prop :=
  ∃ (v : Value) (A' : Option Addr) (c' : Nat), e = .returned v ∧ Kd.R (Kd.int .i64) 2 w' w.heap.size (fun k => k ≠ g) v (colS G s).1 ∧ Rg w0 w' g A' c' (colS G s).2 ∧ KeepBut w w' g none
set_option maxHeartbeats 4000000 in
set_option maxRecDepth 100000 in
theorem column_runs (w0 w : World) (g : Nat) (A : Option Addr) (c : Nat) (s : St) (h : Rg w0 w g A c s) : Calls Try.prog 39 #[.pointer (some ⟨g, 0, none⟩), .func (.func 40) #[] #[]] w (ColPost w0 w g runG s) := by
  obtain ⟨n, k, e, hg⟩ : ∃ n k e, runG s.1 = (n, k, e) := ⟨_, _, _, rfl⟩
  have hf : column_GetRuns.f 800000 s.1 256 = some (n, k, e) := by
    rw [ColT.getRuns_f (by omega) h.byte h.short 256]
    exact congrArg some hg
  have hu := runs_used h.byte
  rw [show (ColT.getRuns s.1 256).2.2 = (runG s.1).2.2 from rfl, show (ColT.getRuns s.1 256).2.1 = (runG s.1).2.1 from rfl, hg] at hu
  have HF := Aside0.mk hf
  have H := Aside0.mk h
  have h0 := h.c0
  have hlt := h.lt
  have HLT := Aside0.mk hlt
  have hu22 := Try.underlying23
  clear hf hlt
  go_enter Try.func39, Try.ntmps39
  by_cases hbad : s.2 = true
  · have hc : colS runG s = ([], s.1, true) := if_neg (by rw [hbad]; exact fun hh => absurd hh.1 (by decide))
    have HC := Aside0.mk hc
    have HBD := Aside0.mk hbad
    clear hc hbad hu h
    go_wp2_with (go_at_call 40; refine (column_GetRuns.calls 800000 A c s.1 256 n k e _ H.out.C H.out.len HF.out).mono ?_; rintro e_ w1 ⟨v1, rfl, ho, hb⟩; have H1 := Aside0.mk (H.out.step hb); have HK := Aside0.mk (KeepBut.of_below hb g none); have c1 := H1.out.c1; rw [HBD.out] at c1; have f1 := blk_frozen H1.out.blk 1; have g1 := (H1.out.setBad true).c1; clear ho hb h0)
    go_ret
    exact ⟨_, A, c, rfl, by rw [HC.out]; exact Kd.R_nil _ _ _ _ _, by rw [HC.out]; exact H1.out.setBad true, HK.out.set_ 1 _⟩
  · have hbf : s.2 = false := by simpa using hbad
    clear hbad
    by_cases he : e = 0
    · subst he
      obtain ⟨u, rfl, hul⟩ := hu rfl
      obtain ⟨A', hcut, hC, hcl⟩ := cut_of A s.1 c h.len u hul
      have hc : colS runG s = (n, s.1.drop u, false) := by
        unfold colS
        rw [hg, if_pos ⟨hbf, rfl⟩]
        rfl
      have HC := Aside0.mk hc
      have HBF := Aside0.mk hbf
      have HCC := Aside0.mk hC
      have HCL := Aside0.mk hcl
      clear hc hbf hu hC hcl h hul
      go_wp2_with (go_at_call 40; refine (column_GetRuns.calls 800000 A c s.1 256 n u 0 _ H.out.C H.out.len HF.out).mono ?_; rintro e_ w1 ⟨v1, rfl, ho, hb⟩; have H1 := Aside0.mk (H.out.step hb); have HO := Aside0.mk ho; have HK := Aside0.mk (KeepBut.of_below hb g none); have c1 := H1.out.c1; rw [HBF.out] at c1; have f1 := blk_frozen H1.out.blk 1; have H2 := Aside0.mk (H1.out.setBad false); have g0 := H2.out.c0; have g1 := H2.out.c1; have f0 := blk_frozen H2.out.blk 0; clear ho hb h0)
      go_ret
      have H3 := H2.out.setB (A' := A') (c' := c - u) HCL.out (HCC.out _ H.out.row) (ColT.drop_byte H.out.byte u) (by rw [List.length_drop]; have := H.out.short; omega)
      rw [List.length_drop] at H3
      have hn := HLT.out
      refine ⟨_, A', c - u, rfl, ?_, ?_, (HK.out.set_ 1 _).set_ 0 _⟩
      · rw [HC.out]
        exact Kd.R_far (p := ⟨g, 0, none⟩) (Kd.R_far (p := ⟨g, 1, none⟩) (Kd.R_mono (Kd.R_bound HO.out) (fun k hk => by have := hk.2.1; show k ≠ g; omega)) (fun k hk => hk) _) (fun k hk => hk) _
      · rw [HC.out]
        exact H3
    · have hc : colS runG s = ([], s.1, true) := if_neg (by rw [hg]; exact fun hh => he hh.2)
      have b2 : (e == 0) = false := beq_eq_false_iff_ne.mpr he
      have b3 : (e != 0) = true := bne_iff_ne.mpr he
      have HC := Aside0.mk hc
      have HBF := Aside0.mk hbf
      clear hc hbf hu he h
      go_wp2_with (go_at_call 40; refine (column_GetRuns.calls 800000 A c s.1 256 n k e _ H.out.C H.out.len HF.out).mono ?_; rintro e_ w1 ⟨v1, rfl, ho, hb⟩; have H1 := Aside0.mk (H.out.step hb); have HK := Aside0.mk (KeepBut.of_below hb g none); have c1 := H1.out.c1; rw [HBF.out] at c1; have f1 := blk_frozen H1.out.blk 1; have g1 := (H1.out.setBad true).c1; clear ho hb h0)
      go_ret
      exact ⟨_, A, c, rfl, by rw [HC.out]; exact Kd.R_nil _ _ _ _ _, by rw [HC.out]; exact H1.out.setBad true, HK.out.set_ 1 _⟩
set_option maxHeartbeats 4000000 in
set_option maxRecDepth 100000 in
theorem column_deltas (w0 w : World) (g : Nat) (A : Option Addr) (c : Nat) (s : St) (h : Rg w0 w g A c s) : Calls Try.prog 39 #[.pointer (some ⟨g, 0, none⟩), .func (.func 42) #[] #[]] w (ColPost w0 w g delG s) := by
  obtain ⟨n, k, e, hg⟩ : ∃ n k e, delG s.1 = (n, k, e) := ⟨_, _, _, rfl⟩
  have hf : column_GetDeltas.f 800000 s.1 256 = some (n, k, e) := by
    rw [ColT.getDeltas_f (by omega) h.byte h.short 256]
    exact congrArg some hg
  have hu := runs_used h.byte
  rw [show (ColT.getRuns s.1 256).2.2 = (delG s.1).2.2 from rfl, show (ColT.getRuns s.1 256).2.1 = (delG s.1).2.1 from rfl, hg] at hu
  have HF := Aside0.mk hf
  have H := Aside0.mk h
  have h0 := h.c0
  have hlt := h.lt
  have HLT := Aside0.mk hlt
  have hu22 := Try.underlying23
  clear hf hlt
  go_enter Try.func39, Try.ntmps39
  by_cases hbad : s.2 = true
  · have hc : colS delG s = ([], s.1, true) := if_neg (by rw [hbad]; exact fun hh => absurd hh.1 (by decide))
    have HC := Aside0.mk hc
    have HBD := Aside0.mk hbad
    clear hc hbad hu h
    go_wp2_with (go_at_call 42; refine (column_GetDeltas.calls 800000 A c s.1 256 n k e _ H.out.C H.out.len HF.out).mono ?_; rintro e_ w1 ⟨v1, rfl, ho, hb⟩; have H1 := Aside0.mk (H.out.step hb); have HK := Aside0.mk (KeepBut.of_below hb g none); have c1 := H1.out.c1; rw [HBD.out] at c1; have f1 := blk_frozen H1.out.blk 1; have g1 := (H1.out.setBad true).c1; clear ho hb h0)
    go_ret
    exact ⟨_, A, c, rfl, by rw [HC.out]; exact Kd.R_nil _ _ _ _ _, by rw [HC.out]; exact H1.out.setBad true, HK.out.set_ 1 _⟩
  · have hbf : s.2 = false := by simpa using hbad
    clear hbad
    by_cases he : e = 0
    · subst he
      obtain ⟨u, rfl, hul⟩ := hu rfl
      obtain ⟨A', hcut, hC, hcl⟩ := cut_of A s.1 c h.len u hul
      have hc : colS delG s = (n, s.1.drop u, false) := by
        unfold colS
        rw [hg, if_pos ⟨hbf, rfl⟩]
        rfl
      have HC := Aside0.mk hc
      have HBF := Aside0.mk hbf
      have HCC := Aside0.mk hC
      have HCL := Aside0.mk hcl
      clear hc hbf hu hC hcl h hul
      go_wp2_with (go_at_call 42; refine (column_GetDeltas.calls 800000 A c s.1 256 n u 0 _ H.out.C H.out.len HF.out).mono ?_; rintro e_ w1 ⟨v1, rfl, ho, hb⟩; have H1 := Aside0.mk (H.out.step hb); have HO := Aside0.mk ho; have HK := Aside0.mk (KeepBut.of_below hb g none); have c1 := H1.out.c1; rw [HBF.out] at c1; have f1 := blk_frozen H1.out.blk 1; have H2 := Aside0.mk (H1.out.setBad false); have g0 := H2.out.c0; have g1 := H2.out.c1; have f0 := blk_frozen H2.out.blk 0; clear ho hb h0)
      go_ret
      have H3 := H2.out.setB (A' := A') (c' := c - u) HCL.out (HCC.out _ H.out.row) (ColT.drop_byte H.out.byte u) (by rw [List.length_drop]; have := H.out.short; omega)
      rw [List.length_drop] at H3
      have hn := HLT.out
      refine ⟨_, A', c - u, rfl, ?_, ?_, (HK.out.set_ 1 _).set_ 0 _⟩
      · rw [HC.out]
        exact Kd.R_far (p := ⟨g, 0, none⟩) (Kd.R_far (p := ⟨g, 1, none⟩) (Kd.R_mono (Kd.R_bound HO.out) (fun k hk => by have := hk.2.1; show k ≠ g; omega)) (fun k hk => hk) _) (fun k hk => hk) _
      · rw [HC.out]
        exact H3
    · have hc : colS delG s = ([], s.1, true) := if_neg (by rw [hg]; exact fun hh => he hh.2)
      have b2 : (e == 0) = false := beq_eq_false_iff_ne.mpr he
      have b3 : (e != 0) = true := bne_iff_ne.mpr he
      have HC := Aside0.mk hc
      have HBF := Aside0.mk hbf
      clear hc hbf hu he h
      go_wp2_with (go_at_call 42; refine (column_GetDeltas.calls 800000 A c s.1 256 n k e _ H.out.C H.out.len HF.out).mono ?_; rintro e_ w1 ⟨v1, rfl, ho, hb⟩; have H1 := Aside0.mk (H.out.step hb); have HK := Aside0.mk (KeepBut.of_below hb g none); have c1 := H1.out.c1; rw [HBF.out] at c1; have f1 := blk_frozen H1.out.blk 1; have g1 := (H1.out.setBad true).c1; clear ho hb h0)
      go_ret
      exact ⟨_, A, c, rfl, by rw [HC.out]; exact Kd.R_nil _ _ _ _ _, by rw [HC.out]; exact H1.out.setBad true, HK.out.set_ 1 _⟩
end Go.Proofs.Ytpnnjefhchppfaa.Op

set_option linter.unusedVariables false
set_option linter.unusedSimpArgs false
namespace Go.Proofs.Ytpnnjefhchppfaa.Op
open Go Go.RowKit Go.Proofs.YtpnnjefhchppfaaW.PrintWords Go.Proofs.YtpnnjefhchppfaaW.PrintLast Go.Proofs.YtpnnjefhchppfaaW.PrintMore Go.Proofs.Ytpnnjefhchppfaa.PA
theorem gT_used {b : List Int} (hb : ∀ x ∈ b, LebT.isByte x) {most : Int} (h : (gT most b).2.2 = 0) : ∃ u : Nat, (gT most b).2.1 = (u : Int) ∧ u ≤ b.length := by
  unfold gT at h ⊢
  by_cases h0 : (LebT.gU 0 0 b).2.2 = 0
  · obtain ⟨v, k, e, hv, hk0, hkl, _⟩ := ColT.gU_rng hb h0
    rw [if_pos h0] at h ⊢
    simp only [e] at h ⊢
    by_cases h1 : (v : Int) > most
    · rw [if_pos h1] at h; exact absurd h (by decide)
    · rw [if_neg h1] at h ⊢
      by_cases h2 : (v : Int) > (b.length : Int) - (k : Int)
      · rw [if_pos h2] at h; exact absurd h (by decide)
      · rw [if_neg h2]
        exact ⟨k + v, by push_cast; rfl, by omega⟩
  · rw [if_neg h0] at h
    exact absurd h h0
def TextPost (w0 w : World) (g : Nat) (most : Int) (s : St) (e : Ending) (w' : World) : Prop :=
  ∃ (A' : Option Addr) (c' : Nat), e = .returned (.string (textS most s).1) ∧ Rg w0 w' g A' c' (textS most s).2 ∧ KeepBut w w' g none
set_option maxHeartbeats 4000000 in
set_option maxRecDepth 100000 in
theorem text_calls (w0 w : World) (g : Nat) (A : Option Addr) (c : Nat) (s : St) (most : Int) (hm0 : 0 ≤ most) (hm1 : most ≤ 4096) (h : Rg w0 w g A c s) : Calls Try.prog 43 #[.pointer (some ⟨g, 0, none⟩), .int .i64 most] w (TextPost w0 w g most s) := by
  obtain ⟨n, k, e, hg⟩ : ∃ n k e, gT most s.1 = (n, k, e) := ⟨_, _, _, rfl⟩
  have hf : leb_GetText.f 24 s.1 most = some (n, k, e) := by
    rw [LebP.gText s.1 most hm0 (by omega) h.byte (by have := h.short; omega) (Nat.le_refl _)]
    exact congrArg some hg
  have hu := gT_used (most := most) h.byte
  rw [hg] at hu
  have HF := Aside0.mk hf
  have H := Aside0.mk h
  have h0 := h.c0
  have hu22 := Try.underlying23
  clear hf hm0 hm1
  go_enter Try.func43, Try.ntmps43
  by_cases hbad : s.2 = true
  · have hc : textS most s = (e0, s.1, true) := if_neg (by rw [hbad]; exact fun hh => absurd hh.1 (by decide))
    have HC := Aside0.mk hc
    have HBD := Aside0.mk hbad
    clear hc hbad hu h
    go_wp2_with (go_at_call 60; refine (leb_GetText.calls 24 A c s.1 most n k e _ H.out.C H.out.len HF.out).mono ?_; rintro e_ w1 ⟨rfl, hd⟩; have H1 := Aside0.mk (H.out.drawn hd); have HK : Aside0 (KeepBut w w1 g none) := ⟨by obtain ⟨q, hq⟩ := hd.out; rw [hq]; exact keep_drewN (KeepBut.refl _ _ _) q⟩; have c1 := H1.out.c1; rw [HBD.out] at c1; have f1 := blk_frozen H1.out.blk 1; have g1 := (H1.out.setBad true).c1; clear hd h0)
    go_ret
    exact ⟨A, c, by rw [HC.out]; rfl, by rw [HC.out]; exact H1.out.setBad true, HK.out.set_ 1 _⟩
  · have hbf : s.2 = false := by simpa using hbad
    clear hbad
    by_cases he : e = 0
    · subst he
      obtain ⟨u, rfl, hul⟩ := hu rfl
      obtain ⟨A', hcut, hC, hcl⟩ := cut_of A s.1 c h.len u hul
      have hc : textS most s = (n, s.1.drop u, false) := by
        unfold textS
        rw [hg, if_pos ⟨hbf, rfl⟩]
        rfl
      have HC := Aside0.mk hc
      have HBF := Aside0.mk hbf
      have HCC := Aside0.mk hC
      have HCL := Aside0.mk hcl
      clear hc hbf hu hC hcl h hul
      go_wp2_with (go_at_call 60; refine (leb_GetText.calls 24 A c s.1 most n u 0 _ H.out.C H.out.len HF.out).mono ?_; rintro e_ w1 ⟨rfl, hd⟩; have H1 := Aside0.mk (H.out.drawn hd); have HK : Aside0 (KeepBut w w1 g none) := ⟨by obtain ⟨q, hq⟩ := hd.out; rw [hq]; exact keep_drewN (KeepBut.refl _ _ _) q⟩; have c1 := H1.out.c1; rw [HBF.out] at c1; have f1 := blk_frozen H1.out.blk 1; have H2 := Aside0.mk (H1.out.setBad false); have g0 := H2.out.c0; have g1 := H2.out.c1; have f0 := blk_frozen H2.out.blk 0; clear hd h0)
      go_ret
      have H3 := H2.out.setB (A' := A') (c' := c - u) HCL.out (HCC.out _ H.out.row) (ColT.drop_byte H.out.byte u) (by rw [List.length_drop]; have := H.out.short; omega)
      rw [List.length_drop] at H3
      exact ⟨A', c - u, by rw [HC.out]; rfl, by rw [HC.out]; exact H3, (HK.out.set_ 1 _).set_ 0 _⟩
    · have hc : textS most s = (e0, s.1, true) := if_neg (by rw [hg]; exact fun hh => he hh.2)
      have b2 : (e == 0) = false := beq_eq_false_iff_ne.mpr he
      have b3 : (e != 0) = true := bne_iff_ne.mpr he
      have HC := Aside0.mk hc
      have HBF := Aside0.mk hbf
      clear hc hbf hu he h
      go_wp2_with (go_at_call 60; refine (leb_GetText.calls 24 A c s.1 most n k e _ H.out.C H.out.len HF.out).mono ?_; rintro e_ w1 ⟨rfl, hd⟩; have H1 := Aside0.mk (H.out.drawn hd); have HK : Aside0 (KeepBut w w1 g none) := ⟨by obtain ⟨q, hq⟩ := hd.out; rw [hq]; exact keep_drewN (KeepBut.refl _ _ _) q⟩; have c1 := H1.out.c1; rw [HBF.out] at c1; have f1 := blk_frozen H1.out.blk 1; have g1 := (H1.out.setBad true).c1; clear hd h0)
      go_ret
      exact ⟨A, c, by rw [HC.out]; rfl, by rw [HC.out]; exact H1.out.setBad true, HK.out.set_ 1 _⟩
theorem Rg.grown {w0 w w1 : World} {g c : Nat} {A : Option Addr} {s : St} {r : Option Nat} (h : Rg w0 w g A c s) (hg : w.grownBy w1 r) (hr : some g ≠ r) (hb : Below w0.heap.size w0 w1) : Rg w0 w1 g A c s :=
  ⟨blk_grown h.blk hg hr, h.len, h.row, hb, h.lo, h.byte, h.short⟩
theorem nmS_zero (acc : List ByteArray) (s : St) : nmS 0 acc s = (acc, s) := rfl
theorem nmS_bad (n : Nat) (acc : List ByteArray) (s : St) (h : s.2 = true) : nmS n acc s = (acc, s) := by
  cases n with
  | zero => rfl
  | succ n => exact if_pos h
theorem nmS_next (n : Nat) (acc : List ByteArray) (s : St) (h : s.2 = false) : nmS (n + 1) acc s = nmS n (acc ++ [(textS 32 s).1]) (textS 32 s).2 := if_neg (by rw [h]; decide)
def NamesPost (w0 w : World) (g : Nat) (s : St) (e : Ending) (w' : World) : Prop :=
  ∃ (v : Value) (A' : Option Addr) (c' : Nat), e = .returned v ∧ Kd.R Kd.string 9 w' w.heap.size (fun k => k ≠ g) v (namesS s).1 ∧ Rg w0 w' g A' c' (namesS s).2 ∧ KeepBut w w' g none
set_option maxHeartbeats 4000000 in
set_option maxRecDepth 100000 in
theorem names_calls (w0 w : World) (g : Nat) (A : Option Addr) (c : Nat) (s : St) (h : Rg w0 w g A c s) : Calls Try.prog 41 #[.pointer (some ⟨g, 0, none⟩)] w (NamesPost w0 w g s) := by
  obtain ⟨n, k, e, hg⟩ : ∃ n k e, LebT.gU 0 0 s.1 = (n, k, e) := ⟨_, _, _, rfl⟩
  have hf : leb_GetUint.f 20 s.1 = some (n, k, e) := by
    rw [LebP.getU_f (Nat.le_refl _) h.byte]
    exact congrArg some hg
  have HF := Aside0.mk hf
  have H := Aside0.mk h
  have h0 := h.c0
  have hu22 := Try.underlying23
  clear hf
  go_enter Try.func41, Try.ntmps41
  by_cases hbad : s.2 = true
  · have hc : namesS s = ([], s.1, true) := if_neg (by rw [hbad]; exact fun hh => absurd hh.1 (by decide))
    have HC := Aside0.mk hc
    have HBD := Aside0.mk hbad
    clear hc hbad h
    go_wp2_with (go_at_call 58; refine (leb_GetUint.calls 20 A c s.1 n k e _ H.out.C H.out.len HF.out).mono ?_; rintro e_ w1 ⟨rfl, hd⟩; have H1 := Aside0.mk (H.out.drawn hd); have HK : Aside0 (KeepBut w w1 g none) := ⟨by obtain ⟨q, hq⟩ := hd.out; rw [hq]; exact keep_drewN (KeepBut.refl _ _ _) q⟩; have c1 := H1.out.c1; rw [HBD.out] at c1; have f1 := blk_frozen H1.out.blk 1; have g1 := (H1.out.setBad true).c1; clear hd h0)
    go_ret
    exact ⟨_, A, c, rfl, by rw [HC.out]; exact Kd.R_nil _ _ _ _ _, by rw [HC.out]; exact H1.out.setBad true, HK.out.set_ 1 _⟩
  · have hbf : s.2 = false := by simpa using hbad
    clear hbad
    by_cases he : e = 0
    · subst he
      obtain ⟨m, u, hmu, hm64, hu0, hul, -⟩ := ColT.gU_rng h.byte (show (LebT.gU 0 0 s.1).2.2 = 0 by rw [hg])
      rw [hg] at hmu
      simp only [Prod.mk.injEq] at hmu
      obtain ⟨rfl, rfl, -⟩ := hmu
      by_cases hm : m ≤ 256
      · obtain ⟨A', hcut, hC, hcl⟩ := cut_of A s.1 c h.len u hul
        have hc : namesS s = nmS m [] (s.1.drop u, false) := by
          unfold namesS
          rw [hg, if_pos ⟨hbf, rfl, by show (m : Int) ≤ 256; omega⟩]
          rfl
        have hdm : decide ((256 : Int) < (m : Int)) = false := decide_eq_false (by omega)
        have HC := Aside0.mk hc
        have HBF := Aside0.mk hbf
        have HCC := Aside0.mk hC
        have HCL := Aside0.mk hcl
        have HM := Aside0.mk hm
        clear hc hbf hC hcl h hul hm64 hu0 hm
        go_wp2_with (go_at_call 58; refine (leb_GetUint.calls 20 A c s.1 m u 0 _ H.out.C H.out.len HF.out).mono ?_; rintro e_ w1 ⟨rfl, hd⟩; have H1 := Aside0.mk (H.out.drawn hd); have HK : Aside0 (KeepBut w w1 g none) := ⟨by obtain ⟨q, hq⟩ := hd.out; rw [hq]; exact keep_drewN (KeepBut.refl _ _ _) q⟩; have c1 := H1.out.c1; rw [HBF.out] at c1; have f1 := blk_frozen H1.out.blk 1; have H2 := Aside0.mk (H1.out.setBad false); have g0 := H2.out.c0; have g1 := H2.out.c1; have f0 := blk_frozen H2.out.blk 0; clear hd h0)
        have H3 := Aside0.mk (H2.out.setB (A' := A') (c' := c - u) HCL.out (HCC.out _ H.out.row) (ColT.drop_byte H.out.byte u) (by rw [List.length_drop]; have := H.out.short; omega))
        have hdl := @List.length_drop Int u s.1
        rw [hdl] at H3
        have HK3 := Aside0.mk ((HK.out.set_ 1 (.bool false)).set_ 0 (.slice A' (s.1.length - u) (c - u)))
        clear hdl H2 HK H1 g0 g1 f0 f1 c1 hcut
        go_loopw [3, 6] (fun v3 v6 wr => ∃ (j : Nat) (acc : List ByteArray) (t : St) (A' : Option Addr) (c' : Nat), j ≤ 256 ∧ v3 = .int .u64 j ∧ Aside0 (Kd.R Kd.string 9 wr w.heap.size (fun k => k ≠ g) v6 acc) ∧ Aside0 (Rg w0 wr g A' c' t) ∧ Aside0 (KeepBut w wr g none) ∧ Aside0 (nmS j acc t = namesS s) ∧ Aside0 (acc.length + j ≤ 256)) (fun v3 _ _ => (intOf v3).toNat)
        case atStart => exact ⟨m, [], (s.1.drop u, false), A', c - u, HM.out, rfl, ⟨Kd.R_nil _ _ _ _ _⟩, ⟨H3.out⟩, HK3, ⟨HC.out.symm⟩, ⟨by simpa using HM.out⟩⟩
        case round =>
          clear H3 HK3 HC HM hdm
          obtain ⟨j, acc, t, A1, c1, hj, rfl, HO, HR, HK, HN, HL⟩ := hrel
          have r1 := HR.out.c1
          by_cases hj0 : j = 0
          · subst hj0
            have hd0 : decide ((0 : Int) < ((0 : Nat) : Int)) = false := by decide
            clear H
            go_wp2
            go_ret
            have e1 := HN.out
            rw [nmS_zero] at e1
            exact ⟨_, A1, c1, rfl, by rw [← e1]; exact HO.out, by rw [← e1]; exact HR.out, HK.out⟩
          · have hd1 : decide ((0 : Int) < (j : Int)) = true := decide_eq_true (by omega)
            by_cases hb : t.2 = true
            · rw [hb] at r1
              have HBT := Aside0.mk hb
              clear hb H
              go_wp2
              go_ret
              have e1 := HN.out
              rw [nmS_bad _ _ _ HBT.out] at e1
              exact ⟨_, A1, c1, rfl, by rw [← e1]; exact HO.out, by rw [← e1]; exact HR.out, HK.out⟩
            · have hbf : t.2 = false := by simpa using hb
              rw [hbf] at r1
              have HBT := Aside0.mk hbf
              clear hb hbf
              obtain ⟨q, rfl⟩ : ∃ q, j = q + 1 := ⟨j - 1, by omega⟩
              obtain ⟨A6, c6, e6⟩ := Kd.R_slice HO.out
              subst e6
              have HW := Aside0.mk H.out.bel.size
              clear hj0
              go_wp2_with (first | (go_at_call 43; refine (text_calls w0 _ g A1 c1 t 32 (by decide) (by decide) HR.out).mono ?_; rintro e2 w2 ⟨A2, c2, rfl, hr2, hk2⟩; have HR2 := Aside0.mk hr2; have HK2 := Aside0.mk (HK.out.trans hk2 (.inl rfl)); have HO2 := Aside0.mk (Kd.R_keep HO.out hk2 (fun k hk => hk)); clear hr2 hk2) | ((with_reducible refine gate_builtin (b := .append) (xs := #[.tmp 55, .tmp 58]) rfl ?_); at_builtin; refine Kd.R_append Kd.string (w0 := w2) w.heap.size rfl (.tmp 55) (.tmp 58) 53 9 (.string ⟨#[]⟩) 16 rfl Try.underlying53 info9 rfl (by decide) (by omega) (.slice A6 acc.length c6) acc ((textS 32 t).1) [.string ((textS 32 t).1)] (fun k => k ≠ g) (fun _ => False) rfl rfl ?aP (fun _ hk => hk.elim) ?aF ?aO ?aB ?aS ?aL ?_; (case aP => exact rfl); (case aB => exact Below.refl _ _); (case aF => exact (fun k hk => by have := HR2.out.lt; show k ≠ g; omega)); (case aO => exact HO2.out); (case aS => exact HK2.out.1); (case aL => (have := HL.out; omega)); intro v3 w3 ho hb hg hat; have HO3 := Aside0.mk ho; have HK3 := Aside0.mk (HK2.out.trans (KeepBut.of_grown hg g) (Kd.R_base2 HO2.out)); have HR3 := Aside0.mk (HR2.out.grown hg (fun e => HO2.out.1 g e.symm rfl) (HR2.out.bel.trans (hb.mono HW.out))); clear ho hb hg hat))
              go_roundw
              case rel =>
                refine ⟨q, acc ++ [(textS 32 t).1], (textS 32 t).2, A2, c2, by omega, rfl, HO3, HR3, HK3, ⟨?_⟩, ⟨by have := HL.out; rw [List.length_append, List.length_singleton]; omega⟩⟩
                rw [← nmS_next q acc t HBT.out]
                exact HN.out
              case measure =>
                show (q : Int).toNat < ((q + 1 : Nat) : Int).toNat
                rw [Int.toNat_natCast, Int.toNat_natCast]
                omega
      · have hc : namesS s = ([], s.1, true) := if_neg (by rw [hg]; rintro ⟨_, _, h3⟩; exact hm (by have : (m : Int) ≤ 256 := h3; omega))
        have hdm : decide ((256 : Int) < (m : Int)) = true := decide_eq_true (by omega)
        have HC := Aside0.mk hc
        have HBF := Aside0.mk hbf
        clear hc hbf h hul hm64 hu0 hm
        go_wp2_with (go_at_call 58; refine (leb_GetUint.calls 20 A c s.1 m u 0 _ H.out.C H.out.len HF.out).mono ?_; rintro e_ w1 ⟨rfl, hd⟩; have H1 := Aside0.mk (H.out.drawn hd); have HK : Aside0 (KeepBut w w1 g none) := ⟨by obtain ⟨q, hq⟩ := hd.out; rw [hq]; exact keep_drewN (KeepBut.refl _ _ _) q⟩; have c1 := H1.out.c1; rw [HBF.out] at c1; have f1 := blk_frozen H1.out.blk 1; have g1 := (H1.out.setBad true).c1; clear hd h0)
        go_ret
        exact ⟨_, A, c, rfl, by rw [HC.out]; exact Kd.R_nil _ _ _ _ _, by rw [HC.out]; exact H1.out.setBad true, HK.out.set_ 1 _⟩
    · have hc : namesS s = ([], s.1, true) := if_neg (by rw [hg]; exact fun hh => he hh.2.1)
      have b2 : (e == 0) = false := beq_eq_false_iff_ne.mpr he
      have b3 : (e != 0) = true := bne_iff_ne.mpr he
      have HC := Aside0.mk hc
      have HBF := Aside0.mk hbf
      clear hc hbf he h
      go_wp2_with (go_at_call 58; refine (leb_GetUint.calls 20 A c s.1 n k e _ H.out.C H.out.len HF.out).mono ?_; rintro e_ w1 ⟨rfl, hd⟩; have H1 := Aside0.mk (H.out.drawn hd); have HK : Aside0 (KeepBut w w1 g none) := ⟨by obtain ⟨q, hq⟩ := hd.out; rw [hq]; exact keep_drewN (KeepBut.refl _ _ _) q⟩; have c1 := H1.out.c1; rw [HBF.out] at c1; have f1 := blk_frozen H1.out.blk 1; have g1 := (H1.out.setBad true).c1; clear hd h0)
      go_ret
      exact ⟨_, A, c, rfl, by rw [HC.out]; exact Kd.R_nil _ _ _ _ _, by rw [HC.out]; exact H1.out.setBad true, HK.out.set_ 1 _⟩
end Go.Proofs.Ytpnnjefhchppfaa.Op

