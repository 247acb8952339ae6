/- leb.Reader: a state of two cells; what is taken off. -/
import Derived.Test.YtonpiacnljcohaaDoorLebW
import Derived.Test.YtonpiacnljcohaaDoorMine
import Derived.LoopTactic
import Derived.WalkSpells
import Derived.Lib.Hide
import Derived.Tactics2
set_option linter.unusedVariables false
set_option linter.unusedSimpArgs false
namespace Go.Proofs.YtonpiacnljcohaaDoor.Rdr
open Go Go.RowKit Go.Proofs.YtonpiacnljcohaaDoorW.PrintWords Go.Proofs.YtonpiacnljcohaaDoorW.PrintLast Go.Proofs.YtonpiacnljcohaaDoor.PA Go.Proofs.YtonpiacnljcohaaDoor.LebT Go.Proofs.YtonpiacnljcohaaDoor.LebP Go.Proofs.YtonpiacnljcohaaDoor.ColT
/-- Nothing but one block has turned, and no block is new. -/
structure Only (g : Nat) (w w' : World) : Prop where
  os : w'.os = w.os
  tape : w'.tape = w.tape
  output : w'.output = w.output
  size : w'.heap.size = w.heap.size
  block : ∀ k, k ≠ g → w'.heap[k]? = w.heap[k]?
theorem Only.refl (g : Nat) (w : World) : Only g w w := ⟨rfl, rfl, rfl, rfl, fun _ _ => rfl⟩
theorem Only.trans {g : Nat} {a b c : World} (h : Only g a b) (k : Only g b c) : Only g a c := ⟨k.os.trans h.os, k.tape.trans h.tape, k.output.trans h.output, k.size.trans h.size, fun i hi => (k.block i hi).trans (h.block i hi)⟩
theorem Only.drawn {g : Nat} {a b : World} (h : Drawn0 a b) : Only g a b := by
  obtain ⟨n, rfl⟩ := h.out
  have hb := pw_below_drewN (Below.refl (a.heap.size) a) n
  refine ⟨hb.os, hb.tape, hb.output, ?_, fun k _ => ?_⟩
  · induction n with
    | zero => rfl
    | succ n ih => rfl
  · rfl
theorem Only.setCell {g : Nat} {a : World} (i : Nat) (v : Value) : Only g a (a.setCell ⟨g, i, none⟩ v) := ⟨rfl, rfl, rfl, by simp [World.setCell], fun k hk => Below.heap_setCell a ⟨g, i, none⟩ v k hk⟩
theorem Only.below {g B : Nat} {a b : World} (h : Only g a b) (hg : B ≤ g) : Below B a b := ⟨h.os, h.tape, h.output, Nat.le_of_eq h.size.symm, fun k hk => h.block k (by omega)⟩
/-- The reader at g has l left, and the error err. -/
structure Rd (w : World) (g : Nat) (P : Nat → Prop) (A : Option Addr) (c : Nat) (l : List Int) (err : Int) : Prop where
  blk : w.heap[g]? = some (.cells #[.slice A l.length c, .int .i64 err] 105 (0, 0))
  len : l.length ≤ c
  row : Kd.F (Kd.int .u8) w P A l.length l
  not : ∀ k, P k → k ≠ g
section
variable {w : World} {g c : Nat} {P : Nat → Prop} {A : Option Addr} {l : List Int} {err : Int}
theorem Rd.lt (h : Rd w g P A c l err) : g < w.heap.size := blk_lt h.blk
theorem Rd.c0 (h : Rd w g P A c l err) : w.cell? ⟨g, 0, none⟩ = some (.slice A l.length c) := (blk_cell h.blk 0).trans rfl
theorem Rd.c1 (h : Rd w g P A c l err) : w.cell? ⟨g, 1, none⟩ = some (.int .i64 err) := (blk_cell h.blk 1).trans rfl
theorem Rd.C (h : Rd w g P A c l err) : Kd.C (Kd.int .u8) w A l.length l := Kd.F_now h.row
theorem Rd.setE (h : Rd w g P A c l err) (e : Int) : Rd (w.setCell ⟨g, 1, none⟩ (.int .i64 e)) g P A c l e :=
  ⟨(blk_set h.blk 1 _).trans rfl, h.len, Kd.F_far h.row (fun k hk => h.not k hk) _, h.not⟩
theorem Rd.setB (h : Rd w g P A c l err) {A' : Option Addr} {c' : Nat} {l' : List Int} (hl : l'.length ≤ c') (hr : ∀ W, Kd.C (Kd.int .u8) W A l.length l → Kd.C (Kd.int .u8) W A' l'.length l') : Rd (w.setCell ⟨g, 0, none⟩ (.slice A' l'.length c')) g P A' c' l' err :=
  ⟨(blk_set h.blk 0 _).trans rfl, hl, Kd.F_imp (Kd.F_far h.row (fun k hk => h.not k hk) _) hr, h.not⟩
theorem Rd.drawn {w' : World} (h : Rd w g P A c l err) (hd : Drawn0 w w') : Rd w' g P A c l err := by
  obtain ⟨n, rfl⟩ := hd.out
  exact ⟨blk_drewN h.blk n, h.len, Kd.F_drewN h.row n, h.not⟩
theorem Rd.bound (h : Rd w g P A c l err) : Rd w g (fun k => P k ∧ k < w.heap.size) A c l err := ⟨h.blk, h.len, Kd.F_bound h.row, fun k hk => h.not k hk.1⟩
theorem Rd.far {n : Nat} (h : Rd w g P A c l err) (hn : g ≠ n) (hP : ∀ k, P k → k ≠ n) (i : Nat) (v : Value) : Rd (w.setCell ⟨n, i, none⟩ v) g P A c l err := ⟨blk_far h.blk hn v, h.len, Kd.F_far h.row (fun k hk => hP k hk) v, h.not⟩
theorem Rd.below {w' : World} (h : Rd w g P A c l err) (hb : Below w.heap.size w w') : Rd w' g P A c l err := ⟨blk_below h.blk hb, h.len, Kd.F_below h.row hb, h.not⟩
end
variable (w : World) (g c : Nat) (P : Nat → Prop) (A : Option Addr) (l : List Int) (err : Int)
set_option maxHeartbeats 1000000 in
theorem Left_calls (h : Rd w g P A c l err) : Calls Tryd.prog 46 #[.pointer (some ⟨g, 0, none⟩)] w fun e w' => e = .returned (.int .i64 l.length) ∧ w' = w := by
  have h0 := h.c0
  clear h
  go_enter Tryd.func46, Tryd.ntmps46
  go_wp2
  go_ret
  exact ⟨rfl, rfl⟩
set_option maxHeartbeats 1000000 in
theorem Err_calls (h : Rd w g P A c l err) : Calls Tryd.prog 47 #[.pointer (some ⟨g, 0, none⟩)] w fun e w' => e = .returned (.int .i64 err) ∧ w' = w := by
  have h0 := h.c1
  clear h
  go_enter Tryd.func47, Tryd.ntmps47
  go_wp2
  go_ret
  exact ⟨rfl, rfl⟩
/-- The cut of a row, from a place on. -/
theorem cut_of (hl : l.length ≤ c) (u : Nat) (hu : u ≤ l.length) : ∃ A', (∀ W : World, (Instr.slice 22 (.slice A l.length c) (some (.int .i64 (u : Int))) none none).run Tryd.prog W = .ok (.slice A' (l.length - u) (c - u)) W) ∧
    (∀ W, Kd.C (Kd.int .u8) W A l.length l → Kd.C (Kd.int .u8) W A' (l.drop u).length (l.drop u)) ∧ (l.drop u).length ≤ c - u := by
  obtain ⟨i0, hi0, _, hsz, _⟩ := info_parts info5
  obtain ⟨A', h1, h2, h3⟩ := print_drop_of (P := Tryd.prog) (Value.int .u8) 0 22 5 .i64 Tryd.underlying22 hi0 hsz A c l (u : Int) (by omega) (by omega) hl
  simp only [Int.toNat_natCast, List.length_drop] at h1 h2 h3
  exact ⟨A', h1, fun W hC => by rw [List.length_drop]; exact Kd.C_of_reads (h1 := fun _ => rfl) (h2 W (Kd.reads_of_C hC)), by rw [List.length_drop]; exact h3⟩
def TookPost (w : World) (g : Nat) (P : Nat → Prop) (l : List Int) (err : Int) (u : Nat) (e : Int) (r : Ending) (w' : World) : Prop :=
  ∃ A' c', r = .returned (.bool (decide (err = 0 ∧ e = 0))) ∧ Only g w w' ∧ Rd w' g P A' c' (if err = 0 ∧ e = 0 then l.drop u else l) (if err = 0 then e else err)
set_option maxHeartbeats 4000000 in
set_option maxRecDepth 100000 in
theorem took_calls (u : Nat) (hu : u ≤ l.length) (e : Int) (h : Rd w g P A c l err) : Calls Tryd.prog 53 #[.pointer (some ⟨g, 0, none⟩), .int .i64 (u : Int), .int .i64 e] w (TookPost w g P l err u e) := by
  have h0 := h.c0
  have h1 := h.c1
  have f0 := blk_frozen h.blk 0
  have f1 := blk_frozen h.blk 1
  have hu22 := Tryd.underlying22
  by_cases he : err = 0
  · subst he
    have g0 := (h.setE e).c0
    have g1 := (h.setE e).c1
    have gf0 := blk_frozen (h.setE e).blk 0
    by_cases h2 : e = 0
    · subst h2
      obtain ⟨A', hcut, hC, hc⟩ := cut_of c A l h.len u hu
      have H := Aside0.mk ((h.setE 0).setB hc hC)
      have HO := Aside0.mk ((Only.setCell (g := g) (a := w) 1 (.int .i64 0)).trans (Only.setCell 0 (.slice A' (l.drop u).length (c - u))))
      rw [List.length_drop] at H HO
      clear h hC hc hu
      go_enter Tryd.func53, Tryd.ntmps53
      go_wp2
      go_ret
      exact ⟨_, _, rfl, HO.out, by simpa using H.out⟩
    · have b2 : (e == 0) = false := beq_eq_false_iff_ne.mpr h2
      have b3 : (e != 0) = true := bne_iff_ne.mpr h2
      have H := Aside0.mk (h.setE e)
      have HO := Aside0.mk (Only.setCell (g := g) (a := w) 1 (.int .i64 e))
      have h2' := Aside0.mk h2
      clear h hu h2
      go_enter Tryd.func53, Tryd.ntmps53
      go_wp2
      go_ret
      exact ⟨A, c, by simp [h2'.out], HO.out, by simpa [h2'.out] using H.out⟩
  · have b0 : (err == 0) = false := beq_eq_false_iff_ne.mpr he
    have b1 : (err != 0) = true := bne_iff_ne.mpr he
    have he' := Aside0.mk he
    have H := Aside0.mk h
    clear h hu he
    go_enter Tryd.func53, Tryd.ntmps53
    go_wp2
    go_ret
    exact ⟨A, c, by simp [he'.out], Only.refl _ _, by simpa [he'.out] using H.out⟩
/-- What a reader says of a number: the number, what is left, the error. -/
def rdU (most : Int) (l : List Int) (err : Int) : Int × List Int × Int :=
  if err = 0 ∧ (gU 0 0 l).2.2 = 0 ∧ (gU 0 0 l).1 ≤ most then ((gU 0 0 l).1, l.drop (gU 0 0 l).2.1.toNat, 0)
  else (0, l, if err = 0 then (if (gU 0 0 l).2.2 = 0 then 5 else (gU 0 0 l).2.2) else err)
def UintPost (w : World) (g : Nat) (P : Nat → Prop) (l : List Int) (err : Int) (most : Int) (r : Ending) (w' : World) : Prop :=
  ∃ A' c', r = .returned (.int .u64 (rdU most l err).1) ∧ Only g w w' ∧ Rd w' g P A' c' (rdU most l err).2.1 (rdU most l err).2.2
set_option maxHeartbeats 4000000 in
set_option maxRecDepth 100000 in
theorem Uint_calls (most : Int) (hb : ∀ x ∈ l, isByte x) (h : Rd w g P A c l err) : Calls Tryd.prog 44 #[.pointer (some ⟨g, 0, none⟩), .int .u64 most] w (UintPost w g P l err most) := by
  have h0 := h.c0
  have hget := fun (W : World) (hW : Rd W g P A c l err) (n k e : Int) (hr : leb_GetUint.f 20 l = some (n, k, e)) => leb_GetUint.calls 20 A c l n k e W hW.C hW.len hr
  have hf := getU_f (k := 20) (Nat.le_refl _) hb
  obtain ⟨n, hn⟩ : ∃ n, (gU 0 0 l).1 = n := ⟨_, rfl⟩
  obtain ⟨k, hk⟩ : ∃ k, (gU 0 0 l).2.1 = k := ⟨_, rfl⟩
  obtain ⟨e, he⟩ : ∃ e, (gU 0 0 l).2.2 = e := ⟨_, rfl⟩
  have hg : gU 0 0 l = (n, k, e) := by rw [← hn, ← hk, ← he]
  rw [hg] at hf
  have hkr : e = 0 → ∃ u : Nat, k = (u : Int) ∧ u ≤ l.length := by
    intro h0
    obtain ⟨v, j, hj, _, _, hjl, _⟩ := gU_rng hb (by rw [he]; exact h0)
    rw [hj] at hk
    exact ⟨j, hk.symm, hjl⟩
  have hke : e ≠ 0 → k = 0 := by
    intro h0
    rcases gU_errs l 0 0 with h1 | h1 | h1
    · exact absurd (he.symm.trans h1) h0
    · rw [h1] at hk; exact hk.symm
    · rw [h1] at hk; exact hk.symm
  obtain ⟨u, hu, hul⟩ : ∃ u : Nat, k = (u : Int) ∧ u ≤ l.length := by
    by_cases h0 : e = 0
    · exact hkr h0
    · exact ⟨0, hke h0, Nat.zero_le _⟩
  subst hu
  have hrd : rdU most l err = if err = 0 ∧ e = 0 ∧ n ≤ most then (n, l.drop u, 0) else (0, l, if err = 0 then (if e = 0 then 5 else e) else err) := by
    unfold rdU
    rw [hg]
    simp
  have HA := Aside0.mk (hget w h n u e hf)
  have HT := fun (W : World) (hW : Rd W g P A c l err) (e' : Int) => took_calls W g c P A l err u hul e' hW
  have HRD := Aside0.mk hrd
  clear hrd hget hf hn hk he hg hkr hke hb
  have HR := Aside0.mk h
  have HTA := Aside0.mk HT
  have HU := Aside0.mk hul
  clear h HT hul
  by_cases c0 : err = 0
  · subst c0
    by_cases c1 : e = 0
    · subst c1
      by_cases c2 : n ≤ most
      · have b2 : decide (most < n) = false := decide_eq_false (by omega)
        have b2' : (most < n) = False := eq_false (by omega)
        have HV := Aside0.mk (show rdU most l 0 = (n, l.drop u, 0) by rw [HRD.out]; simp [c2])
        clear c2
        go_enter Tryd.func44, Tryd.ntmps44
        go_wp2_with (first | ((with_reducible refine gate_callee (f := 40) rfl ?_); refine goesL_ (some 15) rfl rfl Tryd.func40 (by kernel_rfl) rfl #[.slice A l.length c] rfl (by (try simp only [List.map_toArray, List.map_cons, List.map_nil]); first | done | rfl) ?_; (with_reducible refine (HA.out).mono ?_); rintro e_ w1 ⟨rfl, hd1⟩; have HD := Aside0.mk hd1; clear hd1; refine ⟨_, rfl, ?_⟩) | (go_at_call 53; (with_reducible refine (HTA.out _ (HR.out.drawn HD.out) 0).mono ?_); rintro r_ w2 ⟨A', c', rfl, hO, hR⟩; have HO := Aside0.mk hO; have HR2 := Aside0.mk hR; clear hO hR))
        go_ret
        exact ⟨A', c', by rw [HV.out]; rfl, (Only.drawn HD.out).trans HO.out, by rw [HV.out]; have := HR2.out; simpa [] using this⟩
      · have b2 : decide (most < n) = true := decide_eq_true (by omega)
        have b2' : (most < n) = True := eq_true (by omega)
        have HV := Aside0.mk (show rdU most l 0 = (0, l, 5) by rw [HRD.out]; simp [c2])
        clear c2
        go_enter Tryd.func44, Tryd.ntmps44
        go_wp2_with (first | ((with_reducible refine gate_callee (f := 40) rfl ?_); refine goesL_ (some 15) rfl rfl Tryd.func40 (by kernel_rfl) rfl #[.slice A l.length c] rfl (by (try simp only [List.map_toArray, List.map_cons, List.map_nil]); first | done | rfl) ?_; (with_reducible refine (HA.out).mono ?_); rintro e_ w1 ⟨rfl, hd1⟩; have HD := Aside0.mk hd1; clear hd1; refine ⟨_, rfl, ?_⟩) | (go_at_call 53; (with_reducible refine (HTA.out _ (HR.out.drawn HD.out) 5).mono ?_); rintro r_ w2 ⟨A', c', rfl, hO, hR⟩; have HO := Aside0.mk hO; have HR2 := Aside0.mk hR; clear hO hR))
        go_ret
        exact ⟨A', c', by rw [HV.out]; rfl, (Only.drawn HD.out).trans HO.out, by rw [HV.out]; have := HR2.out; simpa [] using this⟩
    · have b1 : (e == 0) = false := beq_eq_false_iff_ne.mpr c1
      have HV := Aside0.mk (show rdU most l 0 = (0, l, e) by rw [HRD.out]; simp [c1])
      have C1 := Aside0.mk c1
      have D1 : (e = 0) = False := eq_false c1
      clear c1
      go_enter Tryd.func44, Tryd.ntmps44
      go_wp2_with (first | ((with_reducible refine gate_callee (f := 40) rfl ?_); refine goesL_ (some 15) rfl rfl Tryd.func40 (by kernel_rfl) rfl #[.slice A l.length c] rfl (by (try simp only [List.map_toArray, List.map_cons, List.map_nil]); first | done | rfl) ?_; (with_reducible refine (HA.out).mono ?_); rintro e_ w1 ⟨rfl, hd1⟩; have HD := Aside0.mk hd1; clear hd1; refine ⟨_, rfl, ?_⟩) | (go_at_call 53; (with_reducible refine (HTA.out _ (HR.out.drawn HD.out) e).mono ?_); rintro r_ w2 ⟨A', c', rfl, hO, hR⟩; have HO := Aside0.mk hO; have HR2 := Aside0.mk hR; clear hO hR))
      go_ret
      exact ⟨A', c', by rw [HV.out]; rfl, (Only.drawn HD.out).trans HO.out, by rw [HV.out]; have := HR2.out; simpa [C1.out] using this⟩
  · have D0 : (err = 0) = False := eq_false c0
    have C0 := Aside0.mk c0
    have HV := Aside0.mk (show rdU most l err = (0, l, err) by rw [HRD.out]; simp [c0])
    clear c0
    by_cases c1 : e = 0
    · subst c1
      by_cases c2 : n ≤ most
      · have b2 : decide (most < n) = false := decide_eq_false (by omega)
        have b2' : (most < n) = False := eq_false (by omega)
        clear c2
        go_enter Tryd.func44, Tryd.ntmps44
        go_wp2_with (first | ((with_reducible refine gate_callee (f := 40) rfl ?_); refine goesL_ (some 15) rfl rfl Tryd.func40 (by kernel_rfl) rfl #[.slice A l.length c] rfl (by (try simp only [List.map_toArray, List.map_cons, List.map_nil]); first | done | rfl) ?_; (with_reducible refine (HA.out).mono ?_); rintro e_ w1 ⟨rfl, hd1⟩; have HD := Aside0.mk hd1; clear hd1; refine ⟨_, rfl, ?_⟩) | (go_at_call 53; (with_reducible refine (HTA.out _ (HR.out.drawn HD.out) 0).mono ?_); rintro r_ w2 ⟨A', c', rfl, hO, hR⟩; have HO := Aside0.mk hO; have HR2 := Aside0.mk hR; clear hO hR))
        go_ret
        exact ⟨A', c', by rw [HV.out]; rfl, (Only.drawn HD.out).trans HO.out, by rw [HV.out]; have := HR2.out; simpa [C0.out] using this⟩
      · have b2 : decide (most < n) = true := decide_eq_true (by omega)
        have b2' : (most < n) = True := eq_true (by omega)
        clear c2
        go_enter Tryd.func44, Tryd.ntmps44
        go_wp2_with (first | ((with_reducible refine gate_callee (f := 40) rfl ?_); refine goesL_ (some 15) rfl rfl Tryd.func40 (by kernel_rfl) rfl #[.slice A l.length c] rfl (by (try simp only [List.map_toArray, List.map_cons, List.map_nil]); first | done | rfl) ?_; (with_reducible refine (HA.out).mono ?_); rintro e_ w1 ⟨rfl, hd1⟩; have HD := Aside0.mk hd1; clear hd1; refine ⟨_, rfl, ?_⟩) | (go_at_call 53; (with_reducible refine (HTA.out _ (HR.out.drawn HD.out) 5).mono ?_); rintro r_ w2 ⟨A', c', rfl, hO, hR⟩; have HO := Aside0.mk hO; have HR2 := Aside0.mk hR; clear hO hR))
        go_ret
        exact ⟨A', c', by rw [HV.out]; rfl, (Only.drawn HD.out).trans HO.out, by rw [HV.out]; have := HR2.out; simpa [C0.out] using this⟩
    · have b1 : (e == 0) = false := beq_eq_false_iff_ne.mpr c1
      have C1 := Aside0.mk c1
      clear c1
      go_enter Tryd.func44, Tryd.ntmps44
      go_wp2_with (first | ((with_reducible refine gate_callee (f := 40) rfl ?_); refine goesL_ (some 15) rfl rfl Tryd.func40 (by kernel_rfl) rfl #[.slice A l.length c] rfl (by (try simp only [List.map_toArray, List.map_cons, List.map_nil]); first | done | rfl) ?_; (with_reducible refine (HA.out).mono ?_); rintro e_ w1 ⟨rfl, hd1⟩; have HD := Aside0.mk hd1; clear hd1; refine ⟨_, rfl, ?_⟩) | (go_at_call 53; (with_reducible refine (HTA.out _ (HR.out.drawn HD.out) e).mono ?_); rintro r_ w2 ⟨A', c', rfl, hO, hR⟩; have HO := Aside0.mk hO; have HR2 := Aside0.mk hR; clear hO hR))
      go_ret
      exact ⟨A', c', by rw [HV.out]; rfl, (Only.drawn HD.out).trans HO.out, by rw [HV.out]; have := HR2.out; simpa [C0.out] using this⟩
def ReadPost (w : World) (l : List Int) (r : Ending) (w' : World) : Prop :=
  ∃ g P A' c', r = .returned (.pointer (some ⟨g, 0, none⟩)) ∧ w.heap.size ≤ g ∧ (∀ k, P k → w.heap.size ≤ k) ∧ Rd w' g P A' c' l 0 ∧ Below w.heap.size w w'
set_option maxHeartbeats 4000000 in
set_option maxRecDepth 100000 in
theorem Read_calls (hr : Kd.C (Kd.int .u8) w A l.length l) (hc : l.length ≤ c) (hl : l.length < 140737488355328) : Calls Tryd.prog 43 #[.slice A l.length c] w (ReadPost w l) := by
  have HR0 := Aside0.mk hr
  have LM := Aside0.mk hl
  obtain ⟨i0, hi0, _, hsz, _⟩ := info_parts info5
  clear hr hl
  go_enter Tryd.func43, Tryd.ntmps43
  go_wp2_with (first | ((with_reducible refine gate_builtin (b := .append) (xs := #[.const (.slice none 0 0), .tmp 4]) rfl ?_); at_builtin; refine Kd.R_append_rows (Kd.int .u8) (w0 := w) w.heap.size rfl (.const (.slice none 0 0)) (.tmp 4) 22 5 (.int .u8 0) 1 rfl Tryd.underlying22 info5 rfl (by decide) (by omega) (.slice none 0 0) ([] : List Int) l _ _ _ (fun _ => True) (fun _ => False) rfl rfl ?aO ?aR (fun _ _ h => h) (fun _ h => h.elim) ?aF ?aB ?aS ?aL ?_; (case aR => exact HR0.out); (case aB => exact Below.refl _ _); (case aF => exact (fun _ _ => trivial)); (case aO => exact Kd.R_nil _ _ _ _ _); (case aS => exact Nat.le_refl _); (case aL => have := LM.out; simp; omega); intro v103 w6 ho2 hb2 hg2 hat2; rw [List.nil_append] at ho2; have HO := Aside0.mk ho2; have HB := Aside0.mk hb2; obtain ⟨A', c', rfl, hlc, _⟩ := Kd.R_reads ho2; clear ho2 hb2 hg2 hat2))
  go_ret
  have hs : w.heap.size ≤ w6.heap.size := HB.out.size
  refine ⟨w6.heap.size, fun k => w.heap.size ≤ k ∧ k < w6.heap.size, A', l.length, rfl, hs, fun k h => h.1, ⟨blk_new w6 _, Nat.le_refl _, ?_, fun k h => by omega⟩, Below.alloc HB.out hs _⟩
  have hv : Kd.F (Kd.int .u8) w6 _ A' l.length l := Kd.V_F (base := 0) (Kd.R_V (Kd.R_bound HO.out))
  exact Kd.F_alloc (Kd.F_mono hv (fun k h => ⟨h.2.1, h.2.2.1⟩)) _
end Go.Proofs.YtonpiacnljcohaaDoor.Rdr
