/- Own texts of this claim. -/
import Derived.Test.YtpnnjefhchppfaaCg27
import Derived.Test.YtpnnjefhchppfaaCg29
import Derived.Test.YtpnnjefhchppfaaCg31
import Derived.Test.YtpnnjefhchppfaaCg33
import Derived.Test.YtpnnjefhchppfaaCg34
import Derived.Test.YtpnnjefhchppfaaCg38
import Derived.Test.YtpnnjefhchppfaaCg40
set_option linter.unusedVariables false
set_option linter.unusedSimpArgs false
namespace Go.Proofs.Ytpnnjefhchppfaa.Op
open Go Go.RowKit Go.Proofs.YtpnnjefhchppfaaW.PrintWords Go.Proofs.YtpnnjefhchppfaaW.PrintLast Go.Proofs.YtpnnjefhchppfaaW.PrintMore Go.Proofs.Ytpnnjefhchppfaa.PA
theorem at_strR {W : World} {A : Option Addr} {n : Nat} {xs : List ByteArray} (h : Kd.C Kd.string W A n xs) (i : Nat) (hi : i < n) : ∃ ad, A = some ad ∧ W.cell? (ad.add i) = some (.string (xs.getD i e0)) := by
 obtain ⟨ad, c, e, _, hK, hc0⟩ := Kd.C_get h (e0 : ByteArray) (i : Int) (by omega) (by omega)
 obtain rfl : c = [.string (xs.getD (i : Int).toNat e0)] := hK
 rw [Int.toNat_natCast] at hc0
 exact ⟨ad, e, by have hq := hc0 0 _ rfl; rwa [show i * _ + 0 = i from by show i * 1 + 0 = i; omega] at hq⟩
theorem RText_eq {s : ByteArray} (h : s.size ≤ 1024) : stemmaref02_Text.f 20 s = some (textP s) := by
 have h1 : (LebT.putU s.size).length ≤ 10 := LebT.putU_len64 (by omega)
 unfold stemmaref02_Text.f
 rw [LebP.u64_size (by omega), LebP.rUint_f (by omega) (by omega) (by omega)]
 simp only [Option.bind_some, Int.toNat_natCast]
 rw [if_pos (by omega)]
 rfl
theorem rdeltas_eq (l : List Int) (hl : l.length ≤ 256) (hw : ∀ x ∈ l, in64 x) : stemmaref03_Deltas.f 300 l = some (ColS.runs (ColT.dif0 l)) := by
 unfold stemmaref03_Deltas.f
 rw [ColT.diff_f l (by omega) hw (by omega)]
 simp only [Option.bind_some]
 rw [ColT.rruns_some _ (by rw [ColT.dif0_length]; omega) (ColT.dif0_rng _ hw)]
 rfl
def Ap (v u : Value) : Prop := ∀ k, v.ownBlock = some k → u.ownBlock ≠ some k
theorem Ap.symm {v u : Value} (h : Ap v u) : Ap u v := fun k h1 h2 => h k h2 h1
theorem Ap.new {v v' u : Value} {n : Nat} (h : Ap v u) (hat : v'.ownBlock = v.ownBlock ∨ ∃ b, v'.ownBlock = some b ∧ n ≤ b) (hu : ∀ k, u.ownBlock = some k → k < n) : Ap v' u := fun k h1 h2 => by
 rcases hat with e | ⟨b, e, hb⟩
 ·exact h k (e ▸ h1) h2
 ·rw [e] at h1
  have := hu k h2
  injection h1 with h1
  omega
theorem Ap.nil (v : Value) : Ap (.slice none 0 0) v := fun k h1 => by simp [Value.ownBlock] at h1
theorem keep_int {k : IntKind} {e : Nat} {W W1 : World} {base : Nat} {v : Value} {xs : List Int} {r : Option Nat} (h : Kd.R (Kd.int k) e W base (fun _ => True) v xs) (hg : W.grownBy W1 r) (hne : ∀ q, v.ownBlock = some q → r ≠ some q) : Kd.R (Kd.int k) e W1 base (fun _ => True) v xs :=
 Kd.R_mono (Kd.R_step (show Kd.R (Kd.int k) e W base (fun q => v.ownBlock = some q) v xs from ⟨fun _ hk => hk, h.2⟩) (fun q hq hlt => hg.block q hlt (fun e => hne q hq e.symm))) (fun _ _ => trivial)
theorem keep_str {e : Nat} {W W1 : World} {base : Nat} {v : Value} {xs : List ByteArray} {r : Option Nat} (h : Kd.R Kd.string e W base (fun _ => True) v xs) (hg : W.grownBy W1 r) (hne : ∀ q, v.ownBlock = some q → r ≠ some q) : Kd.R Kd.string e W1 base (fun _ => True) v xs :=
 Kd.R_mono (Kd.R_step (show Kd.R Kd.string e W base (fun q => v.ownBlock = some q) v xs from ⟨fun _ hk => hk, h.2⟩) (fun q hq hlt => hg.block q hlt (fun e => hne q hq e.symm))) (fun _ _ => trivial)
structure Six (w W : World) (a b c d e f : Value) (ns : List ByteArray) (ks ws ps ys ts : List Int) : Prop where
 r1 : Kd.R Kd.string 9 W w.heap.size (fun _ => True) a ns
 r2 : Kd.R (Kd.int .i64) 2 W w.heap.size (fun _ => True) b ks
 r3 : Kd.R (Kd.int .i64) 2 W w.heap.size (fun _ => True) c ws
 r4 : Kd.R (Kd.int .i64) 2 W w.heap.size (fun _ => True) d ps
 r5 : Kd.R (Kd.int .i64) 2 W w.heap.size (fun _ => True) e ys
 r6 : Kd.R (Kd.int .u8) 5 W w.heap.size (fun _ => True) f ts
 bel : Below w.heap.size w W
 p12 : Ap a b
 p13 : Ap a c
 p14 : Ap a d
 p15 : Ap a e
 p16 : Ap a f
 p23 : Ap b c
 p24 : Ap b d
 p25 : Ap b e
 p26 : Ap b f
 p34 : Ap c d
 p35 : Ap c e
 p36 : Ap c f
 p45 : Ap d e
 p46 : Ap d f
 p56 : Ap e f
theorem Six.start (w : World) : Six w w (.slice none 0 0) (.slice none 0 0) (.slice none 0 0) (.slice none 0 0) (.slice none 0 0) (.slice none 0 0) [] [] [] [] [] [] :=
 ⟨Kd.R_nil _ _ _ _ _, Kd.R_nil _ _ _ _ _, Kd.R_nil _ _ _ _ _, Kd.R_nil _ _ _ _ _, Kd.R_nil _ _ _ _ _, Kd.R_nil _ _ _ _ _, Below.refl _ _, Ap.nil _, Ap.nil _, Ap.nil _, Ap.nil _, Ap.nil _, Ap.nil _, Ap.nil _, Ap.nil _, Ap.nil _, Ap.nil _, Ap.nil _, Ap.nil _, Ap.nil _, Ap.nil _, Ap.nil _⟩
theorem Six.step {w W W1 : World} {a b c d e f : Value} {ns : List ByteArray} {ks ws ps ys ts : List Int} (h : Six w W a b c d e f ns ks ws ps ys ts) (hb : Below W.heap.size W W1) : Six w W1 a b c d e f ns ks ws ps ys ts :=
 ⟨Kd.R_below h.r1 hb, Kd.R_below h.r2 hb, Kd.R_below h.r3 hb, Kd.R_below h.r4 hb, Kd.R_below h.r5 hb, Kd.R_below h.r6 hb, h.bel.trans (hb.mono h.bel.size), h.p12, h.p13, h.p14, h.p15, h.p16, h.p23, h.p24, h.p25, h.p26, h.p34, h.p35, h.p36, h.p45, h.p46, h.p56⟩
theorem Six.drawn {w W W1 : World} {a b c d e f : Value} {ns : List ByteArray} {ks ws ps ys ts : List Int} (h : Six w W a b c d e f ns ks ws ps ys ts) (hd : Drawn0 W W1) : Six w W1 a b c d e f ns ks ws ps ys ts := by
 obtain ⟨n, rfl⟩ := hd.out
 exact h.step (pw_below_drewN (Below.refl _ _) n)
theorem Six.put1 {w W W1 : World} {a b c d e f v' : Value} {ns : List ByteArray} {ks ws ps ys ts : List Int} {xs' : List ByteArray} (h : Six w W a b c d e f ns ks ws ps ys ts) (ho : Kd.R Kd.string 9 W1 w.heap.size (fun _ => True) v' xs') (hb : Below w.heap.size w W1) (hg : W.grownBy W1 a.ownBlock) (hat : v'.ownBlock = a.ownBlock ∨ ∃ b, v'.ownBlock = some b ∧ W.heap.size ≤ b) : Six w W1 v' b c d e f xs' ks ws ps ys ts :=
 ⟨ho, keep_int h.r2 hg h.p12.symm, keep_int h.r3 hg h.p13.symm, keep_int h.r4 hg h.p14.symm, keep_int h.r5 hg h.p15.symm, keep_int h.r6 hg h.p16.symm, hb, h.p12.new hat (Kd.R_lt h.r2), h.p13.new hat (Kd.R_lt h.r3), h.p14.new hat (Kd.R_lt h.r4), h.p15.new hat (Kd.R_lt h.r5), h.p16.new hat (Kd.R_lt h.r6), h.p23, h.p24, h.p25, h.p26, h.p34, h.p35, h.p36, h.p45, h.p46, h.p56⟩
theorem Six.put2 {w W W1 : World} {a b c d e f v' : Value} {ns : List ByteArray} {ks ws ps ys ts : List Int} {xs' : List Int} (h : Six w W a b c d e f ns ks ws ps ys ts) (ho : Kd.R (Kd.int .i64) 2 W1 w.heap.size (fun _ => True) v' xs') (hb : Below w.heap.size w W1) (hg : W.grownBy W1 b.ownBlock) (hat : v'.ownBlock = b.ownBlock ∨ ∃ b, v'.ownBlock = some b ∧ W.heap.size ≤ b) : Six w W1 a v' c d e f ns xs' ws ps ys ts :=
 ⟨keep_str h.r1 hg h.p12, ho, keep_int h.r3 hg h.p23.symm, keep_int h.r4 hg h.p24.symm, keep_int h.r5 hg h.p25.symm, keep_int h.r6 hg h.p26.symm, hb, (h.p12.symm.new hat (Kd.R_lt h.r1)).symm, h.p13, h.p14, h.p15, h.p16, h.p23.new hat (Kd.R_lt h.r3), h.p24.new hat (Kd.R_lt h.r4), h.p25.new hat (Kd.R_lt h.r5), h.p26.new hat (Kd.R_lt h.r6), h.p34, h.p35, h.p36, h.p45, h.p46, h.p56⟩
theorem Six.put3 {w W W1 : World} {a b c d e f v' : Value} {ns : List ByteArray} {ks ws ps ys ts : List Int} {xs' : List Int} (h : Six w W a b c d e f ns ks ws ps ys ts) (ho : Kd.R (Kd.int .i64) 2 W1 w.heap.size (fun _ => True) v' xs') (hb : Below w.heap.size w W1) (hg : W.grownBy W1 c.ownBlock) (hat : v'.ownBlock = c.ownBlock ∨ ∃ b, v'.ownBlock = some b ∧ W.heap.size ≤ b) : Six w W1 a b v' d e f ns ks xs' ps ys ts :=
 ⟨keep_str h.r1 hg h.p13, keep_int h.r2 hg h.p23, ho, keep_int h.r4 hg h.p34.symm, keep_int h.r5 hg h.p35.symm, keep_int h.r6 hg h.p36.symm, hb, h.p12, (h.p13.symm.new hat (Kd.R_lt h.r1)).symm, h.p14, h.p15, h.p16, (h.p23.symm.new hat (Kd.R_lt h.r2)).symm, h.p24, h.p25, h.p26, h.p34.new hat (Kd.R_lt h.r4), h.p35.new hat (Kd.R_lt h.r5), h.p36.new hat (Kd.R_lt h.r6), h.p45, h.p46, h.p56⟩
theorem Six.put4 {w W W1 : World} {a b c d e f v' : Value} {ns : List ByteArray} {ks ws ps ys ts : List Int} {xs' : List Int} (h : Six w W a b c d e f ns ks ws ps ys ts) (ho : Kd.R (Kd.int .i64) 2 W1 w.heap.size (fun _ => True) v' xs') (hb : Below w.heap.size w W1) (hg : W.grownBy W1 d.ownBlock) (hat : v'.ownBlock = d.ownBlock ∨ ∃ b, v'.ownBlock = some b ∧ W.heap.size ≤ b) : Six w W1 a b c v' e f ns ks ws xs' ys ts :=
 ⟨keep_str h.r1 hg h.p14, keep_int h.r2 hg h.p24, keep_int h.r3 hg h.p34, ho, keep_int h.r5 hg h.p45.symm, keep_int h.r6 hg h.p46.symm, hb, h.p12, h.p13, (h.p14.symm.new hat (Kd.R_lt h.r1)).symm, h.p15, h.p16, h.p23, (h.p24.symm.new hat (Kd.R_lt h.r2)).symm, h.p25, h.p26, (h.p34.symm.new hat (Kd.R_lt h.r3)).symm, h.p35, h.p36, h.p45.new hat (Kd.R_lt h.r5), h.p46.new hat (Kd.R_lt h.r6), h.p56⟩
theorem Six.put5 {w W W1 : World} {a b c d e f v' : Value} {ns : List ByteArray} {ks ws ps ys ts : List Int} {xs' : List Int} (h : Six w W a b c d e f ns ks ws ps ys ts) (ho : Kd.R (Kd.int .i64) 2 W1 w.heap.size (fun _ => True) v' xs') (hb : Below w.heap.size w W1) (hg : W.grownBy W1 e.ownBlock) (hat : v'.ownBlock = e.ownBlock ∨ ∃ b, v'.ownBlock = some b ∧ W.heap.size ≤ b) : Six w W1 a b c d v' f ns ks ws ps xs' ts :=
 ⟨keep_str h.r1 hg h.p15, keep_int h.r2 hg h.p25, keep_int h.r3 hg h.p35, keep_int h.r4 hg h.p45, ho, keep_int h.r6 hg h.p56.symm, hb, h.p12, h.p13, h.p14, (h.p15.symm.new hat (Kd.R_lt h.r1)).symm, h.p16, h.p23, h.p24, (h.p25.symm.new hat (Kd.R_lt h.r2)).symm, h.p26, h.p34, (h.p35.symm.new hat (Kd.R_lt h.r3)).symm, h.p36, (h.p45.symm.new hat (Kd.R_lt h.r4)).symm, h.p46, h.p56.new hat (Kd.R_lt h.r6)⟩
theorem Six.put6 {w W W1 : World} {a b c d e f v' : Value} {ns : List ByteArray} {ks ws ps ys ts : List Int} {xs' : List Int} (h : Six w W a b c d e f ns ks ws ps ys ts) (ho : Kd.R (Kd.int .u8) 5 W1 w.heap.size (fun _ => True) v' xs') (hb : Below w.heap.size w W1) (hg : W.grownBy W1 f.ownBlock) (hat : v'.ownBlock = f.ownBlock ∨ ∃ b, v'.ownBlock = some b ∧ W.heap.size ≤ b) : Six w W1 a b c d e v' ns ks ws ps ys xs' :=
 ⟨keep_str h.r1 hg h.p16, keep_int h.r2 hg h.p26, keep_int h.r3 hg h.p36, keep_int h.r4 hg h.p46, keep_int h.r5 hg h.p56, ho, hb, h.p12, h.p13, h.p14, h.p15, (h.p16.symm.new hat (Kd.R_lt h.r1)).symm, h.p23, h.p24, h.p25, (h.p26.symm.new hat (Kd.R_lt h.r2)).symm, h.p34, h.p35, (h.p36.symm.new hat (Kd.R_lt h.r3)).symm, h.p45, (h.p46.symm.new hat (Kd.R_lt h.r4)).symm, (h.p56.symm.new hat (Kd.R_lt h.r5)).symm⟩
set_option maxHeartbeats 8000000 in
set_option maxRecDepth 100000 in
theorem RPut_long (A0 : Option Addr) (c0 : Nat) (l0 : List Sop) (w : World) (hl : 256 < l0.length) :
  Calls Try.prog 10 #[.slice A0 l0.length c0] w fun e w' => ∃ v : Value, e = .returned (.tuple #[v, .int .i64 5]) ∧ Kd.R (Kd.int .u8) 5 w' w.heap.size (fun _ => True) v [] ∧ Below w.heap.size w w' := by
 have hlt : decide ((256 : Int) < l0.length) = true := decide_eq_true (by omega)
 clear hl
 go_enter Try.func10, Try.ntmps10
 go_wp2
 go_ret2
 exact ⟨_, rfl, Kd.R_nil _ _ _ _ _, Below.refl _ _⟩
set_option maxHeartbeats 16000000 in
set_option maxRecDepth 100000 in
theorem RPut_calls (A0 : Option Addr) (c0 : Nat) (l0 : List Sop) (w : World) (hr0 : Kd.C k33 w A0 l0.length l0) (hl : l0.length ≤ 256) (hK : ∀ o ∈ l0, o.f1.size < 9000000000000000000) :
  Calls Try.prog 10 #[.slice A0 l0.length c0] w fun e w' => ∃ v : Value, e = .returned (.tuple #[v, .int .i64 (putE l0)]) ∧ Kd.R (Kd.int .u8) 5 w' w.heap.size (fun _ => True) v (putB l0) ∧ Below w.heap.size w w' := by
 have HR0 := Aside0.mk hr0
 have HL := Aside0.mk hl
 have HKK := Aside0.mk hK
 have hu33 := Try.underlying33
 have hlt : decide ((256 : Int) < l0.length) = false := decide_eq_false (by omega)
 have S0 := Aside0.mk (Six.start w)
 clear hr0 hl hK
 go_enter Try.func10, Try.ntmps10
 go_wp2_with fail
 clear hlt
 go_loopw [4, 5, 6, 7, 8, 9, 10] (fun v4 v5 v6 v7 v8 v9 v10 wr => ∃ j : Nat, j ≤ l0.length ∧ v10 = .int .i64 j ∧ Aside0 (Six w wr v4 v5 v6 v7 v8 v9 (nsF (l0.take j)) ((l0.take j).map (·.f0)) ((l0.take j).map (fun o => (idx (nsF l0) o.f1 : Int))) ((l0.take j).map (·.f2)) ((l0.take j).map (·.f3)) ((l0.take j).flatMap txF)) ∧ Aside0 (∀ o ∈ l0.take j, chkF o = true)) (fun _ _ _ _ _ _ v10 _ => l0.length - (intOf v10).toNat)
 case atStart => exact ⟨0, by omega, rfl, S0, ⟨fun o ho => by simp at ho⟩⟩
 case round =>
  clear S0
  obtain ⟨j, hj, rfl, S, HCH⟩ := hrel
  by_cases hjl : j < l0.length
  ·obtain ⟨ad, e191, hx0, hx1, hx2, hx3, hx4⟩ := at_T33 HR0.out (j : Int) (by omega) (by omega)
   cases e191
   obtain ⟨x, hx⟩ : ∃ x, rd_T33 l0 (j : Int) = x := ⟨_, rfl⟩
   rw [hx] at hx0 hx1 hx2 hx3 hx4
   have he : l0[j]? = some x := by
    rw [← hx]
    simp only [rd_T33, Int.toNat_natCast]
    rw [List.getD_eq_getElem?_getD, List.getElem?_eq_getElem hjl]; rfl
   have HE := Aside0.mk he
   simp only [Int.toNat_natCast] at hx0 hx1 hx2 hx3 hx4
   replace hx0 := (S.out.bel.cell (World.block_lt_of_cell? w _ hx0)).trans hx0
   replace hx1 := (S.out.bel.cell (World.block_lt_of_cell? w _ hx1)).trans hx1
   replace hx2 := (S.out.bel.cell (World.block_lt_of_cell? w _ hx2)).trans hx2
   replace hx3 := (S.out.bel.cell (World.block_lt_of_cell? w _ hx3)).trans hx3
   replace hx4 := (S.out.bel.cell (World.block_lt_of_cell? w _ hx4)).trans hx4
   clear he hx
   have HMY := Aside0.mk (may_eq x (HKK.out x (List.mem_of_getElem? HE.out)) (x.f1.size + 1) (Nat.le_refl _))
   go_upto_region 10 with (fail)
   have hba : Below wr.heap.size wr (wr.alloc (.cells #[.int .i64 x.f0, .string x.f1, .int .i64 x.f2, .int .i64 x.f3, .string x.f4] 33)) := below_alloc (Below.refl wr.heap.size wr) _
   have hbk : (wr.alloc (.cells #[.int .i64 x.f0, .string x.f1, .int .i64 x.f2, .int .i64 x.f3, .string x.f4] 33)).heap[wr.heap.size]? = some (.cells #[.int .i64 x.f0, .string x.f1, .int .i64 x.f2, .int .i64 x.f3, .string x.f4] 33 (0, 0)) := blk_new wr _
   have HX := Aside0.mk hbk
   have S_ := Aside0.mk (S.out.step hba)
   clear hbk hba S hx0 hx1 hx2 hx3 hx4
   have S := S_
   clear S_
   obtain ⟨gb, hgb⟩ : ∃ gb, wr.heap.size = gb := ⟨_, rfl⟩
   rw [hgb] at HX ⊢
   obtain ⟨wb, hwb⟩ : ∃ wb, (wr.alloc (.cells #[.int .i64 x.f0, .string x.f1, .int .i64 x.f2, .int .i64 x.f3, .string x.f4] 33)) = wb := ⟨_, rfl⟩
   rw [hwb] at HX S ⊢
   clear hwb hgb
   have z0 : wb.cell? ⟨gb, 0, none⟩ = some (.int .i64 x.f0) := (blk_cell HX.out 0).trans rfl
   have z1 : wb.cell? ⟨gb, 1, none⟩ = some (.string x.f1) := (blk_cell HX.out 1).trans rfl
   have z2 : wb.cell? ⟨gb, 2, none⟩ = some (.int .i64 x.f2) := (blk_cell HX.out 2).trans rfl
   have z3 : wb.cell? ⟨gb, 3, none⟩ = some (.int .i64 x.f3) := (blk_cell HX.out 3).trans rfl
   have z4 : wb.cell? ⟨gb, 4, none⟩ = some (.string x.f4) := (blk_cell HX.out 4).trans rfl
   by_cases hck : chkF x = true
   ·rw [hck] at HMY
    have HCX := Aside0.mk hck
    clear hck
    have hle := idx_le (nsF (l0.take j)) x.f1
    have hnl := nsF_len _ (l0.take j) rfl
    rw [List.length_take] at hnl
    have HFD := Aside0.mk (find_f (nsF (l0.take j)) x.f1 (by have := HL.out; omega) (k := 400) (by have := HL.out; omega))
    have HNB : Aside0 ((nsF (l0.take j)).length ≤ 256 ∧ j ≤ 256) := ⟨by have := HL.out; omega⟩
    have HTB : Aside0 (((l0.take j).flatMap txF).length ≤ 1034 * 256 ∧ (textP x.f4).length ≤ 1034) := ⟨⟨Nat.le_trans (flat_len txF 1034 (l0.take j) (fun o ho => txF_len (HCH.out o ho))) (Nat.mul_le_mul_left _ (by have := HL.out; simp; omega)), textP_len (chk_text HCX.out)⟩⟩
    have HLIM : Aside0 (((nsF (l0.take j)).length + 1) * 16 ≤ 140737488355328 ∧ (((l0.take j).map (·.f0)).length + 1) * 8 ≤ 140737488355328 ∧ (((l0.take j).map (fun o => (idx (nsF l0) o.f1 : Int))).length + 1) * 8 ≤ 140737488355328 ∧ (((l0.take j).map (·.f2)).length + 1) * 8 ≤ 140737488355328 ∧ (((l0.take j).map (·.f3)).length + 1) * 8 ≤ 140737488355328 ∧ (((l0.take j).flatMap txF).length + (textP x.f4).length) * 1 ≤ 140737488355328) := ⟨by
     have h1 := HNB.out
     have h2 := HTB.out
     simp only [List.length_map, List.length_take]
     omega⟩
    have HTT := Aside0.mk (RText_eq (chk_text HCX.out))
    have HID : Aside0 (idx (nsF l0) x.f1 = idx (nsF (l0.take j)) x.f1) := ⟨by
     have h1 := idx_met (l0.take j) (l0.drop (j + 1)) x
     have h2 : l0 = l0.take j ++ x :: l0.drop (j + 1) := by
      have := List.take_append_drop j l0
      rw [List.drop_eq_getElem_cons hjl] at this
      have h3 := HE.out
      rw [List.getElem?_eq_getElem hjl] at h3
      rw [Option.some.inj h3] at this
      exact this.symm
     rw [← h2] at h1
     exact h1⟩
    obtain ⟨A4, c4, e4⟩ := Kd.R_slice S.out.r1
    subst e4
    obtain ⟨ix, hix⟩ : ∃ ix, idx (nsF (l0.take j)) x.f1 = ix := ⟨_, rfl⟩
    rw [hix] at hle HFD HID
    have HIX := Aside0.mk hix
    clear hnl
    go_upto_region 13 with (first | (go_at_call 31; refine (stemmaref07_may.calls (x.f1.size + 1) x.f0 x.f1 x.f2 x.f3 x.f4 true _ HMY.out).mono ?_; rintro e_ w2 ⟨rfl, hb⟩; have S_ := Aside0.mk (S.out.step hb); have X_ := Aside0.mk (blk_below HX.out hb); clear S HX z0 z1 z2 z3 z4; have S := S_; have HX := X_; clear S_ X_; have z0 : w2.cell? ⟨gb, 0, none⟩ = some (.int .i64 x.f0) := (blk_cell HX.out 0).trans rfl; have z1 : w2.cell? ⟨gb, 1, none⟩ = some (.string x.f1) := (blk_cell HX.out 1).trans rfl; have z2 : w2.cell? ⟨gb, 2, none⟩ = some (.int .i64 x.f2) := (blk_cell HX.out 2).trans rfl; have z3 : w2.cell? ⟨gb, 3, none⟩ = some (.int .i64 x.f3) := (blk_cell HX.out 3).trans rfl; have z4 : w2.cell? ⟨gb, 4, none⟩ = some (.string x.f4) := (blk_cell HX.out 4).trans rfl; clear hb) | (go_at_call 32; refine (stemmaref07_find.calls 400 A4 c4 (nsF (l0.take j)) x.f1 (ix : Int) _ (Kd.R_reads' S.out.r1).2.2 (Kd.R_reads' S.out.r1).2.1 HFD.out).mono ?_; rintro e_ w3 ⟨rfl, hd⟩; have S_ := Aside0.mk (S.out.drawn hd); have X_ := Aside0.mk (show w3.heap[gb]? = some (.cells #[.int .i64 x.f0, .string x.f1, .int .i64 x.f2, .int .i64 x.f3, .string x.f4] 33 (0, 0)) from by obtain ⟨q_, hq_⟩ := hd.out; rw [hq_]; exact blk_drewN HX.out q_); clear S HX z0 z1 z2 z3 z4; have S := S_; have HX := X_; clear S_ X_; have z0 : w3.cell? ⟨gb, 0, none⟩ = some (.int .i64 x.f0) := (blk_cell HX.out 0).trans rfl; have z1 : w3.cell? ⟨gb, 1, none⟩ = some (.string x.f1) := (blk_cell HX.out 1).trans rfl; have z2 : w3.cell? ⟨gb, 2, none⟩ = some (.int .i64 x.f2) := (blk_cell HX.out 2).trans rfl; have z3 : w3.cell? ⟨gb, 3, none⟩ = some (.int .i64 x.f3) := (blk_cell HX.out 3).trans rfl; have z4 : w3.cell? ⟨gb, 4, none⟩ = some (.string x.f4) := (blk_cell HX.out 4).trans rfl; clear hd))
    clear hix
    by_cases hin : ix < (nsF (l0.take j)).length
    ·have d0 : ((ix : Int) == ((nsF (l0.take j)).length : Int)) = false := beq_eq_false_iff_ne.mpr (by omega)
     have HIN : Aside0 (idx (nsF (l0.take j)) x.f1 < (nsF (l0.take j)).length) := ⟨by rw [HIX.out]; exact hin⟩
     clear hin hle
     go_upto_region 19 with (first | ((with_reducible refine gate_builtin (b := .append) (xs := #[.tmp 44, .tmp 47]) rfl ?_); at_builtin; refine Kd.R_append (Kd.int .i64) (w0 := w) w.heap.size rfl (.tmp 44) (.tmp 47) 49 2 (.int .i64 0) 8 rfl Try.underlying49 info2 rfl (by decide) (by omega) _ ((l0.take j).map (·.f0)) x.f0 [.int .i64 x.f0] (fun _ => True) (fun _ => False) rfl rfl ?aP (fun _ hk => hk.elim) ?aF ?aO ?aB ?aS ?aL ?_; (case aP => exact rfl); (case aO => exact S.out.r2); (case aB => exact S.out.bel); (case aF => exact (fun _ _ => trivial)); (case aS => exact S.out.bel.size); (case aL => exact HLIM.out.2.1); intro vk w5 ho hb hg hat; have S_ := Aside0.mk (S.out.put2 ho hb hg hat); have X_ := Aside0.mk (blk_grown HX.out hg (Kd.R_ne S.out.r2 HX.out (by decide))); clear S HX z0 z1 z2 z3 z4; have S := S_; have HX := X_; clear S_ X_; have z0 : w5.cell? ⟨gb, 0, none⟩ = some (.int .i64 x.f0) := (blk_cell HX.out 0).trans rfl; have z1 : w5.cell? ⟨gb, 1, none⟩ = some (.string x.f1) := (blk_cell HX.out 1).trans rfl; have z2 : w5.cell? ⟨gb, 2, none⟩ = some (.int .i64 x.f2) := (blk_cell HX.out 2).trans rfl; have z3 : w5.cell? ⟨gb, 3, none⟩ = some (.int .i64 x.f3) := (blk_cell HX.out 3).trans rfl; have z4 : w5.cell? ⟨gb, 4, none⟩ = some (.string x.f4) := (blk_cell HX.out 4).trans rfl; clear ho hb hg hat) | ((with_reducible refine gate_builtin (b := .append) (xs := #[.tmp 49, .tmp 51]) rfl ?_); at_builtin; refine Kd.R_append (Kd.int .i64) (w0 := w) w.heap.size rfl (.tmp 49) (.tmp 51) 49 2 (.int .i64 0) 8 rfl Try.underlying49 info2 rfl (by decide) (by omega) _ ((l0.take j).map (fun o => (idx (nsF l0) o.f1 : Int))) (ix : Int) [.int .i64 (ix : Int)] (fun _ => True) (fun _ => False) rfl rfl ?aP (fun _ hk => hk.elim) ?aF ?aO ?aB ?aS ?aL ?_; (case aP => exact rfl); (case aO => exact S.out.r3); (case aB => exact S.out.bel); (case aF => exact (fun _ _ => trivial)); (case aS => exact S.out.bel.size); (case aL => exact HLIM.out.2.2.1); intro vw w6 ho hb hg hat; have S_ := Aside0.mk (S.out.put3 ho hb hg hat); have X_ := Aside0.mk (blk_grown HX.out hg (Kd.R_ne S.out.r3 HX.out (by decide))); clear S HX z0 z1 z2 z3 z4; have S := S_; have HX := X_; clear S_ X_; have z0 : w6.cell? ⟨gb, 0, none⟩ = some (.int .i64 x.f0) := (blk_cell HX.out 0).trans rfl; have z1 : w6.cell? ⟨gb, 1, none⟩ = some (.string x.f1) := (blk_cell HX.out 1).trans rfl; have z2 : w6.cell? ⟨gb, 2, none⟩ = some (.int .i64 x.f2) := (blk_cell HX.out 2).trans rfl; have z3 : w6.cell? ⟨gb, 3, none⟩ = some (.int .i64 x.f3) := (blk_cell HX.out 3).trans rfl; have z4 : w6.cell? ⟨gb, 4, none⟩ = some (.string x.f4) := (blk_cell HX.out 4).trans rfl; clear ho hb hg hat) | ((with_reducible refine gate_builtin (b := .append) (xs := #[.tmp 53, .tmp 56]) rfl ?_); at_builtin; refine Kd.R_append (Kd.int .i64) (w0 := w) w.heap.size rfl (.tmp 53) (.tmp 56) 49 2 (.int .i64 0) 8 rfl Try.underlying49 info2 rfl (by decide) (by omega) _ ((l0.take j).map (·.f2)) x.f2 [.int .i64 x.f2] (fun _ => True) (fun _ => False) rfl rfl ?aP (fun _ hk => hk.elim) ?aF ?aO ?aB ?aS ?aL ?_; (case aP => exact rfl); (case aO => exact S.out.r4); (case aB => exact S.out.bel); (case aF => exact (fun _ _ => trivial)); (case aS => exact S.out.bel.size); (case aL => exact HLIM.out.2.2.2.1); intro vp w7 ho hb hg hat; have S_ := Aside0.mk (S.out.put4 ho hb hg hat); have X_ := Aside0.mk (blk_grown HX.out hg (Kd.R_ne S.out.r4 HX.out (by decide))); clear S HX z0 z1 z2 z3 z4; have S := S_; have HX := X_; clear S_ X_; have z0 : w7.cell? ⟨gb, 0, none⟩ = some (.int .i64 x.f0) := (blk_cell HX.out 0).trans rfl; have z1 : w7.cell? ⟨gb, 1, none⟩ = some (.string x.f1) := (blk_cell HX.out 1).trans rfl; have z2 : w7.cell? ⟨gb, 2, none⟩ = some (.int .i64 x.f2) := (blk_cell HX.out 2).trans rfl; have z3 : w7.cell? ⟨gb, 3, none⟩ = some (.int .i64 x.f3) := (blk_cell HX.out 3).trans rfl; have z4 : w7.cell? ⟨gb, 4, none⟩ = some (.string x.f4) := (blk_cell HX.out 4).trans rfl; clear ho hb hg hat) | ((with_reducible refine gate_builtin (b := .append) (xs := #[.tmp 58, .tmp 61]) rfl ?_); at_builtin; refine Kd.R_append (Kd.int .i64) (w0 := w) w.heap.size rfl (.tmp 58) (.tmp 61) 49 2 (.int .i64 0) 8 rfl Try.underlying49 info2 rfl (by decide) (by omega) _ ((l0.take j).map (·.f3)) x.f3 [.int .i64 x.f3] (fun _ => True) (fun _ => False) rfl rfl ?aP (fun _ hk => hk.elim) ?aF ?aO ?aB ?aS ?aL ?_; (case aP => exact rfl); (case aO => exact S.out.r5); (case aB => exact S.out.bel); (case aF => exact (fun _ _ => trivial)); (case aS => exact S.out.bel.size); (case aL => exact HLIM.out.2.2.2.2.1); intro vy w8 ho hb hg hat; have S_ := Aside0.mk (S.out.put5 ho hb hg hat); have X_ := Aside0.mk (blk_grown HX.out hg (Kd.R_ne S.out.r5 HX.out (by decide))); clear S HX z0 z1 z2 z3 z4; have S := S_; have HX := X_; clear S_ X_; have z0 : w8.cell? ⟨gb, 0, none⟩ = some (.int .i64 x.f0) := (blk_cell HX.out 0).trans rfl; have z1 : w8.cell? ⟨gb, 1, none⟩ = some (.string x.f1) := (blk_cell HX.out 1).trans rfl; have z2 : w8.cell? ⟨gb, 2, none⟩ = some (.int .i64 x.f2) := (blk_cell HX.out 2).trans rfl; have z3 : w8.cell? ⟨gb, 3, none⟩ = some (.int .i64 x.f3) := (blk_cell HX.out 3).trans rfl; have z4 : w8.cell? ⟨gb, 4, none⟩ = some (.string x.f4) := (blk_cell HX.out 4).trans rfl; clear ho hb hg hat))
     by_cases hk1 : x.f0 = 1
     ·have t0 : (x.f0 == 1) = true := beq_iff_eq.mpr hk1
      have HKT : Aside0 (x.f0 = 1 ∨ x.f0 = 4) := ⟨Or.inl hk1⟩
      clear hk1
      go_wp2_with (first | (go_at_call 33; refine (stemmaref02_Text.calls 20 x.f4 (textP x.f4) _ HTT.out).mono ?_; rintro e_ w9 ⟨vt, rfl, ho, hb⟩; obtain ⟨At, ct, et⟩ := Kd.R_slice ho; subst et; have HRT := Aside0.mk (Kd.R_reads' ho).2.2; have S_ := Aside0.mk (S.out.step hb); have X_ := Aside0.mk (blk_below HX.out hb); clear S HX z0 z1 z2 z3 z4; have S := S_; have HX := X_; clear S_ X_; have z0 : w9.cell? ⟨gb, 0, none⟩ = some (.int .i64 x.f0) := (blk_cell HX.out 0).trans rfl; have z1 : w9.cell? ⟨gb, 1, none⟩ = some (.string x.f1) := (blk_cell HX.out 1).trans rfl; have z2 : w9.cell? ⟨gb, 2, none⟩ = some (.int .i64 x.f2) := (blk_cell HX.out 2).trans rfl; have z3 : w9.cell? ⟨gb, 3, none⟩ = some (.int .i64 x.f3) := (blk_cell HX.out 3).trans rfl; have z4 : w9.cell? ⟨gb, 4, none⟩ = some (.string x.f4) := (blk_cell HX.out 4).trans rfl; clear ho hb) | ((with_reducible refine gate_builtin (b := .append) (xs := #[.tmp 71, .tmp 74]) rfl ?_); at_builtin; refine Kd.R_append_rows (Kd.int .u8) (w0 := w) w.heap.size rfl (.tmp 71) (.tmp 74) 23 5 (.int .u8 0) 1 rfl Try.underlying23 info5 rfl (by decide) (by omega) _ ((l0.take j).flatMap txF) (textP x.f4) _ _ _ (fun _ => True) (fun _ => False) rfl rfl ?aO ?aR (fun _ _ h => h) (fun _ h => h.elim) ?aF ?aB ?aS ?aL ?_; (case aR => exact HRT.out); (case aO => exact S.out.r6); (case aB => exact S.out.bel); (case aF => exact (fun _ _ => trivial)); (case aS => exact S.out.bel.size); (case aL => exact HLIM.out.2.2.2.2.2); intro vx w10 ho hb hg hat; have S_ := Aside0.mk (S.out.put6 ho hb hg hat); have X_ := Aside0.mk (blk_grown HX.out hg (Kd.R_ne S.out.r6 HX.out (by decide))); clear S HX z0 z1 z2 z3 z4; have S := S_; have HX := X_; clear S_ X_; have z0 : w10.cell? ⟨gb, 0, none⟩ = some (.int .i64 x.f0) := (blk_cell HX.out 0).trans rfl; have z1 : w10.cell? ⟨gb, 1, none⟩ = some (.string x.f1) := (blk_cell HX.out 1).trans rfl; have z2 : w10.cell? ⟨gb, 2, none⟩ = some (.int .i64 x.f2) := (blk_cell HX.out 2).trans rfl; have z3 : w10.cell? ⟨gb, 3, none⟩ = some (.int .i64 x.f3) := (blk_cell HX.out 3).trans rfl; have z4 : w10.cell? ⟨gb, 4, none⟩ = some (.string x.f4) := (blk_cell HX.out 4).trans rfl; clear ho hb hg hat))
      go_roundw
      case rel =>
       have hw : wrap64 ((j : Int) + 1) = ((j + 1 : Nat) : Int) := by have := HNB.out; unfold wrap64; omega
       have e1 := take_next HE.out
       refine ⟨j + 1, by omega, by rw [hw], ⟨?_⟩, ⟨by rw [e1]; exact chk_next HCH.out HCX.out⟩⟩
       rw [e1]
       simp only [List.map_append, List.map_cons, List.map_nil, List.flatMap_append, List.flatMap_cons, List.flatMap_nil, List.append_nil]
       rw [nsF_in HIN.out, show txF x = textP x.f4 from if_pos HKT.out, HID.out]
       exact S.out
      case measure =>
       have hw : wrap64 ((j : Int) + 1) = ((j + 1 : Nat) : Int) := by have := HNB.out; unfold wrap64; omega
       rw [hw]
       show l0.length - ((j + 1 : Nat) : Int).toNat < l0.length - ((j : Nat) : Int).toNat
       rw [Int.toNat_natCast, Int.toNat_natCast]
       omega
     ·have t0 : (x.f0 == 1) = false := beq_eq_false_iff_ne.mpr hk1
      by_cases hk4 : x.f0 = 4
      ·have t1 : (x.f0 == 4) = true := beq_iff_eq.mpr hk4
       have HKT : Aside0 (x.f0 = 1 ∨ x.f0 = 4) := ⟨Or.inr hk4⟩
       clear hk1 hk4
       go_wp2_with (first | (go_at_call 33; refine (stemmaref02_Text.calls 20 x.f4 (textP x.f4) _ HTT.out).mono ?_; rintro e_ w9 ⟨vt, rfl, ho, hb⟩; obtain ⟨At, ct, et⟩ := Kd.R_slice ho; subst et; have HRT := Aside0.mk (Kd.R_reads' ho).2.2; have S_ := Aside0.mk (S.out.step hb); have X_ := Aside0.mk (blk_below HX.out hb); clear S HX z0 z1 z2 z3 z4; have S := S_; have HX := X_; clear S_ X_; have z0 : w9.cell? ⟨gb, 0, none⟩ = some (.int .i64 x.f0) := (blk_cell HX.out 0).trans rfl; have z1 : w9.cell? ⟨gb, 1, none⟩ = some (.string x.f1) := (blk_cell HX.out 1).trans rfl; have z2 : w9.cell? ⟨gb, 2, none⟩ = some (.int .i64 x.f2) := (blk_cell HX.out 2).trans rfl; have z3 : w9.cell? ⟨gb, 3, none⟩ = some (.int .i64 x.f3) := (blk_cell HX.out 3).trans rfl; have z4 : w9.cell? ⟨gb, 4, none⟩ = some (.string x.f4) := (blk_cell HX.out 4).trans rfl; clear ho hb) | ((with_reducible refine gate_builtin (b := .append) (xs := #[.tmp 71, .tmp 74]) rfl ?_); at_builtin; refine Kd.R_append_rows (Kd.int .u8) (w0 := w) w.heap.size rfl (.tmp 71) (.tmp 74) 23 5 (.int .u8 0) 1 rfl Try.underlying23 info5 rfl (by decide) (by omega) _ ((l0.take j).flatMap txF) (textP x.f4) _ _ _ (fun _ => True) (fun _ => False) rfl rfl ?aO ?aR (fun _ _ h => h) (fun _ h => h.elim) ?aF ?aB ?aS ?aL ?_; (case aR => exact HRT.out); (case aO => exact S.out.r6); (case aB => exact S.out.bel); (case aF => exact (fun _ _ => trivial)); (case aS => exact S.out.bel.size); (case aL => exact HLIM.out.2.2.2.2.2); intro vx w10 ho hb hg hat; have S_ := Aside0.mk (S.out.put6 ho hb hg hat); have X_ := Aside0.mk (blk_grown HX.out hg (Kd.R_ne S.out.r6 HX.out (by decide))); clear S HX z0 z1 z2 z3 z4; have S := S_; have HX := X_; clear S_ X_; have z0 : w10.cell? ⟨gb, 0, none⟩ = some (.int .i64 x.f0) := (blk_cell HX.out 0).trans rfl; have z1 : w10.cell? ⟨gb, 1, none⟩ = some (.string x.f1) := (blk_cell HX.out 1).trans rfl; have z2 : w10.cell? ⟨gb, 2, none⟩ = some (.int .i64 x.f2) := (blk_cell HX.out 2).trans rfl; have z3 : w10.cell? ⟨gb, 3, none⟩ = some (.int .i64 x.f3) := (blk_cell HX.out 3).trans rfl; have z4 : w10.cell? ⟨gb, 4, none⟩ = some (.string x.f4) := (blk_cell HX.out 4).trans rfl; clear ho hb hg hat))
       go_roundw
       case rel =>
        have hw : wrap64 ((j : Int) + 1) = ((j + 1 : Nat) : Int) := by have := HNB.out; unfold wrap64; omega
        have e1 := take_next HE.out
        refine ⟨j + 1, by omega, by rw [hw], ⟨?_⟩, ⟨by rw [e1]; exact chk_next HCH.out HCX.out⟩⟩
        rw [e1]
        simp only [List.map_append, List.map_cons, List.map_nil, List.flatMap_append, List.flatMap_cons, List.flatMap_nil, List.append_nil]
        rw [nsF_in HIN.out, show txF x = textP x.f4 from if_pos HKT.out, HID.out]
        exact S.out
       case measure =>
        have hw : wrap64 ((j : Int) + 1) = ((j + 1 : Nat) : Int) := by have := HNB.out; unfold wrap64; omega
        rw [hw]
        show l0.length - ((j + 1 : Nat) : Int).toNat < l0.length - ((j : Nat) : Int).toNat
        rw [Int.toNat_natCast, Int.toNat_natCast]
        omega
      ·have t1 : (x.f0 == 4) = false := beq_eq_false_iff_ne.mpr hk4
       have HKT : Aside0 (¬ (x.f0 = 1 ∨ x.f0 = 4)) := ⟨fun h => h.elim hk1 hk4⟩
       clear hk1 hk4
       go_wp2_with fail
       go_roundw
       case rel =>
        have hw : wrap64 ((j : Int) + 1) = ((j + 1 : Nat) : Int) := by have := HNB.out; unfold wrap64; omega
        have e1 := take_next HE.out
        refine ⟨j + 1, by omega, by rw [hw], ⟨?_⟩, ⟨by rw [e1]; exact chk_next HCH.out HCX.out⟩⟩
        rw [e1]
        simp only [List.map_append, List.map_cons, List.map_nil, List.flatMap_append, List.flatMap_cons, List.flatMap_nil, List.append_nil]
        rw [nsF_in HIN.out, show txF x = [] from if_neg HKT.out, HID.out]
        rw [List.append_nil]
        exact S.out
       case measure =>
        have hw : wrap64 ((j : Int) + 1) = ((j + 1 : Nat) : Int) := by have := HNB.out; unfold wrap64; omega
        rw [hw]
        show l0.length - ((j + 1 : Nat) : Int).toNat < l0.length - ((j : Nat) : Int).toNat
        rw [Int.toNat_natCast, Int.toNat_natCast]
        omega
    ·have d0 : ((ix : Int) == ((nsF (l0.take j)).length : Int)) = true := beq_iff_eq.mpr (by omega)
     have HIN : Aside0 (¬ idx (nsF (l0.take j)) x.f1 < (nsF (l0.take j)).length) := ⟨by rw [HIX.out]; exact hin⟩
     clear hin hle
     go_upto_region 19 with (first | ((with_reducible refine gate_builtin (b := .append) (xs := #[.tmp 39, .tmp 42]) rfl ?_); at_builtin; refine Kd.R_append Kd.string (w0 := w) w.heap.size rfl (.tmp 39) (.tmp 42) 53 9 (.string ⟨#[]⟩) 16 rfl Try.underlying53 info9 rfl (by decide) (by omega) _ (nsF (l0.take j)) x.f1 [.string x.f1] (fun _ => True) (fun _ => False) rfl rfl ?aP (fun _ hk => hk.elim) ?aF ?aO ?aB ?aS ?aL ?_; (case aP => exact rfl); (case aO => exact S.out.r1); (case aB => exact S.out.bel); (case aF => exact (fun _ _ => trivial)); (case aS => exact S.out.bel.size); (case aL => exact HLIM.out.1); intro vn w4 ho hb hg hat; have S_ := Aside0.mk (S.out.put1 ho hb hg hat); have X_ := Aside0.mk (blk_grown HX.out hg (Kd.R_ne S.out.r1 HX.out (by decide))); clear S HX z0 z1 z2 z3 z4; have S := S_; have HX := X_; clear S_ X_; have z0 : w4.cell? ⟨gb, 0, none⟩ = some (.int .i64 x.f0) := (blk_cell HX.out 0).trans rfl; have z1 : w4.cell? ⟨gb, 1, none⟩ = some (.string x.f1) := (blk_cell HX.out 1).trans rfl; have z2 : w4.cell? ⟨gb, 2, none⟩ = some (.int .i64 x.f2) := (blk_cell HX.out 2).trans rfl; have z3 : w4.cell? ⟨gb, 3, none⟩ = some (.int .i64 x.f3) := (blk_cell HX.out 3).trans rfl; have z4 : w4.cell? ⟨gb, 4, none⟩ = some (.string x.f4) := (blk_cell HX.out 4).trans rfl; clear ho hb hg hat) | ((with_reducible refine gate_builtin (b := .append) (xs := #[.tmp 44, .tmp 47]) rfl ?_); at_builtin; refine Kd.R_append (Kd.int .i64) (w0 := w) w.heap.size rfl (.tmp 44) (.tmp 47) 49 2 (.int .i64 0) 8 rfl Try.underlying49 info2 rfl (by decide) (by omega) _ ((l0.take j).map (·.f0)) x.f0 [.int .i64 x.f0] (fun _ => True) (fun _ => False) rfl rfl ?aP (fun _ hk => hk.elim) ?aF ?aO ?aB ?aS ?aL ?_; (case aP => exact rfl); (case aO => exact S.out.r2); (case aB => exact S.out.bel); (case aF => exact (fun _ _ => trivial)); (case aS => exact S.out.bel.size); (case aL => exact HLIM.out.2.1); intro vk w5 ho hb hg hat; have S_ := Aside0.mk (S.out.put2 ho hb hg hat); have X_ := Aside0.mk (blk_grown HX.out hg (Kd.R_ne S.out.r2 HX.out (by decide))); clear S HX z0 z1 z2 z3 z4; have S := S_; have HX := X_; clear S_ X_; have z0 : w5.cell? ⟨gb, 0, none⟩ = some (.int .i64 x.f0) := (blk_cell HX.out 0).trans rfl; have z1 : w5.cell? ⟨gb, 1, none⟩ = some (.string x.f1) := (blk_cell HX.out 1).trans rfl; have z2 : w5.cell? ⟨gb, 2, none⟩ = some (.int .i64 x.f2) := (blk_cell HX.out 2).trans rfl; have z3 : w5.cell? ⟨gb, 3, none⟩ = some (.int .i64 x.f3) := (blk_cell HX.out 3).trans rfl; have z4 : w5.cell? ⟨gb, 4, none⟩ = some (.string x.f4) := (blk_cell HX.out 4).trans rfl; clear ho hb hg hat) | ((with_reducible refine gate_builtin (b := .append) (xs := #[.tmp 49, .tmp 51]) rfl ?_); at_builtin; refine Kd.R_append (Kd.int .i64) (w0 := w) w.heap.size rfl (.tmp 49) (.tmp 51) 49 2 (.int .i64 0) 8 rfl Try.underlying49 info2 rfl (by decide) (by omega) _ ((l0.take j).map (fun o => (idx (nsF l0) o.f1 : Int))) (ix : Int) [.int .i64 (ix : Int)] (fun _ => True) (fun _ => False) rfl rfl ?aP (fun _ hk => hk.elim) ?aF ?aO ?aB ?aS ?aL ?_; (case aP => exact rfl); (case aO => exact S.out.r3); (case aB => exact S.out.bel); (case aF => exact (fun _ _ => trivial)); (case aS => exact S.out.bel.size); (case aL => exact HLIM.out.2.2.1); intro vw w6 ho hb hg hat; have S_ := Aside0.mk (S.out.put3 ho hb hg hat); have X_ := Aside0.mk (blk_grown HX.out hg (Kd.R_ne S.out.r3 HX.out (by decide))); clear S HX z0 z1 z2 z3 z4; have S := S_; have HX := X_; clear S_ X_; have z0 : w6.cell? ⟨gb, 0, none⟩ = some (.int .i64 x.f0) := (blk_cell HX.out 0).trans rfl; have z1 : w6.cell? ⟨gb, 1, none⟩ = some (.string x.f1) := (blk_cell HX.out 1).trans rfl; have z2 : w6.cell? ⟨gb, 2, none⟩ = some (.int .i64 x.f2) := (blk_cell HX.out 2).trans rfl; have z3 : w6.cell? ⟨gb, 3, none⟩ = some (.int .i64 x.f3) := (blk_cell HX.out 3).trans rfl; have z4 : w6.cell? ⟨gb, 4, none⟩ = some (.string x.f4) := (blk_cell HX.out 4).trans rfl; clear ho hb hg hat) | ((with_reducible refine gate_builtin (b := .append) (xs := #[.tmp 53, .tmp 56]) rfl ?_); at_builtin; refine Kd.R_append (Kd.int .i64) (w0 := w) w.heap.size rfl (.tmp 53) (.tmp 56) 49 2 (.int .i64 0) 8 rfl Try.underlying49 info2 rfl (by decide) (by omega) _ ((l0.take j).map (·.f2)) x.f2 [.int .i64 x.f2] (fun _ => True) (fun _ => False) rfl rfl ?aP (fun _ hk => hk.elim) ?aF ?aO ?aB ?aS ?aL ?_; (case aP => exact rfl); (case aO => exact S.out.r4); (case aB => exact S.out.bel); (case aF => exact (fun _ _ => trivial)); (case aS => exact S.out.bel.size); (case aL => exact HLIM.out.2.2.2.1); intro vp w7 ho hb hg hat; have S_ := Aside0.mk (S.out.put4 ho hb hg hat); have X_ := Aside0.mk (blk_grown HX.out hg (Kd.R_ne S.out.r4 HX.out (by decide))); clear S HX z0 z1 z2 z3 z4; have S := S_; have HX := X_; clear S_ X_; have z0 : w7.cell? ⟨gb, 0, none⟩ = some (.int .i64 x.f0) := (blk_cell HX.out 0).trans rfl; have z1 : w7.cell? ⟨gb, 1, none⟩ = some (.string x.f1) := (blk_cell HX.out 1).trans rfl; have z2 : w7.cell? ⟨gb, 2, none⟩ = some (.int .i64 x.f2) := (blk_cell HX.out 2).trans rfl; have z3 : w7.cell? ⟨gb, 3, none⟩ = some (.int .i64 x.f3) := (blk_cell HX.out 3).trans rfl; have z4 : w7.cell? ⟨gb, 4, none⟩ = some (.string x.f4) := (blk_cell HX.out 4).trans rfl; clear ho hb hg hat) | ((with_reducible refine gate_builtin (b := .append) (xs := #[.tmp 58, .tmp 61]) rfl ?_); at_builtin; refine Kd.R_append (Kd.int .i64) (w0 := w) w.heap.size rfl (.tmp 58) (.tmp 61) 49 2 (.int .i64 0) 8 rfl Try.underlying49 info2 rfl (by decide) (by omega) _ ((l0.take j).map (·.f3)) x.f3 [.int .i64 x.f3] (fun _ => True) (fun _ => False) rfl rfl ?aP (fun _ hk => hk.elim) ?aF ?aO ?aB ?aS ?aL ?_; (case aP => exact rfl); (case aO => exact S.out.r5); (case aB => exact S.out.bel); (case aF => exact (fun _ _ => trivial)); (case aS => exact S.out.bel.size); (case aL => exact HLIM.out.2.2.2.2.1); intro vy w8 ho hb hg hat; have S_ := Aside0.mk (S.out.put5 ho hb hg hat); have X_ := Aside0.mk (blk_grown HX.out hg (Kd.R_ne S.out.r5 HX.out (by decide))); clear S HX z0 z1 z2 z3 z4; have S := S_; have HX := X_; clear S_ X_; have z0 : w8.cell? ⟨gb, 0, none⟩ = some (.int .i64 x.f0) := (blk_cell HX.out 0).trans rfl; have z1 : w8.cell? ⟨gb, 1, none⟩ = some (.string x.f1) := (blk_cell HX.out 1).trans rfl; have z2 : w8.cell? ⟨gb, 2, none⟩ = some (.int .i64 x.f2) := (blk_cell HX.out 2).trans rfl; have z3 : w8.cell? ⟨gb, 3, none⟩ = some (.int .i64 x.f3) := (blk_cell HX.out 3).trans rfl; have z4 : w8.cell? ⟨gb, 4, none⟩ = some (.string x.f4) := (blk_cell HX.out 4).trans rfl; clear ho hb hg hat))
     by_cases hk1 : x.f0 = 1
     ·have t0 : (x.f0 == 1) = true := beq_iff_eq.mpr hk1
      have HKT : Aside0 (x.f0 = 1 ∨ x.f0 = 4) := ⟨Or.inl hk1⟩
      clear hk1
      go_wp2_with (first | (go_at_call 33; refine (stemmaref02_Text.calls 20 x.f4 (textP x.f4) _ HTT.out).mono ?_; rintro e_ w9 ⟨vt, rfl, ho, hb⟩; obtain ⟨At, ct, et⟩ := Kd.R_slice ho; subst et; have HRT := Aside0.mk (Kd.R_reads' ho).2.2; have S_ := Aside0.mk (S.out.step hb); have X_ := Aside0.mk (blk_below HX.out hb); clear S HX z0 z1 z2 z3 z4; have S := S_; have HX := X_; clear S_ X_; have z0 : w9.cell? ⟨gb, 0, none⟩ = some (.int .i64 x.f0) := (blk_cell HX.out 0).trans rfl; have z1 : w9.cell? ⟨gb, 1, none⟩ = some (.string x.f1) := (blk_cell HX.out 1).trans rfl; have z2 : w9.cell? ⟨gb, 2, none⟩ = some (.int .i64 x.f2) := (blk_cell HX.out 2).trans rfl; have z3 : w9.cell? ⟨gb, 3, none⟩ = some (.int .i64 x.f3) := (blk_cell HX.out 3).trans rfl; have z4 : w9.cell? ⟨gb, 4, none⟩ = some (.string x.f4) := (blk_cell HX.out 4).trans rfl; clear ho hb) | ((with_reducible refine gate_builtin (b := .append) (xs := #[.tmp 71, .tmp 74]) rfl ?_); at_builtin; refine Kd.R_append_rows (Kd.int .u8) (w0 := w) w.heap.size rfl (.tmp 71) (.tmp 74) 23 5 (.int .u8 0) 1 rfl Try.underlying23 info5 rfl (by decide) (by omega) _ ((l0.take j).flatMap txF) (textP x.f4) _ _ _ (fun _ => True) (fun _ => False) rfl rfl ?aO ?aR (fun _ _ h => h) (fun _ h => h.elim) ?aF ?aB ?aS ?aL ?_; (case aR => exact HRT.out); (case aO => exact S.out.r6); (case aB => exact S.out.bel); (case aF => exact (fun _ _ => trivial)); (case aS => exact S.out.bel.size); (case aL => exact HLIM.out.2.2.2.2.2); intro vx w10 ho hb hg hat; have S_ := Aside0.mk (S.out.put6 ho hb hg hat); have X_ := Aside0.mk (blk_grown HX.out hg (Kd.R_ne S.out.r6 HX.out (by decide))); clear S HX z0 z1 z2 z3 z4; have S := S_; have HX := X_; clear S_ X_; have z0 : w10.cell? ⟨gb, 0, none⟩ = some (.int .i64 x.f0) := (blk_cell HX.out 0).trans rfl; have z1 : w10.cell? ⟨gb, 1, none⟩ = some (.string x.f1) := (blk_cell HX.out 1).trans rfl; have z2 : w10.cell? ⟨gb, 2, none⟩ = some (.int .i64 x.f2) := (blk_cell HX.out 2).trans rfl; have z3 : w10.cell? ⟨gb, 3, none⟩ = some (.int .i64 x.f3) := (blk_cell HX.out 3).trans rfl; have z4 : w10.cell? ⟨gb, 4, none⟩ = some (.string x.f4) := (blk_cell HX.out 4).trans rfl; clear ho hb hg hat))
      go_roundw
      case rel =>
       have hw : wrap64 ((j : Int) + 1) = ((j + 1 : Nat) : Int) := by have := HNB.out; unfold wrap64; omega
       have e1 := take_next HE.out
       refine ⟨j + 1, by omega, by rw [hw], ⟨?_⟩, ⟨by rw [e1]; exact chk_next HCH.out HCX.out⟩⟩
       rw [e1]
       simp only [List.map_append, List.map_cons, List.map_nil, List.flatMap_append, List.flatMap_cons, List.flatMap_nil, List.append_nil]
       rw [nsF_new HIN.out, show txF x = textP x.f4 from if_pos HKT.out, HID.out]
       exact S.out
      case measure =>
       have hw : wrap64 ((j : Int) + 1) = ((j + 1 : Nat) : Int) := by have := HNB.out; unfold wrap64; omega
       rw [hw]
       show l0.length - ((j + 1 : Nat) : Int).toNat < l0.length - ((j : Nat) : Int).toNat
       rw [Int.toNat_natCast, Int.toNat_natCast]
       omega
     ·have t0 : (x.f0 == 1) = false := beq_eq_false_iff_ne.mpr hk1
      by_cases hk4 : x.f0 = 4
      ·have t1 : (x.f0 == 4) = true := beq_iff_eq.mpr hk4
       have HKT : Aside0 (x.f0 = 1 ∨ x.f0 = 4) := ⟨Or.inr hk4⟩
       clear hk1 hk4
       go_wp2_with (first | (go_at_call 33; refine (stemmaref02_Text.calls 20 x.f4 (textP x.f4) _ HTT.out).mono ?_; rintro e_ w9 ⟨vt, rfl, ho, hb⟩; obtain ⟨At, ct, et⟩ := Kd.R_slice ho; subst et; have HRT := Aside0.mk (Kd.R_reads' ho).2.2; have S_ := Aside0.mk (S.out.step hb); have X_ := Aside0.mk (blk_below HX.out hb); clear S HX z0 z1 z2 z3 z4; have S := S_; have HX := X_; clear S_ X_; have z0 : w9.cell? ⟨gb, 0, none⟩ = some (.int .i64 x.f0) := (blk_cell HX.out 0).trans rfl; have z1 : w9.cell? ⟨gb, 1, none⟩ = some (.string x.f1) := (blk_cell HX.out 1).trans rfl; have z2 : w9.cell? ⟨gb, 2, none⟩ = some (.int .i64 x.f2) := (blk_cell HX.out 2).trans rfl; have z3 : w9.cell? ⟨gb, 3, none⟩ = some (.int .i64 x.f3) := (blk_cell HX.out 3).trans rfl; have z4 : w9.cell? ⟨gb, 4, none⟩ = some (.string x.f4) := (blk_cell HX.out 4).trans rfl; clear ho hb) | ((with_reducible refine gate_builtin (b := .append) (xs := #[.tmp 71, .tmp 74]) rfl ?_); at_builtin; refine Kd.R_append_rows (Kd.int .u8) (w0 := w) w.heap.size rfl (.tmp 71) (.tmp 74) 23 5 (.int .u8 0) 1 rfl Try.underlying23 info5 rfl (by decide) (by omega) _ ((l0.take j).flatMap txF) (textP x.f4) _ _ _ (fun _ => True) (fun _ => False) rfl rfl ?aO ?aR (fun _ _ h => h) (fun _ h => h.elim) ?aF ?aB ?aS ?aL ?_; (case aR => exact HRT.out); (case aO => exact S.out.r6); (case aB => exact S.out.bel); (case aF => exact (fun _ _ => trivial)); (case aS => exact S.out.bel.size); (case aL => exact HLIM.out.2.2.2.2.2); intro vx w10 ho hb hg hat; have S_ := Aside0.mk (S.out.put6 ho hb hg hat); have X_ := Aside0.mk (blk_grown HX.out hg (Kd.R_ne S.out.r6 HX.out (by decide))); clear S HX z0 z1 z2 z3 z4; have S := S_; have HX := X_; clear S_ X_; have z0 : w10.cell? ⟨gb, 0, none⟩ = some (.int .i64 x.f0) := (blk_cell HX.out 0).trans rfl; have z1 : w10.cell? ⟨gb, 1, none⟩ = some (.string x.f1) := (blk_cell HX.out 1).trans rfl; have z2 : w10.cell? ⟨gb, 2, none⟩ = some (.int .i64 x.f2) := (blk_cell HX.out 2).trans rfl; have z3 : w10.cell? ⟨gb, 3, none⟩ = some (.int .i64 x.f3) := (blk_cell HX.out 3).trans rfl; have z4 : w10.cell? ⟨gb, 4, none⟩ = some (.string x.f4) := (blk_cell HX.out 4).trans rfl; clear ho hb hg hat))
       go_roundw
       case rel =>
        have hw : wrap64 ((j : Int) + 1) = ((j + 1 : Nat) : Int) := by have := HNB.out; unfold wrap64; omega
        have e1 := take_next HE.out
        refine ⟨j + 1, by omega, by rw [hw], ⟨?_⟩, ⟨by rw [e1]; exact chk_next HCH.out HCX.out⟩⟩
        rw [e1]
        simp only [List.map_append, List.map_cons, List.map_nil, List.flatMap_append, List.flatMap_cons, List.flatMap_nil, List.append_nil]
        rw [nsF_new HIN.out, show txF x = textP x.f4 from if_pos HKT.out, HID.out]
        exact S.out
       case measure =>
        have hw : wrap64 ((j : Int) + 1) = ((j + 1 : Nat) : Int) := by have := HNB.out; unfold wrap64; omega
        rw [hw]
        show l0.length - ((j + 1 : Nat) : Int).toNat < l0.length - ((j : Nat) : Int).toNat
        rw [Int.toNat_natCast, Int.toNat_natCast]
        omega
      ·have t1 : (x.f0 == 4) = false := beq_eq_false_iff_ne.mpr hk4
       have HKT : Aside0 (¬ (x.f0 = 1 ∨ x.f0 = 4)) := ⟨fun h => h.elim hk1 hk4⟩
       clear hk1 hk4
       go_wp2_with fail
       go_roundw
       case rel =>
        have hw : wrap64 ((j : Int) + 1) = ((j + 1 : Nat) : Int) := by have := HNB.out; unfold wrap64; omega
        have e1 := take_next HE.out
        refine ⟨j + 1, by omega, by rw [hw], ⟨?_⟩, ⟨by rw [e1]; exact chk_next HCH.out HCX.out⟩⟩
        rw [e1]
        simp only [List.map_append, List.map_cons, List.map_nil, List.flatMap_append, List.flatMap_cons, List.flatMap_nil, List.append_nil]
        rw [nsF_new HIN.out, show txF x = [] from if_neg HKT.out, HID.out]
        rw [List.append_nil]
        exact S.out
       case measure =>
        have hw : wrap64 ((j : Int) + 1) = ((j + 1 : Nat) : Int) := by have := HNB.out; unfold wrap64; omega
        rw [hw]
        show l0.length - ((j + 1 : Nat) : Int).toNat < l0.length - ((j : Nat) : Int).toNat
        rw [Int.toNat_natCast, Int.toNat_natCast]
        omega
   ·rw [show chkF x = false from by simpa using hck] at HMY
    have HNC := Aside0.mk hck
    clear hck
    go_wp2_with (go_at_call 31; refine (stemmaref07_may.calls (x.f1.size + 1) x.f0 x.f1 x.f2 x.f3 x.f4 false _ HMY.out).mono ?_; rintro e_ w2 ⟨rfl, hb⟩; have S_ := Aside0.mk (S.out.step hb); have X_ := Aside0.mk (blk_below HX.out hb); clear S HX z0 z1 z2 z3 z4; have S := S_; have HX := X_; clear S_ X_; have z0 : w2.cell? ⟨gb, 0, none⟩ = some (.int .i64 x.f0) := (blk_cell HX.out 0).trans rfl; have z1 : w2.cell? ⟨gb, 1, none⟩ = some (.string x.f1) := (blk_cell HX.out 1).trans rfl; have z2 : w2.cell? ⟨gb, 2, none⟩ = some (.int .i64 x.f2) := (blk_cell HX.out 2).trans rfl; have z3 : w2.cell? ⟨gb, 3, none⟩ = some (.int .i64 x.f3) := (blk_cell HX.out 3).trans rfl; have z4 : w2.cell? ⟨gb, 4, none⟩ = some (.string x.f4) := (blk_cell HX.out 4).trans rfl; clear hb)
    go_ret2
    obtain ⟨hb1, hb2⟩ := put_bad (List.mem_of_getElem? HE.out) HNC.out
    rw [hb1, hb2]
    exact ⟨_, rfl, Kd.R_nil _ _ _ _ _, S.out.bel⟩
  ·obtain rfl : j = l0.length := by omega
   obtain ⟨wE, hwE⟩ : ∃ wE, wE = wr := ⟨_, rfl⟩
   subst hwE
   have hch := HCH.out
   rw [List.take_length] at hch
   have HKF := Aside0.mk hch
   have S_ := Aside0.mk (show Six w wE _ _ _ _ _ _ (nsF l0) (l0.map (·.f0)) (l0.map (fun o => (idx (nsF l0) o.f1 : Int))) (l0.map (·.f2)) (l0.map (·.f3)) (l0.flatMap txF) from by have := S.out; rwa [List.take_length] at this)
   clear S HCH hch hjl hj
   have S := S_
   clear S_
   have HNO : Aside0 (Oks (nsF l0) ∧ (nsF l0).length ≤ 256) := ⟨by
    obtain ⟨a1, a2, a3⟩ := nsF_ok _ l0 rfl HKF.out
    exact ⟨a1, Nat.le_trans (nsF_len _ l0 rfl) HL.out⟩⟩
   obtain ⟨X1, hX1⟩ : ∃ X, ColS.runs (l0.map (·.f0)) = X := ⟨_, rfl⟩
   obtain ⟨X2, hX2⟩ : ∃ X, LebT.putU (nsF l0).length = X := ⟨_, rfl⟩
   obtain ⟨X4, hX4⟩ : ∃ X, ColS.runs (l0.map (fun o => (idx (nsF l0) o.f1 : Int))) = X := ⟨_, rfl⟩
   obtain ⟨X5, hX5⟩ : ∃ X, ColS.runs (ColT.dif0 (l0.map (·.f2))) = X := ⟨_, rfl⟩
   obtain ⟨X6, hX6⟩ : ∃ X, ColS.runs (l0.map (·.f3)) = X := ⟨_, rfl⟩
   have HLB : Aside0 (X1.length ≤ 6000 ∧ X2.length ≤ 10 ∧ X4.length ≤ 6000 ∧ X5.length ≤ 6000 ∧ X6.length ≤ 6000 ∧ ((nsF l0).flatMap textP).length ≤ 1034 * 256 ∧ (l0.flatMap txF).length ≤ 1034 * 256) := ⟨by
    have a0 := HL.out
    have a1 := HNO.out.2
    refine ⟨by rw [← hX1]; exact runs_len _ (by simp; omega) (kinds_ok HKF.out), by rw [← hX2]; exact LebT.putU_len64 (by omega), by rw [← hX4]; exact runs_len _ (by simp; omega) (which_ok l0 _ a1), by rw [← hX5]; exact runs_len _ (by rw [ColT.dif0_length]; simp; omega) (ColT.dif0_rng _ (pos_ok HKF.out)), by rw [← hX6]; exact runs_len _ (by simp; omega) (by_ok HKF.out), ?_, ?_⟩
    ·exact Nat.le_trans (flat_len textP 1034 (nsF l0) (fun s hs => textP_len (by have := HNO.out.1 s hs; unfold shortN at this; omega))) (Nat.mul_le_mul_left _ a1)
    ·exact Nat.le_trans (flat_len txF 1034 l0 (fun o ho => txF_len (HKF.out o ho))) (Nat.mul_le_mul_left _ a0)⟩
   have F1 : Aside0 (stemmaref03_Runs.f (l0.map (·.f0)) = some X1) := ⟨by rw [← hX1]; exact ColT.rruns_some _ (by have := HL.out; simp; omega) (kinds_ok HKF.out)⟩
   have F2 : Aside0 (stemmaref02_Uint.f 20 ((nsF l0).length : Int) = some X2) := ⟨by rw [← hX2, LebP.rUint_f (by omega) (by omega) (by have := HNO.out.2; omega), Int.toNat_natCast]⟩
   have F4 : Aside0 (stemmaref03_Runs.f (l0.map (fun o => (idx (nsF l0) o.f1 : Int))) = some X4) := ⟨by rw [← hX4]; exact ColT.rruns_some _ (by have := HL.out; simp; omega) (which_ok l0 _ HNO.out.2)⟩
   have F5 : Aside0 (stemmaref03_Deltas.f 300 (l0.map (·.f2)) = some X5) := ⟨by rw [← hX5]; exact rdeltas_eq _ (by have := HL.out; simp; omega) (pos_ok HKF.out)⟩
   have F6 : Aside0 (stemmaref03_Runs.f (l0.map (·.f3)) = some X6) := ⟨by rw [← hX6]; exact ColT.rruns_some _ (by have := HL.out; simp; omega) (by_ok HKF.out)⟩
   have HPB : Aside0 (putE l0 = 0 ∧ putB l0 = X1 ++ X2 ++ (nsF l0).flatMap textP ++ X4 ++ X5 ++ X6 ++ l0.flatMap txF) := ⟨if_pos (List.all_eq_true.2 HKF.out), by rw [putB, if_pos (List.all_eq_true.2 HKF.out), layF, hX1, hX2, hX4, hX5, hX6]⟩
   clear hX1 hX2 hX4 hX5 hX6
   obtain ⟨NS, hNS⟩ : ∃ NS, nsF l0 = NS := ⟨_, rfl⟩
   obtain ⟨K1, hK1⟩ : ∃ K, l0.map (·.f0) = K := ⟨_, rfl⟩
   obtain ⟨K2, hK2⟩ : ∃ K, l0.map (fun o => (idx (nsF l0) o.f1 : Int)) = K := ⟨_, rfl⟩
   obtain ⟨K3, hK3⟩ : ∃ K, l0.map (·.f2) = K := ⟨_, rfl⟩
   obtain ⟨K4, hK4⟩ : ∃ K, l0.map (·.f3) = K := ⟨_, rfl⟩
   obtain ⟨TX, hTX⟩ : ∃ K, l0.flatMap txF = K := ⟨_, rfl⟩
   rw [hK1] at S F1
   rw [hK2] at S F4
   rw [hK3] at S F5
   rw [hK4] at S F6
   rw [hTX] at S HLB HPB
   rw [hNS] at S HNO HLB F2 HPB
   clear hK1 hK2 hK3 hK4 hTX hNS HKF
   obtain ⟨B1, b1, eb1⟩ := Kd.R_slice S.out.r1
   subst eb1
   obtain ⟨B2, b2, eb2⟩ := Kd.R_slice S.out.r2
   subst eb2
   obtain ⟨B3, b3, eb3⟩ := Kd.R_slice S.out.r3
   subst eb3
   obtain ⟨B4, b4, eb4⟩ := Kd.R_slice S.out.r4
   subst eb4
   obtain ⟨B5, b5, eb5⟩ := Kd.R_slice S.out.r5
   subst eb5
   obtain ⟨B6, b6, eb6⟩ := Kd.R_slice S.out.r6
   subst eb6
   have HLM : Aside0 ((X1.length + X2.length) * 1 ≤ 140737488355328 ∧ ((X1 ++ X2 ++ NS.flatMap textP).length + X4.length) * 1 ≤ 140737488355328 ∧ ((X1 ++ X2 ++ NS.flatMap textP ++ X4).length + X5.length) * 1 ≤ 140737488355328 ∧ ((X1 ++ X2 ++ NS.flatMap textP ++ X4 ++ X5).length + X6.length) * 1 ≤ 140737488355328 ∧ ((X1 ++ X2 ++ NS.flatMap textP ++ X4 ++ X5 ++ X6).length + TX.length) * 1 ≤ 140737488355328) := ⟨by
    have h1 := HLB.out
    simp only [List.length_append]
    omega⟩
   have hwu := LebP.u64_size (n := NS.length) (by have := HNO.out.2; omega)
   go_upto_region 22 with (first | (go_at_call 34; refine (stemmaref03_Runs.calls B2 b2 K1 X1 _ (Kd.R_reads' S.out.r2).2.2 (Kd.R_reads' S.out.r2).2.1 F1.out).mono ?_; rintro e_ w1 ⟨v1, rfl, ho, hb⟩; have HQ := Aside0.mk ho; have HBQ := Aside0.mk hb; clear ho hb) | (go_at_call 35; refine (stemmaref02_Uint.calls 20 (NS.length : Int) X2 _ F2.out).mono ?_; rintro e_ w2 ⟨v2, rfl, ho, hb⟩; obtain ⟨A2, c2, e2⟩ := Kd.R_slice ho; subst e2; have HRU := Aside0.mk (Kd.R_reads' ho).2.2; have HQ_ := Aside0.mk (Kd.R_below HQ.out hb); have HBQ_ := Aside0.mk (below_step HBQ.out hb); clear HQ HBQ; have HQ := HQ_; have HBQ := HBQ_; clear HQ_ HBQ_ ho hb) | ((with_reducible refine gate_builtin (b := .append) (xs := #[.tmp 77, .tmp 81]) rfl ?_); at_builtin; refine Kd.R_append_rows (Kd.int .u8) (w0 := wE) wE.heap.size rfl (.tmp 77) (.tmp 81) 23 5 (.int .u8 0) 1 rfl Try.underlying23 info5 rfl (by decide) (by omega) v1 X1 X2 _ _ _ (fun _ => True) (fun _ => False) rfl rfl ?aO ?aR (fun _ _ h => h) (fun _ h => h.elim) ?aF ?aB ?aS ?aL ?_; (case aR => exact HRU.out); (case aO => exact HQ.out); (case aB => exact HBQ.out); (case aF => exact (fun _ _ => trivial)); (case aS => exact HBQ.out.size); (case aL => exact HLM.out.1); intro v3 w3 ho hb hg hat; have HQ_ := Aside0.mk ho; have HBQ_ := Aside0.mk hb; clear HQ HBQ; have HQ := HQ_; have HBQ := HBQ_; clear HQ_ HBQ_ ho hb hg hat))
   clear hwu
   go_wp2_with fail
   go_loopw [13, 14] (fun v13 v14 wq => ∃ (i : Nat) (X : List Int) (vq : Value), i ≤ NS.length ∧ v14 = .int .i64 i ∧ vq = v13 ∧ Aside0 (X = X1 ++ X2 ++ (NS.take i).flatMap textP) ∧ Aside0 (Kd.R (Kd.int .u8) 5 wq wE.heap.size (fun _ => True) vq X) ∧ Aside0 (Below wE.heap.size wE wq)) (fun _ v14 _ => NS.length - (intOf v14).toNat)
   case atStart => exact ⟨0, X1 ++ X2, v3, by omega, rfl, rfl, ⟨by simp⟩, HQ, HBQ⟩
   case round =>
    clear HQ HBQ
    obtain ⟨i, X, vq, hi, rfl, rfl, HXX, HQ, HBQ⟩ := hrel
    by_cases hil : i < NS.length
    ·obtain ⟨a1, f1, k1⟩ := at_strR (Kd.R_reads' (Kd.R_below S.out.r1 HBQ.out)).2.2 i hil
     subst f1
     obtain ⟨s, hs⟩ : ∃ s, NS.getD i e0 = s := ⟨_, rfl⟩
     rw [hs] at k1
     have hsm : NS[i]? = some s := by
      rw [List.getD_eq_getElem?_getD, List.getElem?_eq_getElem hil] at hs
      rw [List.getElem?_eq_getElem hil]
      exact congrArg some hs
     have hsz : s.size ≤ 1024 := by have := HNO.out.1 s (List.mem_of_getElem? hsm); unfold shortN at this; omega
     have HSM := Aside0.mk hsm
     have HTT := Aside0.mk (RText_eq hsz)
     have HTL := Aside0.mk (textP_len hsz)
     have HFL : Aside0 (((NS.take i).flatMap textP).length ≤ 1034 * 256) := ⟨Nat.le_trans (flat_len textP 1034 (NS.take i) (fun t ht => textP_len (by have := HNO.out.1 t (List.mem_of_mem_take ht); unfold shortN at this; omega))) (Nat.mul_le_mul_left _ (by have := HNO.out.2; simp; omega))⟩
     have HLI : Aside0 ((X.length + (textP s).length) * 1 ≤ 140737488355328) := ⟨by
      have h1 := HLB.out
      have h2 := HTL.out
      have h3 := HFL.out
      rw [HXX.out]
      simp only [List.length_append]
      omega⟩
     have HIB : Aside0 (i < 256) := ⟨by have := HNO.out.2; omega⟩
     clear hs hsm hsz
     go_wp2_with (first | (go_at_call 33; refine (stemmaref02_Text.calls 20 s (textP s) _ HTT.out).mono ?_; rintro e_ w9 ⟨vt, rfl, ho, hb⟩; obtain ⟨At, ct, et⟩ := Kd.R_slice ho; subst et; have HRT := Aside0.mk (Kd.R_reads' ho).2.2; have HQ_ := Aside0.mk (Kd.R_below HQ.out hb); have HBQ_ := Aside0.mk (below_step HBQ.out hb); clear HQ HBQ; have HQ := HQ_; have HBQ := HBQ_; clear HQ_ HBQ_ ho hb) | ((with_reducible refine gate_builtin (b := .append) (xs := #[.tmp 89, .tmp 94]) rfl ?_); at_builtin; refine Kd.R_append_rows (Kd.int .u8) (w0 := wE) wE.heap.size rfl (.tmp 89) (.tmp 94) 23 5 (.int .u8 0) 1 rfl Try.underlying23 info5 rfl (by decide) (by omega) vq X (textP s) _ _ _ (fun _ => True) (fun _ => False) rfl rfl ?aO ?aR (fun _ _ h => h) (fun _ h => h.elim) ?aF ?aB ?aS ?aL ?_; (case aR => exact HRT.out); (case aO => exact HQ.out); (case aB => exact HBQ.out); (case aF => exact (fun _ _ => trivial)); (case aS => exact HBQ.out.size); (case aL => exact HLI.out); intro v10 w10 ho hb hg hat; have HQ_ := Aside0.mk ho; have HBQ_ := Aside0.mk hb; clear HQ HBQ; have HQ := HQ_; have HBQ := HBQ_; clear HQ_ HBQ_ ho hb hg hat))
     go_roundw
     case rel =>
      have hw : wrap64 ((i : Int) + 1) = ((i + 1 : Nat) : Int) := by have := HIB.out; unfold wrap64; omega
      refine ⟨i + 1, X ++ textP s, _, hil, by rw [hw], rfl, ⟨?_⟩, HQ, HBQ⟩
      rw [HXX.out, List.take_add_one, HSM.out, Option.toList_some, List.flatMap_append, List.flatMap_cons, List.flatMap_nil, List.append_nil, ← List.append_assoc]
     case measure =>
      have hw : wrap64 ((i : Int) + 1) = ((i + 1 : Nat) : Int) := by have := HIB.out; unfold wrap64; omega
      rw [hw]
      show NS.length - ((i + 1 : Nat) : Int).toNat < NS.length - ((i : Nat) : Int).toNat
      rw [Int.toNat_natCast, Int.toNat_natCast]
      omega
    ·obtain rfl : i = NS.length := by omega
     have hxx := HXX.out
     rw [List.take_length] at hxx
     clear HXX hil
     have HXX := Aside0.mk hxx
     clear hxx
     have HLM2 : Aside0 ((X.length + X4.length) * 1 ≤ 140737488355328 ∧ ((X ++ X4).length + X5.length) * 1 ≤ 140737488355328 ∧ ((X ++ X4 ++ X5).length + X6.length) * 1 ≤ 140737488355328 ∧ ((X ++ X4 ++ X5 ++ X6).length + TX.length) * 1 ≤ 140737488355328) := ⟨by
      have h1 := HLB.out
      rw [HXX.out]
      simp only [List.length_append]
      omega⟩
     go_upto_region 27 with (first | (go_at_call 34; refine (stemmaref03_Runs.calls B3 b3 K2 X4 _ (Kd.C_below (Kd.R_reads' S.out.r3).2.2 HBQ.out) (Kd.R_reads' S.out.r3).2.1 F4.out).mono ?_; rintro e_ w14 ⟨v_4, rfl, ho, hb⟩; obtain ⟨A_4, c_4, e_4⟩ := Kd.R_slice ho; subst e_4; have HR_4 := Aside0.mk (Kd.R_reads' ho).2.2; have HQ_ := Aside0.mk (Kd.R_below HQ.out hb); have HBQ_ := Aside0.mk (below_step HBQ.out hb); clear HQ HBQ; have HQ := HQ_; have HBQ := HBQ_; clear HQ_ HBQ_ ho hb) | (go_at_call 36; refine (stemmaref03_Deltas.calls 300 B4 b4 K3 X5 _ (Kd.C_below (Kd.R_reads' S.out.r4).2.2 HBQ.out) (Kd.R_reads' S.out.r4).2.1 F5.out).mono ?_; rintro e_ w15 ⟨v_5, rfl, ho, hb⟩; obtain ⟨A_5, c_5, e_5⟩ := Kd.R_slice ho; subst e_5; have HR_5 := Aside0.mk (Kd.R_reads' ho).2.2; have HQ_ := Aside0.mk (Kd.R_below HQ.out hb); have HBQ_ := Aside0.mk (below_step HBQ.out hb); clear HQ HBQ; have HQ := HQ_; have HBQ := HBQ_; clear HQ_ HBQ_ ho hb) | ((with_reducible refine gate_builtin (b := .append) (xs := #[.tmp 96, .tmp 98]) rfl ?_); at_builtin; refine Kd.R_append_rows (Kd.int .u8) (w0 := wE) wE.heap.size rfl (.tmp 96) (.tmp 98) 23 5 (.int .u8 0) 1 rfl Try.underlying23 info5 rfl (by decide) (by omega) vq (X) X4 _ _ _ (fun _ => True) (fun _ => False) rfl rfl ?aO ?aR (fun _ _ h => h) (fun _ h => h.elim) ?aF ?aB ?aS ?aL ?_; (case aR => exact HR_4.out); (case aO => exact HQ.out); (case aB => exact HBQ.out); (case aF => exact (fun _ _ => trivial)); (case aS => exact HBQ.out.size); (case aL => exact HLM2.out.1); intro v16 w16 ho hb hg hat; have HQ_ := Aside0.mk ho; have HBQ_ := Aside0.mk hb; clear HQ HBQ; have HQ := HQ_; have HBQ := HBQ_; clear HQ_ HBQ_ ho hb hg hat) | ((with_reducible refine gate_builtin (b := .append) (xs := #[.tmp 99, .tmp 101]) rfl ?_); at_builtin; refine Kd.R_append_rows (Kd.int .u8) (w0 := wE) wE.heap.size rfl (.tmp 99) (.tmp 101) 23 5 (.int .u8 0) 1 rfl Try.underlying23 info5 rfl (by decide) (by omega) v16 (X ++ X4) X5 _ _ _ (fun _ => True) (fun _ => False) rfl rfl ?aO ?aR (fun _ _ h => h) (fun _ h => h.elim) ?aF ?aB ?aS ?aL ?_; (case aR => exact HR_5.out); (case aO => exact HQ.out); (case aB => exact HBQ.out); (case aF => exact (fun _ _ => trivial)); (case aS => exact HBQ.out.size); (case aL => exact HLM2.out.2.1); intro v17 w17 ho hb hg hat; have HQ_ := Aside0.mk ho; have HBQ_ := Aside0.mk hb; clear HQ HBQ; have HQ := HQ_; have HBQ := HBQ_; clear HQ_ HBQ_ ho hb hg hat))
     go_wp2_with (first | (go_at_call 34; refine (stemmaref03_Runs.calls B5 b5 K4 X6 _ (Kd.C_below (Kd.R_reads' S.out.r5).2.2 HBQ.out) (Kd.R_reads' S.out.r5).2.1 F6.out).mono ?_; rintro e_ w18 ⟨v_6, rfl, ho, hb⟩; obtain ⟨A_6, c_6, e_6⟩ := Kd.R_slice ho; subst e_6; have HR_6 := Aside0.mk (Kd.R_reads' ho).2.2; have HQ_ := Aside0.mk (Kd.R_below HQ.out hb); have HBQ_ := Aside0.mk (below_step HBQ.out hb); clear HQ HBQ; have HQ := HQ_; have HBQ := HBQ_; clear HQ_ HBQ_ ho hb) | ((with_reducible refine gate_builtin (b := .append) (xs := #[.tmp 103, .tmp 105]) rfl ?_); at_builtin; refine Kd.R_append_rows (Kd.int .u8) (w0 := wE) wE.heap.size rfl (.tmp 103) (.tmp 105) 23 5 (.int .u8 0) 1 rfl Try.underlying23 info5 rfl (by decide) (by omega) v17 (X ++ X4 ++ X5) X6 _ _ _ (fun _ => True) (fun _ => False) rfl rfl ?aO ?aR (fun _ _ h => h) (fun _ h => h.elim) ?aF ?aB ?aS ?aL ?_; (case aR => exact HR_6.out); (case aO => exact HQ.out); (case aB => exact HBQ.out); (case aF => exact (fun _ _ => trivial)); (case aS => exact HBQ.out.size); (case aL => exact HLM2.out.2.2.1); intro v19 w19 ho hb hg hat; have HQ_ := Aside0.mk ho; have HBQ_ := Aside0.mk hb; clear HQ HBQ; have HQ := HQ_; have HBQ := HBQ_; clear HQ_ HBQ_ ho hb hg hat) | ((with_reducible refine gate_builtin (b := .append) (xs := #[.tmp 106, .tmp 107]) rfl ?_); at_builtin; refine Kd.R_append_rows (Kd.int .u8) (w0 := wE) wE.heap.size rfl (.tmp 106) (.tmp 107) 23 5 (.int .u8 0) 1 rfl Try.underlying23 info5 rfl (by decide) (by omega) v19 (X ++ X4 ++ X5 ++ X6) TX _ _ _ (fun _ => True) (fun _ => False) rfl rfl ?aO ?aR (fun _ _ h => h) (fun _ h => h.elim) ?aF ?aB ?aS ?aL ?_; (case aR => exact (Kd.C_below (Kd.R_reads' S.out.r6).2.2 HBQ.out)); (case aO => exact HQ.out); (case aB => exact HBQ.out); (case aF => exact (fun _ _ => trivial)); (case aS => exact HBQ.out.size); (case aL => exact HLM2.out.2.2.2); intro v20 w20 ho hb hg hat; have HQ_ := Aside0.mk ho; have HBQ_ := Aside0.mk hb; clear HQ HBQ; have HQ := HQ_; have HBQ := HBQ_; clear HQ_ HBQ_ ho hb hg hat))
     go_ret2
     rw [HPB.out.1, HPB.out.2, ← HXX.out]
     exact ⟨_, rfl, Kd.R_lower HQ.out S.out.bel.size, S.out.bel.trans (HBQ.out.mono S.out.bel.size)⟩
end Go.Proofs.Ytpnnjefhchppfaa.Op

set_option linter.unusedVariables false
set_option linter.unusedSimpArgs false
namespace Go.Proofs.Ytpnnjefhchppfaa.PA
open Go Go.RowKit Go.Proofs.YtpnnjefhchppfaaW.PrintWords Go.Proofs.YtpnnjefhchppfaaW.PrintLast Go.Proofs.YtpnnjefhchppfaaW.PrintMore
def namesB (l : List S33) : Bool := l.all fun o => decide (o.f1.size < 9000000000000000000)
def stemmaref07_Put.f (l : List S33) : Option (List Int × Int) := if namesB l = true then some (Op.putR l) else none
theorem stemmaref07_Put.calls (A0 : Option Addr) (c0 : Nat) (l0 : List (S33)) (r1 : List Int) (r2 : Int) (w : World) (hr0 : Kd.C k33 w A0 l0.length l0) (hc0 : l0.length ≤ c0) (h : stemmaref07_Put.f l0 = some (r1, r2)) :
    Calls Try.prog 10 #[.slice A0 l0.length c0] w fun e w' => ∃ v0_ : Value, e = .returned (.tuple #[v0_, .int .i64 r2]) ∧ Kd.R (Kd.int .u8) 5 w' w.heap.size (fun _ => True) v0_ r1 ∧ Below w.heap.size w w' := by
  unfold stemmaref07_Put.f at h
  split at h
  case isFalse => cases h
  rename_i hn
  have hK : ∀ o ∈ l0, o.f1.size < 9000000000000000000 := fun o ho => of_decide_eq_true (List.all_eq_true.1 hn o ho)
  injection h with h
  unfold Op.putR at h
  split at h
  · rename_i hl
    rw [Prod.mk.injEq] at h
    obtain ⟨rfl, rfl⟩ := h
    exact Op.RPut_long A0 c0 l0 w hl
  · rename_i hl
    rw [Prod.mk.injEq] at h
    obtain ⟨rfl, rfl⟩ := h
    exact Op.RPut_calls A0 c0 l0 w hr0 (by omega) hK
end Go.Proofs.Ytpnnjefhchppfaa.PA
namespace Go.Proofs.Ytpnnjefhchppfaa.Op
open Go Go.RowKit Go.Proofs.Ytpnnjefhchppfaa.PA
theorem RPut_eq (l : List Sop) (hK : ∀ o ∈ l, o.f1.size < 9000000000000000000) : stemmaref07_Put.f l = some (putR l) := if_pos (List.all_eq_true.2 fun o ho => decide_eq_true (hK o ho))
end Go.Proofs.Ytpnnjefhchppfaa.Op

