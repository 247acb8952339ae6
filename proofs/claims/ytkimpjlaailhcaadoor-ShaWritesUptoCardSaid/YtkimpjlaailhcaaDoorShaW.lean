/- sha.Hasher: its state, and bytes that are written. -/
import Derived.Test.YtkimpjlaailhcaaDoorShaM
import Derived.Test.YtkimpjlaailhcaaDoorMine
import Derived.StillTailTactics
import Derived.Tactics2
set_option linter.unusedVariables false
set_option linter.unusedSimpArgs false
namespace Go.Proofs.YtkimpjlaailhcaaDoor.Sha
open Go Go.RowKit Go.Proofs.YtkimpjlaailhcaaDoorW.PrintWords Go.Proofs.YtkimpjlaailhcaaDoorW.PrintLast Go.Proofs.YtkimpjlaailhcaaDoor.Ar Go.Proofs.YtkimpjlaailhcaaDoor.PA
/-- The state: eight words, what waits, how many wait, how many there were. -/
def hc (S B : List Int) (h n : Int) : List Value := nums .u32 S ++ (nums .u8 B ++ [.int .i64 h, .int .i64 n])
structure Hs (w : World) (g : Nat) (S B : List Int) (h n : Int) : Prop where
  blk : w.heap[g]? = some (.cells (hc S B h n).toArray 53 (0, 0))
  lS : S.length = 8
  lB : B.length = 64
theorem nums_len (k : IntKind) (l : List Int) : (nums k l).length = l.length := by simp [nums]
section
variable {w w' : World} {g : Nat} {S B : List Int} {h n : Int}
theorem hc_len (lS : S.length = 8) (lB : B.length = 64) : (hc S B h n).length = 74 := by simp [hc, nums_len, lS, lB]
theorem hc_held (lS : S.length = 8) (lB : B.length = 64) : (hc S B h n)[72]? = some (.int .i64 h) := by
  rw [hc, List.getElem?_append_right (by simp [nums_len, lS]), List.getElem?_append_right (by simp [nums_len, lS, lB])]; simp [nums_len, lS, lB]
theorem hc_n (lS : S.length = 8) (lB : B.length = 64) : (hc S B h n)[73]? = some (.int .i64 n) := by
  rw [hc, List.getElem?_append_right (by simp [nums_len, lS]), List.getElem?_append_right (by simp [nums_len, lS, lB])]; simp [nums_len, lS, lB]
theorem hc_setH (lS : S.length = 8) (lB : B.length = 64) (v : Int) : (hc S B h n).set 72 (.int .i64 v) = hc S B v n := by
  rw [hc, List.set_append_right _ _ (by simp [nums_len, lS]), List.set_append_right _ _ (by simp [nums_len, lS, lB])]; simp [nums_len, lS, lB, hc]
theorem hc_setN (lS : S.length = 8) (lB : B.length = 64) (v : Int) : (hc S B h n).set 73 (.int .i64 v) = hc S B h v := by
  rw [hc, List.set_append_right _ _ (by simp [nums_len, lS]), List.set_append_right _ _ (by simp [nums_len, lS, lB])]; simp [nums_len, lS, lB, hc]
theorem hc_st (lS : S.length = 8) (j : Nat) (v : Value) (hv : (nums .u32 S)[j]? = some v) : (hc S B h n)[0 + j]? = some v := by
  have := (List.getElem?_eq_some_iff.1 hv).1
  rw [hc, Nat.zero_add, List.getElem?_append_left this]; exact hv
theorem hc_wt (lS : S.length = 8) (j : Nat) (v : Value) (hv : (nums .u8 B)[j]? = some v) : (hc S B h n)[8 + j]? = some v := by
  have := (List.getElem?_eq_some_iff.1 hv).1
  rw [hc, List.getElem?_append_right (by simp [nums_len, lS])]
  simp only [nums_len, lS, Nat.add_sub_cancel_left]
  rw [List.getElem?_append_left this]; exact hv
theorem hc_putS (lS : S.length = 8) (S' : List Int) (lS' : S'.length = 8) : splice (hc S B h n) 0 (nums .u32 S') = hc S' B h n := by
  simp [splice, hc, nums_len, lS', List.drop_append, lS]
theorem nums_splice (k : IntKind) (L : List Int) (o : Nat) (cs : List Int) : nums k (splice L o cs) = splice (nums k L) o (nums k cs) := by
  simp [nums, splice, List.map_take, List.map_drop]
theorem hc_putB (lS : S.length = 8) (o : Nat) (cs : List Int) (ho : o + cs.length ≤ B.length) : splice (hc S B h n) (8 + o) (nums .u8 cs) = hc S (splice B o cs) h n := by
  have h1 : (nums .u32 S).length = 8 := by rw [nums_len]; exact lS
  rw [hc, hc, nums_splice]
  simp only [splice, nums_len]
  rw [List.take_append, List.take_of_length_le (by omega : (nums .u32 S).length ≤ 8 + o), h1, show 8 + o - 8 = o by omega, List.take_append_of_le_length (by rw [nums_len]; omega),
    List.drop_append, List.drop_eq_nil_of_le (by omega : (nums .u32 S).length ≤ 8 + o + cs.length), h1, show 8 + o + cs.length - 8 = o + cs.length by omega, List.drop_append_of_le_length (by rw [nums_len]; omega)]
  simp [List.append_assoc]
theorem Hs.held (a : Hs w g S B h n) : w.cell? ⟨g, 72, none⟩ = some (.int .i64 h) := (blk_cell a.blk 72).trans (by rw [List.getElem?_toArray]; exact hc_held a.lS a.lB)
theorem Hs.num (a : Hs w g S B h n) : w.cell? ⟨g, 73, none⟩ = some (.int .i64 n) := (blk_cell a.blk 73).trans (by rw [List.getElem?_toArray]; exact hc_n a.lS a.lB)
theorem Hs.setH (a : Hs w g S B h n) (v : Int) : Hs (w.setCell ⟨g, 72, none⟩ (.int .i64 v)) g S B v n :=
  ⟨blk_put a.blk 72 _ (by rw [List.setIfInBounds_toArray, hc_setH a.lS a.lB]), a.lS, a.lB⟩
theorem Hs.setN (a : Hs w g S B h n) (v : Int) : Hs (w.setCell ⟨g, 73, none⟩ (.int .i64 v)) g S B h v :=
  ⟨blk_put a.blk 73 _ (by rw [List.setIfInBounds_toArray, hc_setN a.lS a.lB]), a.lS, a.lB⟩
theorem Hs.below (a : Hs w g S B h n) (hb : Below w.heap.size w w') : Hs w' g S B h n := ⟨blk_below a.blk hb, a.lS, a.lB⟩
theorem Hs.drewN (a : Hs w g S B h n) (m : Nat) : Hs (w.drewN m) g S B h n := a.below (pw_below_drewN (Below.refl _ _) m)
theorem Hs.at_ {m : Nat} (a : Hs w g S B h n) (hq : w.drewN m = w') : Hs w' g S B h n := hq ▸ a.drewN m
theorem Hs.lt (a : Hs w g S B h n) : g < w.heap.size := blk_lt a.blk
theorem Hs.rowB (a : Hs w g S B h n) (o : Nat) (cs : List Int) (ho : o + cs.length ≤ 64) : Hs (w.setRow g (splice (hc S B h n) (8 + o) (nums .u8 cs)).toArray) g S (splice B o cs) h n :=
  ⟨by rw [hc_putB a.lS o cs (by rw [a.lB]; exact ho)]; exact Ar.blk_row a.blk _, a.lS, by rw [length_splice _ _ _ (by rw [a.lB]; exact ho)]; exact a.lB⟩
theorem Hs.rowS (a : Hs w g S B h n) (S' : List Int) (lS' : S'.length = 8) : Hs (w.setRow g (splice (hc S B h n) 0 (nums .u32 S')).toArray) g S' B h n :=
  ⟨by rw [hc_putS a.lS S' lS']; exact Ar.blk_row a.blk _, lS', a.lB⟩
end
theorem gr_set {w w' : World} {g : Nat} (h : w.grownBy w' (some g)) (i : Nat) (v : Value) : w.grownBy (w'.setCell ⟨g, i, none⟩ v) (some g) :=
  ⟨h.os, h.tape, h.output, by simp [World.setCell]; exact h.size, fun k hk hne => (heap_setCell_other _ _ _ _ (by rintro rfl; exact hne rfl)).trans (h.block k hk hne)⟩
theorem gr_row {w w' : World} {g : Nat} (h : w.grownBy w' (some g)) (cs : Array Value) : w.grownBy (w'.setRow g cs) (some g) :=
  ⟨h.os, h.tape, h.output, by simp; exact h.size, fun k hk hne => (setRow_other _ _ _ _ (by rintro rfl; exact hne rfl)).trans (h.block k hk hne)⟩
theorem gr_below {w w1 w2 : World} {g : Nat} (h : w.grownBy w1 (some g)) (hb : Below w1.heap.size w1 w2) : w.grownBy w2 (some g) :=
  ⟨hb.os.trans h.os, hb.tape.trans h.tape, hb.output.trans h.output, Nat.le_trans h.size hb.size, fun k hk hne => (hb.block k (Nat.lt_of_lt_of_le hk h.size)).trans (h.block k hk hne)⟩
theorem gr_at {w w1 w2 : World} {g n : Nat} (h : w.grownBy w1 (some g)) (hq : w1.drewN n = w2) : w.grownBy w2 (some g) := hq ▸ gr_below h (pw_below_drewN (Below.refl _ _) n)
theorem gl_grown {w w' : World} {g : Nat} (h : Gl w) (hg : w.grownBy w' (some g)) (h0 : g ≠ 0) (h1 : g ≠ 1) : Gl w' :=
  ⟨fun i hi => hg.cell (h.r i hi) (fun e => h1 (by injection e with e; exact e.symm)), fun i hi => hg.cell (h.b i hi) (fun e => h0 (by injection e with e; exact e.symm))⟩
/-- One byte written. -/
def fd1 (x : List Int × List Int × Nat) (b : Int) : List Int × List Int × Nat :=
  if x.2.2 + 1 = 64 then (mixF x.1 (x.2.1.set x.2.2 b), x.2.1.set x.2.2 b, 0) else (x.1, x.2.1.set x.2.2 b, x.2.2 + 1)
def feed (x : List Int × List Int × Nat) (l : List Int) : List Int × List Int × Nat := l.foldl fd1 x
theorem splice_cons (B : List Int) (h : Nat) (b : Int) (t : List Int) (hh : h + t.length < B.length) : splice (B.set h b) (h + 1) t = splice B h (b :: t) := by
  have hlt : h < B.length := by omega
  have hm : (B.take h).length = h := by rw [List.length_take]; omega
  have e1 : (B.take h ++ b :: B.drop (h + 1)).take (h + 1) = B.take h ++ [b] := by
    rw [List.take_append, hm, List.take_of_length_le (by omega : (B.take h).length ≤ h + 1), show h + 1 - h = 1 by omega]; rfl
  have e2 : (B.take h ++ b :: B.drop (h + 1)).drop (h + 1 + t.length) = B.drop (h + (t.length + 1)) := by
    rw [List.drop_append, hm, List.drop_eq_nil_of_le (by omega : (B.take h).length ≤ h + 1 + t.length), show h + 1 + t.length - h = t.length + 1 by omega, List.drop_succ_cons, List.drop_drop, List.nil_append]
    congr 1; omega
  rw [List.set_eq_take_append_cons_drop, if_pos hlt, splice, splice, e1, e2, List.length_cons]
  simp
theorem feed_chunk (S : List Int) : ∀ (cs B : List Int) (h : Nat), cs ≠ [] → B.length = 64 → h + cs.length ≤ 64 →
    feed (S, B, h) cs = if h + cs.length = 64 then (mixF S (splice B h cs), splice B h cs, 0) else (S, splice B h cs, h + cs.length)
  | [], _, _, h0, _, _ => absurd rfl h0
  | [b], B, h, _, hB, hh => by
    have e : splice B h [b] = B.set h b := by
      have := splice_cons B h b [] (by simp at hh ⊢; omega)
      rw [← this]; simp [splice]
    simp only [feed, List.foldl_cons, List.foldl_nil, fd1, List.length_singleton, e]
  | b :: c :: t, B, h, _, hB, hh => by
    have hh' : h + (t.length + 2) ≤ 64 := by simpa using hh
    have ih := feed_chunk S (c :: t) (B.set h b) (h + 1) (by simp) (by rw [List.length_set]; exact hB) (by simp; omega)
    rw [feed, List.foldl_cons, fd1, if_neg (by simp; omega)]
    rw [feed] at ih
    simp only []
    rw [ih, splice_cons B h b (c :: t) (by simp; omega)]
    simp only [List.length_cons, show h + 1 + (t.length + 1) = h + (t.length + 1 + 1) by omega]
theorem feed_append (x : List Int × List Int × Nat) (a b : List Int) : feed x (a ++ b) = feed (feed x a) b := List.foldl_append
set_option maxRecDepth 100000 in
set_option maxHeartbeats 20000000 in
theorem New_calls (w : World) (hG : Gl w) : Calls Tryd.prog 13 #[] w fun e w' => e = .returned (.pointer (some ⟨w.heap.size, 0, none⟩)) ∧ Hs w' w.heap.size btab (List.replicate 64 0) 0 0 ∧ Below w.heap.size w w' := by
  have b0 := hG.b 0 (by omega)
  have b1 := hG.b 1 (by omega)
  have b2 := hG.b 2 (by omega)
  have b3 := hG.b 3 (by omega)
  have b4 := hG.b 4 (by omega)
  have b5 := hG.b 5 (by omega)
  have b6 := hG.b 6 (by omega)
  have b7 := hG.b 7 (by omega)
  clear hG
  simp only [btab, List.getD_cons_zero, List.getD_cons_succ] at b0 b1 b2 b3 b4 b5 b6 b7
  go_enter Tryd.func13, Tryd.ntmps13
  go_wp2_with (first | ((with_reducible refine gate_ (Op.build 53 #[(0, .tmp 1)]) rfl ?_); refine wpList_build_as rfl 53 _ rfl _ rfl (hc btab (List.replicate 64 0) 0 0).toArray (by kernel_rfl) ?_))
  go_ret
  exact ⟨rfl, ⟨blk_new _ _, rfl, rfl⟩, below_alloc (Below.refl _ _) _⟩
set_option maxRecDepth 100000 in
theorem Len_calls (w : World) (g : Nat) (S B : List Int) (h n : Int) (a : Hs w g S B h n) : Calls Tryd.prog 16 #[.pointer (some ⟨g, 0, none⟩)] w fun e w' => e = .returned (.int .i64 n) ∧ w' = w := by
  have c := a.num
  clear a
  go_enter Tryd.func16, Tryd.ntmps16
  go_wp2
  go_ret
  exact ⟨rfl, rfl⟩
theorem infoB : (Tryd.prog.info? 5).map (fun i => (i.zero, i.size, i.bytes)) = some (some (.int .u8 0), 1, 1) := by kernel_rfl
/-- The cut of a row, from a place on. -/
theorem cut_of {A : Option Addr} {c : Nat} {l : List Int} (hl : l.length ≤ c) (u : Nat) (hu : u ≤ l.length) : ∃ A', (∀ W : World, (Instr.slice 22 (.slice A l.length c) (some (.int .i64 (u : Int))) none none).run Tryd.prog W = .ok (.slice A' (l.length - u) (c - u)) W) ∧
    (∀ W, Kd.C (Kd.int .u8) W A l.length l → Kd.C (Kd.int .u8) W A' (l.drop u).length (l.drop u)) ∧ (l.drop u).length ≤ c - u := by
  obtain ⟨i0, hi0, _, hsz, _⟩ := info_parts infoB
  obtain ⟨A', h1, h2, h3⟩ := print_drop_of (P := Tryd.prog) (Value.int .u8) 0 22 5 .i64 Tryd.underlying22 hi0 hsz A c l (u : Int) (by omega) (by omega) hl
  simp only [Int.toNat_natCast, List.length_drop] at h1 h2 h3
  exact ⟨A', h1, fun W hC => by rw [List.length_drop]; exact Kd.C_of_reads (h1 := fun _ => rfl) (h2 W (Kd.reads_of_C hC)), by rw [List.length_drop]; exact h3⟩
/-- The loop's state: what is left, and the state that has come of what was before. -/
def WRel (w : World) (g : Nat) (Pf : Nat → Prop) (F : List Int × List Int × Nat) (n : Int) (v : Value) (wr : World) : Prop :=
  ∃ A c l S B h, v = .slice A l.length c ∧ l.length ≤ c ∧ Kd.F (Kd.int .u8) wr Pf A l.length l ∧ Hs wr g S B (h : Nat) n ∧ h < 64 ∧ feed (S, B, h) l = F ∧ w.grownBy wr (some g)
def sLen : Value → Nat
  | .slice _ n _ => n
  | _ => 0
set_option maxRecDepth 100000 in
set_option maxHeartbeats 20000000 in
theorem Write_calls (w : World) (g : Nat) (S B : List Int) (h : Nat) (n : Nat) (hh : h < 64) (Pf : Nat → Prop) (hPf : ∀ k, Pf k → k ≠ g) (A : Option Addr) (c : Nat) (l : List Int) (hlc : l.length ≤ c) (hr : Kd.F (Kd.int .u8) w Pf A l.length l)
    (a : Hs w g S B h n) (hG : Gl w) (hg0 : g ≠ 0 ∧ g ≠ 1) (hn : n + l.length < 9223372036854775808) :
    Calls Tryd.prog 14 #[.pointer (some ⟨g, 0, none⟩), .slice A l.length c] w fun e w' => e = .returned (.tuple #[]) ∧ w.grownBy w' (some g) ∧ Hs w' g (feed (S, B, h) l).1 (feed (S, B, h) l).2.1 ((feed (S, B, h) l).2.2 : Nat) (n + l.length : Nat) := by
  have c73 := a.num
  have f73 := blk_frozen a.blk 73
  have ha := a.setN (n + l.length : Nat)
  have hF := Kd.F_far (p := ⟨g, 73, none⟩) hr (fun k hk => hPf k hk) (.int .i64 ((n + l.length : Nat) : Int))
  have hgr := gr_set (World.grownBy.refl w (some g)) 73 (.int .i64 ((n + l.length : Nat) : Int))
  have HW : Aside0 (WRel w g Pf (feed (S, B, h) l) (n + l.length : Nat) (.slice A l.length c) (w.setCell ⟨g, 73, none⟩ (.int .i64 ((n + l.length : Nat) : Int)))) := ⟨A, c, l, S, B, h, rfl, hlc, hF, ha, hh, rfl, hgr⟩
  have hn1 : (n : Int) + (l.length : Int) < 9223372036854775808 := by omega
  have HG := Aside0.mk hG
  obtain ⟨F, hFe⟩ : ∃ F, feed (S, B, h) l = F := ⟨_, rfl⟩
  rw [hFe] at HW ⊢
  simp only [Int.natCast_add] at HW
  have HPF := Aside0.mk hPf
  have HG0 := Aside0.mk hg0
  clear hr a hG ha hF hgr hFe hlc hn hPf hg0
  go_enter Tryd.func14, Tryd.ntmps14
  go_wp2
  go_loopw [1] (fun v wr => WRel w g Pf F ((n : Int) + (l.length : Int)) v wr) (fun v _ => sLen v)
  case atStart => exact HW.out
  case round =>
    clear HW
    obtain ⟨A1, c1, l1, S1, B1, h1, rfl, hlc, hF, ha, hh1, hfd, hgr⟩ := hrel
    by_cases h0 : l1.length = 0
    · have hl0 : l1 = [] := List.eq_nil_of_length_eq_zero h0
      have p0 : (0 < l1.length) = False := by rw [h0]; simp
      have HA := Aside0.mk ha
      have HGR := Aside0.mk hgr
      have HFD : Aside0 ((S1, B1, h1) = F) := ⟨by rw [← hfd, hl0]; rfl⟩
      clear c73 f73
      clear hF ha hgr hfd hlc h0 hl0
      go_wp2
      go_end0
      exact ⟨rfl, HGR.out, by rw [← HFD.out, Int.natCast_add]; exact HA.out⟩
    · obtain ⟨k, hk⟩ : ∃ k, k = Nat.min l1.length (64 - h1) := ⟨_, rfl⟩
      have k0 : 0 < k := by have : Nat.min l1.length (64 - h1) = min l1.length (64 - h1) := rfl; omega
      have k1 : k ≤ l1.length := by have : Nat.min l1.length (64 - h1) = min l1.length (64 - h1) := rfl; omega
      have k2 : h1 + k ≤ 64 := by have : Nat.min l1.length (64 - h1) = min l1.length (64 - h1) := rfl; omega
      have hlen : (l1.take k).length = k := by rw [List.length_take]; omega
      obtain ⟨ad, rfl, hx0⟩ := Kd.at_int (Kd.F_now hF) 0 (by omega) (by omega)
      clear hx0
      have hsrc : ∀ (W : World), Kd.C (Kd.int .u8) W (some ad) l1.length l1 → ∀ j v, (nums .u8 (l1.take k))[j]? = some v → W.cell? (ad.add j) = some v := by
        intro W hC j v hv
        have hj : j < k := by have := (List.getElem?_eq_some_iff.1 hv).1; rw [nums_len, hlen] at this; exact this
        obtain ⟨ad', he, hc'⟩ := Kd.at_int hC (j : Int) (by omega) (by omega)
        injection he with he
        subst he
        rw [Int.toNat_natCast] at hc'
        rw [hc']
        rw [← hv]
        simp [nums, rd, List.getElem?_take, hj, List.getD_eq_getElem?_getD, show j < l1.length by omega]
      obtain ⟨A2, hcut, hC2, hc2⟩ := cut_of (A := some ad) hlc k k1
      have hfd2 : feed (feed (S1, B1, h1) (l1.take k)) (l1.drop k) = F := by rw [← feed_append, List.take_append_drop]; exact hfd
      rw [feed_chunk S1 (l1.take k) B1 h1 (by intro e; rw [e] at hlen; simp at hlen; omega) ha.lB (by omega), hlen] at hfd2
      have c72 := ha.held
      have f72 := blk_frozen ha.blk 72
      have HK := Aside0.mk hk
      have HL := Aside0.mk hlen
      have HSRC := Aside0.mk hsrc
      have HCUT := Aside0.mk hcut
      have HC2 := Aside0.mk hC2
      have HFD := Aside0.mk hfd2
      have HF := Aside0.mk hF
      have HA := Aside0.mk ha
      have HGR := Aside0.mk hgr
      have p0 : 0 < l1.length := by omega
      have q0 : (0 : Int) ≤ (h1 : Int) := by omega
      have q1 : (h1 : Int) ≤ 64 := by omega
      have q2 : (h1 : Int) < 64 := by omega
      have q3 : (64 = h1) = False := eq_false (by omega)
      have H0 := Aside0.mk h0
      have HC3 := Aside0.mk hc2
      clear hc2 c73 f73 hk hlen hsrc hcut hC2 hfd2 hF ha hgr hfd hlc h0
      go_wp2
      refine wp_region_still_tail 9 (by kernel_rfl) (by kernel_rfl) ?_
      generalize hwd : (⟨wr.heap, wr.tape, wr.drawn + 1, wr.os, wr.output⟩ : World) = wd
      have hwd' : wr.drewN 1 = wd := hwd
      have HA := Aside0.mk (HA.out.at_ hwd')
      have HF := Aside0.mk (Kd.F_at hwd' HF.out)
      have HGR := Aside0.mk (gr_at HGR.out hwd')
      have c72 := cell_at hwd' c72
      clear hwd' hwd f72
      simp only [List.take_succ_cons, List.take_zero, List.drop_succ_cons, List.drop_zero]
      repeat (refine wpStill_step (fun K hK => ?_); go_simp; (refine hK _ ?_; clear hK K))
      refine wpStill_nil ?_
      refine wpList_copy_own rfl (.tmp 26) (.tmp 27) 22 22 rfl 5 Tryd.underlying22 (by kernel_rfl) g (8 + h1) (64 - h1) (64 - h1) ad l1.length c1 rfl rfl (hc S1 B1 h1 _).toArray _ HA.out.blk (nums .u8 (l1.take k)) (by rw [nums_len, HL.out]; exact HK.out) (HSRC.out wd (Kd.F_now HF.out)) (by rw [nums_len, HL.out, List.size_toArray, hc_len HA.out.lS HA.out.lB]; omega) (fun v hv => by obtain ⟨x, _, rfl⟩ := List.mem_map.1 hv; rfl) ?_
      have hrow := HA.out.rowB h1 (l1.take k) (by rw [HL.out]; exact k2)
      have hgr := gr_row HGR.out (splice (hc S1 B1 h1 ((n : Int) + (l.length : Int))) (8 + h1) (nums .u8 (l1.take k))).toArray
      have hF := Kd.F_step HF.out (W1 := wd.setRow g (splice (hc S1 B1 h1 ((n : Int) + (l.length : Int))) (8 + h1) (nums .u8 (l1.take k))).toArray) (fun k hk _ => setRow_other _ _ _ _ (HPF.out k hk))
      have e26 : (nums .u8 (l1.take k)).length = k := by rw [nums_len, HL.out]
      obtain ⟨w2, hw2⟩ : ∃ w2, wd.setRow g (splice (hc S1 B1 h1 ((n : Int) + (l.length : Int))) (8 + h1) (nums .u8 (l1.take k))).toArray = w2 := ⟨_, rfl⟩
      rw [hw2] at hrow hgr hF
      change wpList _ _ _ _ _ (wd.setRow g (splice (hc S1 B1 h1 ((n : Int) + (l.length : Int))) (8 + h1) (nums .u8 (l1.take k))).toArray)
      rw [hw2, e26]
      have c72 := hrow.held
      have f72 := blk_frozen hrow.blk 72
      have x2 : (h1 : Int) + (k : Int) ≤ 64 := by omega
      by_cases e64 : h1 + k = 64
      · have hcut := HCUT.out
        have H3 := Aside0.mk (hrow.setH ((h1 : Int) + (k : Int)))
        have G3 := Aside0.mk (gr_set hgr 72 (.int .i64 ((h1 : Int) + (k : Int))))
        have F3 := Aside0.mk (Kd.F_imp (Kd.F_far (p := ⟨g, 72, none⟩) hF (fun k hk => HPF.out k hk) (.int .i64 ((h1 : Int) + (k : Int)))) HC2.out)
        have x3 : ((h1 : Int) + (k : Int) == 64) = true := by simp; omega
        have E64 := Aside0.mk e64
        obtain ⟨Bn, hBn⟩ : ∃ Bn, splice B1 h1 (l1.take k) = Bn := ⟨_, rfl⟩
        rw [hBn] at H3
        have HBN := Aside0.mk hBn
        clear hrow hgr hF hw2 HCUT e26 e64 hBn
        go_wp2
        obtain ⟨w3, hw3⟩ : ∃ w3, w2.setCell ⟨g, 72, none⟩ (.int .i64 ((h1 : Int) + (k : Int))) = w3 := ⟨_, rfl⟩
        rw [hw3] at H3 G3 F3 ⊢
        clear hw3 c72 f72
        -- [region 7
        refine start_ (n := 13) (S := fun w' => Hs w' g S1 Bn ((h1 : Int) + (k : Int)) ((n : Int) + (l.length : Int))) (ds := [12]) #[false, false, false, false, false, false, false, false, false, false, false, false, false] (by kernel_rfl) rfl rfl (H3.out.drewN 1) (fun hHeld => ?_)
        have F4 := Aside0.mk (Kd.F_drew F3.out)
        have G4 := Aside0.mk (gr_at G3.out (n := 1) rfl)
        generalize hwd : w3.drewN 1 = w4 at G4
        have hwd2 : w3.drew = w4 := hwd
        rw [hwd2] at hHeld F4 ⊢
        clear hwd hwd2 H3 F3 G3
        refine pure_ (i := 0) (N := some 45) (v := ?_) (a' := ?_) #[true, false, false, false, false, false, false, false, false, false, false, false, false] rfl rfl (by kernel_rfl) (fun _ _ _ h => h) (Or.inl ⟨by rfl, ?_⟩) ?_ ?_
        rotate_left
        · intro w'
          go_simp
          with_reducible rfl
        rotate_left
        · simp only [Act.put, List.setIfInBounds_toArray, List.set_cons_zero, List.set_cons_succ, i64_w, i32_w]
          rfl
        refine pure_ (i := 1) (N := some 46) (v := ?_) (a' := ?_) #[true, true, false, false, false, false, false, false, false, false, false, false, false] rfl rfl (by kernel_rfl) (fun _ _ _ h => h) (Or.inl ⟨by rfl, ?_⟩) ?_ ?_
        rotate_left
        · intro w'
          go_simp
          with_reducible rfl
        rotate_left
        · simp only [Act.put, List.setIfInBounds_toArray, List.set_cons_zero, List.set_cons_succ, i64_w, i32_w]
          rfl
        refine pure_ (i := 2) (N := some 47) (v := ?_) (a' := ?_) #[true, true, true, false, false, false, false, false, false, false, false, false, false] rfl rfl (by kernel_rfl) (fun _ _ _ h => h) (Or.inl ⟨by rfl, ?_⟩) ?_ ?_
        rotate_left
        · intro w'
          go_simp
          with_reducible rfl
        rotate_left
        · simp only [Act.put, List.setIfInBounds_toArray, List.set_cons_zero, List.set_cons_succ, i64_w, i32_w]
          rfl
        refine pure_ (i := 3) (N := some 48) (v := ?_) (a' := ?_) #[true, true, true, true, false, false, false, false, false, false, false, false, false] rfl rfl (by kernel_rfl) (fun _ _ _ h => h) (Or.inl ⟨by rfl, ?_⟩) ?_ ?_
        rotate_left
        · intro w'
          go_simp
          with_reducible rfl
        rotate_left
        · simp only [Act.put, List.setIfInBounds_toArray, List.set_cons_zero, List.set_cons_succ, i64_w, i32_w]
          rfl
        refine take_ (i := 4) (N := some 49) (v := .agg (nums .u32 S1).toArray) (a' := ?_) #[true, true, true, true, true, false, false, false, false, false, false, false, false] rfl rfl (by kernel_rfl) (fun _ _ _ h => h) (yieldsIf_load_mid (by rfl) 47 (.tmp 48) rfl g 0 rfl (nums .u32 S1) _ (fun w' hS j v hv => (blk_cell hS.blk (0 + j)).trans (by rw [List.getElem?_toArray]; exact hc_st hS.lS j v hv)) Tryd.underlying47 rfl (by rw [nums_len, hHeld.lS]; kernel_rfl)) hHeld ?_ ?_
        rotate_left
        · simp only [Act.put, List.setIfInBounds_toArray, List.set_cons_zero, List.set_cons_succ, i64_w, i32_w]
          rfl
        refine pure_ (i := 5) (N := some 50) (v := ?_) (a' := ?_) #[true, true, true, true, true, true, false, false, false, false, false, false, false] rfl rfl (by kernel_rfl) (fun _ _ _ h => h) (Or.inl ⟨by rfl, ?_⟩) ?_ ?_
        rotate_left
        · intro w'
          go_simp
          with_reducible rfl
        rotate_left
        · simp only [Act.put, List.setIfInBounds_toArray, List.set_cons_zero, List.set_cons_succ, i64_w, i32_w]
          rfl
        refine pure_ (i := 6) (N := some 51) (v := ?_) (a' := ?_) #[true, true, true, true, true, true, true, false, false, false, false, false, false] rfl rfl (by kernel_rfl) (fun _ _ _ h => h) (Or.inl ⟨by rfl, ?_⟩) ?_ ?_
        rotate_left
        · intro w'
          go_simp
          with_reducible rfl
        rotate_left
        · simp only [Act.put, List.setIfInBounds_toArray, List.set_cons_zero, List.set_cons_succ, i64_w, i32_w]
          rfl
        refine pure_ (i := 7) (N := some 52) (v := ?_) (a' := ?_) #[true, true, true, true, true, true, true, true, false, false, false, false, false] rfl rfl (by kernel_rfl) (fun _ _ _ h => h) (Or.inl ⟨by rfl, ?_⟩) ?_ ?_
        rotate_left
        · intro w'
          go_simp
          with_reducible rfl
        rotate_left
        · simp only [Act.put, List.setIfInBounds_toArray, List.set_cons_zero, List.set_cons_succ, i64_w, i32_w]
          rfl
        refine take_ (i := 8) (N := some 53) (v := .agg (nums .u8 Bn).toArray) (a' := ?_) #[true, true, true, true, true, true, true, true, true, false, false, false, false] rfl rfl (by kernel_rfl) (fun _ _ _ h => h) (yieldsIf_load_mid (by rfl) 51 (.tmp 52) rfl g 8 rfl (nums .u8 Bn) _ (fun w' hS j v hv => (blk_cell hS.blk (8 + j)).trans (by rw [List.getElem?_toArray]; exact hc_wt hS.lS j v hv)) Tryd.underlying51 rfl (by rw [nums_len, hHeld.lB]; kernel_rfl)) hHeld ?_ ?_
        rotate_left
        · simp only [Act.put, List.setIfInBounds_toArray, List.set_cons_zero, List.set_cons_succ, i64_w, i32_w]
          rfl
        refine one_ (i := 9) (N := some 54) #[true, true, true, true, true, true, true, true, true, true, false, false, false] rfl rfl (by kernel_rfl) (by decide) (fun K hK => ?_)
        refine goes_ Tryd.func25 (by kernel_rfl) rfl #[.agg (ns .u32 S1), .agg (ns .u8 Bn)] (by rfl) rfl rfl (by (try simp only [List.map_toArray, List.map_cons, List.map_nil]); rfl) ?_
        refine (mix_calls S1 Bn hHeld.lS hHeld.lB w4 (gl_grown HG.out G4.out HG0.out.1 HG0.out.2)).mono ?_
        rintro e w5 ⟨rfl, hb5⟩
        refine ⟨_, rfl, ?_⟩
        have H5 := hHeld.below hb5
        have F5 := Aside0.mk (Kd.F_below F4.out hb5)
        have G5 := Aside0.mk (gr_below G4.out hb5)
        clear hb5 F4 G4 hHeld
        refine hK.out _ _ H5 (fun hHeld => ?_)
        clear hK K H5
        refine norm_ (a' := ?_) ?_ ?_
        rotate_left
        · show Act.put _ (some 54) _ = _
          simp only [Act.put, List.setIfInBounds_toArray, List.set_cons_zero, List.set_cons_succ, i64_w, i32_w]
          rfl
        refine pure_ (i := 10) (N := some 55) (v := ?_) (a' := ?_) #[true, true, true, true, true, true, true, true, true, true, true, false, false] rfl rfl (by kernel_rfl) (fun _ _ _ h => h) (Or.inl ⟨by rfl, ?_⟩) ?_ ?_
        rotate_left
        · intro w'
          go_simp
          with_reducible rfl
        rotate_left
        · simp only [Act.put, List.setIfInBounds_toArray, List.set_cons_zero, List.set_cons_succ, i64_w, i32_w]
          rfl
        refine pure_ (i := 11) (N := some 56) (v := ?_) (a' := ?_) #[true, true, true, true, true, true, true, true, true, true, true, true, false] rfl rfl (by kernel_rfl) (fun _ _ _ h => h) (Or.inl ⟨by rfl, ?_⟩) ?_ ?_
        rotate_left
        · intro w'
          go_simp
          with_reducible rfl
        rotate_left
        · simp only [Act.put, List.setIfInBounds_toArray, List.set_cons_zero, List.set_cons_succ, i64_w, i32_w]
          rfl
        refine last_ (i := 12) (N := none) #[true, true, true, true, true, true, true, true, true, true, true, true, true] rfl rfl (by kernel_rfl) (by decide) (fun K hK => ?_)
        have hS8 : (mixF S1 Bn).length = 8 := by rw [mixF_len]; exact hHeld.lS
        rw [if_pos (by rfl)]
        refine wp_store_at 47 (.tmp 56) (.tmp 54) rfl g 0 (ns .u32 (mixF S1 Bn)) rfl rfl _ _ hHeld.blk (by rw [ns_size, hS8, List.size_toArray, hc_len hHeld.lS hHeld.lB]; omega) (by rw [ns_size, hS8]; kernel_rfl) (ns_one _ _) ?_
        have H6 := Aside0.mk (hHeld.rowS (mixF S1 Bn) hS8)
        have G6 := Aside0.mk (gr_row G5.out (splice (hc S1 Bn ((h1 : Int) + (k : Int)) ((n : Int) + (l.length : Int))) 0 (nums .u32 (mixF S1 Bn))).toArray)
        have F6 := Aside0.mk (Kd.F_step F5.out (W1 := w5.setRow g (splice (hc S1 Bn ((h1 : Int) + (k : Int)) ((n : Int) + (l.length : Int))) 0 (nums .u32 (mixF S1 Bn))).toArray) (fun k hk _ => setRow_other _ _ _ _ (HPF.out k hk)))
        rw [ns_toList]
        generalize w5.setRow g (splice (hc S1 Bn ((h1 : Int) + (k : Int)) ((n : Int) + (l.length : Int))) 0 (nums .u32 (mixF S1 Bn))).toArray = w6 at H6 G6 F6 ⊢
        clear hHeld G5 F5 hS8
        refine hK.out _ _ ?_
        clear hK K
        refine done_ (by kernel_rfl) ?_
        -- region 7]
        have c72 := H6.out.held
        have f72 := blk_frozen H6.out.blk 72
        go_wp2
        refine ⟨⟨A2, c1 - k, l1.drop k, mixF S1 Bn, Bn, 0, by rw [List.length_drop], HC3.out, Kd.F_far (p := ⟨g, 72, none⟩) F6.out (fun k hk => HPF.out k hk) _, H6.out.setH 0, by omega, by have := HFD.out; rwa [if_pos E64.out, HBN.out] at this, gr_set G6.out 72 _⟩, ?_⟩
        show l1.length - k < l1.length
        exact Nat.sub_lt p0 k0
      · have H3 := Aside0.mk (hrow.setH ((h1 : Int) + (k : Int)))
        have G3 := Aside0.mk (gr_set hgr 72 (.int .i64 ((h1 : Int) + (k : Int))))
        have F3 := Aside0.mk (Kd.F_imp (Kd.F_far (p := ⟨g, 72, none⟩) hF (fun k hk => HPF.out k hk) (.int .i64 ((h1 : Int) + (k : Int)))) HC2.out)
        have x3 : ((h1 : Int) + (k : Int) == 64) = false := by simp; omega
        have hcut := HCUT.out
        clear hrow hgr hF hw2 HCUT e26
        have E64 := Aside0.mk e64
        clear e64
        go_wp2
        refine ⟨⟨A2, c1 - k, l1.drop k, S1, splice B1 h1 (l1.take k), h1 + k, by rw [List.length_drop], HC3.out, F3.out, by have := H3.out; rwa [← Int.natCast_add] at this, by have := E64.out; omega, by have := HFD.out; rwa [if_neg E64.out] at this, G3.out⟩, ?_⟩
        show l1.length - k < l1.length
        exact Nat.sub_lt p0 k0
end Go.Proofs.YtkimpjlaailhcaaDoor.Sha
