/- Rows of cells: the document's Remove. -/
import Derived.Test.YtkcdlilglgfkaaaRgG
set_option linter.unusedVariables false
set_option linter.unusedSimpArgs false
namespace Go.Proofs.Ytkcdlilglgfkaaa.Rg
open Go Go.RowKit Go.Proofs.YtkcdlilglgfkaaaW.PrintWords Go.Proofs.YtkcdlilglgfkaaaW.PrintLast Go.Proofs.YtkcdlilglgfkaaaW.PrintMore Go.Proofs.Ytkcdlilglgfkaaa.PA Go.Proofs.Ytkcdlilglgfkaaa.Ar Go.Proofs.Ytkcdlilglgfkaaa.Sha
def r0 : Re := ⟨z0, z0, 0, false⟩
theorem zcellD : (Try.prog.info? TD).map (fun i => (i.zero, i.size, i.bytes)) = some (some (.agg (re r0).toArray), KD.sz, 88) := by kernel_rfl
theorem re0_size : (Value.agg (re r0).toArray).cells.size = KD.sz := by simp [Value.cells, re, iv, nums, KD, r0, z0]
section
variable {ops : Array Oper} {rest : List Oper} {o : Oper} {a : Act} {W w0 : World} {Q : Exit → Act → World → Prop} {Kc : Act → World → Prop} {v : Value} {L : List Re}
theorem appD_nil (hgd : o.guard = none) (s x : Operand) (ho : o.op = .call { callee := .builtin .append, args := #[s, x], argTypes := #[TDs, TDs] }) (h : OwnD W 0 v L) (hl : L.length < 100000) (hs : a.eval s = .slice none 0 0) (hx : a.eval x = v)
    (hc : ∀ v1 w1, OwnD w1 W.heap.size v1 L → Below W.heap.size W w1 → wpList Try.prog ops Q rest (a.put o.dst v1) w1) : wpList Try.prog ops Q (o :: rest) a W := by
  obtain ⟨A, c, rfl, hlc, hC⟩ := Kd.R_reads h
  exact Kd.R_append_rows KD (w0 := W) W.heap.size hgd s x TDs TD (.agg (re r0).toArray) 88 ho Try.underlying36 zcellD re0_size (by decide) (by decide) (.slice none 0 0) ([] : List Re) L A L.length c (fun _ => True) (fun _ => False) hs hx (Kd.R_nil _ _ _ _ _) hC (fun _ _ h => h) (fun _ h => h.elim) (fun _ _ => trivial) (Below.refl _ _) (Nat.le_refl _) (by simp only [List.length_nil]; omega) (fun v1 w1 h1 h2 _ _ => hc v1 w1 h1 h2)
/-- A row of the call's own grows by what stands elsewhere. -/
theorem appD_more (base : Nat) (hgd : o.guard = none) (s x : Operand) (ho : o.op = .call { callee := .builtin .append, args := #[s, x], argTypes := #[TDs, TDs] }) (M : List Re) (A : Option Addr) (m c : Nat) (h : OwnD W base v L) (hM : KD.C W A m M) (hl : L.length < 200000) (hm : m < 200000) (hs : a.eval s = v) (hx : a.eval x = .slice A m c) (hB : Below base w0 W) (hbase : base ≤ W.heap.size)
    (hc : ∀ v1 w1, OwnD w1 base v1 (L ++ M) → Below base w0 w1 → W.grownBy w1 v.ownBlock → (v1.ownBlock = v.ownBlock ∨ ∃ b, v1.ownBlock = some b ∧ W.heap.size ≤ b) → wpList Try.prog ops Q rest (a.put o.dst v1) w1) : wpList Try.prog ops Q (o :: rest) a W :=
  Kd.R_append_rows KD (w0 := w0) base hgd s x TDs TD (.agg (re r0).toArray) 88 ho Try.underlying36 zcellD re0_size (by decide) (by decide) v L M A m c (fun _ => True) (fun _ => False) hs hx h hM (fun _ _ h => h) (fun _ h => h.elim) (fun _ _ => trivial) hB hbase (by omega) hc
theorem appD_nil_step (hw : Region.wanted o (yielded ops a.tmps) = true) (s x : Operand) {N : Option Tmp} (hN : o.dst = N) (ho : o.op = .call { callee := .builtin .append, args := #[s, x], argTypes := #[TDs, TDs] }) (M : List Re) (A : Option Addr) (m c : Nat) (hM : KD.C W A m M) (hm : m < 200000) (hs : a.eval s = .slice none 0 0) (hx : a.eval x = .slice A m c)
    (hc : ∀ v1 w1, OwnD w1 W.heap.size v1 M → Below W.heap.size W w1 → Kc (a.put N v1) w1) : if Region.wanted o (yielded ops a.tmps) = true then Oper.wp Try.prog o a W Kc Q else Kc (a.put N undef) W := by
  subst hN
  exact Kd.R_append_rows_step KD (w0 := W) W.heap.size hw s x TDs TD (.agg (re r0).toArray) 88 ho Try.underlying36 zcellD re0_size (by decide) (by decide) (.slice none 0 0) ([] : List Re) M A m c (fun _ => True) (fun _ => False) hs hx (Kd.R_nil _ _ _ _ _) hM (fun _ _ h => h) (fun _ h => h.elim) (fun _ _ => trivial) (Below.refl _ _) (Nat.le_refl _) (by simp only [List.length_nil]; omega) (fun v1 w1 h1 h2 _ _ => hc v1 w1 h1 h2)
theorem appD_more_step (base : Nat) (hw : Region.wanted o (yielded ops a.tmps) = true) (s x : Operand) {N : Option Tmp} (hN : o.dst = N) (ho : o.op = .call { callee := .builtin .append, args := #[s, x], argTypes := #[TDs, TDs] }) (M : List Re) (A : Option Addr) (m c : Nat) (h : OwnD W base v L) (hM : KD.C W A m M) (hl : L.length < 200000) (hm : m < 200000) (hs : a.eval s = v) (hx : a.eval x = .slice A m c) (hB : Below base w0 W) (hbase : base ≤ W.heap.size)
    (hc : ∀ v1 w1, OwnD w1 base v1 (L ++ M) → Below base w0 w1 → Kc (a.put N v1) w1) : if Region.wanted o (yielded ops a.tmps) = true then Oper.wp Try.prog o a W Kc Q else Kc (a.put N undef) W := by
  subst hN
  exact Kd.R_append_rows_step KD (w0 := w0) base hw s x TDs TD (.agg (re r0).toArray) 88 ho Try.underlying36 zcellD re0_size (by decide) (by decide) v L M A m c (fun _ => True) (fun _ => False) hs hx h hM (fun _ _ h => h) (fun _ h => h.elim) (fun _ _ => trivial) hB hbase (by omega) (fun v1 w1 h1 h2 _ _ => hc v1 w1 h1 h2)
end
/-- Two boxes and a result's place. -/
structure B3 (w : World) (v : Value) (D : Array Value) (r : Value) (W : World) : Prop where
  bel : Below w.heap.size w W
  b0 : W.heap[w.heap.size]? = some (.cells #[v] TE (0, 0))
  b1 : W.heap[w.heap.size + 1]? = some (.cells D TF (0, 0))
  b2 : W.heap[w.heap.size + 1 + 1]? = some (.cells #[r] TE (0, 0))
theorem B3.step {w W w1 : World} {v r : Value} {D : Array Value} (h : B3 w v D r W) (hb : Below W.heap.size W w1) : B3 w v D r w1 := ⟨below_step h.bel hb, blk_below h.b0 hb, blk_below h.b1 hb, blk_below h.b2 hb⟩
theorem b3_new (w : World) (v : Value) (D : Array Value) (r : Value) : B3 w v D r (((w.alloc (.cells #[v] TE)).alloc (.cells D TF)).alloc (.cells #[r] TE)) :=
  ⟨below_alloc (below_alloc (below_alloc (Below.refl _ _) _) _) _, blk_alloc (blk_alloc (blk_new w _) _) _, blk_alloc (new_at _ _ _ (by simp)) _, new_at _ _ _ (by simp)⟩
theorem B3.gone {w W : World} {v r : Value} {D : Array Value} (h : B3 w v D r W) {g : Nat} {cur : Array Value} (hg : W.heap[g]? = some (.cells cur TD (0, 0))) (hw : w.heap.size ≤ g) (o : Nat) (u : Value) : B3 w v D r (W.setCell ⟨g, o, none⟩ u) := by
  have hn : ∀ {k : Nat} {C : Array Value} {T : TypeId}, W.heap[k]? = some (.cells C T (0, 0)) → T ≠ TD → (W.setCell ⟨g, o, none⟩ u).heap[k]? = some (.cells C T (0, 0)) := fun {k C T} hk hT => (Below.heap_setCell W ⟨g, o, none⟩ u k (fun e => by
    have e : k = g := e
    subst e
    exact hT (Ty.ne ⟨_, hk⟩ ⟨_, hg⟩))).trans hk
  exact ⟨below_cell h.bel hw, hn h.b0 (by decide), hn h.b1 (by decide), hn h.b2 (by decide)⟩
theorem B3.put0 {w W : World} {v r : Value} {D : Array Value} (h : B3 w v D r W) (u : Value) : B3 w u D r (W.setCell ⟨w.heap.size, 0, none⟩ u) :=
  ⟨below_cell h.bel (Nat.le_refl _), blk_set h.b0 0 u, (Below.heap_setCell W ⟨w.heap.size, 0, none⟩ u _ (by show _ ≠ w.heap.size; omega)).trans h.b1, (Below.heap_setCell W ⟨w.heap.size, 0, none⟩ u _ (by show _ ≠ w.heap.size; omega)).trans h.b2⟩
theorem B3.put2 {w W : World} {v r : Value} {D : Array Value} (h : B3 w v D r W) (u : Value) : B3 w v D u (W.setCell ⟨w.heap.size + 1 + 1, 0, none⟩ u) :=
  ⟨below_cell h.bel (by omega), (Below.heap_setCell W ⟨w.heap.size + 1 + 1, 0, none⟩ u _ (by show _ ≠ w.heap.size + 1 + 1; omega)).trans h.b0, (Below.heap_setCell W ⟨w.heap.size + 1 + 1, 0, none⟩ u _ (by show _ ≠ w.heap.size + 1 + 1; omega)).trans h.b1, blk_set h.b2 0 u⟩
theorem ownD_cell {w : World} {v : Value} {b : Nat} {L : List Re} (h : OwnD w b v L) {g : Nat} {C : Array Value} {T : TypeId} (hg : w.heap[g]? = some (.cells C T (0, 0))) (hT : T ≠ TD) (o : Nat) (u : Value) : OwnD (w.setCell ⟨g, o, none⟩ u) b v L :=
  Kd.R_mono (Kd.R_step (Kd.R_bound h) (fun k hb hl => Below.heap_setCell w ⟨g, o, none⟩ u k (fun e => by
    have e : k = g := e
    subst e
    obtain ⟨q, hq, cells, hc⟩ := hb.2.2.2
    have : q ∈ [TD] := hq
    rw [List.mem_singleton.1 this] at hc
    exact hT (Ty.ne ⟨_, hg⟩ ⟨_, hc⟩)))) (fun _ _ => trivial)
/-- What a Remove tells. -/
def RRem (L : List Re) (y : Idt) (L' : List Re) (c : Int) : Prop := (c = 22 ∧ L' = L ∧ ∀ x ∈ L, x.id ≠ y) ∨ (c = 0 ∧ ∃ j x, L[j]? = some x ∧ x.id = y ∧ (∀ z ∈ L.take j, z.id ≠ y) ∧ L' = L.set j (goneR x))
set_option maxRecDepth 100000 in
set_option maxHeartbeats 4000000 in
theorem RRemove_calls (w : World) (v : Value) (L : List Re) (h : OwnD w 0 v L) (hl : L.length < 100000) (y : Idt) (hy : y.2.length = 32) :
    Calls Try.prog 37 #[.agg #[v], .agg (iv y).toArray] w fun e w' => ∃ v' L' c, e = .returned (.tuple #[.agg #[v'], .int .i64 c]) ∧ OwnD w' 0 v' L' ∧ Below w.heap.size w w' ∧ RRem L y L' c := by
  have huF := Try.underlying26
  have HLY : Aside0 ((Try.prog.info? TF).map (·.size) = some (iv y).toArray.size) := ⟨by rw [List.size_toArray, iv_len hy]; exact size_ref⟩
  have HO := Aside0.mk h
  have HL := Aside0.mk hl
  have HFD := Aside0.mk (fun W (hW : OwnD W 0 v L) => Find_calls W v L hW hl y hy)
  obtain ⟨D, hD⟩ : ∃ D, (iv y).toArray = D := ⟨_, rfl⟩
  rw [hD] at HLY HFD ⊢
  have HB := Aside0.mk (b3_new w v D (.slice none 0 0))
  have HO1 : Aside0 (OwnD (((w.alloc (.cells #[v] TE)).alloc (.cells D TF)).alloc (.cells #[.slice none 0 0] TE)) 0 v L) := ⟨ownD_below h (below_alloc (below_alloc (below_alloc (Below.refl _ _) _) _) _)⟩
  clear h hl hy hD
  go_enter Try.func37, Try.ntmps37
  go_upto_region 1 with fail
  generalize (((w.alloc (.cells #[v] TE)).alloc (.cells D TF)).alloc (.cells #[.slice none 0 0] TE)) = w1 at *
  have k0 : w1.cell? ⟨w.heap.size, 0, none⟩ = some v := (blk_cell HB.out.b0 0).trans rfl
  have hb1 := Aside0.mk HB.out.b1
  go_upto_region 2 with (first | ((with_reducible refine gate_ (Op.load TF (.tmp 3)) rfl ?_); refine wpList_load_row rfl TF (.tmp 3) rfl (w.heap.size + 1) rfl _ _ _ _ hb1.out huF rfl HLY.out ?_) | (go_at_call 21; refine (HFD.out _ HO1.out).mono ?_; rintro e w2 ⟨r, rfl, hp, hb⟩; have HP := Aside0.mk hp; have HB2 := Aside0.mk (HB.out.step hb); have HO2 := Aside0.mk (ownD_below HO1.out hb); clear hp hb))
  clear k0 hb1 HB HO1 HFD
  obtain ⟨A, c, rfl, hlc, hC⟩ := Kd.R_reads HO2.out
  have k0 : w2.cell? ⟨w.heap.size, 0, none⟩ = some (.slice A L.length c) := (blk_cell HB2.out.b0 0).trans rfl
  have k2 : w2.cell? ⟨w.heap.size + 1 + 1, 0, none⟩ = some (.slice none 0 0) := (blk_cell HB2.out.b2 0).trans rfl
  have f2 : w2.frozen? ⟨w.heap.size + 1 + 1, 0, none⟩ = false := blk_frozen HB2.out.b2 _
  clear hlc hC
  rcases HP.out with ⟨rfl, hn⟩ | ⟨j, x, rfl, hj, hx, hf⟩
  · have HN := Aside0.mk hn
    clear hn HP
    go_wp2_with fail
    refine bodyPost_ret (results_ct rfl _ _ (w.heap.size + 1 + 1) TE #[.slice A L.length c] (0, 0) _ rfl (HB2.out.put2 _).b2 Try.underlying48 rfl (by kernel_rfl)) rfl ?_
    exact ⟨.slice A L.length c, L, 22, rfl, ownD_cell HO2.out HB2.out.b2 (by decide) _ _, (HB2.out.put2 _).bel, Or.inl ⟨rfl, rfl, HN.out⟩⟩
  · have HF := Aside0.mk (And.intro hj (And.intro hx hf))
    have hjl := (List.getElem?_eq_some_iff.1 hj).1
    have t0 : decide ((j : Int) < 0) = false := decide_eq_false (by omega)
    have t1 : ((j : Int) < (L.length : Int)) = True := eq_true (by omega)
    have t2 : ((0 : Int) ≤ (j : Int)) = True := eq_true (by omega)
    have hlw : w.heap.size < w2.heap.size := blk_lt HB2.out.b0
    clear hj hx hf HP k2 f2
    go_upto_region 6 with ((with_reducible refine gate_builtin (b := .append) (xs := #[.tmp 14, .tmp 16]) rfl ?_); at_builtin; refine appD_nil rfl (.tmp 14) (.tmp 16) rfl HO2.out (by have := HL.out; omega) rfl rfl ?_; intro v1 w3 ho hb; have HO3 := Aside0.mk ho; have HB3 := Aside0.mk (HB2.out.step hb); clear ho hb)
    obtain ⟨g3, c3, cur3, rfl, hbg, hg3, ht3⟩ : ∃ g3 c3 cur3, v1 = .slice (some ⟨g3, 0, none⟩) L.length c3 ∧ w2.heap.size ≤ g3 ∧ w3.heap[g3]? = some (.cells cur3 TD (0, 0)) ∧ cur3.toList.take (L.length * 68) = fr L := by
      rcases ownD_form HO3.out with ⟨_, hn⟩ | ⟨g, cap, cur, h1, h2, h3, _, _, _, h4⟩
      · rw [hn] at hjl; simp at hjl
      · exact ⟨g, cap, cur, h1, h2, h3, h4⟩
    have k3 : w3.cell? ⟨g3, j * 68 + 67, none⟩ = some (.bool x.gone) := by
      rw [blk_cell hg3]
      have hok := HO3.out.okr x (List.mem_of_getElem? HF.out.1)
      exact curD_at HO3.out.okr ht3 HF.out.1 67 _ (by rw [re, List.getElem?_append_right (by rw [iv_len hok.1]; omega), iv_len hok.1, List.getElem?_append_right (by rw [iv_len hok.2]; omega), iv_len hok.2]; rfl)
    have f3 : w3.frozen? ⟨g3, j * 68 + 67, none⟩ = false := blk_frozen hg3 _
    have HB4 := Aside0.mk (HB3.out.gone hg3 (by omega) (j * 68 + 67) (.bool true))
    have HO4 := Aside0.mk (ownD_gone HO3.out HF.out.1)
    have hsD := size_re
    clear HO3 HB3 HO2 HB2 k0 hg3 ht3 hbg hlw
    go_upto_region 7 with fail
    clear k3 f3
    generalize w3.setCell ⟨g3, j * 68 + 67, none⟩ (.bool true) = w4 at *
    have k0 : w4.cell? ⟨w.heap.size, 0, none⟩ = some (.slice A L.length c) := (blk_cell HB4.out.b0 0).trans rfl
    have f0 : w4.frozen? ⟨w.heap.size, 0, none⟩ = false := blk_frozen HB4.out.b0 _
    have HB5 := Aside0.mk (HB4.out.put0 (.slice (some ⟨g3, 0, none⟩) L.length c3))
    have HO5 := Aside0.mk (ownD_cell HO4.out HB4.out.b0 (by decide) 0 (.slice (some ⟨g3, 0, none⟩) L.length c3))
    clear HB4 HO4
    go_upto_region 8 with fail
    clear k0 f0
    generalize w4.setCell ⟨w.heap.size, 0, none⟩ (.slice (some ⟨g3, 0, none⟩) L.length c3) = w5 at *
    have k0 : w5.cell? ⟨w.heap.size, 0, none⟩ = some (.slice (some ⟨g3, 0, none⟩) L.length c3) := (blk_cell HB5.out.b0 0).trans rfl
    have k2 : w5.cell? ⟨w.heap.size + 1 + 1, 0, none⟩ = some (.slice none 0 0) := (blk_cell HB5.out.b2 0).trans rfl
    have f2 : w5.frozen? ⟨w.heap.size + 1 + 1, 0, none⟩ = false := blk_frozen HB5.out.b2 _
    go_wp2_with fail
    refine bodyPost_ret (results_ct rfl _ _ (w.heap.size + 1 + 1) TE #[.slice (some ⟨g3, 0, none⟩) L.length c3] (0, 0) _ rfl (HB5.out.put2 _).b2 Try.underlying48 rfl (by kernel_rfl)) rfl ?_
    exact ⟨_, L.set j (goneR x), 0, rfl, ownD_low (ownD_cell HO5.out HB5.out.b2 (by decide) _ _) (Nat.zero_le _), (HB5.out.put2 _).bel, Or.inr ⟨rfl, j, x, HF.out.1, HF.out.2.1, HF.out.2.2, rfl⟩⟩
end Go.Proofs.Ytkcdlilglgfkaaa.Rg
