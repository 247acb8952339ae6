/- Rows of cells: while one is put. -/
import Derived.Test.YtkcdlilglgfkaaaRgR
set_option linter.unusedVariables false
set_option linter.unusedSimpArgs false
namespace Go.Proofs.Ytkcdlilglgfkaaa.Rg
open Go Go.RowKit Go.Proofs.YtkcdlilglgfkaaaW.PrintWords Go.Proofs.YtkcdlilglgfkaaaW.PrintLast Go.Proofs.YtkcdlilglgfkaaaW.PrintMore Go.Proofs.Ytkcdlilglgfkaaa.PA Go.Proofs.Ytkcdlilglgfkaaa.Ar Go.Proofs.Ytkcdlilglgfkaaa.Sha
theorem set_same {w : World} {g : Nat} {o o' : Obj} (h : w.heap[g]? = some o') : (ChangeMaps.setBlock w g o).heap[g]? = some o := by
  have hl := (Array.getElem?_eq_some_iff.1 h).1
  simp [ChangeMaps.setBlock, hl]
theorem set_other {w : World} {g k : Nat} {o : Obj} (hk : k ≠ g) : (ChangeMaps.setBlock w g o).heap[k]? = w.heap[k]? := by
  simp [ChangeMaps.setBlock, Array.getElem?_setIfInBounds]
  intro h
  exact absurd h.symm hk
theorem set_size {w : World} {g : Nat} {o : Obj} : (ChangeMaps.setBlock w g o).heap.size = w.heap.size := by simp [ChangeMaps.setBlock]
theorem below_set {B : Nat} {w w1 : World} {g : Nat} {o : Obj} (h : Below B w w1) (hB : B ≤ g) : Below B w (ChangeMaps.setBlock w1 g o) :=
  h.trans ⟨rfl, rfl, rfl, by rw [set_size]; exact Nat.le_refl _, fun k hk => set_other (by omega)⟩
theorem below_cell {B : Nat} {w w1 : World} {g o : Nat} {u : Value} (h : Below B w w1) (hB : B ≤ g) : Below B w (w1.setCell ⟨g, o, none⟩ u) :=
  h.trans ⟨rfl, rfl, rfl, by simp [World.setCell], fun k hk => Below.heap_setCell w1 ⟨g, o, none⟩ u k (by show k ≠ g; omega)⟩
/-- A block of cells of a type. -/
def Ty (w : World) (T : TypeId) (k : Nat) : Prop := ∃ cells, w.heap[k]? = some (.cells cells T (0, 0))
theorem Ty.ne {w : World} {T T' : TypeId} {k : Nat} (h : Ty w T k) (h' : Ty w T' k) : T = T' := by
  obtain ⟨c, hc⟩ := h
  obtain ⟨c', hc'⟩ := h'
  rw [hc] at hc'
  injection hc' with hc'
  injection hc' with _ hc'
section
variable {w0 w W W1 : World} {gr gm g base : Nat} {L : List Ce} {M : List Idt} {v v0 : Value} {sh : Int} {i : Idt} {X : Nat → Prop}
theorem own_step (h : Own W base v L) (hk : ∀ k, Ty W TC k → k < W.heap.size → W1.heap[k]? = W.heap[k]?) : Own W1 base v L :=
  Kd.R_mono (Kd.R_step (Kd.R_bound h) (fun k hb hl => hk k (by
    obtain ⟨q, hq, hc⟩ := hb.2.2.2
    have : q ∈ [TC] := hq
    rw [List.mem_singleton.1 this] at hc
    exact hc) hl)) (fun _ _ => trivial)
theorem own_block (h : Own W base v L) : ∀ k, v.ownBlock = some k → Ty W TC k ∧ k < W.heap.size ∧ base ≤ k := by
  rcases own_form h with ⟨rfl, rfl⟩ | ⟨gc, cap, cur, rfl, hb, hg, _⟩
  · intro k hk; simp [Value.ownBlock] at hk
  · intro k hk
    obtain rfl : gc = k := by simpa [Value.ownBlock] using hk
    exact ⟨⟨_, hg⟩, blk_lt hg, hb⟩
/-- The state between the parts of an Insert. -/
structure Mid (w0 w : World) (gr gm g : Nat) (i : Idt) (X : Nat → Prop) (L : List Ce) (M : List Idt) (v v0 : Value) (sh : Int) (W : World) : Prop where
  below : Below w0.heap.size w0 W
  pb : W.heap[gr]? = some (.cells #[v0, .map (some gm), .int .i64 sh] TR (0, 0))
  row : Own W w0.heap.size v L
  mb : W.heap[gm]? = some (.map (E 0 M).toArray M.length)
  bi : W.heap[g + 1]? = some (.cells (iv i).toArray TI (0, 0))
  kp : Kept w W X
  g0 : (w0.heap.size ≤ gr ∧ w0.heap.size ≤ gm) ∧ X gr ∧ X gm
theorem Mid.step (h : Mid w0 w gr gm g i X L M v v0 sh W) (hb : Below W.heap.size W W1) : Mid w0 w gr gm g i X L M v v0 sh W1 :=
  ⟨h.below.trans (hb.mono h.below.size), blk_below h.pb hb, Kd.R_below h.row hb, blk_below h.mb hb, blk_below h.bi hb, h.kp.below hb, h.g0⟩
theorem Mid.gmr (h : Mid w0 w gr gm g i X L M v v0 sh W) : gm ≠ gr := fun e => by
  have := h.pb
  rw [← e, h.mb] at this
  cases this
theorem Mid.gir (h : Mid w0 w gr gm g i X L M v v0 sh W) : g + 1 ≠ gr := fun e => by
  have h1 := h.bi
  rw [e] at h1
  exact absurd (Ty.ne ⟨_, h.pb⟩ ⟨_, h1⟩) (by decide)
theorem Mid.cell (h : Mid w0 w gr gm g i X L M v v0 sh W) (o : Nat) (u : Value) (cs : Array Value) (hc : (#[v0, Value.map (some gm), Value.int .i64 sh] : Array Value).setIfInBounds o u = cs) :
    Below w0.heap.size w0 (W.setCell ⟨gr, o, none⟩ u) ∧ (W.setCell ⟨gr, o, none⟩ u).heap[gr]? = some (.cells cs TR (0, 0)) ∧ Own (W.setCell ⟨gr, o, none⟩ u) w0.heap.size v L ∧ (W.setCell ⟨gr, o, none⟩ u).heap[gm]? = some (.map (E 0 M).toArray M.length) ∧ (W.setCell ⟨gr, o, none⟩ u).heap[g + 1]? = some (.cells (iv i).toArray TI (0, 0)) ∧ Kept w (W.setCell ⟨gr, o, none⟩ u) X :=
  ⟨below_cell h.below h.g0.1.1, by rw [← hc]; exact blk_set h.pb o u, own_step h.row (fun k hk _ => Below.heap_setCell W ⟨gr, o, none⟩ u k (fun e => by
    have e : k = gr := e
    subst e
    exact absurd (Ty.ne hk ⟨_, h.pb⟩) (by decide))), (Below.heap_setCell W ⟨gr, o, none⟩ u gm h.gmr).trans h.mb, (Below.heap_setCell W ⟨gr, o, none⟩ u (g + 1) h.gir).trans h.bi, h.kp.setCell (Or.inl h.g0.2.1) u⟩
theorem Mid.set0 (h : Mid w0 w gr gm g i X L M v v0 sh W) (u : Value) : Mid w0 w gr gm g i X L M v u sh (W.setCell ⟨gr, 0, none⟩ u) := by
  obtain ⟨h1, h2, h3, h4, h5, h6⟩ := h.cell 0 u _ rfl
  exact ⟨h1, h2, h3, h4, h5, h6, h.g0⟩
theorem Mid.set2 (h : Mid w0 w gr gm g i X L M v v0 sh W) (s : Int) : Mid w0 w gr gm g i X L M v v0 s (W.setCell ⟨gr, 2, none⟩ (.int .i64 s)) := by
  obtain ⟨h1, h2, h3, h4, h5, h6⟩ := h.cell 2 (.int .i64 s) _ rfl
  exact ⟨h1, h2, h3, h4, h5, h6, h.g0⟩
theorem Mid.setm (h : Mid w0 w gr gm g i X L M v v0 sh W) (M' : List Idt) : Mid w0 w gr gm g i X L M' v v0 sh (ChangeMaps.setBlock W gm (.map (E 0 M').toArray M'.length)) :=
  ⟨below_set h.below h.g0.1.2, (set_other h.gmr.symm).trans h.pb, own_step h.row (fun k hk _ => set_other (fun e => by
    subst e
    obtain ⟨c, hc⟩ := hk
    rw [h.mb] at hc
    cases hc)), set_same h.mb, (set_other (fun e => by
    have := h.bi
    rw [e, h.mb] at this
    cases this)).trans h.bi, h.kp.then_ (S2 := fun k => k = gm) ⟨by rw [set_size]; exact Nat.le_refl _, fun k _ hn => set_other hn⟩ (fun k hk => Or.inl (by rw [hk]; exact h.g0.2.2)), h.g0⟩
end
theorem bslice_run (w : World) (x : Ce) (hx : okC x) : (Instr.buildSlice TCs 1 #[(0, .agg (ce x).toArray)]).run Try.prog w = .ok (.slice (some ⟨w.heap.size, 0, none⟩) 1 1) (w.alloc (.cells (ce x).toArray TC)) := by
  have hu := Try.underlying40
  have hz := zcell
  obtain ⟨it, hq, hi⟩ := Option.map_eq_some_iff.1 hz
  simp only [Prod.mk.injEq] at hi
  obtain ⟨h1, h2, h3⟩ := hi
  have h2 : it.size = 35 := h2
  have hf : Instr.fill (fun i => some (i * 35, 35)) ((Array.range (1 * 35)).map ((Value.agg (ce c0).toArray).cells[· % (Value.agg (ce c0).toArray).cells.size]!)) [(0, .agg (ce x).toArray)] = some (ce x).toArray := by
    obtain ⟨⟨c, l⟩, ch, gn⟩ := x
    obtain ⟨a0, a1, a2, a3, a4, a5, a6, a7, a8, a9, a10, a11, a12, a13, a14, a15, a16, a17, a18, a19, a20, a21, a22, a23, a24, a25, a26, a27, a28, a29, a30, a31, rfl⟩ := l32 l hx
    kernel_rfl
  unfold Instr.buildSlice
  generalize (Value.agg (ce c0).toArray) = Z at h1 hf
  rw [Nat.one_mul] at hf
  simp [Sem.run_bind, run_underlying hu, sizeOf, zeroValue, typeInfo, hq, h1, h2, hf]
  rfl
theorem built_ce (x : Ce) (hx : okC x) : Try.prog.built TC [(0, .agg (iv x.id).toArray), (1, .int .u8 x.ch), (2, .bool x.gone)] = some (ce x).toArray := by
  obtain ⟨⟨c, l⟩, ch, gn⟩ := x
  obtain ⟨a0, a1, a2, a3, a4, a5, a6, a7, a8, a9, a10, a11, a12, a13, a14, a15, a16, a17, a18, a19, a20, a21, a22, a23, a24, a25, a26, a27, a28, a29, a30, a31, rfl⟩ := l32 l hx
  kernel_rfl
theorem exec_build {P : Program} {o : Oper} {a : Act} {w : World} (t : TypeId) (parts : Array (Nat × Operand)) (ho : o.op = .build t parts) (ps : List (Nat × Value)) (hps : (parts.map fun (i, x) => (i, a.eval x)).toList = ps) (cells : Array Value) (hf : P.built t ps = some cells) : (execOp a.eval o).run P w = .ok (.value (.agg cells)) w := by
  subst hps
  unfold execOp
  simp only [ho, Sem.run_bind, run_build w t _ cells hf, Result.andThen_ok]
  rfl
theorem exec_bslice {o : Oper} {a : Act} {w : World} (x : Ce) (hx : okC x) (y : Operand) (ho : o.op = .buildSlice TCs 1 #[(0, y)]) (hy : a.eval y = .agg (ce x).toArray) : (execOp a.eval o).run Try.prog w = .ok (.value (.slice (some ⟨w.heap.size, 0, none⟩) 1 1)) (w.alloc (.cells (ce x).toArray TC)) := by
  unfold execOp
  simp only [ho, List.map_toArray, List.map_cons, List.map_nil, hy, Sem.run_bind, bslice_run w x hx, Result.andThen_ok]
  rfl
end Go.Proofs.Ytkcdlilglgfkaaa.Rg
