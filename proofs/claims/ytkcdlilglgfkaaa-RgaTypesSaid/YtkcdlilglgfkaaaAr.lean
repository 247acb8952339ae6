/- Rows of numbers as lists: an array's cells, read and written; a step run again and again. -/
import Derived.Test.YtkcdlilglgfkaaaWWords
import Derived.Laws.CopyRow
import Derived.Laws.CopyOwn
import Derived.Deep.MidRow
import Derived.Deep.WholeRow
import Derived.WalkKit
import Derived.StillTailTactics
set_option linter.unusedVariables false
set_option linter.unusedSimpArgs false
namespace Go.Proofs.Ytkcdlilglgfkaaa.Ar
open Go Go.RowKit Go.Proofs.YtkcdlilglgfkaaaW.PrintWords
def ns (k : IntKind) (l : List Int) : Array Value := (l.map (Value.int k)).toArray
theorem ns_size (k : IntKind) (l : List Int) : (ns k l).size = l.length := by simp [ns]
theorem ns_toList (k : IntKind) (l : List Int) : (ns k l).toList = nums k l := by simp [ns, nums]
theorem ns_get (k : IntKind) (l : List Int) (i : Nat) (h : i < l.length) : (ns k l)[i]? = some (.int k (rd l (i : Int))) := by
  simp [ns, rd, List.getD_eq_getElem?_getD, h]
theorem ns_set (k : IntKind) (l : List Int) (i : Nat) (v : Int) : (ns k l).setIfInBounds i (.int k v) = ns k (l.set i v) := by
  simp [ns, List.map_set]
theorem ns_one (k : IntKind) (l : List Int) : (ns k l).all (·.oneCell') = true := all_oneCell_toArray (fun v hv => by
  obtain ⟨x, _, rfl⟩ := List.mem_map.1 hv
  rfl)
theorem ns_inj {k : IntKind} {a b : List Int} (h : ns k a = ns k b) : a = b := by
  have h2 := congrArg Array.toList h
  simp only [ns] at h2
  exact List.map_inj_right (fun x y e => by injection e) |>.1 h2
def it {α : Type} (f : Nat → α → α) (a : α) : Nat → α
  | 0 => a
  | k + 1 => f k (it f a k)
theorem it_len {f : Nat → List Int → List Int} {a : List Int} (h : ∀ i l, (f i l).length = l.length) : ∀ k, (it f a k).length = a.length
  | 0 => rfl
  | k + 1 => by rw [it, h, it_len h k]
theorem rd_set_same (l : List Int) (i : Nat) (v : Int) (h : i < l.length) : rd (l.set i v) (i : Int) = v := by simp [rd, List.getD_eq_getElem?_getD, h]
theorem rd_set_ne (l : List Int) (i j : Nat) (v : Int) (h : i ≠ j) : rd (l.set i v) (j : Int) = rd l (j : Int) := by simp [rd, List.getD_eq_getElem?_getD, h]
section
variable {w : World} {g : Nat} {T : TypeId} {k : IntKind} {l : List Int}
/-- A cell of a row of numbers. -/
theorem cell (h : w.heap[g]? = some (.cells (ns k l) T (0, 0))) (i : Nat) (hi : i < l.length) : w.cell? ⟨g, i, none⟩ = some (.int k (rd l (i : Int))) := (blk_cell h i).trans (ns_get k l i hi)
theorem set_ (h : w.heap[g]? = some (.cells (ns k l) T (0, 0))) (i : Nat) (v : Int) : (w.setCell ⟨g, i, none⟩ (.int k v)).heap[g]? = some (.cells (ns k (l.set i v)) T (0, 0)) := by rw [← ns_set]; exact blk_set h i _
end
section
variable {P : Program}
/-- A value of as many cells, laid into a block that is known whole, from place o on. -/
theorem run_storeVar_at (w : World) (g o : Nat) (T ty : TypeId) (cur cells : Array Value) (hg : w.heap[g]? = some (.cells cur T (0, 0))) (hl : o + cells.size ≤ cur.size) (hi : (P.info? ty).map (·.size) = some cells.size) (h1 : cells.all (·.oneCell') = true) :
    (storeVar ty ⟨g, o, none⟩ (.agg cells)).run P w = .ok () (w.setRow g (splice cur.toList o cells.toList).toArray) := by
  have := run_storeCells_at P g o T cells.toList 0 cur w hg (by simpa using hl) (fun v hv => (Array.all_eq_true_iff_forall_mem.1 h1) v (by simpa using hv))
  cases hq : P.info? ty with
  | none => simp [hq] at hi
  | some i =>
    have hs : cells.size = i.size := by simp [hq] at hi; omega
    simp only [Nat.add_zero] at this
    simp [storeVar, sizeOf, typeInfo, hq, Value.cells, hs, this, splice]
theorem wp_store_at {op : Oper} {a : Act} {w : World} {K : Act → World → Prop} {Q : Exit → Act → World → Prop} (ty : TypeId) (x y : Operand) (ho : op.op = .store ty x y)
    (g o : Nat) (cells : Array Value) (hx : a.eval x = .pointer (some ⟨g, o, none⟩)) (hy : a.eval y = .agg cells) (T : TypeId) (cur : Array Value) (hg : w.heap[g]? = some (.cells cur T (0, 0))) (hl : o + cells.size ≤ cur.size)
    (hi : (P.info? ty).map (·.size) = some cells.size) (h1 : cells.all (·.oneCell') = true)
    (h : K (a.put op.dst undef) (w.setRow g (splice cur.toList o cells.toList).toArray)) : op.wp P a w K Q := by
  unfold Oper.wp execOp
  simp only [ho, hx, hy, Instr.storeAt, Instr.sureAddr, Sem.run_bind, Sem.run_pure, Result.andThen_ok, run_storeVar_at w g o T ty cur cells hg hl hi h1]
  exact h
theorem wpList_store_at {ops : Array Oper} {rest : List Oper} {op : Oper} {a : Act} {w : World} {Q : Exit → Act → World → Prop} (hgd : op.guard = none) (ty : TypeId) (x y : Operand) (ho : op.op = .store ty x y)
    (g o : Nat) (cells : Array Value) (hx : a.eval x = .pointer (some ⟨g, o, none⟩)) (hy : a.eval y = .agg cells) (T : TypeId) (cur : Array Value) (hg : w.heap[g]? = some (.cells cur T (0, 0))) (hl : o + cells.size ≤ cur.size)
    (hi : (P.info? ty).map (·.size) = some cells.size) (h1 : cells.all (·.oneCell') = true)
    (h : wpList P ops Q rest (a.put op.dst undef) (w.setRow g (splice cur.toList o cells.toList).toArray)) : wpList P ops Q (op :: rest) a w :=
  wpList_plain hgd fun _ hK => wp_store_at ty x y ho g o cells hx hy T cur hg hl hi h1 (hK _ _ h)
/-- A value out of a block that is known whole, from place o on. -/
theorem wp_load_at {op : Oper} {a : Act} {w : World} {K : Act → World → Prop} {Q : Exit → Act → World → Prop} (ty : TypeId) (x : Operand) (ho : op.op = .load ty x)
    (g o : Nat) (hx : a.eval x = .pointer (some ⟨g, o, none⟩)) (T : TypeId) (cur : Array Value) (hg : w.heap[g]? = some (.cells cur T (0, 0))) (cs : List Value) (hc : ∀ j v, cs[j]? = some v → cur[o + j]? = some v) (d : TypeDesc)
    (hu : P.underlying ty = some d) (hd : d.isRow = true) (hi : (P.info? ty).map (·.size) = some cs.length)
    (h : K (a.put op.dst (.agg cs.toArray)) w) : op.wp P a w K Q :=
  wp_load_mid ty x ho g o hx cs d (fun j v hv => (blk_cell hg (o + j)).trans (hc j v hv)) hu hd hi h
theorem wpList_load_at {ops : Array Oper} {rest : List Oper} {op : Oper} {a : Act} {w : World} {Q : Exit → Act → World → Prop} (hgd : op.guard = none) (ty : TypeId) (x : Operand) (ho : op.op = .load ty x)
    (g o : Nat) (hx : a.eval x = .pointer (some ⟨g, o, none⟩)) (T : TypeId) (cur : Array Value) (hg : w.heap[g]? = some (.cells cur T (0, 0))) (cs : List Value) (hc : ∀ j v, cs[j]? = some v → cur[o + j]? = some v) (d : TypeDesc)
    (hu : P.underlying ty = some d) (hd : d.isRow = true) (hi : (P.info? ty).map (·.size) = some cs.length)
    (h : wpList P ops Q rest (a.put op.dst (.agg cs.toArray)) w) : wpList P ops Q (op :: rest) a w :=
  wpList_plain hgd fun _ hK => wp_load_at ty x ho g o hx T cur hg cs hc d hu hd hi (hK _ _ h)
end
/-- An element of an array that is a value. -/
theorem run_index_ns {P : Program} (T e : TypeId) (n : Nat) (hu : P.underlying T = some (.array n e)) (d : TypeDesc) (hue : P.underlying e = some d) (hd : d.isRow = false) (he : (P.info? e).map (·.size) = some 1) (k kd : IntKind) (l : List Int) (hl : l.length = n) (i : Nat) (hi : i < n) (w : World) :
    (Instr.index T (.agg (ns k l)) (.int kd (i : Int))).run P w = .ok (.int k (rd l (i : Int))) w := by
  cases hq : P.info? e with
  | none => simp [hq] at he
  | some j =>
    have hs : j.size = 1 := by simpa [hq] using he
    have hlt : ((i : Nat) : Int) < (n : Int) := by omega
    subst hl
    cases d <;> first | (simp [TypeDesc.isRow] at hd; done) | simp [Instr.index, asIntOf, run_underlying hu, hlt, sizeOf, typeInfo, hq, hs, part, ns, hi, rd, List.getD_eq_getElem?_getD, isAgg, run_underlying hue]
theorem wpList_index_ns {P : Program} {ops : Array Oper} {rest : List Oper} {o : Oper} {a : Act} {w : World} {Q : Exit → Act → World → Prop} (hgd : o.guard = none) (T e : TypeId) (x y : Operand) (ho : o.op = .index T x y) (n : Nat) (hu : P.underlying T = some (.array n e)) (d : TypeDesc) (hue : P.underlying e = some d) (hd : d.isRow = false) (he : (P.info? e).map (·.size) = some 1)
    (k kd : IntKind) (l : List Int) (i : Nat) (hx : a.eval x = .agg (ns k l)) (hy : a.eval y = .int kd (i : Int)) (hl : l.length = n) (hi : i < n)
    (h : wpList P ops Q rest (a.put o.dst (.int k (rd l (i : Int)))) w) : wpList P ops Q (o :: rest) a w :=
  wpList_plain hgd fun K hK => by
    unfold Oper.wp execOp
    simp only [ho, hx, hy, Sem.run_bind, run_index_ns T e n hu d hue hd he k kd l hl i hi w, Result.andThen_ok]
    exact hK _ _ h
/-- A value laid into the block that was made last. -/
theorem wpList_store_new {P : Program} {ops : Array Oper} {rest : List Oper} {op : Oper} {a : Act} {w : World} {Q : Exit → Act → World → Prop} (hgd : op.guard = none) (ty : TypeId) (x y : Operand) (ho : op.op = .store ty x y)
    (w0 : World) (T : TypeId) (c cells : Array Value) (hw : w = w0.alloc (.cells c T)) (hx : a.eval x = .pointer (some ⟨w0.heap.size, 0, none⟩)) (hy : a.eval y = .agg cells) (hs : cells.size = c.size)
    (hi : (P.info? ty).map (·.size) = some cells.size) (h1 : cells.all (·.oneCell') = true) (h : wpList P ops Q rest (a.put op.dst undef) (w0.alloc (.cells cells T))) : wpList P ops Q (op :: rest) a w := by
  subst hw
  refine wpList_store_at hgd ty x y ho w0.heap.size 0 cells hx hy T c (blk_new w0 _) (by omega) hi h1 ?_
  have e : splice c.toList 0 cells.toList = cells.toList := by simp [splice, hs]
  rw [e, Array.toArray_toList, World.setRow_alloc_new]
  exact h
/-- A whole array or struct, read in a head that only reads. -/
theorem wpStill_load_at {P : Program} {ops : Array Oper} {w : World} {Q : Act → Prop} {rest : List Oper} {op : Oper} {a : Act} (hgd : op.guard = none) (ty : TypeId) (x : Operand) (ho : op.op = .load ty x)
    (g o : Nat) (hx : a.eval x = .pointer (some ⟨g, o, none⟩)) (T : TypeId) (cur : Array Value) (hg : w.heap[g]? = some (.cells cur T (0, 0))) (cs : List Value) (hc : ∀ j v, cs[j]? = some v → cur[o + j]? = some v) (d : TypeDesc)
    (hu : P.underlying ty = some d) (hd : d.isRow = true) (hi : (P.info? ty).map (·.size) = some cs.length)
    (h : wpStill P ops w Q rest (a.put op.dst (.agg cs.toArray))) : wpStill P ops w Q (op :: rest) a :=
  wpStill_step fun K hK => by
    have hw : Region.wanted op (yielded ops a.tmps) = true := by simp [Region.wanted, hgd]
    rw [if_pos hw]
    unfold Oper.still execOp
    simp only [ho, hx, Instr.loadAt, Instr.sureAddr, Sem.run_bind, Sem.run_pure, Result.andThen_ok, run_loadVar_mid (P := P) w g o ty cs d (fun j v hv => (blk_cell hg (o + j)).trans (hc j v hv)) hu hd hi]
    rw [Oper.stillUpon_value]
    exact hK _ h
/-- A new variable of an array's or a struct's type. -/
theorem wpList_alloc_as {P : Program} {ops : Array Oper} {rest : List Oper} {o : Oper} {a : Act} {w : World} {Q : Exit → Act → World → Prop} (hgd : o.guard = none) (T : TypeId) (ho : o.op = .alloc T) (Z : Array Value)
    (hz : ∀ w : World, (zeroValue T).run P w = .ok (.agg Z) w) (h : wpList P ops Q rest (a.put o.dst (.pointer (some ⟨w.heap.size, 0, none⟩))) (w.alloc (.cells Z T))) : wpList P ops Q (o :: rest) a w :=
  wpList_plain hgd fun K hK => by
    have hr : (Instr.alloc T true (.tuple #[])).run P w = .ok (.pointer (some ⟨w.heap.size, 0, none⟩)) (w.alloc (.cells Z T)) := by
      unfold Instr.alloc
      rw [Sem.run_bind, hz w]
      rfl
    unfold Oper.wp execOp
    simp only [ho, Sem.run_bind, hr, Result.andThen_ok]
    exact hK _ _ h
/-- A struct or an array, built out of parts. -/
theorem wpList_build_as {P : Program} {ops : Array Oper} {rest : List Oper} {o : Oper} {a : Act} {w : World} {Q : Exit → Act → World → Prop} (hgd : o.guard = none) (t : TypeId) (parts : Array (Nat × Operand)) (ho : o.op = .build t parts)
    (ps : List (Nat × Value)) (hps : (parts.map fun (i, x) => (i, a.eval x)).toList = ps) (cells : Array Value) (hf : P.built t ps = some cells)
    (h : wpList P ops Q rest (a.put o.dst (.agg cells)) w) : wpList P ops Q (o :: rest) a w := by
  subst hps
  exact wpList_plain hgd fun K hK => wp_build t parts ho (by rw [hf]; rfl) (by rw [hf]; exact hK _ _ h)
theorem blk_row {w : World} {g : Nat} {cur : Array Value} {T : TypeId} (hg : w.heap[g]? = some (.cells cur T (0, 0))) (cs : Array Value) : (w.setRow g cs).heap[g]? = some (.cells cs T (0, 0)) := setRow_heap w g cur cs T (0, 0) hg
theorem blk_row_far {w : World} {g h : Nat} {o : Obj} (hg : w.heap[h]? = some o) (hne : h ≠ g) (cs : Array Value) : (w.setRow g cs).heap[h]? = some o := (setRow_other w g h cs hne).trans hg
theorem splice_all {α : Type} (L cs : List α) (h : cs.length = L.length) : splice L 0 cs = cs := by simp [splice, h]
end Go.Proofs.Ytkcdlilglgfkaaa.Ar
