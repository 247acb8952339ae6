/- Rows of cells: one that is not there. -/
import Derived.Test.YtkcdlilglgfkaaaRgW
set_option linter.unusedVariables false
set_option linter.unusedSimpArgs false
namespace Go.Proofs.Ytkcdlilglgfkaaa.Rg
open Go Go.RowKit Go.Proofs.YtkcdlilglgfkaaaW.PrintWords Go.Proofs.YtkcdlilglgfkaaaW.PrintLast Go.Proofs.YtkcdlilglgfkaaaW.PrintMore Go.Proofs.Ytkcdlilglgfkaaa.PA Go.Proofs.Ytkcdlilglgfkaaa.Ar Go.Proofs.Ytkcdlilglgfkaaa.Sha
theorem results_cs {P : Program} {fn : Func} {p p' : Tmp} {ty ty' : TypeId} (h : fn.results = #[.cell p ty, .cell p' ty']) (tmps : Array Value) (w : World) (g g' : Nat) (t : TypeId) (cs : Array Value) (fr : Nat × Nat) (d : TypeDesc)
    (hp : tmps.getD p undef = .pointer (some ⟨g, 0, none⟩)) (hg : w.heap[g]? = some (.cells cs t fr))
    (hu : P.underlying ty = some d) (hd : (match d with | .struct _ | .array _ _ => true | _ => false) = true) (hi : (P.info? ty).map (·.size) = some cs.size)
    (hp' : tmps.getD p' undef = .pointer (some ⟨g', 0, none⟩)) (v : Value) (hv : (loadVar ty' ⟨g', 0, none⟩).run P w = .ok v w) :
    (results fn tmps).run P w = .ok (.tuple #[.agg cs, v]) w := by
  have h1 : tmps[p]?.getD undef = .pointer (some ⟨g, 0, none⟩) := by simpa using hp
  have h2 : tmps[p']?.getD undef = .pointer (some ⟨g', 0, none⟩) := by simpa using hp'
  simp [results, h, h1, h2, asAddr, run_loadVar_row w g t ty cs fr d hg hu hd hi, hv]
theorem load_bool (w : World) (g : Nat) (v : Value) (h : w.cell? ⟨g, 0, none⟩ = some v) : (loadVar 4 ⟨g, 0, none⟩).run Try.prog w = .ok v w := by
  have hu := Try.underlying4
  simp [loadVar, isAgg, Sem.run_bind, run_underlying hu w, h]
/-- What lies there already is laid again. -/
theorem store_same {P : Program} {ops : Array Oper} {rest : List Oper} {op : Oper} {a : Act} {w : World} {Q : Exit → Act → World → Prop} (hgd : op.guard = none) (ty : TypeId) (x y : Operand) (ho : op.op = .store ty x y)
    (g : Nat) (cells : Array Value) (hx : a.eval x = .pointer (some ⟨g, 0, none⟩)) (hy : a.eval y = .agg cells) (T : TypeId) (hg : w.heap[g]? = some (.cells cells T (0, 0)))
    (hi : (P.info? ty).map (·.size) = some cells.size) (h1 : cells.all (·.oneCell') = true) (h : wpList P ops Q rest (a.put op.dst undef) w) : wpList P ops Q (op :: rest) a w := by
  refine wpList_store_at hgd ty x y ho g 0 cells hx hy T cells hg (by omega) hi h1 ?_
  rw [splice_all _ _ rfl, Array.toArray_toList, setRow_self w g cells T (0, 0) hg]
  exact h
theorem built_zero : Try.prog.built TI [] = some (iv z0).toArray := by kernel_rfl
section
variable (w : World)
set_option maxRecDepth 100000 in
set_option maxHeartbeats 4000000 in
theorem nil_Len : Calls Try.prog 30 #[.pointer none] w fun e w' => e = .returned (.int .i64 0) ∧ Below w.heap.size w w' := by
  go_enter Try.func30, Try.ntmps30
  go_wp2
  go_ret
  exact ⟨rfl, Below.refl _ _⟩
set_option maxRecDepth 100000 in
set_option maxHeartbeats 4000000 in
theorem nil_Cells : Calls Try.prog 18 #[.pointer none] w fun e w' => e = .returned (.slice none 0 0) ∧ Below w.heap.size w w' := by
  go_enter Try.func18, Try.ntmps18
  go_wp2
  go_ret
  exact ⟨rfl, Below.refl _ _⟩
set_option maxRecDepth 100000 in
set_option maxHeartbeats 4000000 in
theorem nil_Fork : Calls Try.prog 29 #[.pointer none] w fun e w' => e = .returned (.pointer none) ∧ Below w.heap.size w w' := by
  go_enter Try.func29, Try.ntmps29
  go_wp2
  go_ret
  exact ⟨rfl, Below.refl _ _⟩
set_option maxRecDepth 100000 in
set_option maxHeartbeats 4000000 in
theorem nil_Text : Calls Try.prog 26 #[.pointer none] w fun e w' => e = .returned (.slice none 0 0) ∧ Below w.heap.size w w' := by
  go_enter Try.func26, Try.ntmps26
  go_wp2
  go_ret
  exact ⟨rfl, Below.refl _ _⟩
set_option maxRecDepth 100000 in
set_option maxHeartbeats 4000000 in
theorem nil_Insert (C D : Array Value) (ch : Int) : Calls Try.prog 20 #[.pointer none, .agg C, .agg D, .int .u8 ch] w fun e w' => e = .returned (.int .i64 1) ∧ Below w.heap.size w w' := by
  go_enter Try.func20, Try.ntmps20
  go_wp2
  go_ret
  exact ⟨rfl, below_alloc (below_alloc (Below.refl _ _) _) _⟩
set_option maxRecDepth 100000 in
set_option maxHeartbeats 4000000 in
theorem nil_Remove (C : Array Value) : Calls Try.prog 27 #[.pointer none, .agg C] w fun e w' => e = .returned (.int .i64 1) ∧ Below w.heap.size w w' := by
  go_enter Try.func27, Try.ntmps27
  go_wp2
  go_ret
  exact ⟨rfl, below_alloc (Below.refl _ _) _⟩
set_option maxRecDepth 100000 in
set_option maxHeartbeats 4000000 in
theorem nil_At (n : Int) : Calls Try.prog 24 #[.pointer none, .int .i64 n] w fun e w' => e = .returned (.tuple #[.agg (iv z0).toArray, .bool false]) ∧ Below w.heap.size w w' := by
  have HZ := Aside0.mk zero_id
  have HBZ := Aside0.mk built_zero
  have huI := Try.underlying28
  have HZs : Aside0 ((Try.prog.info? TI).map (·.size) = some (iv z0).toArray.size) := ⟨size_id⟩
  have HZ1 : Aside0 (((iv z0).toArray).all (·.oneCell') = true) := ⟨iv_all z0⟩
  obtain ⟨Z, hZ⟩ : ∃ Z, (iv z0).toArray = Z := ⟨_, rfl⟩
  rw [hZ] at HZ HBZ HZs HZ1 ⊢
  clear hZ
  go_enter Try.func24, Try.ntmps24
  go_wp2_with (first | ((with_reducible refine gate_ (Op.alloc 28) rfl ?_); refine wpList_alloc_as rfl 28 rfl Z HZ.out ?_) | ((with_reducible refine gate_ (Op.build 28 #[]) rfl ?_); refine wpList_build_as rfl 28 _ rfl [] (by first | rfl | simp) Z HBZ.out ?_) | ((with_reducible refine gate_ (Op.store 28 (.tmp 4) (.tmp 10)) rfl ?_); refine store_same rfl 28 (.tmp 4) (.tmp 10) rfl (w.heap.size + 1) Z (by first | rfl | simp [Act.eval, Act.put]) (by first | rfl | simp [Act.eval, Act.put]) 28 (blk_alloc (new_at (w.alloc (.cells #[.int .i64 n] 3)) (.cells Z TI) (w.heap.size + 1) (by simp)) _) HZs.out HZ1.out ?_))
  refine bodyPost_ret (results_cs rfl _ _ (w.heap.size + 1) (w.heap.size + 1 + 1) 28 Z (0, 0) _ rfl (blk_alloc (new_at (w.alloc (.cells #[.int .i64 n] 3)) (.cells Z TI) (w.heap.size + 1) (by simp)) _) huI rfl HZs.out rfl (.bool false) (load_bool _ _ _ ?_)) rfl ?_
  · have hb := new_at ((w.alloc (.cells #[.int .i64 n] 3)).alloc (.cells Z TI)) (.cells #[.bool false] 4) (w.heap.size + 1 + 1) (by simp)
    exact (blk_cell hb 0).trans rfl
  · exact ⟨rfl, below_alloc (below_alloc (below_alloc (Below.refl _ _) _) _) _⟩
end
end Go.Proofs.Ytkcdlilglgfkaaa.Rg
