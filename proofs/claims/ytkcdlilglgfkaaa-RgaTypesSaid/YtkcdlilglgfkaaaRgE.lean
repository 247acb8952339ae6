/- Rows of cells: ids held against one another; which is ahead. -/
import Derived.Test.YtkcdlilglgfkaaaRgD
import Derived.Test.YtkcdlilglgfkaaaWEqStruct
import Derived.Deep.MidRow
set_option linter.unusedVariables false
set_option linter.unusedSimpArgs false
namespace Go.Proofs.Ytkcdlilglgfkaaa.Rg
open Go Go.RowKit Go.Proofs.YtkcdlilglgfkaaaW.PrintWords Go.Proofs.YtkcdlilglgfkaaaW.PrintLast Go.Proofs.YtkcdlilglgfkaaaW.PrintMore Go.Proofs.Ytkcdlilglgfkaaa.PA Go.Proofs.Ytkcdlilglgfkaaa.Ar Go.Proofs.Ytkcdlilglgfkaaa.Sha
def eqI (x y : Idt) : Bool := (x.1 == y.1) && (x.2 == y.2)
theorem eqI_iff {x y : Idt} : eqI x y = true ↔ x = y := by
  unfold eqI
  rw [Bool.and_eq_true, beq_iff_eq, beq_iff_eq]
  exact ⟨fun h => Prod.ext h.1 h.2, fun h => by rw [h]; exact ⟨rfl, rfl⟩⟩
theorem eqI_dec (x y : Idt) : eqI x y = decide (x = y) := by
  rw [Bool.eq_iff_iff, eqI_iff, decide_eq_true_iff]
theorem part_num (w : World) (x : Idt) : (part 3 (iv x).toArray 0).run Try.prog w = .ok (.int .i64 x.1) w := by
  have hu := Try.underlying3
  simp [part, isAgg, run_underlying hu, iv]
theorem ns_arr (l : List Int) : (nums .u8 l).toArray = ns .u8 l := by rw [← ns_toList, Array.toArray_toList]
theorem part_by (w : World) (x : Idt) (h : x.2.length = 32) : (part 23 (iv x).toArray 1).run Try.prog w = .ok (.agg (ns .u8 x.2)) w := by
  have hu := Try.underlying23
  have hs : (Try.prog.info? 23).map (·.size) = some 32 := by kernel_rfl
  obtain ⟨i, hq, hi⟩ := Option.map_eq_some_iff.1 hs
  have hsz : 33 ≤ (iv x).length := by rw [iv_len h]; omega
  simp [part, isAgg, run_underlying hu, sizeOf, typeInfo, hq, hi, hsz]
  show ((nums .u8 x.2).take 32).toArray = _
  rw [List.take_of_length_le (by rw [nums_len]; omega), ns_arr]
theorem run_eqId (w : World) (x y : Idt) (hx : x.2.length = 32) (hy : y.2.length = 32) : (Op.equalIn 10000 28 (.agg (iv x).toArray) (.agg (iv y).toArray)).run Try.prog w = .ok (decide (x = y)) w := by
  rw [← eqI_dec]
  refine eqA_of (d := 9999) Try.underlying28 (by kernel_rfl) ?_
  refine eqf_cons rfl (part_num w x) (part_num w y) (run_equalIn_int w 9998 3 .i64 .i64 _ _ Try.underlying3) ?_
  exact eqf_last rfl (part_by w x hx) (part_by w y hy) (run_equalIn_ns w 9997 23 5 32 .u8 Try.underlying23 Try.underlying5 szB x.2 y.2 hx hy)
theorem run_eqRef (w : World) (x y : Idt) (hx : x.2.length = 32) (hy : y.2.length = 32) : (Op.equalIn 10000 26 (.agg (iv x).toArray) (.agg (iv y).toArray)).run Try.prog w = .ok (decide (x = y)) w := by
  rw [← eqI_dec]
  refine eqA_of (d := 9999) Try.underlying26 (by kernel_rfl) ?_
  refine eqf_cons rfl (part_num w x) (part_num w y) (run_equalIn_int w 9998 3 .i64 .i64 _ _ Try.underlying3) ?_
  exact eqf_last rfl (part_by w x hx) (part_by w y hy) (run_equalIn_ns w 9997 23 5 32 .u8 Try.underlying23 Try.underlying5 szB x.2 y.2 hx hy)
theorem size_id : (Try.prog.info? 28).map (·.size) = some 33 := by kernel_rfl
theorem size_ref : (Try.prog.info? 26).map (·.size) = some 33 := by kernel_rfl
theorem size_by : (Try.prog.info? 23).map (·.size) = some 32 := by kernel_rfl
/-- x stands ahead of y. -/
def lessI (x y : Idt) : Bool := if x.1 = y.1 then lessF x.2 y.2 else decide (x.1 < y.1)
theorem iv_by {x : Idt} (h : x.2.length = 32) (j : Nat) (v : Value) (hj : (nums .u8 x.2)[j]? = some v) : (iv x).toArray[1 + j]? = some v := by
  rw [List.getElem?_toArray, Nat.add_comm, iv, List.getElem?_cons_succ]
  exact hj
theorem load_atG {P : Program} {ops : Array Oper} {rest : List Oper} {op : Oper} {a : Act} {w : World} {Q : Exit → Act → World → Prop} (hw : Region.wanted op (yielded ops a.tmps) = true) (ty : TypeId) (x : Operand) (ho : op.op = .load ty x)
    (g o : Nat) (hx : a.eval x = .pointer (some ⟨g, o, none⟩)) (T : TypeId) (cur : Array Value) (hg : w.heap[g]? = some (.cells cur T (0, 0))) (cs : List Value) (hc : ∀ j v, cs[j]? = some v → cur[o + j]? = some v) (d : TypeDesc)
    (hu : P.underlying ty = some d) (hd : d.isRow = true) (hi : (P.info? ty).map (·.size) = some cs.length)
    (h : wpList P ops Q rest (a.put op.dst (.agg cs.toArray)) w) : wpList P ops Q (op :: rest) a w :=
  wpList_step fun K hK => by rw [if_pos hw]; exact wp_load_at ty x ho g o hx T cur hg cs hc d hu hd hi (hK _ _ h)
set_option maxRecDepth 100000 in
set_option maxHeartbeats 4000000 in
theorem LessI_calls (w : World) (x y : Idt) (hx : x.2.length = 32) (hy : y.2.length = 32) :
    Calls Try.prog 11 #[.agg (iv x).toArray, .agg (iv y).toArray] w fun e w' => e = .returned (.bool (lessI x y)) ∧ Below w.heap.size w w' := by
  have HL := Aside0.mk (fun W => Less_calls W x.2 y.2 hx hy)
  have hu := Try.underlying23
  have hbl : Below w.heap.size w ((w.alloc (.cells (iv x).toArray 28)).alloc (.cells (iv y).toArray 28)) := below_alloc (below_alloc (Below.refl _ _) _) _
  have b1 : ((w.alloc (.cells (iv x).toArray 28)).alloc (.cells (iv y).toArray 28)).heap[w.heap.size]? = some (.cells (iv x).toArray 28 (0, 0)) := blk_alloc (blk_new w _) _
  have b2 : ((w.alloc (.cells (iv x).toArray 28)).alloc (.cells (iv y).toArray 28)).heap[w.heap.size + 1]? = some (.cells (iv y).toArray 28 (0, 0)) := new_at _ _ _ (by simp)
  have hlx : (Try.prog.info? 23).map (·.size) = some (nums .u8 x.2).length := by rw [nums_len, hx]; exact size_by
  have hly : (Try.prog.info? 23).map (·.size) = some (nums .u8 y.2).length := by rw [nums_len, hy]; exact size_by
  have HX := Aside0.mk (iv_by hx)
  have HY := Aside0.mk (iv_by hy)
  have e1 : ∀ W : World, W.heap[w.heap.size]? = some (.cells (iv x).toArray 28 (0, 0)) → W.cell? ⟨w.heap.size, 0, none⟩ = some (.int .i64 x.1) := fun W h => (blk_cell h 0).trans (by simp [iv])
  have e2 : ∀ W : World, W.heap[w.heap.size + 1]? = some (.cells (iv y).toArray 28 (0, 0)) → W.cell? ⟨w.heap.size + 1, 0, none⟩ = some (.int .i64 y.1) := fun W h => (blk_cell h 0).trans (by simp [iv])
  obtain ⟨C, hC⟩ : ∃ C, (iv x).toArray = C := ⟨_, rfl⟩
  obtain ⟨D, hD⟩ : ∃ D, (iv y).toArray = D := ⟨_, rfl⟩
  rw [hC, hD]
  rw [hC, hD] at hbl b1 b2
  rw [hC] at HX e1
  rw [hD] at HY e2
  have HHX := Aside0.mk hx
  have HHY := Aside0.mk hy
  clear hC hD hx hy
  go_enter Try.func11, Try.ntmps11
  go_upto_region 1 with fail
  obtain ⟨wa, hwa⟩ : ∃ W, (w.alloc (.cells C 28)).alloc (.cells D 28) = W := ⟨_, rfl⟩
  rw [hwa] at hbl b1 b2 ⊢
  have HB := Aside0.mk hbl
  have k1 := e1 wa b1
  have k2 := e2 wa b2
  have B1 := Aside0.mk b1
  have B2 := Aside0.mk b2
  clear hwa hbl b1 b2 e1 e2
  by_cases he : x.1 = y.1
  · have t1 : (x.1 == y.1) = true := beq_iff_eq.2 he
    have hl : lessI x y = lessF x.2 y.2 := by unfold lessI; rw [if_pos he]
    have HLL := Aside0.mk hl
    clear hl
    go_wp2_with (first | ((with_reducible refine gate_ (Op.load 23 (.tmp 15)) rfl ?_); refine wpList_load_at rfl 23 (.tmp 15) rfl w.heap.size 1 rfl _ _ B1.out _ HX.out _ hu rfl hlx ?_; rw [ns_arr]) | ((with_reducible refine gate_ (Op.load 23 (.tmp 17)) rfl ?_); refine wpList_load_at rfl 23 (.tmp 17) rfl (w.heap.size + 1) 1 rfl _ _ B2.out _ HY.out _ hu rfl hly ?_; rw [ns_arr]) | (go_at_call 31; refine (HL.out _).mono ?_; rintro e w2 ⟨rfl, hb⟩; have HB2 := Aside0.mk (HB.out.trans (hb.mono HB.out.size)); clear hb))
    go_ret
    exact ⟨by rw [HLL.out]; rfl, HB2.out⟩
  · have t1 : (x.1 == y.1) = false := beq_eq_false_iff_ne.2 he
    have hl : lessI x y = decide (x.1 < y.1) := by unfold lessI; rw [if_neg he]
    have HLL := Aside0.mk hl
    clear hl
    go_wp2_with fail
    go_ret
    exact ⟨by rw [HLL.out]; rfl, HB.out⟩
set_option maxRecDepth 100000 in
set_option maxHeartbeats 4000000 in
theorem RLessI_calls (w : World) (x y : Idt) (hx : x.2.length = 32) (hy : y.2.length = 32) :
    Calls Try.prog 13 #[.agg (iv x).toArray, .agg (iv y).toArray] w fun e w' => e = .returned (.bool (lessI x y)) ∧ Below w.heap.size w w' := by
  have HL := Aside0.mk (fun W => RLess_calls W x.2 y.2 hx hy)
  have hu := Try.underlying23
  have hbl : Below w.heap.size w ((w.alloc (.cells (iv x).toArray 26)).alloc (.cells (iv y).toArray 26)) := below_alloc (below_alloc (Below.refl _ _) _) _
  have b1 : ((w.alloc (.cells (iv x).toArray 26)).alloc (.cells (iv y).toArray 26)).heap[w.heap.size]? = some (.cells (iv x).toArray 26 (0, 0)) := blk_alloc (blk_new w _) _
  have b2 : ((w.alloc (.cells (iv x).toArray 26)).alloc (.cells (iv y).toArray 26)).heap[w.heap.size + 1]? = some (.cells (iv y).toArray 26 (0, 0)) := new_at _ _ _ (by simp)
  have hlx : (Try.prog.info? 23).map (·.size) = some (nums .u8 x.2).length := by rw [nums_len, hx]; exact size_by
  have hly : (Try.prog.info? 23).map (·.size) = some (nums .u8 y.2).length := by rw [nums_len, hy]; exact size_by
  have HX := Aside0.mk (iv_by hx)
  have HY := Aside0.mk (iv_by hy)
  have e1 : ∀ W : World, W.heap[w.heap.size]? = some (.cells (iv x).toArray 26 (0, 0)) → W.cell? ⟨w.heap.size, 0, none⟩ = some (.int .i64 x.1) := fun W h => (blk_cell h 0).trans (by simp [iv])
  have e2 : ∀ W : World, W.heap[w.heap.size + 1]? = some (.cells (iv y).toArray 26 (0, 0)) → W.cell? ⟨w.heap.size + 1, 0, none⟩ = some (.int .i64 y.1) := fun W h => (blk_cell h 0).trans (by simp [iv])
  obtain ⟨C, hC⟩ : ∃ C, (iv x).toArray = C := ⟨_, rfl⟩
  obtain ⟨D, hD⟩ : ∃ D, (iv y).toArray = D := ⟨_, rfl⟩
  rw [hC, hD]
  rw [hC, hD] at hbl b1 b2
  rw [hC] at HX e1
  rw [hD] at HY e2
  have HHX := Aside0.mk hx
  have HHY := Aside0.mk hy
  clear hC hD hx hy
  go_enter Try.func13, Try.ntmps13
  go_upto_region 1 with fail
  obtain ⟨wa, hwa⟩ : ∃ W, (w.alloc (.cells C 26)).alloc (.cells D 26) = W := ⟨_, rfl⟩
  rw [hwa] at hbl b1 b2 ⊢
  have HB := Aside0.mk hbl
  have k1 := e1 wa b1
  have k2 := e2 wa b2
  have B1 := Aside0.mk b1
  have B2 := Aside0.mk b2
  clear hwa hbl b1 b2 e1 e2
  by_cases he : x.1 = y.1
  · have t0 : decide (x.1 < y.1) = false := decide_eq_false (by omega)
    have t1 : (x.1 == y.1) = true := beq_iff_eq.2 he
    have hl : lessI x y = lessF x.2 y.2 := by unfold lessI; rw [if_pos he]
    have HLL := Aside0.mk hl
    clear hl
    go_wp2_with (first | ((with_reducible refine gate_ (Op.load 23 (.tmp 17)) rfl ?_); refine load_atG (by rfl) 23 (.tmp 17) rfl w.heap.size 1 rfl _ _ B1.out _ HX.out _ hu rfl hlx ?_; rw [ns_arr]) | ((with_reducible refine gate_ (Op.load 23 (.tmp 19)) rfl ?_); refine load_atG (by rfl) 23 (.tmp 19) rfl (w.heap.size + 1) 1 rfl _ _ B2.out _ HY.out _ hu rfl hly ?_; rw [ns_arr]) | (go_at_call 32; refine (HL.out _).mono ?_; rintro e w2 ⟨rfl, hb⟩; have HB2 := Aside0.mk (HB.out.trans (hb.mono HB.out.size)); clear hb))
    go_ret
    exact ⟨by rw [HLL.out]; rfl, HB2.out⟩
  · have t1 : (x.1 == y.1) = false := beq_eq_false_iff_ne.2 he
    have hl : lessI x y = decide (x.1 < y.1) := by unfold lessI; rw [if_neg he]
    have HLL := Aside0.mk hl
    clear hl
    by_cases hlt : x.1 < y.1
    · have t0 : decide (x.1 < y.1) = true := decide_eq_true hlt
      have t00 : (x.1 < y.1) = True := eq_true hlt
      have HLT := Aside0.mk t0
      clear hlt he
      go_wp2_with fail
      go_ret
      exact ⟨by rw [HLL.out, HLT.out]; rfl, HB.out⟩
    · have t0 : decide (x.1 < y.1) = false := decide_eq_false hlt
      have t00 : (x.1 < y.1) = False := eq_false hlt
      have HLT := Aside0.mk t0
      clear hlt he
      go_wp2_with fail
      go_ret
      exact ⟨by rw [HLL.out, HLT.out]; rfl, HB.out⟩
theorem l32 (l : List Int) (h : l.length = 32) : ∃ a0 a1 a2 a3 a4 a5 a6 a7 a8 a9 a10 a11 a12 a13 a14 a15 a16 a17 a18 a19 a20 a21 a22 a23 a24 a25 a26 a27 a28 a29 a30 a31, l = [a0, a1, a2, a3, a4, a5, a6, a7, a8, a9, a10, a11, a12, a13, a14, a15, a16, a17, a18, a19, a20, a21, a22, a23, a24, a25, a26, a27, a28, a29, a30, a31] := by
  rcases l with _ | ⟨a0, l⟩
  · simp at h
  rcases l with _ | ⟨a1, l⟩
  · simp at h
  rcases l with _ | ⟨a2, l⟩
  · simp at h
  rcases l with _ | ⟨a3, l⟩
  · simp at h
  rcases l with _ | ⟨a4, l⟩
  · simp at h
  rcases l with _ | ⟨a5, l⟩
  · simp at h
  rcases l with _ | ⟨a6, l⟩
  · simp at h
  rcases l with _ | ⟨a7, l⟩
  · simp at h
  rcases l with _ | ⟨a8, l⟩
  · simp at h
  rcases l with _ | ⟨a9, l⟩
  · simp at h
  rcases l with _ | ⟨a10, l⟩
  · simp at h
  rcases l with _ | ⟨a11, l⟩
  · simp at h
  rcases l with _ | ⟨a12, l⟩
  · simp at h
  rcases l with _ | ⟨a13, l⟩
  · simp at h
  rcases l with _ | ⟨a14, l⟩
  · simp at h
  rcases l with _ | ⟨a15, l⟩
  · simp at h
  rcases l with _ | ⟨a16, l⟩
  · simp at h
  rcases l with _ | ⟨a17, l⟩
  · simp at h
  rcases l with _ | ⟨a18, l⟩
  · simp at h
  rcases l with _ | ⟨a19, l⟩
  · simp at h
  rcases l with _ | ⟨a20, l⟩
  · simp at h
  rcases l with _ | ⟨a21, l⟩
  · simp at h
  rcases l with _ | ⟨a22, l⟩
  · simp at h
  rcases l with _ | ⟨a23, l⟩
  · simp at h
  rcases l with _ | ⟨a24, l⟩
  · simp at h
  rcases l with _ | ⟨a25, l⟩
  · simp at h
  rcases l with _ | ⟨a26, l⟩
  · simp at h
  rcases l with _ | ⟨a27, l⟩
  · simp at h
  rcases l with _ | ⟨a28, l⟩
  · simp at h
  rcases l with _ | ⟨a29, l⟩
  · simp at h
  rcases l with _ | ⟨a30, l⟩
  · simp at h
  rcases l with _ | ⟨a31, l⟩
  · simp at h
  rcases l with _ | ⟨b, l⟩
  · exact ⟨a0, a1, a2, a3, a4, a5, a6, a7, a8, a9, a10, a11, a12, a13, a14, a15, a16, a17, a18, a19, a20, a21, a22, a23, a24, a25, a26, a27, a28, a29, a30, a31, rfl⟩
  · simp at h
theorem built_id (x : Idt) (h : x.2.length = 32) : Try.prog.built 28 [(0, .int .i64 x.1), (1, .agg (ns .u8 x.2))] = some (iv x).toArray := by
  obtain ⟨c, l⟩ := x
  obtain ⟨a0, a1, a2, a3, a4, a5, a6, a7, a8, a9, a10, a11, a12, a13, a14, a15, a16, a17, a18, a19, a20, a21, a22, a23, a24, a25, a26, a27, a28, a29, a30, a31, rfl⟩ := l32 l h
  kernel_rfl
theorem built_ref (x : Idt) (h : x.2.length = 32) : Try.prog.built 26 [(0, .int .i64 x.1), (1, .agg (ns .u8 x.2))] = some (iv x).toArray := by
  obtain ⟨c, l⟩ := x
  obtain ⟨a0, a1, a2, a3, a4, a5, a6, a7, a8, a9, a10, a11, a12, a13, a14, a15, a16, a17, a18, a19, a20, a21, a22, a23, a24, a25, a26, a27, a28, a29, a30, a31, rfl⟩ := l32 l h
  kernel_rfl
theorem zero_id (w : World) : (zeroValue 28).run Try.prog w = .ok (.agg (iv z0).toArray) w := by
  have hi : (Try.prog.info? 28).map (·.zero) = some (some (.agg (iv z0).toArray)) := by kernel_rfl
  obtain ⟨i, h1, h2⟩ := Option.map_eq_some_iff.1 hi
  simp [zeroValue, typeInfo, h1, h2]
theorem zero_ref (w : World) : (zeroValue 26).run Try.prog w = .ok (.agg (iv z0).toArray) w := by
  have hi : (Try.prog.info? 26).map (·.zero) = some (some (.agg (iv z0).toArray)) := by kernel_rfl
  obtain ⟨i, h1, h2⟩ := Option.map_eq_some_iff.1 hi
  simp [zeroValue, typeInfo, h1, h2]
theorem iv_all (x : Idt) : (iv x).toArray.all (·.oneCell') = true := all_oneCell_toArray (iv_one x)
set_option maxRecDepth 100000 in
set_option maxHeartbeats 4000000 in
theorem own_calls (w : World) (x : Idt) (hx : x.2.length = 32) :
    Calls Try.prog 12 #[.agg (iv x).toArray] w fun e w' => e = .returned (.agg (iv x).toArray) ∧ Below w.heap.size w w' := by
  have hu := Try.underlying23
  have huI := Try.underlying28
  have HLX : Aside0 ((Try.prog.info? 23).map (·.size) = some (nums .u8 x.2).length) := ⟨by rw [nums_len, hx]; exact size_by⟩
  have HX := Aside0.mk (iv_by hx)
  have HBI := Aside0.mk (built_id x hx)
  have HC1 : Aside0 (((iv x).toArray).all (·.oneCell') = true) := ⟨iv_all x⟩
  have HZ := Aside0.mk zero_id
  have HZs : Aside0 ((iv z0).toArray.size = 33) := ⟨rfl⟩
  have HCs : Aside0 ((iv x).toArray.size = 33) := ⟨by rw [List.size_toArray, iv_len hx]⟩
  have e1 : ∀ W : World, W.heap[w.heap.size]? = some (.cells (iv x).toArray 26 (0, 0)) → W.cell? ⟨w.heap.size, 0, none⟩ = some (.int .i64 x.1) := fun W h => (blk_cell h 0).trans (by simp [iv])
  obtain ⟨C, hC⟩ : ∃ C, (iv x).toArray = C := ⟨_, rfl⟩
  obtain ⟨Z, hZ⟩ : ∃ Z, (iv z0).toArray = Z := ⟨_, rfl⟩
  rw [hC] at HX HBI HC1 HCs e1 ⊢
  rw [hZ] at HZ HZs
  clear hC hZ hx
  have b1 : ∀ Y, ((w.alloc (.cells C 26)).alloc Y).heap[w.heap.size]? = some (.cells C 26 (0, 0)) := fun Y => blk_alloc (blk_new w _) _
  have B1 := Aside0.mk b1
  have k1 := e1 _ (b1 (.cells Z 28))
  clear b1 e1
  go_enter Try.func12, Try.ntmps12
  go_wp2_with (first | ((with_reducible refine gate_ (Op.alloc 28) rfl ?_); refine wpList_alloc_as rfl 28 rfl Z HZ.out ?_) | ((with_reducible refine gate_ (Op.load 23 (.tmp 5)) rfl ?_); refine wpList_load_at rfl 23 (.tmp 5) rfl w.heap.size 1 rfl _ _ (B1.out _) _ HX.out _ hu rfl HLX.out ?_; rw [ns_arr]) | ((with_reducible refine gate_ (Op.build 28 #[(0, .tmp 4), (1, .tmp 6)]) rfl ?_); refine wpList_build_as rfl 28 #[(0, .tmp 4), (1, .tmp 6)] rfl [(0, .int .i64 x.1), (1, .agg (ns .u8 x.2))] (by simp only [List.map_toArray, List.map_cons, List.map_nil]; rfl) C HBI.out ?_) | ((with_reducible refine gate_ (Op.store 28 (.tmp 2) (.tmp 7)) rfl ?_); refine wpList_store_new rfl 28 (.tmp 2) (.tmp 7) rfl (w.alloc (.cells C 26)) 28 Z C rfl (by simp [Act.eval, Act.put]) rfl (by rw [HCs.out, HZs.out]) (by rw [HCs.out]; exact size_id) HC1.out ?_; simp only [Act.put, List.setIfInBounds_toArray, List.set_cons_zero, List.set_cons_succ]))
  refine bodyPost_ret (results_cell_row rfl _ _ (w.heap.size + 1) 28 C (0, 0) _ rfl (new_at (w.alloc (.cells C 26)) (.cells C 28) (w.heap.size + 1) (by simp)) huI rfl (by rw [HCs.out]; exact size_id)) rfl ?_
  exact ⟨rfl, below_alloc (below_alloc (Below.refl _ _) _) _⟩
end Go.Proofs.Ytkcdlilglgfkaaa.Rg
