/- Rows of cells: slices.Insert ahead of the end. -/
import Derived.Test.YtkcdlilglgfkaaaRgC
set_option linter.unusedVariables false
set_option linter.unusedSimpArgs false
namespace Go.Proofs.Ytkcdlilglgfkaaa.Rg
open Go Go.RowKit Go.Proofs.YtkcdlilglgfkaaaW.PrintWords Go.Proofs.YtkcdlilglgfkaaaW.PrintLast Go.Proofs.YtkcdlilglgfkaaaW.PrintMore Go.Proofs.Ytkcdlilglgfkaaa.PA Go.Proofs.Ytkcdlilglgfkaaa.Ar Go.Proofs.Ytkcdlilglgfkaaa.Sha
theorem splice_len {α : Type} (L : List α) (o : Nat) (cs : List α) (h : o + cs.length ≤ L.length) : (splice L o cs).length = L.length := length_splice L o cs h
/-- First what stands behind, one place on; then the new one. -/
theorem shift_list {α : Type} (cur A X B : List α) (o : Nat) (hA : cur.take o = A) (ho : o = A.length) (hX : o + X.length ≤ cur.length) (h : o + X.length + B.length ≤ cur.length) :
    (splice (splice cur (o + X.length) B) o X).take (o + X.length + B.length) = A ++ X ++ B := by
  have h1 : (splice cur (o + X.length) B).take o = A := by
    rw [splice, List.take_append_of_le_length (by rw [List.length_take]; omega), List.take_take, Nat.min_eq_left (by omega), hA]
  have h2 : (splice cur (o + X.length) B).drop (o + X.length) = B ++ cur.drop (o + X.length + B.length) := by
    rw [splice, List.drop_append_of_le_length (by rw [List.length_take]; omega), List.drop_of_length_le (by rw [List.length_take]; omega), List.nil_append]
  rw [splice, h1, h2, ← List.append_assoc, ← List.append_assoc, List.take_append_of_le_length (by rw [List.length_append, List.length_append]; omega), List.take_of_length_le (by rw [List.length_append, List.length_append]; omega)]
/-- First the new one, then what stands behind. -/
theorem grow_list {α : Type} (cur A X B : List α) (o : Nat) (hA : cur.take o = A) (ho : o = A.length) (h : o + X.length + B.length ≤ cur.length) :
    (splice (splice cur o X) (o + X.length) B).take (o + X.length + B.length) = A ++ X ++ B := by
  have h1 : (splice cur o X).take (o + X.length) = A ++ X := by
    rw [splice, hA, ← List.append_assoc, List.take_append_of_le_length (by rw [List.length_append]; omega), List.take_of_length_le (by rw [List.length_append]; omega)]
  rw [splice, h1, ← List.append_assoc, List.take_append_of_le_length (by rw [List.length_append, List.length_append]; omega), List.take_of_length_le (by rw [List.length_append, List.length_append]; omega)]
/-- A builtin's call whose run is known, in a plain region. -/
theorem wpList_run {P : Program} {ops : Array Oper} {rest : List Oper} {o : Oper} {a : Act} {w : World} {Q : Exit → Act → World → Prop} (hgd : o.guard = none) {v' : Value} {w' : World} (hrun : (execOp a.eval o).run P w = .ok (.value v') w') (h : wpList P ops Q rest (a.put o.dst v') w') : wpList P ops Q (o :: rest) a w :=
  wpList_plain hgd fun K hK => by
    unfold Oper.wp
    rw [hrun]
    exact hK _ _ h
theorem exec_copy {o : Oper} {a : Act} {w : World} (d s : Operand) (ho : o.op = .call { callee := .builtin .copy, args := #[d, s], argTypes := #[TCs, TCs] }) {v u v' : Value} {w' : World} (hd : a.eval d = v) (hs : a.eval s = u) (hr : (Builtin.copy_ #[TCs, TCs] o.type #[v, u]).run Try.prog w = .ok v' w') : (execOp a.eval o).run Try.prog w = .ok (.value v') w' := by
  unfold execOp
  simp only [ho, resolve, invoke, builtin, Sem.run_bind, Sem.run_pure, Result.andThen_ok, List.map_toArray, List.map_cons, List.map_nil, hd, hs, hr]
theorem exec_appz {o : Oper} {a : Act} {w : World} (d s : Operand) (ho : o.op = .call { callee := .builtin .append, args := #[d, s], argTypes := #[TCs, 3] }) {v u v' : Value} {w' : World} (hd : a.eval d = v) (hs : a.eval s = u) (hr : (Builtin.append_ #[TCs, 3] o.type #[v, u]).run Try.prog w = .ok v' w') : (execOp a.eval o).run Try.prog w = .ok (.value v') w' := by
  unfold execOp
  simp only [ho, resolve, invoke, builtin, Sem.run_bind, Sem.run_pure, Result.andThen_ok, List.map_toArray, List.map_cons, List.map_nil, hd, hs, hr]
theorem wrap_nat {k : Nat} (h : k < 200000) : wrap64 (k : Int) = (k : Int) := by unfold wrap64; omega
theorem cast_sub {n i : Nat} (h : i < n) : ((n + 1 - i : Nat) : Int) = (n : Int) + 1 - (i : Int) := by omega
theorem wsub {n i : Nat} (h : i < n) (hl : n < 100000) : wrap64 ((n : Int) + 1 - (i : Int)) = (n : Int) + 1 - (i : Int) := by
  rw [← cast_sub h]
  exact wrap_nat (by omega)
theorem shape_of {w : World} {g : Nat} {C : Array Value} {T : TypeId} (h : w.heap[g]? = some (.cells C T (0, 0))) : w.shape? g = some (T, C.size) := by
  unfold World.shape?
  simp [h]
theorem add0 (g o i : Nat) : (⟨g, o, none⟩ : Addr).add i = ⟨g, o + i, none⟩ := by unfold Addr.add; split <;> simp_all
theorem slice_from1 {g m c k : Nat} (hk : k ≤ m) (hc : k < c) (W : World) : (Instr.slice TCs (.slice (some ⟨g, 0, none⟩) m c) (some (.int .i64 (k : Int))) none none).run Try.prog W = .ok (.slice (some ⟨g, k * 35, none⟩) (m - k) (c - k)) W := by
  have h := slice_from_run (g := g) (o := 0) (c := c) hk rfl W
  rw [if_neg (by omega)] at h
  rw [h, Option.map_some, add0, Nat.zero_add]
theorem slice_to1 {A : Option Addr} {m c k : Nat} (hk : k ≤ c) (W : World) : (Instr.slice TCs (.slice A m c) none (some (.int .i64 (k : Int))) none).run Try.prog W = .ok (.slice A k c) W := by
  have hu := Try.underlying40
  have h1 : (k : Int) ≤ (c : Int) := by omega
  have h0 : (0 : Int) ≤ (k : Int) := by omega
  cases A with
  | none => go_simp
  | some ad => go_simp
section
variable {w w1 : World} {base : Nat} {v : Value} {L : List Ce} {x : Ce} {gv : Nat}
theorem overlaps_run (g o : Nat) (C : Array Value) (T : TypeId) (hg : w.heap[g]? = some (.cells C T (0, 0))) (hC : C.size ≠ 0) (hx : okC x) (hv : w.heap[gv]? = some (.cells (ce x).toArray TC (0, 0))) (hne : gv ≠ g) (lb cb : Nat) :
    (callFunc 44 #[.slice (some ⟨gv, 0, none⟩) 1 1, .slice (some ⟨g, o, none⟩) lb cb]).run Try.prog w = .ok (.value (.bool false)) w := by
  have hz : ∀ w, (Go.sizeOf TC).run Try.prog w = .ok 35 w := fun w => by kernel_rfl
  rw [run_callFunc_extern Try.func44 (by kernel_rfl) (by kernel_rfl) (by kernel_rfl) (e := Extern.SlicesOverlaps.overlaps #[TCs, TCs] #[4]) (by kernel_rfl),
    Lib.run_overlaps_apart w TCs 4 TC Try.underlying40 35 hz ⟨gv, 0, none⟩ ⟨g, o, none⟩ 1 1 lb cb hne TC T 35 C.size (by rw [shape_of hv]; simp [ce_len hx]) (shape_of hg) hC (blk_frozen hv 0) (blk_frozen hv 35)]
  rfl
set_option maxRecDepth 100000 in
set_option maxHeartbeats 4000000 in
theorem ins_room {g cap i : Nat} {cur : Array Value} (hg : w.heap[g]? = some (.cells cur TC (0, 0))) (hcm : cap ≤ maxLen) (hcs : cur.size = cap * 35) (ht : cur.toList.take (L.length * 35) = fl L) (hk : ∀ x ∈ L, okC x) (hi : i < L.length) (hroom : L.length + 1 ≤ cap) (hx : okC x) (hv : w.heap[gv]? = some (.cells (ce x).toArray TC (0, 0))) (hne : gv ≠ g) (hl : L.length < 100000) :
    Calls Try.prog 36 #[.slice (some ⟨g, 0, none⟩) L.length cap, .int .i64 (i : Int), .slice (some ⟨gv, 0, none⟩) 1 1] w fun e w' => ∃ C : Array Value, e = .returned (.slice (some ⟨g, 0, none⟩) (L.length + 1) cap) ∧ w'.heap[g]? = some (.cells C TC (0, 0)) ∧ C.size = cap * 35 ∧ C.toList.take ((L.length + 1) * 35) = fl (L.take i ++ [x] ++ L.drop i) ∧ w.grownBy w' (some g) := by
  have hs1 := slice_from1 (g := g) (m := L.length) (c := cap) (k := i) (by omega) (by omega)
  have hs2 : ∀ W, (Instr.slice TCs (.slice (some ⟨g, 0, none⟩) L.length cap) none (some (.int .i64 ((L.length : Int) + 1))) none).run Try.prog W = .ok (.slice (some ⟨g, 0, none⟩) (L.length + 1) cap) W := fun W => slice_to1 (A := some ⟨g, 0, none⟩) (m := L.length) (k := L.length + 1) (by omega) W
  have hs3 : ∀ W, (Instr.slice TCs (.slice (some ⟨g, 0, none⟩) (L.length + 1) cap) (some (.int .i64 ((i : Int) + 1))) none none).run Try.prog W = .ok (.slice (some ⟨g, (i + 1) * 35, none⟩) (L.length - i) (cap - (i + 1))) W := fun W => by
    have h := slice_from1 (g := g) (m := L.length + 1) (c := cap) (k := i + 1) (by omega) (by omega) W
    rw [Nat.add_sub_add_right] at h
    exact h
  have hs4 := slice_from1 (g := g) (m := L.length + 1) (c := cap) (k := i) (by omega) (by omega)
  have hov := overlaps_run g ((i + 1) * 35) cur TC hg (by omega) hx hv hne
  have hA := fl_take hk i (by omega)
  have hB := fl_drop hk i (by omega)
  have hBl := fl_len (L := L.drop i) (fun y hy => hk y (List.mem_of_mem_drop hy))
  rw [List.length_drop] at hBl
  have hAl := fl_len (L := L.take i) (fun y hy => hk y (List.mem_of_mem_take hy))
  rw [List.length_take, Nat.min_eq_left (by omega)] at hAl
  have hXl := ce_len hx
  have hll := fl_len hk
  have hsz : cur.toList.length = cap * 35 := by rw [Array.length_toList, hcs]
  have hcell : ∀ (j : Nat) (u : Value), (fl L)[j]? = some u → w.cell? ⟨g, j, none⟩ = some u := fun j u hj => by
    rw [blk_cell hg]
    rw [← ht, List.getElem?_take] at hj
    split at hj
    · simpa using hj
    · cases hj
  have hcp1 : ∀ (ty : TypeId) (dc sc : Nat), (Builtin.copy_ #[TCs, TCs] ty #[.slice (some ⟨g, (i + 1) * 35, none⟩) (L.length - i) dc, .slice (some ⟨g, i * 35, none⟩) (L.length + 1 - i) sc]).run Try.prog w.drew = .ok (goInt ((L.length - i : Nat) : Int)) (w.drew.setRow g (splice cur.toList ((i + 1) * 35) (fl (L.drop i))).toArray) := fun ty dc sc =>
    copy_run w.drew ty g ((i + 1) * 35) (L.length - i) dc ⟨g, i * 35, none⟩ (L.length + 1 - i) sc cur TC (fl (L.drop i)) (L.length - i) hg (by simp only [Nat.min_def]; split <;> omega) (by omega) (fun j u hj => by
      rw [add0]
      rw [← hB, List.getElem?_drop] at hj
      exact hcell _ u hj) (by omega) (fl_one _)
  obtain ⟨C1, hC1⟩ : ∃ C1 : Array Value, (splice cur.toList ((i + 1) * 35) (fl (L.drop i))).toArray = C1 := ⟨_, rfl⟩
  have hC1l : C1.toList = splice cur.toList ((i + 1) * 35) (fl (L.drop i)) := by rw [← hC1]
  have hC1s : C1.toList.length = cap * 35 := by rw [hC1l, splice_len _ _ _ (by omega), hsz]
  rw [hC1] at hcp1
  have hcp2 : ∀ (ty : TypeId) (dc : Nat), (Builtin.copy_ #[TCs, TCs] ty #[.slice (some ⟨g, i * 35, none⟩) (L.length + 1 - i) dc, .slice (some ⟨gv, 0, none⟩) 1 1]).run Try.prog (w.drew.setRow g C1) = .ok (goInt 1) ((w.drew.setRow g C1).setRow g (splice C1.toList (i * 35) (ce x)).toArray) := fun ty dc =>
    copy_run _ ty g (i * 35) (L.length + 1 - i) dc ⟨gv, 0, none⟩ 1 1 C1 TC (ce x) 1 (setRow_heap _ _ _ _ _ _ hg) (by simp only [Nat.min_def]; split <;> omega) (by omega) (fun j u hj => by
      rw [add0, Nat.zero_add, blk_cell ((setRow_other w.drew g gv C1 hne).trans hv)]
      simpa using hj) (by rw [hXl, ← Array.length_toList, hC1s]; omega) (ce_one x)
  have hres : (splice C1.toList (i * 35) (ce x)).take ((L.length + 1) * 35) = fl (L.take i ++ [x] ++ L.drop i) := by
    have h := shift_list cur.toList (fl (L.take i)) (ce x) (fl (L.drop i)) (i * 35) (by rw [← hA, ← ht, List.take_take, Nat.min_eq_left (by omega)]) (by omega) (by omega) (by omega)
    rw [hXl, hBl, show i * 35 + 35 = (i + 1) * 35 by omega, show (i + 1) * 35 + (L.length - i) * 35 = (L.length + 1) * 35 by omega, ← hC1l] at h
    rw [h, fl_app, fl_app]
    simp [fl]
  have hgr : w.grownBy ((w.drew.setRow g C1).setRow g (splice C1.toList (i * 35) (ce x)).toArray) (some g) := ⟨rfl, rfl, rfl, by simp [World.setRow], fun k hk hn => by
    have hkg : k ≠ g := fun e => hn (by rw [e])
    rw [setRow_other _ g k _ hkg, setRow_other _ g k _ hkg]; rfl⟩
  have hfin : ((w.drew.setRow g C1).setRow g (splice C1.toList (i * 35) (ce x)).toArray).heap[g]? = some (.cells (splice C1.toList (i * 35) (ce x)).toArray TC (0, 0)) := setRow_heap _ _ _ _ _ _ (setRow_heap _ _ _ _ _ _ hg)
  have hfs : (splice C1.toList (i * 35) (ce x)).toArray.size = cap * 35 := by rw [List.size_toArray, splice_len _ _ _ (by omega), hC1s]
  have t1 : ((i : Int) == (L.length : Int)) = false := beq_eq_false_iff_ne.2 (by omega)
  have t2 : decide ((cap : Int) < (L.length : Int) + 1) = false := decide_eq_false (by omega)
  have hw1 : wrap64 ((i : Int) + 1) = (i : Int) + 1 := by unfold wrap64; omega
  have HF := Aside0.mk (And.intro hfin (And.intro hfs (And.intro hres hgr)))
  clear hfin hfs hres hgr hC1l hC1s hC1 hcell hsz hll hXl hAl hBl hB hA ht hk hcs
  obtain ⟨C2, hC2⟩ : ∃ C2 : Array Value, (splice C1.toList (i * 35) (ce x)).toArray = C2 := ⟨_, rfl⟩
  have HX2 : Aside0 (C2.toList.take ((L.length + 1) * 35) = (splice C1.toList (i * 35) (ce x)).take ((L.length + 1) * 35)) := ⟨by rw [← hC2]⟩
  rw [hC2] at hcp2 HF
  clear hC2
  have HN := Aside0.mk hne
  have HG := Aside0.mk hg
  have HV := Aside0.mk hv
  clear hne hg hv hx
  go_enter Try.func36, Try.ntmps36
  go_upto_region 15 with (simp only [hov])
  -- [room
  refine start_ (n := 9) (S := fun _ => True) (ds := [8]) #[false, false, false, false, false, false, false, false, false] (by kernel_rfl) rfl rfl trivial (fun hHeld => ?_)
  refine pure_ (i := 0) (N := some 69) (v := ?_) (a' := ?_) #[true, false, false, false, false, false, false, false, false] rfl rfl (by kernel_rfl) (fun _ _ _ h => h) (Or.inl ⟨by rfl, ?_⟩) ?_ ?_
  rotate_left
  · intro w'
    go_simp
    with_reducible rfl
  rotate_left
  · simp only [Act.put, List.setIfInBounds_toArray, List.set_cons_zero, List.set_cons_succ, i64_w, i32_w]
    rfl
  refine pure_ (i := 1) (N := some 70) (v := ?_) (a' := ?_) #[true, true, false, false, false, false, false, false, false] rfl rfl (by kernel_rfl) (fun _ _ _ h => h) (Or.inl ⟨by rfl, ?_⟩) ?_ ?_
  rotate_left
  · intro w'
    go_simp
    with_reducible rfl
  rotate_left
  · simp only [Act.put, List.setIfInBounds_toArray, List.set_cons_zero, List.set_cons_succ, i64_w, i32_w]
    rfl
  refine pure_ (i := 2) (N := some 71) (v := ?_) (a' := ?_) #[true, true, true, false, false, false, false, false, false] rfl rfl (by kernel_rfl) (fun _ _ _ h => h) (Or.inl ⟨by rfl, ?_⟩) ?_ ?_
  rotate_left
  · intro w'
    go_simp
    with_reducible rfl
  rotate_left
  · simp only [Act.put, List.setIfInBounds_toArray, List.set_cons_zero, List.set_cons_succ, i64_w, i32_w]
    rfl
  refine pure_ (i := 3) (N := some 72) (v := ?_) (a' := ?_) #[true, true, true, true, false, false, false, false, false] rfl rfl (by kernel_rfl) (fun _ _ _ h => h) (Or.inl ⟨by rfl, ?_⟩) ?_ ?_
  rotate_left
  · intro w'
    go_simp
    with_reducible rfl
  rotate_left
  · simp only [Act.put, List.setIfInBounds_toArray, List.set_cons_zero, List.set_cons_succ, i64_w, i32_w]
    rfl
  refine pure_ (i := 4) (N := some 73) (v := ?_) (a' := ?_) #[true, true, true, true, true, false, false, false, false] rfl rfl (by kernel_rfl) (fun _ _ _ h => h) (Or.inl ⟨by rfl, ?_⟩) ?_ ?_
  rotate_left
  · intro w'
    go_simp
    with_reducible rfl
  rotate_left
  · simp only [Act.put, List.setIfInBounds_toArray, List.set_cons_zero, List.set_cons_succ, i64_w, i32_w]
    rfl
  refine pure_ (i := 5) (N := some 74) (v := ?_) (a' := ?_) #[true, true, true, true, true, true, false, false, false] rfl rfl (by kernel_rfl) (fun _ _ _ h => h) (Or.inl ⟨by rfl, ?_⟩) ?_ ?_
  rotate_left
  · intro w'
    go_simp
    with_reducible rfl
  rotate_left
  · simp only [Act.put, List.setIfInBounds_toArray, List.set_cons_zero, List.set_cons_succ, i64_w, i32_w]
    rfl
  refine pure_ (i := 6) (N := some 75) (v := ?_) (a' := ?_) #[true, true, true, true, true, true, true, false, false] rfl rfl (by kernel_rfl) (fun _ _ _ h => h) (Or.inl ⟨by rfl, ?_⟩) ?_ ?_
  rotate_left
  · intro w'
    go_simp
    with_reducible rfl
  rotate_left
  · simp only [Act.put, List.setIfInBounds_toArray, List.set_cons_zero, List.set_cons_succ, i64_w, i32_w]
    rfl
  refine pure_ (i := 7) (N := some 76) (v := ?_) (a' := ?_) #[true, true, true, true, true, true, true, true, false] rfl rfl (by kernel_rfl) (fun _ _ _ h => h) (Or.inl ⟨by rfl, ?_⟩) ?_ ?_
  rotate_left
  · intro w'
    go_simp
    with_reducible rfl
  rotate_left
  · simp only [Act.put, List.setIfInBounds_toArray, List.set_cons_zero, List.set_cons_succ, i64_w, i32_w]
    rfl
  refine last_ (i := 8) (N := some 77) #[true, true, true, true, true, true, true, true, true] rfl rfl (by kernel_rfl) (by decide) (fun K hK => ?_)
  refine value_ (N := some 77) (by rfl) rfl (exec_copy (.tmp 73) (.tmp 76) rfl rfl rfl (hcp1 _ _ _)) ?_
  refine hK.out _ _ ?_
  clear hK K hHeld
  refine norm_ (a' := ?_) ?_ ?_
  rotate_left
  · show Act.put _ (some 77) _ = _
    simp only [Act.put, List.setIfInBounds_toArray, List.set_cons_zero, List.set_cons_succ, i64_w, i32_w]
    rfl
  refine done_ (by kernel_rfl) ?_
  -- room]
  go_wp2_with ((with_reducible refine gate_builtin (b := .copy) (xs := #[.tmp 80, .tmp 81]) rfl ?_); at_builtin; refine wpList_run rfl (exec_copy (.tmp 80) (.tmp 81) rfl rfl rfl (hcp2 _ _)) ?_)
  go_ret
  exact ⟨C2, rfl, HF.out.1, HF.out.2.1, HX2.out.trans HF.out.2.2.1, HF.out.2.2.2⟩
set_option maxRecDepth 100000 in
set_option maxHeartbeats 4000000 in
theorem ins_grow {g cap i : Nat} {cur : Array Value} (hg : w.heap[g]? = some (.cells cur TC (0, 0))) (hlc : L.length ≤ cap) (ht : cur.toList.take (L.length * 35) = fl L) (hk : ∀ x ∈ L, okC x) (hi : i < L.length) (hroom : cap < L.length + 1) (hx : okC x) (hv : w.heap[gv]? = some (.cells (ce x).toArray TC (0, 0))) (hl : L.length < 100000) :
    Calls Try.prog 36 #[.slice (some ⟨g, 0, none⟩) L.length cap, .int .i64 (i : Int), .slice (some ⟨gv, 0, none⟩) 1 1] w fun e w' => ∃ (C : Array Value) (G : Nat), e = .returned (.slice (some ⟨w.heap.size, 0, none⟩) (L.length + 1) G) ∧ w'.heap[w.heap.size]? = some (.cells C TC (0, 0)) ∧ (L.length + 1 ≤ G ∧ G ≤ maxLen) ∧ C.size = G * 35 ∧ C.toList.take ((L.length + 1) * 35) = fl (L.take i ++ [x] ++ L.drop i) ∧ Below w.heap.size w w' := by
  have hA := fl_take hk i (by omega)
  have hB := fl_drop hk i (by omega)
  have hBl := fl_len (L := L.drop i) (fun y hy => hk y (List.mem_of_mem_drop hy))
  rw [List.length_drop] at hBl
  have hAl := fl_len (L := L.take i) (fun y hy => hk y (List.mem_of_mem_take hy))
  rw [List.length_take, Nat.min_eq_left (by omega)] at hAl
  have hXl := ce_len hx
  have hcell : ∀ (j : Nat) (u : Value), (fl L)[j]? = some u → w.cell? ⟨g, j, none⟩ = some u := fun j u hj => by
    rw [blk_cell hg]
    rw [← ht, List.getElem?_take] at hj
    split at hj
    · simpa using hj
    · cases hj
  obtain ⟨i0, hi0, hz3⟩ := Option.map_eq_some_iff.1 zcell
  simp only [Prod.mk.injEq] at hz3
  obtain ⟨hz0, hzs, hzb⟩ := hz3
  have hzs : i0.size = 35 := hzs
  have hold : (Builtin.firstCells i0.size i (.slice (some ⟨g, 0, none⟩) i cap)).run Try.prog w.drew = .ok (fl (L.take i)).toArray w.drew := by
    rw [hzs]
    refine run_firstCells_some w.drew 35 i ⟨g, 0, none⟩ i cap (fl (L.take i)) hAl (fun j u hj => ?_)
    rw [add0, Nat.zero_add]
    rw [← hA, List.getElem?_take] at hj
    split at hj
    · exact hcell j u hj
    · cases hj
  have hap := fun ty => Lib.run_append_grow_zeros w TCs 3 ty TC i0 _ .i64 .i64 Try.underlying40 Try.underlying3 hi0 hz0 (some ⟨g, 0, none⟩) i cap (fl (L.take i)) hold (L.length + 1 - i) (by omega) (by omega) (by omega) (by omega) (by rw [hzb]; omega) (by rw [hzb]; exact growslice_fits (by omega) (by omega))
  rw [show i + (L.length + 1 - i) = L.length + 1 by omega] at hap
  obtain ⟨G, hG⟩ : ∃ G, grownCap w (L.length + 1) cap TC = G := ⟨_, rfl⟩
  have hG1 : L.length + 1 ≤ G := by rw [← hG]; exact grownCap_ge w _ _ _
  have hG2 : G ≤ maxLen := by rw [← hG]; exact grownCap_le_maxLen w (L.length + 1) cap TC (by unfold maxLen; omega)
  rw [hG] at hap
  obtain ⟨ROW, hROW⟩ : ∃ ROW : Array Value, (fl (L.take i)).toArray ++ Builtin.zeroCells (Value.agg (ce c0).toArray).cells (L.length + 1 - i) ++ Builtin.zeroCells (Value.agg (ce c0).toArray).cells (G - (L.length + 1)) = ROW := ⟨_, rfl⟩
  have hRs : ROW.toList.length = G * 35 := by
    rw [← hROW, Array.length_toList, Array.size_append, Array.size_append, size_zeroCells, size_zeroCells, List.size_toArray, hAl, show (Value.agg (ce c0).toArray).cells.size = 35 by simp [Value.cells, ce, iv, nums, c0, z0]]
    omega
  have hRA : ROW.toList.take (i * 35) = fl (L.take i) := by
    rw [← hROW, Array.toList_append, Array.toList_append, List.append_assoc, List.take_append_of_le_length (by simp [hAl]), List.take_of_length_le (by simp [hAl])]
  rw [hROW] at hap
  obtain ⟨W1, hW1⟩ : ∃ W1, w.drew.alloc (.cells ROW TC) = W1 := ⟨_, rfl⟩
  have hN1 : W1.heap[w.heap.size]? = some (.cells ROW TC (0, 0)) := by rw [← hW1]; exact blk_new w.drew _
  have hb1 : Below w.heap.size w W1 := by rw [← hW1]; exact below_alloc (pw_below_drewN (Below.refl _ _) 1) _
  rw [hW1] at hap
  have hcp1 : ∀ (ty : TypeId) (dc : Nat), (Builtin.copy_ #[TCs, TCs] ty #[.slice (some ⟨w.heap.size, i * 35, none⟩) (L.length + 1 - i) dc, .slice (some ⟨gv, 0, none⟩) 1 1]).run Try.prog W1 = .ok (goInt 1) (W1.setRow w.heap.size (splice ROW.toList (i * 35) (ce x)).toArray) := fun ty dc =>
    copy_run W1 ty w.heap.size (i * 35) (L.length + 1 - i) dc ⟨gv, 0, none⟩ 1 1 ROW TC (ce x) 1 hN1 (by simp only [Nat.min_def]; split <;> omega) (by omega) (fun j u hj => by
      rw [add0, Nat.zero_add, blk_cell (blk_below hv hb1)]
      simpa using hj) (by rw [hXl, ← Array.length_toList, hRs]; omega) (ce_one x)
  obtain ⟨C1, hC1⟩ : ∃ C1 : Array Value, (splice ROW.toList (i * 35) (ce x)).toArray = C1 := ⟨_, rfl⟩
  have hC1l : C1.toList = splice ROW.toList (i * 35) (ce x) := by rw [← hC1]
  have hC1s : C1.toList.length = G * 35 := by rw [hC1l, splice_len _ _ _ (by omega), hRs]
  rw [hC1] at hcp1
  obtain ⟨W2, hW2⟩ : ∃ W2, W1.setRow w.heap.size C1 = W2 := ⟨_, rfl⟩
  have hN2 : W2.heap[w.heap.size]? = some (.cells C1 TC (0, 0)) := by rw [← hW2]; exact setRow_heap _ _ _ _ _ _ hN1
  have hb2 : Below w.heap.size w W2 := by rw [← hW2]; exact below_setRow hb1 (Nat.le_refl _) _
  rw [hW2] at hcp1
  have hcp2 : ∀ (ty : TypeId) (dc sc : Nat), (Builtin.copy_ #[TCs, TCs] ty #[.slice (some ⟨w.heap.size, (i + 1) * 35, none⟩) (L.length - i) dc, .slice (some ⟨g, i * 35, none⟩) (L.length - i) sc]).run Try.prog W2.drew = .ok (goInt ((L.length - i : Nat) : Int)) (W2.drew.setRow w.heap.size (splice C1.toList ((i + 1) * 35) (fl (L.drop i))).toArray) := fun ty dc sc =>
    copy_run W2.drew ty w.heap.size ((i + 1) * 35) (L.length - i) dc ⟨g, i * 35, none⟩ (L.length - i) sc C1 TC (fl (L.drop i)) (L.length - i) hN2 (by simp only [Nat.min_def]; split <;> omega) (by omega) (fun j u hj => by
      rw [add0]
      rw [← hB, List.getElem?_drop] at hj
      exact pw_cell_below (pw_below_drewN hb2 1) (hcell _ u hj)) (by rw [← Array.length_toList, hC1s]; omega) (fl_one _)
  have hres : (splice C1.toList ((i + 1) * 35) (fl (L.drop i))).take ((L.length + 1) * 35) = fl (L.take i ++ [x] ++ L.drop i) := by
    have h := grow_list ROW.toList (fl (L.take i)) (ce x) (fl (L.drop i)) (i * 35) hRA (by omega) (by omega)
    rw [hXl, hBl, show i * 35 + 35 = (i + 1) * 35 by omega, show (i + 1) * 35 + (L.length - i) * 35 = (L.length + 1) * 35 by omega, ← hC1l] at h
    rw [h, fl_app, fl_app]
    simp [fl]
  have hfs : (splice C1.toList ((i + 1) * 35) (fl (L.drop i))).toArray.size = G * 35 := by rw [List.size_toArray, splice_len _ _ _ (by omega), hC1s]
  obtain ⟨C2, hC2⟩ : ∃ C2 : Array Value, (splice C1.toList ((i + 1) * 35) (fl (L.drop i))).toArray = C2 := ⟨_, rfl⟩
  have hX2 : C2.toList = splice C1.toList ((i + 1) * 35) (fl (L.drop i)) := by rw [← hC2]
  rw [hC2] at hcp2 hfs
  have hN3 : (W2.drew.setRow w.heap.size C2).heap[w.heap.size]? = some (.cells C2 TC (0, 0)) := setRow_heap _ _ _ _ _ _ hN2
  have hb3 : Below w.heap.size w (W2.drew.setRow w.heap.size C2) := below_setRow (pw_below_drewN hb2 1) (Nat.le_refl _) _
  have HF := Aside0.mk (And.intro hN3 (And.intro hfs (And.intro (by rw [hX2]; exact hres : C2.toList.take ((L.length + 1) * 35) = fl (L.take i ++ [x] ++ L.drop i)) hb3)))
  have HG := Aside0.mk (And.intro hG1 hG2)
  have hs1 := slice_from1 (g := g) (m := L.length) (c := cap) (k := i) (by omega) (by omega)
  have hs2 := slice_to1 (A := some ⟨g, 0, none⟩) (m := L.length) (c := cap) (k := i) (by omega)
  have hs3 := slice_from1 (g := w.heap.size) (m := L.length + 1) (c := G) (k := i) (by omega) (by omega)
  have hs4 : ∀ W, (Instr.slice TCs (.slice (some ⟨w.heap.size, 0, none⟩) (L.length + 1) G) (some (.int .i64 ((i : Int) + 1))) none none).run Try.prog W = .ok (.slice (some ⟨w.heap.size, (i + 1) * 35, none⟩) (L.length - i) (G - (i + 1))) W := fun W => by
    have h := slice_from1 (g := w.heap.size) (m := L.length + 1) (c := G) (k := i + 1) (by omega) (by omega) W
    rw [Nat.add_sub_add_right] at h
    exact h
  rw [cast_sub hi] at hap
  have t1 : ((i : Int) == (L.length : Int)) = false := beq_eq_false_iff_ne.2 (by omega)
  have t2 : decide ((cap : Int) < (L.length : Int) + 1) = true := decide_eq_true (by omega)
  have hw1 : wrap64 ((i : Int) + 1) = (i : Int) + 1 := by unfold wrap64; omega
  have hw2 : wrap64 ((L.length : Int) + 1) = (L.length : Int) + 1 := by unfold wrap64; omega
  have hw3 := wsub hi hl
  clear hA hB hBl hAl hXl hcell hi0 hz0 hzs hzb hold hG hG1 hG2 hROW hRs hRA hW1 hN1 hb1 hC1 hC1l hC1s hW2 hN2 hb2 hres hfs hC2 hX2 hN3 hb3 hg ht hk hx hv hlc hroom
  generalize w.heap.size = gN at *
  go_enter Try.func36, Try.ntmps36
  go_upto_region 11 with (first | ((with_reducible refine gate_builtin (b := .append) (xs := #[.tmp 34, .tmp 39]) rfl ?_); at_builtin; refine wpList_run rfl (exec_appz (.tmp 34) (.tmp 39) rfl rfl rfl (hap _)) ?_) | ((with_reducible refine gate_builtin (b := .copy) (xs := #[.tmp 43, .tmp 44]) rfl ?_); at_builtin; refine wpList_run rfl (exec_copy (.tmp 43) (.tmp 44) rfl rfl rfl (hcp1 _ _)) ?_))
  -- [grow
  refine start_ (n := 9) (S := fun _ => True) (ds := [8]) #[false, false, false, false, false, false, false, false, false] (by kernel_rfl) rfl rfl trivial (fun hHeld => ?_)
  refine pure_ (i := 0) (N := some 46) (v := ?_) (a' := ?_) #[true, false, false, false, false, false, false, false, false] rfl rfl (by kernel_rfl) (fun _ _ _ h => h) (Or.inl ⟨by rfl, ?_⟩) ?_ ?_
  rotate_left
  · intro w'
    go_simp
    with_reducible rfl
  rotate_left
  · simp only [Act.put, List.setIfInBounds_toArray, List.set_cons_zero, List.set_cons_succ, i64_w, i32_w]
    rfl
  refine pure_ (i := 1) (N := some 47) (v := ?_) (a' := ?_) #[true, true, false, false, false, false, false, false, false] rfl rfl (by kernel_rfl) (fun _ _ _ h => h) (Or.inl ⟨by rfl, ?_⟩) ?_ ?_
  rotate_left
  · intro w'
    go_simp
    with_reducible rfl
  rotate_left
  · simp only [Act.put, List.setIfInBounds_toArray, List.set_cons_zero, List.set_cons_succ, i64_w, i32_w]
    rfl
  refine pure_ (i := 2) (N := some 48) (v := ?_) (a' := ?_) #[true, true, true, false, false, false, false, false, false] rfl rfl (by kernel_rfl) (fun _ _ _ h => h) (Or.inl ⟨by rfl, ?_⟩) ?_ ?_
  rotate_left
  · intro w'
    go_simp
    with_reducible rfl
  rotate_left
  · simp only [Act.put, List.setIfInBounds_toArray, List.set_cons_zero, List.set_cons_succ, i64_w, i32_w]
    rfl
  refine pure_ (i := 3) (N := some 49) (v := ?_) (a' := ?_) #[true, true, true, true, false, false, false, false, false] rfl rfl (by kernel_rfl) (fun _ _ _ h => h) (Or.inl ⟨by rfl, ?_⟩) ?_ ?_
  rotate_left
  · intro w'
    go_simp
    with_reducible rfl
  rotate_left
  · simp only [Act.put, List.setIfInBounds_toArray, List.set_cons_zero, List.set_cons_succ, i64_w, i32_w]
    rfl
  refine pure_ (i := 4) (N := some 50) (v := ?_) (a' := ?_) #[true, true, true, true, true, false, false, false, false] rfl rfl (by kernel_rfl) (fun _ _ _ h => h) (Or.inl ⟨by rfl, ?_⟩) ?_ ?_
  rotate_left
  · intro w'
    go_simp
    with_reducible rfl
  rotate_left
  · simp only [Act.put, List.setIfInBounds_toArray, List.set_cons_zero, List.set_cons_succ, i64_w, i32_w]
    rfl
  refine pure_ (i := 5) (N := some 51) (v := ?_) (a' := ?_) #[true, true, true, true, true, true, false, false, false] rfl rfl (by kernel_rfl) (fun _ _ _ h => h) (Or.inl ⟨by rfl, ?_⟩) ?_ ?_
  rotate_left
  · intro w'
    go_simp
    with_reducible rfl
  rotate_left
  · simp only [Act.put, List.setIfInBounds_toArray, List.set_cons_zero, List.set_cons_succ, i64_w, i32_w]
    rfl
  refine pure_ (i := 6) (N := some 52) (v := ?_) (a' := ?_) #[true, true, true, true, true, true, true, false, false] rfl rfl (by kernel_rfl) (fun _ _ _ h => h) (Or.inl ⟨by rfl, ?_⟩) ?_ ?_
  rotate_left
  · intro w'
    go_simp
    with_reducible rfl
  rotate_left
  · simp only [Act.put, List.setIfInBounds_toArray, List.set_cons_zero, List.set_cons_succ, i64_w, i32_w]
    rfl
  refine pure_ (i := 7) (N := some 53) (v := ?_) (a' := ?_) #[true, true, true, true, true, true, true, true, false] rfl rfl (by kernel_rfl) (fun _ _ _ h => h) (Or.inl ⟨by rfl, ?_⟩) ?_ ?_
  rotate_left
  · intro w'
    go_simp
    with_reducible rfl
  rotate_left
  · simp only [Act.put, List.setIfInBounds_toArray, List.set_cons_zero, List.set_cons_succ, i64_w, i32_w]
    rfl
  refine last_ (i := 8) (N := some 54) #[true, true, true, true, true, true, true, true, true] rfl rfl (by kernel_rfl) (by decide) (fun K hK => ?_)
  refine value_ (N := some 54) (by rfl) rfl (exec_copy (.tmp 50) (.tmp 53) rfl rfl rfl (hcp2 _ _ _)) ?_
  refine hK.out _ _ ?_
  clear hK K hHeld
  refine norm_ (a' := ?_) ?_ ?_
  rotate_left
  · show Act.put _ (some 54) _ = _
    simp only [Act.put, List.setIfInBounds_toArray, List.set_cons_zero, List.set_cons_succ, i64_w, i32_w]
    rfl
  refine done_ (by kernel_rfl) ?_
  -- grow]
  go_wp2_with fail
  go_ret
  exact ⟨C2, G, rfl, HF.out.1, HG.out, HF.out.2⟩
theorem ins_len {i : Nat} (hi : i ≤ L.length) : (L.take i ++ [x] ++ L.drop i).length = L.length + 1 := by
  rw [List.length_append, List.length_append, List.length_take, List.length_drop, List.length_singleton]
  omega
/-- slices.Insert, of one cell, wherever. -/
theorem Ins_calls {i : Nat} (hO : Own w base v L) (hb : base ≤ w.heap.size) (hx : okC x) (hv : w.heap[gv]? = some (.cells (ce x).toArray TC (0, 0))) (hne : v.ownBlock ≠ some gv) (hi : i ≤ L.length) (hl : L.length < 100000) :
    Calls Try.prog 36 #[v, .int .i64 (i : Int), .slice (some ⟨gv, 0, none⟩) 1 1] w fun e w' => ∃ v', e = .returned v' ∧ Own w' base v' (L.take i ++ [x] ++ L.drop i) ∧ w.grownBy w' v.ownBlock ∧ (v'.ownBlock = v.ownBlock ∨ ∃ b, v'.ownBlock = some b ∧ w.heap.size ≤ b) := by
  by_cases he : i = L.length
  · subst he
    rw [List.take_of_length_le (Nat.le_refl _), List.drop_of_length_le (Nat.le_refl _), List.append_nil]
    exact ins_end hO hb hx hv hl
  · obtain ⟨_, hk⟩ := own_raw hO
    have hk2 : ∀ y ∈ L.take i ++ [x] ++ L.drop i, okC y := fun y hy => by
      simp only [List.mem_append, List.mem_singleton] at hy
      rcases hy with (hy | rfl) | hy
      · exact hk y (List.mem_of_mem_take hy)
      · exact hx
      · exact hk y (List.mem_of_mem_drop hy)
    rcases own_form hO with ⟨rfl, rfl⟩ | ⟨g, cap, cur, rfl, hbg, hg, hlc, hcm, hcs, ht⟩
    · simp at hi; exact absurd hi (by simpa using he)
    · have hng : gv ≠ g := fun e => hne (by rw [e]; rfl)
      by_cases hr : L.length + 1 ≤ cap
      · refine (ins_room hg hcm hcs ht hk (by omega) hr hx hv hng hl).mono ?_
        rintro e w' ⟨C, rfl, h1, h2, h3, h4⟩
        refine ⟨_, rfl, raw_own ⟨fl_len hk2, .inr ⟨g, cap, C, by rw [ins_len hi], hbg, h1, by rw [ins_len hi]; exact hr, hcm, h2, by rw [ins_len hi]; exact h3⟩⟩ hk2, h4, Or.inl rfl⟩
      · refine (ins_grow hg hlc ht hk (by omega) (by omega) hx hv hl).mono ?_
        rintro e w' ⟨C, G, rfl, h1, h2, h3, h4, h5⟩
        refine ⟨_, rfl, raw_own ⟨fl_len hk2, .inr ⟨w.heap.size, G, C, by rw [ins_len hi], hb, h1, by rw [ins_len hi]; exact h2.1, h2.2, h3, by rw [ins_len hi]; exact h4⟩⟩ hk2, grown_of_below h5 _, Or.inr ⟨_, rfl, Nat.le_refl _⟩⟩
end
end Go.Proofs.Ytkcdlilglgfkaaa.Rg
