/- stemmalaw11.RgaLess, walked. -/
import Derived.Test.YtkcdlilglgfkaaaRgN
import Derived.Test.YtkcdlilglgfkaaaHsf
set_option linter.unusedVariables false
set_option linter.unusedSimpArgs false
namespace Go.Proofs.Ytkcdlilglgfkaaa.Rg
open Go Go.RowKit Go.Proofs.YtkcdlilglgfkaaaW.PrintWords Go.Proofs.YtkcdlilglgfkaaaW.PrintLast Go.Proofs.YtkcdlilglgfkaaaW.PrintMore Go.Proofs.Ytkcdlilglgfkaaa.PA Go.Proofs.Ytkcdlilglgfkaaa.Ar Go.Proofs.Ytkcdlilglgfkaaa.Sha
abbrev TF : TypeId := 26
theorem row_below {B : Nat} {w w1 : World} {g : Nat} {cs : Array Value} (h : Below B w w1) (hB : B ≤ g) (hg : g < w1.heap.size) : Below B w (w1.setRow g cs) :=
  h.trans ⟨rfl, rfl, rfl, by rw [size_setRow]; exact Nat.le_refl _, fun k hk => setRow_other w1 g k cs (by omega)⟩
theorem range_at {w : World} {g o : Nat} {cur : Array Value} {C : List Value} {T : TypeId} (h : w.heap[g]? = some (.cells cur T (0, 0))) (hc : ∀ j v, C[j]? = some v → cur[o + j]? = some v) : w.rangeAt g o C := fun j v hv => by
  rw [blk_cell h]; exact hc j v hv
/-- The box of both hashes. -/
structure Bx (w : World) (C D : List Value) (w' : World) : Prop where
  bel : Below w.heap.size w w'
  big : w.heap.size < w'.heap.size
  box : w'.heap[w.heap.size]? = some (.cells (C ++ D).toArray 24 (0, 0))
def SA (w : World) (C D : List Value) (w' : World) : Prop := w'.rangeAt w.heap.size 0 C ∧ w'.rangeAt w.heap.size 32 D ∧ Aside0 (Bx w C D w')
theorem sa_of {w w' : World} {C D : List Value} (hC : C.length = 32) (h : Bx w C D w') : SA w C D w' :=
  ⟨range_at h.box (fun j v hj => by rw [List.getElem?_toArray, Nat.zero_add, List.getElem?_append_left (List.getElem?_eq_some_iff.1 hj).1]; exact hj),
   range_at h.box (fun j v hj => by rw [List.getElem?_toArray, List.getElem?_append_right (by omega), hC, Nat.add_sub_cancel_left]; exact hj), ⟨h⟩⟩
/-- The two ids' blocks. -/
structure Tw (w : World) (C D : List Value) (A B : Array Value) (g h : Nat) (w' : World) : Prop where
  bx : Bx w C D w'
  bg : w'.heap[g]? = some (.cells A TF (0, 0))
  bh : w'.heap[h]? = some (.cells B TF (0, 0))
  ne : g ≠ h
  lg : w.heap.size < g
  lh : w.heap.size < h
theorem Tw.setg {w w' : World} {C D : List Value} {A B : Array Value} {g h : Nat} (H : Tw w C D A B g h w') (X : Array Value) : Tw w C D X B g h (w'.setRow g X) :=
  ⟨⟨row_below H.bx.bel (by have := H.lg; omega) (blk_lt H.bg), by rw [size_setRow]; exact H.bx.big, (setRow_other w' g _ X (by have := H.lg; omega)).trans H.bx.box⟩, blk_row H.bg X, (setRow_other w' g h X H.ne.symm).trans H.bh, H.ne, H.lg, H.lh⟩
theorem Tw.seth {w w' : World} {C D : List Value} {A B : Array Value} {g h : Nat} (H : Tw w C D A B g h w') (X : Array Value) : Tw w C D A X g h (w'.setRow h X) :=
  ⟨⟨row_below H.bx.bel (by have := H.lh; omega) (blk_lt H.bh), by rw [size_setRow]; exact H.bx.big, (setRow_other w' h _ X (by have := H.lh; omega)).trans H.bx.box⟩, (setRow_other w' h g X H.ne).trans H.bg, blk_row H.bh X, H.ne, H.lg, H.lh⟩
theorem Bx.step {w w' w2 : World} {C D : List Value} (h : Bx w C D w') (hb : Below w'.heap.size w' w2) : Bx w C D w2 := ⟨below_step h.bel hb, Nat.lt_of_lt_of_le h.big hb.size, blk_below h.box hb⟩
theorem Tw.step {w w' w2 : World} {C D : List Value} {A B : Array Value} {g h : Nat} (H : Tw w C D A B g h w') (hb : Below w'.heap.size w' w2) : Tw w C D A B g h w2 := ⟨H.bx.step hb, blk_below H.bg hb, blk_below H.bh hb, H.ne, H.lg, H.lh⟩
theorem tw_new {w w' : World} {C D : List Value} {Z : Array Value} (h : Bx w C D w') : Tw w C D Z Z w'.heap.size (w'.heap.size + 1) ((w'.alloc (.cells Z TF)).alloc (.cells Z TF)) :=
  ⟨h.step (below_alloc (below_alloc (Below.refl _ _) _) _), blk_alloc (blk_new w' _) _, new_at _ _ _ (by simp), by omega, h.big, by have := h.big; omega⟩
theorem Tw.swap {w w' : World} {C D : List Value} {A B : Array Value} {g h : Nat} (H : Tw w C D A B g h w') : Tw w C D B A h g w' := ⟨H.bx, H.bh, H.bg, H.ne.symm, H.lh, H.lg⟩
def SR (w : World) (C D X Y : List Value) (g h : Nat) (w' : World) : Prop := w'.rangeAt g 0 X ∧ w'.rangeAt h 0 Y ∧ Aside0 (Tw w C D X.toArray Y.toArray g h w')
theorem sr_of {w w' : World} {C D X Y : List Value} {g h : Nat} (H : Tw w C D X.toArray Y.toArray g h w') : SR w C D X Y g h w' :=
  ⟨range_at H.bg (fun j v hj => by rw [List.getElem?_toArray, Nat.zero_add]; exact hj), range_at H.bh (fun j v hj => by rw [List.getElem?_toArray, Nat.zero_add]; exact hj), ⟨H⟩⟩
theorem sr_step {w w' w2 : World} {C D X Y : List Value} {g h : Nat} (hb : Below w'.heap.size w' w2) (H : Aside0 (Tw w C D X.toArray Y.toArray g h w')) : SR w C D X Y g h w2 := sr_of (H.out.step hb)
section
variable {P : Program} {ops : Array Oper} {oi : Oper} {a : Act} {w : World} {K : Act → World → Prop} {Q : Exit → Act → World → Prop} {N : Option Tmp}
theorem alloc_ (T : TypeId) (Z : Array Value) (hw : Region.wanted oi (yielded ops a.tmps) = true) (ho : oi.op = .alloc T) (hN : oi.dst = N) (hz : ∀ w : World, (zeroValue T).run P w = .ok (.agg Z) w)
    (h : K (a.put N (.pointer (some ⟨w.heap.size, 0, none⟩))) (w.alloc (.cells Z T))) : if Region.wanted oi (yielded ops a.tmps) = true then Oper.wp P oi a w K Q else K (a.put N undef) w := by
  rw [if_pos hw]
  subst hN
  have hr : (Instr.alloc T true (.tuple #[])).run P w = .ok (.pointer (some ⟨w.heap.size, 0, none⟩)) (w.alloc (.cells Z T)) := by
    unfold Instr.alloc
    rw [Sem.run_bind, hz w]
    rfl
  unfold Oper.wp execOp
  simp only [ho, Sem.run_bind, hr, Result.andThen_ok]
  exact h
theorem store_ (hw : Region.wanted oi (yielded ops a.tmps) = true) (ty : TypeId) (x y : Operand) (ho : oi.op = .store ty x y) (hN : oi.dst = N) (g : Nat) (cells : Array Value) (hx : a.eval x = .pointer (some ⟨g, 0, none⟩)) (hy : a.eval y = .agg cells) (T : TypeId) (cur : Array Value)
    (hg : w.heap[g]? = some (.cells cur T (0, 0))) (hl : cells.size = cur.size) (hi : (P.info? ty).map (·.size) = some cells.size) (h1 : cells.all (·.oneCell') = true)
    (h : K (a.put N undef) (w.setRow g cells)) : if Region.wanted oi (yielded ops a.tmps) = true then Oper.wp P oi a w K Q else K (a.put N undef) w := by
  rw [if_pos hw]
  subst hN
  refine wp_store_at ty x y ho g 0 cells hx hy T cur hg (by omega) hi h1 ?_
  rw [splice_all _ _ (by rw [Array.length_toList, Array.length_toList]; exact hl), Array.toArray_toList]
  exact h
end
theorem lessF_self (l : List Int) : lessF l l = false := lessF_same l
theorem lessI_self (x : Idt) : lessI x x = false := by unfold lessI; rw [if_pos rfl]; exact lessF_same _
end Go.Proofs.Ytkcdlilglgfkaaa.Rg
namespace Go.Proofs.Ytkcdlilglgfkaaa.PA
open Go Go.RowKit Go.Proofs.YtkcdlilglgfkaaaW.PrintWords Go.Proofs.YtkcdlilglgfkaaaW.PrintLast Go.Proofs.YtkcdlilglgfkaaaW.PrintMore Go.Proofs.Ytkcdlilglgfkaaa.Ar Go.Proofs.Ytkcdlilglgfkaaa.Sha Go.Proofs.Ytkcdlilglgfkaaa.Rg
def stemmalaw11_RgaLess.f (a b : Int) (l : List Int) : Option Bool := some true
set_option maxRecDepth 100000 in
set_option maxHeartbeats 4000000 in
theorem stemmalaw11_RgaLess.calls (a b : Int) (l : List Int) (r : Bool) (w : World) (hl : l.length = 64) (hB : ∀ x ∈ l, isB x) (hr_ : Aside0 (r = true)) (h : stemmalaw11_RgaLess.f a b l = some r) :
    Calls Try.prog 3 #[.int .i64 a, .int .i64 b, .agg (ns .u8 l)] w fun e w' => e = .returned (.bool r) ∧ Below w.heap.size w w' := by
  obtain ⟨rfl⟩ := hr_
  clear h hB
  have hx : (l.take 32).length = 32 := by rw [List.length_take]; omega
  have hy : (l.drop 32).length = 32 := by rw [List.length_drop]; omega
  have OX := Aside0.mk (fun W => own_calls W (a, l.take 32) hx)
  have OY := Aside0.mk (fun W => own_calls W (b, l.drop 32) hy)
  have LXY := Aside0.mk (fun W => LessI_calls W (a, l.take 32) (b, l.drop 32) hx hy)
  have RXY := Aside0.mk (fun W => RLessI_calls W (a, l.take 32) (b, l.drop 32) hx hy)
  have LYX := Aside0.mk (fun W => LessI_calls W (b, l.drop 32) (a, l.take 32) hy hx)
  have RYX := Aside0.mk (fun W => RLessI_calls W (b, l.drop 32) (a, l.take 32) hy hx)
  have LXX := Aside0.mk (fun W => LessI_calls W (a, l.take 32) (a, l.take 32) hx hx)
  rw [lessI_self] at LXX
  obtain ⟨p, hp⟩ : ∃ p, lessI (a, l.take 32) (b, l.drop 32) = p := ⟨_, rfl⟩
  obtain ⟨q, hq⟩ : ∃ q, lessI (b, l.drop 32) (a, l.take 32) = q := ⟨_, rfl⟩
  rw [hp] at LXY RXY
  rw [hq] at LYX RYX
  have HBX : Aside0 (Try.prog.built TF [(0, .int .i64 a), (1, .agg (ns .u8 (l.take 32)))] = some (iv (a, l.take 32)).toArray) := ⟨built_ref (a, l.take 32) hx⟩
  have HBY : Aside0 (Try.prog.built TF [(0, .int .i64 b), (1, .agg (ns .u8 (l.drop 32)))] = some (iv (b, l.drop 32)).toArray) := ⟨built_ref (b, l.drop 32) hy⟩
  have HZ := Aside0.mk zero_ref
  have HZs : Aside0 ((iv z0).toArray.size = 33) := ⟨rfl⟩
  have HX1 : Aside0 (((iv (a, l.take 32)).toArray).all (·.oneCell') = true) := ⟨iv_all _⟩
  have HY1 : Aside0 (((iv (b, l.drop 32)).toArray).all (·.oneCell') = true) := ⟨iv_all _⟩
  have HXs : Aside0 ((iv (a, l.take 32)).toArray.size = 33) := ⟨by rw [List.size_toArray, iv_len hx]⟩
  have HYs : Aside0 ((iv (b, l.drop 32)).toArray.size = 33) := ⟨by rw [List.size_toArray, iv_len hy]⟩
  obtain ⟨X, hX⟩ : ∃ X, iv (a, l.take 32) = X := ⟨_, rfl⟩
  obtain ⟨Y, hY⟩ : ∃ Y, iv (b, l.drop 32) = Y := ⟨_, rfl⟩
  obtain ⟨Z, hZ⟩ : ∃ Z, (iv z0).toArray = Z := ⟨_, rfl⟩
  have hC : ns .u8 (l.take 32) = (nums .u8 (l.take 32)).toArray := (ns_arr _).symm
  have hD : ns .u8 (l.drop 32) = (nums .u8 (l.drop 32)).toArray := (ns_arr _).symm
  have hL : ns .u8 l = (nums .u8 (l.take 32) ++ nums .u8 (l.drop 32)).toArray := by
    rw [← ns_arr]
    congr 1
    rw [nums, nums, nums, ← List.map_append, List.take_append_drop]
  rw [hX] at OX LXY RXY LYX RYX LXX HBX HX1 HXs
  rw [hY] at OY LXY RXY LYX RYX HBY HY1 HYs
  rw [hZ] at HZ HZs
  rw [hC] at HBX
  rw [hD] at HBY
  rw [hL]
  have hCS : (nums .u8 (l.take 32)).length = 32 := by rw [nums_len]; exact hx
  have hDS : (nums .u8 (l.drop 32)).length = 32 := by rw [nums_len]; exact hy
  obtain ⟨C, hC1⟩ : ∃ C, nums .u8 (l.take 32) = C := ⟨_, rfl⟩
  obtain ⟨D, hD1⟩ : ∃ D, nums .u8 (l.drop 32) = D := ⟨_, rfl⟩
  rw [hC1] at HBX hCS ⊢
  rw [hD1] at HBY hDS ⊢
  have hu : Try.prog.underlying 23 = some (.array 32 5) := Try.underlying23
  have hu24 := Try.underlying24
  have hu26 := Try.underlying26
  have hi : (Try.prog.info? 23).map (·.size) = some C.length := by rw [hCS]; exact size_by
  have hi2 : (Try.prog.info? 23).map (·.size) = some D.length := by rw [hDS]; exact size_by
  have hi3 := size_by
  have hiX : (Try.prog.info? TF).map (·.size) = some X.length := by rw [← List.size_toArray, HXs.out]; exact size_ref
  have hiY : (Try.prog.info? TF).map (·.size) = some Y.length := by rw [← List.size_toArray, HYs.out]; exact size_ref
  have HSB := Aside0.mk (fun (W : World) (h : Bx w C D W) => sa_of hCS h)
  have HSA : Aside0 (Bx w C D (w.alloc (.cells (C ++ D).toArray 24))) := ⟨⟨below_alloc (Below.refl _ _) _, by simp, blk_new w _⟩⟩
  clear hl hx hy hC hD hL hCS hDS hC1 hD1 hX hY hZ hp hq
  go_enter Try.func3, Try.ntmps3
  go_wp2_with fail
  generalize w.alloc (.cells (C ++ D).toArray 24) = w1 at *
  -- [r1
  refine start_ (n := 12) (S := SA w C D) (ds := []) #[false, false, false, false, false, false, false, false, false, false, false, false] (by kernel_rfl) rfl rfl (HSB.out _ (HSA.out.step (pw_below_drewN (Below.refl _ _) 1))) (fun hHeld => ?_)
  generalize w1.drew = wd at hHeld ⊢
  clear HSA
  refine pure_ (i := 0) (N := some 9) (v := ?_) (a' := ?_) #[true, false, false, false, false, false, false, false, false, false, false, false] rfl rfl (by kernel_rfl) (fun _ _ _ h => h) (Or.inl ⟨by rfl, ?_⟩) ?_ ?_
  rotate_left
  · intro w'
    go_simp
    with_reducible rfl
  rotate_left
  · simp only [Act.put, List.setIfInBounds_toArray, List.set_cons_zero, List.set_cons_succ, i64_w, i32_w]
    rfl
  refine pure_ (i := 1) (N := some 10) (v := ?_) (a' := ?_) #[true, true, false, false, false, false, false, false, false, false, false, false] rfl rfl (by kernel_rfl) (fun _ _ _ h => h) (Or.inl ⟨by rfl, ?_⟩) ?_ ?_
  rotate_left
  · intro w'
    go_simp
    with_reducible rfl
  rotate_left
  · simp only [Act.put, List.setIfInBounds_toArray, List.set_cons_zero, List.set_cons_succ, i64_w, i32_w]
    rfl
  refine take_ (i := 2) (N := some 11) (v := .agg C.toArray) (a' := ?_) #[true, true, true, false, false, false, false, false, false, false, false, false] rfl rfl (by kernel_rfl) (fun _ _ _ h => h) (yieldsIf_load_mid (by rfl) 23 (.tmp 10) rfl w.heap.size 0 rfl C _ (fun w' hS => hS.1) hu rfl hi) hHeld ?_ ?_
  rotate_left
  · simp only [Act.put, List.setIfInBounds_toArray, List.set_cons_zero, List.set_cons_succ, i64_w, i32_w]
    rfl
  refine pure_ (i := 3) (N := some 12) (v := .agg X.toArray) (a' := ?_) #[true, true, true, true, false, false, false, false, false, false, false, false] rfl rfl (by kernel_rfl) (fun _ _ _ h => h) (Or.inl ⟨by rfl, fun w' => exec_build TF #[(0, .tmp 9), (1, .tmp 11)] rfl _ (by first | rfl | (simp only [List.map_toArray, List.map_cons, List.map_nil]; rfl)) _ HBX.out⟩) ?_ ?_
  rotate_left
  · simp only [Act.put, List.setIfInBounds_toArray, List.set_cons_zero, List.set_cons_succ, i64_w, i32_w]
    rfl
  refine pure_ (i := 4) (N := some 13) (v := ?_) (a' := ?_) #[true, true, true, true, true, false, false, false, false, false, false, false] rfl rfl (by kernel_rfl) (fun _ _ _ h => h) (Or.inl ⟨by rfl, ?_⟩) ?_ ?_
  rotate_left
  · intro w'
    go_simp
    with_reducible rfl
  rotate_left
  · simp only [Act.put, List.setIfInBounds_toArray, List.set_cons_zero, List.set_cons_succ, i64_w, i32_w]
    rfl
  refine pure_ (i := 5) (N := some 14) (v := ?_) (a' := ?_) #[true, true, true, true, true, true, false, false, false, false, false, false] rfl rfl (by kernel_rfl) (fun _ _ _ h => h) (Or.inl ⟨by rfl, ?_⟩) ?_ ?_
  rotate_left
  · intro w'
    go_simp
    with_reducible rfl
  rotate_left
  · simp only [Act.put, List.setIfInBounds_toArray, List.set_cons_zero, List.set_cons_succ, i64_w, i32_w]
    rfl
  refine take_ (i := 6) (N := some 15) (v := .agg D.toArray) (a' := ?_) #[true, true, true, true, true, true, true, false, false, false, false, false] rfl rfl (by kernel_rfl) (fun _ _ _ h => h) (yieldsIf_load_mid (by rfl) 23 (.tmp 14) rfl w.heap.size 32 rfl D _ (fun w' hS => hS.2.1) hu rfl hi2) hHeld ?_ ?_
  rotate_left
  · simp only [Act.put, List.setIfInBounds_toArray, List.set_cons_zero, List.set_cons_succ, i64_w, i32_w]
    rfl
  refine pure_ (i := 7) (N := some 16) (v := .agg Y.toArray) (a' := ?_) #[true, true, true, true, true, true, true, true, false, false, false, false] rfl rfl (by kernel_rfl) (fun _ _ _ h => h) (Or.inl ⟨by rfl, fun w' => exec_build TF #[(0, .tmp 13), (1, .tmp 15)] rfl _ (by first | rfl | (simp only [List.map_toArray, List.map_cons, List.map_nil]; rfl)) _ HBY.out⟩) ?_ ?_
  rotate_left
  · simp only [Act.put, List.setIfInBounds_toArray, List.set_cons_zero, List.set_cons_succ, i64_w, i32_w]
    rfl
  refine join_ (σ := Nat × Nat) 2 #[true, true, true, true, true, true, true, true, true, true, false, false] (fun s => [(7, .pointer (some ⟨s.1, 0, none⟩)), (8, .pointer (some ⟨s.2, 0, none⟩))]) (fun s w' => Aside0 (Tw w C D Z Z s.1 s.2 w')) ?_ ?_
  rotate_left
  · intro HJ
    refine two_ (i := 8) (j := 9) (Ni := some 7) (Nj := some 8) #[true, true, true, true, true, true, true, true, true, false, false, false] #[true, true, true, true, true, true, true, true, false, true, false, false] rfl rfl rfl rfl (by kernel_rfl) (by decide) (by decide) (fun K hK => ?_) (fun K hK => ?_)
    · refine alloc_ TF Z (by rfl) rfl rfl HZ.out ?_
      refine hK.out _ _ (HSB.out _ (hHeld.2.2.out.step (below_alloc (Below.refl _ _) _))) (fun hH2 => ?_)
      refine one_ (i := 9) (N := some 8) #[true, true, true, true, true, true, true, true, true, true, false, false] rfl rfl (by kernel_rfl) (by decide) (fun K2 hK2 => ?_)
      refine alloc_ TF Z (by rfl) rfl rfl HZ.out ?_
      have HT := Aside0.mk (tw_new (Z := Z) hHeld.2.2.out)
      refine hK2.out _ _ (HSB.out _ HT.out.bx) (fun _ => ?_)
      refine norm_ (a' := _) ?_ (HJ (wd.heap.size, wd.heap.size + 1) _ HT)
      simp only [putAll, Act.put, List.setIfInBounds_toArray, List.set_cons_zero, List.set_cons_succ, i64_w, i32_w, World.alloc, Array.size_push]
    · refine alloc_ TF Z (by rfl) rfl rfl HZ.out ?_
      refine hK.out _ _ (HSB.out _ (hHeld.2.2.out.step (below_alloc (Below.refl _ _) _))) (fun hH2 => ?_)
      refine one_ (i := 8) (N := some 7) #[true, true, true, true, true, true, true, true, true, true, false, false] rfl rfl (by kernel_rfl) (by decide) (fun K2 hK2 => ?_)
      refine alloc_ TF Z (by rfl) rfl rfl HZ.out ?_
      have HT := Aside0.mk (tw_new (Z := Z) hHeld.2.2.out)
      refine hK2.out _ _ (HSB.out _ HT.out.bx) (fun _ => ?_)
      refine norm_ (a' := _) ?_ (HJ (wd.heap.size + 1, wd.heap.size) _ ⟨HT.out.swap⟩)
      simp only [putAll, Act.put, List.setIfInBounds_toArray, List.set_cons_zero, List.set_cons_succ, i64_w, i32_w, World.alloc, Array.size_push]
  rintro ⟨g7, g8⟩ w' HF
  refine norm_ (a' := ?_) ?_ ?_
  rotate_left
  · simp only [putAll]
    simp only [Act.put, List.setIfInBounds_toArray, List.set_cons_zero, List.set_cons_succ, i64_w, i32_w]
    rfl
  clear hHeld
  refine one_ (i := 10) (N := none) #[true, true, true, true, true, true, true, true, true, true, true, false] rfl rfl (by kernel_rfl) (by decide) (fun K hK => ?_)
  refine store_ (by rfl) TF (.tmp 7) (.tmp 12) rfl rfl g7 X.toArray rfl rfl TF _ HF.out.bg (by rw [HXs.out, HZs.out]) (by rw [HXs.out]; exact size_ref) HX1.out ?_
  have HF1 := Aside0.mk (HF.out.setg X.toArray)
  refine hK.out _ _ (HSB.out _ HF1.out.bx) (fun _ => ?_)
  clear hK K HF
  generalize w'.setRow g7 X.toArray = w' at HF1 ⊢
  refine one_ (i := 11) (N := none) #[true, true, true, true, true, true, true, true, true, true, true, true] rfl rfl (by kernel_rfl) (by decide) (fun K hK => ?_)
  refine store_ (by rfl) TF (.tmp 8) (.tmp 16) rfl rfl g8 Y.toArray rfl rfl TF _ HF1.out.bh (by rw [HYs.out, HZs.out]) (by rw [HYs.out]; exact size_ref) HY1.out ?_
  have HF2 := Aside0.mk (HF1.out.seth Y.toArray)
  refine hK.out _ _ (HSB.out _ HF2.out.bx) (fun _ => ?_)
  clear hK K HF1
  generalize w'.setRow g8 Y.toArray = w' at HF2 ⊢
  refine done_ (by kernel_rfl) ?_
  clear HSB HBX HBY HX1 HY1 HXs HYs HZs HZ
  go_wp2_with fail
  refine start_ (n := 32) (S := SR w C D X Y g7 g8) (ds := []) #[false, false, false, false, false, false, false, false, false, false, false, false, false, false, false, false, false, false, false, false, false, false, false, false, false, false, false, false, false, false, false, false] (by kernel_rfl) rfl rfl (sr_of (HF2.out.step (pw_below_drewN (Below.refl _ _) 1))) (fun hHeld => ?_)
  generalize w'.drew = wd at hHeld ⊢
  clear HF2
  refine take_ (i := 0) (N := some 17) (v := .agg X.toArray) (a' := ?_) #[true, false, false, false, false, false, false, false, false, false, false, false, false, false, false, false, false, false, false, false, false, false, false, false, false, false, false, false, false, false, false, false] rfl rfl (by kernel_rfl) (fun _ _ _ h => h) (yieldsIf_load_mid (by rfl) 26 (.tmp 7) rfl g7 0 rfl X _ (fun w' hS => hS.1) hu26 rfl hiX) hHeld ?_ ?_
  rotate_left
  · simp only [Act.put, List.setIfInBounds_toArray, List.set_cons_zero, List.set_cons_succ, i64_w, i32_w]
    rfl
  refine take_ (i := 2) (N := some 19) (v := .agg Y.toArray) (a' := ?_) #[true, false, true, false, false, false, false, false, false, false, false, false, false, false, false, false, false, false, false, false, false, false, false, false, false, false, false, false, false, false, false, false] rfl rfl (by kernel_rfl) (fun _ _ _ h => h) (yieldsIf_load_mid (by rfl) 26 (.tmp 8) rfl g8 0 rfl Y _ (fun w' hS => hS.2.1) hu26 rfl hiY) hHeld ?_ ?_
  rotate_left
  · simp only [Act.put, List.setIfInBounds_toArray, List.set_cons_zero, List.set_cons_succ, i64_w, i32_w]
    rfl
  refine take_ (i := 5) (N := some 22) (v := .agg X.toArray) (a' := ?_) #[true, false, true, false, false, true, false, false, false, false, false, false, false, false, false, false, false, false, false, false, false, false, false, false, false, false, false, false, false, false, false, false] rfl rfl (by kernel_rfl) (fun _ _ _ h => h) (yieldsIf_load_mid (by rfl) 26 (.tmp 7) rfl g7 0 rfl X _ (fun w' hS => hS.1) hu26 rfl hiX) hHeld ?_ ?_
  rotate_left
  · simp only [Act.put, List.setIfInBounds_toArray, List.set_cons_zero, List.set_cons_succ, i64_w, i32_w]
    rfl
  refine take_ (i := 6) (N := some 23) (v := .agg Y.toArray) (a' := ?_) #[true, false, true, false, false, true, true, false, false, false, false, false, false, false, false, false, false, false, false, false, false, false, false, false, false, false, false, false, false, false, false, false] rfl rfl (by kernel_rfl) (fun _ _ _ h => h) (yieldsIf_load_mid (by rfl) 26 (.tmp 8) rfl g8 0 rfl Y _ (fun w' hS => hS.2.1) hu26 rfl hiY) hHeld ?_ ?_
  rotate_left
  · simp only [Act.put, List.setIfInBounds_toArray, List.set_cons_zero, List.set_cons_succ, i64_w, i32_w]
    rfl
  refine one_ (i := 1) (N := some 18) #[true, true, true, false, false, true, true, false, false, false, false, false, false, false, false, false, false, false, false, false, false, false, false, false, false, false, false, false, false, false, false, false] rfl rfl (by kernel_rfl) (by decide) (fun K hK => ?_)
  refine goes_ Try.func12 (by kernel_rfl) rfl #[.agg X.toArray] (by rfl) rfl rfl (by first | rfl | (simp only [List.map_toArray, List.map_cons, List.map_nil]; done) | (simp only [List.map_toArray, List.map_cons, List.map_nil]; rfl)) ?_
  refine (OX.out _).mono ?_
  rintro e w2 ⟨rfl, hb2⟩
  refine ⟨_, rfl, ?_⟩
  have hS2 := sr_step hb2 hHeld.2.2
  clear hb2 hHeld
  refine hK.out _ _ hS2 (fun hHeld => ?_)
  clear hK K hS2
  refine norm_ (a' := ?_) ?_ ?_
  rotate_left
  · show Act.put _ (some 18) _ = _
    simp only [Act.put, List.setIfInBounds_toArray, List.set_cons_zero, List.set_cons_succ, i64_w, i32_w]
    rfl
  refine one_ (i := 3) (N := some 20) #[true, true, true, true, false, true, true, false, false, false, false, false, false, false, false, false, false, false, false, false, false, false, false, false, false, false, false, false, false, false, false, false] rfl rfl (by kernel_rfl) (by decide) (fun K hK => ?_)
  refine goes_ Try.func12 (by kernel_rfl) rfl #[.agg Y.toArray] (by rfl) rfl rfl (by first | rfl | (simp only [List.map_toArray, List.map_cons, List.map_nil]; done) | (simp only [List.map_toArray, List.map_cons, List.map_nil]; rfl)) ?_
  refine (OY.out _).mono ?_
  rintro e w2 ⟨rfl, hb2⟩
  refine ⟨_, rfl, ?_⟩
  have hS2 := sr_step hb2 hHeld.2.2
  clear hb2 hHeld
  refine hK.out _ _ hS2 (fun hHeld => ?_)
  clear hK K hS2
  refine norm_ (a' := ?_) ?_ ?_
  rotate_left
  · show Act.put _ (some 20) _ = _
    simp only [Act.put, List.setIfInBounds_toArray, List.set_cons_zero, List.set_cons_succ, i64_w, i32_w]
    rfl
  refine one_ (i := 4) (N := some 21) #[true, true, true, true, true, true, true, false, false, false, false, false, false, false, false, false, false, false, false, false, false, false, false, false, false, false, false, false, false, false, false, false] rfl rfl (by kernel_rfl) (by decide) (fun K hK => ?_)
  refine goes_ Try.func11 (by kernel_rfl) rfl #[.agg X.toArray, .agg Y.toArray] (by rfl) rfl rfl (by first | rfl | (simp only [List.map_toArray, List.map_cons, List.map_nil]; done) | (simp only [List.map_toArray, List.map_cons, List.map_nil]; rfl)) ?_
  refine (LXY.out _).mono ?_
  rintro e w2 ⟨rfl, hb2⟩
  refine ⟨_, rfl, ?_⟩
  have hS2 := sr_step hb2 hHeld.2.2
  clear hb2 hHeld
  refine hK.out _ _ hS2 (fun hHeld => ?_)
  clear hK K hS2
  refine norm_ (a' := ?_) ?_ ?_
  rotate_left
  · show Act.put _ (some 21) _ = _
    simp only [Act.put, List.setIfInBounds_toArray, List.set_cons_zero, List.set_cons_succ, i64_w, i32_w]
    rfl
  refine one_ (i := 7) (N := some 24) #[true, true, true, true, true, true, true, true, false, false, false, false, false, false, false, false, false, false, false, false, false, false, false, false, false, false, false, false, false, false, false, false] rfl rfl (by kernel_rfl) (by decide) (fun K hK => ?_)
  refine goes_ Try.func13 (by kernel_rfl) rfl #[.agg X.toArray, .agg Y.toArray] (by rfl) rfl rfl (by first | rfl | (simp only [List.map_toArray, List.map_cons, List.map_nil]; done) | (simp only [List.map_toArray, List.map_cons, List.map_nil]; rfl)) ?_
  refine (RXY.out _).mono ?_
  rintro e w2 ⟨rfl, hb2⟩
  refine ⟨_, rfl, ?_⟩
  have hS2 := sr_step hb2 hHeld.2.2
  clear hb2 hHeld
  refine hK.out _ _ hS2 (fun hHeld => ?_)
  clear hK K hS2
  refine norm_ (a' := ?_) ?_ ?_
  rotate_left
  · show Act.put _ (some 24) _ = _
    simp only [Act.put, List.setIfInBounds_toArray, List.set_cons_zero, List.set_cons_succ, i64_w, i32_w]
    rfl
  refine pure_ (i := 8) (N := some 25) (v := .bool true) (a' := ?_) #[true, true, true, true, true, true, true, true, true, false, false, false, false, false, false, false, false, false, false, false, false, false, false, false, false, false, false, false, false, false, false, false] rfl rfl (by kernel_rfl) (fun _ _ _ h => h) (Or.inl ⟨by rfl, ?_⟩) ?_ ?_
  · intro w'
    go_simp
    try simp
  rotate_left
  · simp only [Act.put, List.setIfInBounds_toArray, List.set_cons_zero, List.set_cons_succ, i64_w, i32_w]
    rfl
  refine pure_ (i := 9) (N := some 26) (v := ?_) (a' := ?_) #[true, true, true, true, true, true, true, true, true, true, false, false, false, false, false, false, false, false, false, false, false, false, false, false, false, false, false, false, false, false, false, false] rfl rfl (by kernel_rfl) (fun _ _ _ h => h) (Or.inl ⟨by rfl, ?_⟩) ?_ ?_
  rotate_left
  · intro w'
    go_simp
    with_reducible rfl
  rotate_left
  · simp only [Act.put, List.setIfInBounds_toArray, List.set_cons_zero, List.set_cons_succ, i64_w, i32_w]
    rfl
  refine take_ (i := 10) (N := some 27) (v := .agg Y.toArray) (a' := ?_) #[true, true, true, true, true, true, true, true, true, true, true, false, false, false, false, false, false, false, false, false, false, false, false, false, false, false, false, false, false, false, false, false] rfl rfl (by kernel_rfl) (fun _ _ _ h => h) (yieldsIf_load_mid (by rfl) 26 (.tmp 8) rfl g8 0 rfl Y _ (fun w' hS => hS.2.1) hu26 rfl hiY) hHeld ?_ ?_
  rotate_left
  · simp only [Act.put, List.setIfInBounds_toArray, List.set_cons_zero, List.set_cons_succ, i64_w, i32_w]
    rfl
  refine take_ (i := 12) (N := some 29) (v := .agg X.toArray) (a' := ?_) #[true, true, true, true, true, true, true, true, true, true, true, false, true, false, false, false, false, false, false, false, false, false, false, false, false, false, false, false, false, false, false, false] rfl rfl (by kernel_rfl) (fun _ _ _ h => h) (yieldsIf_load_mid (by rfl) 26 (.tmp 7) rfl g7 0 rfl X _ (fun w' hS => hS.1) hu26 rfl hiX) hHeld ?_ ?_
  rotate_left
  · simp only [Act.put, List.setIfInBounds_toArray, List.set_cons_zero, List.set_cons_succ, i64_w, i32_w]
    rfl
  refine take_ (i := 15) (N := some 32) (v := .agg Y.toArray) (a' := ?_) #[true, true, true, true, true, true, true, true, true, true, true, false, true, false, false, true, false, false, false, false, false, false, false, false, false, false, false, false, false, false, false, false] rfl rfl (by kernel_rfl) (fun _ _ _ h => h) (yieldsIf_load_mid (by rfl) 26 (.tmp 8) rfl g8 0 rfl Y _ (fun w' hS => hS.2.1) hu26 rfl hiY) hHeld ?_ ?_
  rotate_left
  · simp only [Act.put, List.setIfInBounds_toArray, List.set_cons_zero, List.set_cons_succ, i64_w, i32_w]
    rfl
  refine take_ (i := 16) (N := some 33) (v := .agg X.toArray) (a' := ?_) #[true, true, true, true, true, true, true, true, true, true, true, false, true, false, false, true, true, false, false, false, false, false, false, false, false, false, false, false, false, false, false, false] rfl rfl (by kernel_rfl) (fun _ _ _ h => h) (yieldsIf_load_mid (by rfl) 26 (.tmp 7) rfl g7 0 rfl X _ (fun w' hS => hS.1) hu26 rfl hiX) hHeld ?_ ?_
  rotate_left
  · simp only [Act.put, List.setIfInBounds_toArray, List.set_cons_zero, List.set_cons_succ, i64_w, i32_w]
    rfl
  refine one_ (i := 11) (N := some 28) #[true, true, true, true, true, true, true, true, true, true, true, true, true, false, false, true, true, false, false, false, false, false, false, false, false, false, false, false, false, false, false, false] rfl rfl (by kernel_rfl) (by decide) (fun K hK => ?_)
  refine goes_ Try.func12 (by kernel_rfl) rfl #[.agg Y.toArray] (by rfl) rfl rfl (by first | rfl | (simp only [List.map_toArray, List.map_cons, List.map_nil]; done) | (simp only [List.map_toArray, List.map_cons, List.map_nil]; rfl)) ?_
  refine (OY.out _).mono ?_
  rintro e w2 ⟨rfl, hb2⟩
  refine ⟨_, rfl, ?_⟩
  have hS2 := sr_step hb2 hHeld.2.2
  clear hb2 hHeld
  refine hK.out _ _ hS2 (fun hHeld => ?_)
  clear hK K hS2
  refine norm_ (a' := ?_) ?_ ?_
  rotate_left
  · show Act.put _ (some 28) _ = _
    simp only [Act.put, List.setIfInBounds_toArray, List.set_cons_zero, List.set_cons_succ, i64_w, i32_w]
    rfl
  refine one_ (i := 13) (N := some 30) #[true, true, true, true, true, true, true, true, true, true, true, true, true, true, false, true, true, false, false, false, false, false, false, false, false, false, false, false, false, false, false, false] rfl rfl (by kernel_rfl) (by decide) (fun K hK => ?_)
  refine goes_ Try.func12 (by kernel_rfl) rfl #[.agg X.toArray] (by rfl) rfl rfl (by first | rfl | (simp only [List.map_toArray, List.map_cons, List.map_nil]; done) | (simp only [List.map_toArray, List.map_cons, List.map_nil]; rfl)) ?_
  refine (OX.out _).mono ?_
  rintro e w2 ⟨rfl, hb2⟩
  refine ⟨_, rfl, ?_⟩
  have hS2 := sr_step hb2 hHeld.2.2
  clear hb2 hHeld
  refine hK.out _ _ hS2 (fun hHeld => ?_)
  clear hK K hS2
  refine norm_ (a' := ?_) ?_ ?_
  rotate_left
  · show Act.put _ (some 30) _ = _
    simp only [Act.put, List.setIfInBounds_toArray, List.set_cons_zero, List.set_cons_succ, i64_w, i32_w]
    rfl
  refine one_ (i := 14) (N := some 31) #[true, true, true, true, true, true, true, true, true, true, true, true, true, true, true, true, true, false, false, false, false, false, false, false, false, false, false, false, false, false, false, false] rfl rfl (by kernel_rfl) (by decide) (fun K hK => ?_)
  refine goes_ Try.func11 (by kernel_rfl) rfl #[.agg Y.toArray, .agg X.toArray] (by rfl) rfl rfl (by first | rfl | (simp only [List.map_toArray, List.map_cons, List.map_nil]; done) | (simp only [List.map_toArray, List.map_cons, List.map_nil]; rfl)) ?_
  refine (LYX.out _).mono ?_
  rintro e w2 ⟨rfl, hb2⟩
  refine ⟨_, rfl, ?_⟩
  have hS2 := sr_step hb2 hHeld.2.2
  clear hb2 hHeld
  refine hK.out _ _ hS2 (fun hHeld => ?_)
  clear hK K hS2
  refine norm_ (a' := ?_) ?_ ?_
  rotate_left
  · show Act.put _ (some 31) _ = _
    simp only [Act.put, List.setIfInBounds_toArray, List.set_cons_zero, List.set_cons_succ, i64_w, i32_w]
    rfl
  refine one_ (i := 17) (N := some 34) #[true, true, true, true, true, true, true, true, true, true, true, true, true, true, true, true, true, true, false, false, false, false, false, false, false, false, false, false, false, false, false, false] rfl rfl (by kernel_rfl) (by decide) (fun K hK => ?_)
  refine goes_ Try.func13 (by kernel_rfl) rfl #[.agg Y.toArray, .agg X.toArray] (by rfl) rfl rfl (by first | rfl | (simp only [List.map_toArray, List.map_cons, List.map_nil]; done) | (simp only [List.map_toArray, List.map_cons, List.map_nil]; rfl)) ?_
  refine (RYX.out _).mono ?_
  rintro e w2 ⟨rfl, hb2⟩
  refine ⟨_, rfl, ?_⟩
  have hS2 := sr_step hb2 hHeld.2.2
  clear hb2 hHeld
  refine hK.out _ _ hS2 (fun hHeld => ?_)
  clear hK K hS2
  refine norm_ (a' := ?_) ?_ ?_
  rotate_left
  · show Act.put _ (some 34) _ = _
    simp only [Act.put, List.setIfInBounds_toArray, List.set_cons_zero, List.set_cons_succ, i64_w, i32_w]
    rfl
  refine pure_ (i := 18) (N := some 35) (v := .bool true) (a' := ?_) #[true, true, true, true, true, true, true, true, true, true, true, true, true, true, true, true, true, true, true, false, false, false, false, false, false, false, false, false, false, false, false, false] rfl rfl (by kernel_rfl) (fun _ _ _ h => h) (Or.inl ⟨by rfl, ?_⟩) ?_ ?_
  · intro w'
    go_simp
    try simp
  rotate_left
  · simp only [Act.put, List.setIfInBounds_toArray, List.set_cons_zero, List.set_cons_succ, i64_w, i32_w]
    rfl
  refine pure_ (i := 19) (N := some 36) (v := .bool true) (a' := ?_) #[true, true, true, true, true, true, true, true, true, true, true, true, true, true, true, true, true, true, true, true, false, false, false, false, false, false, false, false, false, false, false, false] rfl rfl (by kernel_rfl) (fun _ _ _ h => h) (Or.inl ⟨by rfl, ?_⟩) ?_ ?_
  · intro w'
    go_simp
    try simp
  rotate_left
  · simp only [Act.put, List.setIfInBounds_toArray, List.set_cons_zero, List.set_cons_succ, i64_w, i32_w]
    rfl
  refine pure_ (i := 20) (N := some 37) (v := ?_) (a' := ?_) #[true, true, true, true, true, true, true, true, true, true, true, true, true, true, true, true, true, true, true, true, true, false, false, false, false, false, false, false, false, false, false, false] rfl rfl (by kernel_rfl) (fun _ _ _ h => h) (Or.inl ⟨by rfl, ?_⟩) ?_ ?_
  rotate_left
  · intro w'
    go_simp
    with_reducible rfl
  rotate_left
  · simp only [Act.put, List.setIfInBounds_toArray, List.set_cons_zero, List.set_cons_succ, i64_w, i32_w]
    rfl
  refine take_ (i := 21) (N := some 38) (v := .agg X.toArray) (a' := ?_) #[true, true, true, true, true, true, true, true, true, true, true, true, true, true, true, true, true, true, true, true, true, true, false, false, false, false, false, false, false, false, false, false] rfl rfl (by kernel_rfl) (fun _ _ _ h => h) (yieldsIf_load_mid (by rfl) 26 (.tmp 7) rfl g7 0 rfl X _ (fun w' hS => hS.1) hu26 rfl hiX) hHeld ?_ ?_
  rotate_left
  · simp only [Act.put, List.setIfInBounds_toArray, List.set_cons_zero, List.set_cons_succ, i64_w, i32_w]
    rfl
  refine take_ (i := 23) (N := some 40) (v := .agg X.toArray) (a' := ?_) #[true, true, true, true, true, true, true, true, true, true, true, true, true, true, true, true, true, true, true, true, true, true, false, true, false, false, false, false, false, false, false, false] rfl rfl (by kernel_rfl) (fun _ _ _ h => h) (yieldsIf_load_mid (by rfl) 26 (.tmp 7) rfl g7 0 rfl X _ (fun w' hS => hS.1) hu26 rfl hiX) hHeld ?_ ?_
  rotate_left
  · simp only [Act.put, List.setIfInBounds_toArray, List.set_cons_zero, List.set_cons_succ, i64_w, i32_w]
    rfl
  refine one_ (i := 22) (N := some 39) #[true, true, true, true, true, true, true, true, true, true, true, true, true, true, true, true, true, true, true, true, true, true, true, true, false, false, false, false, false, false, false, false] rfl rfl (by kernel_rfl) (by decide) (fun K hK => ?_)
  refine goes_ Try.func12 (by kernel_rfl) rfl #[.agg X.toArray] (by rfl) rfl rfl (by first | rfl | (simp only [List.map_toArray, List.map_cons, List.map_nil]; done) | (simp only [List.map_toArray, List.map_cons, List.map_nil]; rfl)) ?_
  refine (OX.out _).mono ?_
  rintro e w2 ⟨rfl, hb2⟩
  refine ⟨_, rfl, ?_⟩
  have hS2 := sr_step hb2 hHeld.2.2
  clear hb2 hHeld
  refine hK.out _ _ hS2 (fun hHeld => ?_)
  clear hK K hS2
  refine norm_ (a' := ?_) ?_ ?_
  rotate_left
  · show Act.put _ (some 39) _ = _
    simp only [Act.put, List.setIfInBounds_toArray, List.set_cons_zero, List.set_cons_succ, i64_w, i32_w]
    rfl
  refine one_ (i := 24) (N := some 41) #[true, true, true, true, true, true, true, true, true, true, true, true, true, true, true, true, true, true, true, true, true, true, true, true, true, false, false, false, false, false, false, false] rfl rfl (by kernel_rfl) (by decide) (fun K hK => ?_)
  refine goes_ Try.func12 (by kernel_rfl) rfl #[.agg X.toArray] (by rfl) rfl rfl (by first | rfl | (simp only [List.map_toArray, List.map_cons, List.map_nil]; done) | (simp only [List.map_toArray, List.map_cons, List.map_nil]; rfl)) ?_
  refine (OX.out _).mono ?_
  rintro e w2 ⟨rfl, hb2⟩
  refine ⟨_, rfl, ?_⟩
  have hS2 := sr_step hb2 hHeld.2.2
  clear hb2 hHeld
  refine hK.out _ _ hS2 (fun hHeld => ?_)
  clear hK K hS2
  refine norm_ (a' := ?_) ?_ ?_
  rotate_left
  · show Act.put _ (some 41) _ = _
    simp only [Act.put, List.setIfInBounds_toArray, List.set_cons_zero, List.set_cons_succ, i64_w, i32_w]
    rfl
  refine one_ (i := 25) (N := some 42) #[true, true, true, true, true, true, true, true, true, true, true, true, true, true, true, true, true, true, true, true, true, true, true, true, true, true, false, false, false, false, false, false] rfl rfl (by kernel_rfl) (by decide) (fun K hK => ?_)
  refine goes_ Try.func11 (by kernel_rfl) rfl #[.agg X.toArray, .agg X.toArray] (by rfl) rfl rfl (by first | rfl | (simp only [List.map_toArray, List.map_cons, List.map_nil]; done) | (simp only [List.map_toArray, List.map_cons, List.map_nil]; rfl)) ?_
  refine (LXX.out _).mono ?_
  rintro e w2 ⟨rfl, hb2⟩
  refine ⟨_, rfl, ?_⟩
  have hS2 := sr_step hb2 hHeld.2.2
  clear hb2 hHeld
  refine hK.out _ _ hS2 (fun hHeld => ?_)
  clear hK K hS2
  refine norm_ (a' := ?_) ?_ ?_
  rotate_left
  · show Act.put _ (some 42) _ = _
    simp only [Act.put, List.setIfInBounds_toArray, List.set_cons_zero, List.set_cons_succ, i64_w, i32_w]
    rfl
  refine pure_ (i := 26) (N := some 43) (v := .bool true) (a' := ?_) #[true, true, true, true, true, true, true, true, true, true, true, true, true, true, true, true, true, true, true, true, true, true, true, true, true, true, true, false, false, false, false, false] rfl rfl (by kernel_rfl) (fun _ _ _ h => h) (Or.inl ⟨by rfl, ?_⟩) ?_ ?_
  · intro w'
    go_simp
    try simp
  rotate_left
  · simp only [Act.put, List.setIfInBounds_toArray, List.set_cons_zero, List.set_cons_succ, i64_w, i32_w]
    rfl
  refine pure_ (i := 27) (N := some 44) (v := .bool true) (a' := ?_) #[true, true, true, true, true, true, true, true, true, true, true, true, true, true, true, true, true, true, true, true, true, true, true, true, true, true, true, true, false, false, false, false] rfl rfl (by kernel_rfl) (fun _ _ _ h => h) (Or.inl ⟨by rfl, ?_⟩) ?_ ?_
  · intro w'
    go_simp
    try simp
  rotate_left
  · simp only [Act.put, List.setIfInBounds_toArray, List.set_cons_zero, List.set_cons_succ, i64_w, i32_w]
    rfl
  refine pure_ (i := 28) (N := some 45) (v := ?_) (a' := ?_) #[true, true, true, true, true, true, true, true, true, true, true, true, true, true, true, true, true, true, true, true, true, true, true, true, true, true, true, true, true, false, false, false] rfl rfl (by kernel_rfl) (fun _ _ _ h => h) (Or.inl ⟨by rfl, ?_⟩) ?_ ?_
  rotate_left
  · intro w'
    go_simp
    with_reducible rfl
  rotate_left
  · simp only [Act.put, List.setIfInBounds_toArray, List.set_cons_zero, List.set_cons_succ, i64_w, i32_w]
    rfl
  refine one_ (i := 29) (N := some 46) #[true, true, true, true, true, true, true, true, true, true, true, true, true, true, true, true, true, true, true, true, true, true, true, true, true, true, true, true, true, true, false, false] rfl rfl (by kernel_rfl) (by decide) (fun K hK => ?_)
  refine goes_ Try.func14 (by kernel_rfl) rfl #[] (by rfl) rfl rfl (by first | rfl | (simp only [List.map_toArray, List.map_cons, List.map_nil]; done) | (simp only [List.map_toArray, List.map_cons, List.map_nil]; rfl)) ?_
  refine (awake_calls _).mono ?_
  rintro e w2 ⟨rfl, hb2⟩
  refine ⟨_, rfl, ?_⟩
  have hS2 := sr_step hb2 hHeld.2.2
  clear hb2 hHeld
  refine hK.out _ _ hS2 (fun hHeld => ?_)
  clear hK K hS2
  refine norm_ (a' := ?_) ?_ ?_
  rotate_left
  · show Act.put _ (some 46) _ = _
    simp only [Act.put, List.setIfInBounds_toArray, List.set_cons_zero, List.set_cons_succ, i64_w, i32_w]
    rfl
  refine pure_ (i := 30) (N := some 47) (v := .bool true) (a' := ?_) #[true, true, true, true, true, true, true, true, true, true, true, true, true, true, true, true, true, true, true, true, true, true, true, true, true, true, true, true, true, true, true, false] rfl rfl (by kernel_rfl) (fun _ _ _ h => h) (Or.inl ⟨by rfl, ?_⟩) ?_ ?_
  · intro w'
    go_simp
    try simp
  rotate_left
  · simp only [Act.put, List.setIfInBounds_toArray, List.set_cons_zero, List.set_cons_succ, i64_w, i32_w]
    rfl
  refine pure_ (i := 31) (N := some 6) (v := ?_) (a' := ?_) #[true, true, true, true, true, true, true, true, true, true, true, true, true, true, true, true, true, true, true, true, true, true, true, true, true, true, true, true, true, true, true, true] rfl rfl (by kernel_rfl) (fun _ _ _ h => h) (Or.inl ⟨by rfl, ?_⟩) ?_ ?_
  rotate_left
  · intro w'
    go_simp
    with_reducible rfl
  rotate_left
  · simp only [Act.put, List.setIfInBounds_toArray, List.set_cons_zero, List.set_cons_succ, i64_w, i32_w]
    rfl
  refine done_ (by kernel_rfl) ?_
  have HB := Aside0.mk hHeld.2.2.out.bx.bel
  clear hHeld
  go_wp2_with fail
  go_ret
  exact ⟨rfl, HB.out⟩
  -- r1]
end Go.Proofs.Ytkcdlilglgfkaaa.PA
