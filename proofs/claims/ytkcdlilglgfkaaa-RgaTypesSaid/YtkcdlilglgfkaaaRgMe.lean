/- Rows of cells: puts on both rows, both told the same (seven texts in one). -/
import Derived.Test.YtkcdlilglgfkaaaRgV
import Derived.WalkSpells
/- Rows of cells: which ids a put has. -/
set_option linter.unusedVariables false
set_option linter.unusedSimpArgs false
namespace Go.Proofs.Ytkcdlilglgfkaaa.Rg
open Go Go.RowKit Go.Proofs.YtkcdlilglgfkaaaW.PrintWords Go.Proofs.YtkcdlilglgfkaaaW.PrintLast Go.Proofs.YtkcdlilglgfkaaaW.PrintMore Go.Proofs.Ytkcdlilglgfkaaa.PA Go.Proofs.Ytkcdlilglgfkaaa.Ar Go.Proofs.Ytkcdlilglgfkaaa.Sha
abbrev TP : TypeId := 46
/-- What a put may be. -/
structure PutOk (p : S46) : Prop where
  b0 : 0 ≤ p.f0 ∧ p.f0 < 256
  b1 : 0 ≤ p.f1 ∧ p.f1 < 256
  b2 : 0 ≤ p.f2 ∧ p.f2 < 256
  b3 : 0 ≤ p.f3 ∧ p.f3 < 256
  w6 : (Lit.int .i64 p.f6).wf = true
  w7 : (Lit.int .i64 p.f7).wf = true
def pcells (p : S46) : List Value := [.int .u8 p.f0, .int .u8 p.f1, .int .u8 p.f2, .int .u8 p.f3, .bool p.f4, .bool p.f5, .int .i64 p.f6, .int .i64 p.f7]
def hb (x : Int) : List Int := x :: List.replicate 31 0
/-- Behind which one, of a put that is tame. -/
def aftF (R : List Re) (p : S46) : Idt := match p.f0.toNat % (R.length + 1) with
  | 0 => z0
  | k + 1 => match R[k]? with
    | some x => x.id
    | none => z0
def upF (a : Idt) (p : S46) : Int := if a.1 > 1099511627776 then 0 else 1 + p.f1 % 4
def idsF (R : List Re) (p : S46) : Idt × Idt :=
  if p.f5 = true then ((p.f7, hb p.f0), (p.f6, hb p.f2)) else (aftF R p, ((aftF R p).1 + upF (aftF R p) p, hb p.f2))
theorem hb_len (x : Int) : (hb x).length = 32 := rfl
theorem built_hb (x : Int) : Try.prog.built 23 [(0, .int .u8 x)] = some (ns .u8 (hb x)) := by kernel_rfl
/-- The boxes. -/
structure B5 (w : World) (v : Value) (p : S46) (A B : Array Value) (W : World) : Prop where
  bel : Below w.heap.size w W
  b0 : W.heap[w.heap.size]? = some (.cells #[v] TE (0, 0))
  b1 : W.heap[w.heap.size + 1]? = some (.cells (pcells p).toArray TP (0, 0))
  b2 : W.heap[w.heap.size + 1 + 1]? = some (.cells A TF (0, 0))
  b3 : W.heap[w.heap.size + 1 + 1 + 1]? = some (.cells B TF (0, 0))
theorem B5.step {w W w1 : World} {v : Value} {p : S46} {A B : Array Value} (h : B5 w v p A B W) (hb : Below W.heap.size W w1) : B5 w v p A B w1 := ⟨below_step h.bel hb, blk_below h.b0 hb, blk_below h.b1 hb, blk_below h.b2 hb, blk_below h.b3 hb⟩
theorem b5_new (w : World) (v : Value) (p : S46) (A B : Array Value) : B5 w v p A B ((((w.alloc (.cells #[v] TE)).alloc (.cells (pcells p).toArray TP)).alloc (.cells A TF)).alloc (.cells B TF)) :=
  ⟨below_alloc (below_alloc (below_alloc (below_alloc (Below.refl _ _) _) _) _) _, blk_alloc (blk_alloc (blk_alloc (blk_new w _) _) _) _, blk_alloc (blk_alloc (new_at _ _ _ (by simp)) _) _, blk_alloc (new_at _ _ _ (by simp)) _, new_at _ _ _ (by simp)⟩
theorem B5.put2 {w W : World} {v : Value} {p : S46} {A B : Array Value} (h : B5 w v p A B W) (X : Array Value) : B5 w v p X B (W.setRow (w.heap.size + 1 + 1) X) :=
  ⟨below_setRow h.bel (by omega) _, (setRow_other W _ _ X (by omega)).trans h.b0, (setRow_other W _ _ X (by omega)).trans h.b1, blk_row h.b2 X, (setRow_other W _ _ X (by omega)).trans h.b3⟩
theorem B5.put3 {w W : World} {v : Value} {p : S46} {A B : Array Value} (h : B5 w v p A B W) (X : Array Value) : B5 w v p A X (W.setRow (w.heap.size + 1 + 1 + 1) X) :=
  ⟨below_setRow h.bel (by omega) _, (setRow_other W _ _ X (by omega)).trans h.b0, (setRow_other W _ _ X (by omega)).trans h.b1, (setRow_other W _ _ X (by omega)).trans h.b2, blk_row h.b3 X⟩
theorem B5.pc {w W : World} {v : Value} {p : S46} {A B : Array Value} (h : B5 w v p A B W) (i : Nat) (u : Value) (hu : (pcells p)[i]? = some u) : W.cell? ⟨w.heap.size + 1, i, none⟩ = some u := by
  rw [blk_cell h.b1, List.getElem?_toArray]; exact hu
/-- In the regions that draw. -/
def SP5 (w : World) (v : Value) (p : S46) (Z : Array Value) (W : World) : Prop :=
  W.cell? ⟨w.heap.size + 1, 7, none⟩ = some (.int .i64 p.f7) ∧ W.cell? ⟨w.heap.size + 1, 0, none⟩ = some (.int .u8 p.f0) ∧ W.cell? ⟨w.heap.size + 1, 6, none⟩ = some (.int .i64 p.f6) ∧ W.cell? ⟨w.heap.size + 1, 2, none⟩ = some (.int .u8 p.f2) ∧ Aside0 (∃ A B, B5 w v p A B W)
theorem sp5_of {w W : World} {v : Value} {p : S46} {Z A B : Array Value} (h : B5 w v p A B W) : SP5 w v p Z W := ⟨h.pc 7 _ rfl, h.pc 0 _ rfl, h.pc 6 _ rfl, h.pc 2 _ rfl, ⟨A, B, h⟩⟩
section
variable {P : Program} {ops : Array Oper} {oi : Oper} {a : Act} {w : World} {K : Act → World → Prop} {Q : Exit → Act → World → Prop} {N : Option Tmp}
theorem store_ (hw : Region.wanted oi (yielded ops a.tmps) = true) (ty : TypeId) (x y : Operand) (ho : oi.op = .store ty x y) (hN : oi.dst = N) (g : Nat) (cells : Array Value) (hx : a.eval x = .pointer (some ⟨g, 0, none⟩)) (hy : a.eval y = .agg cells) (T : TypeId) (cur : Array Value)
    (hg : w.heap[g]? = some (.cells cur T (0, 0))) (hl : cells.size = cur.size) (hi : (P.info? ty).map (·.size) = some cells.size) (h1 : cells.all (·.oneCell') = true)
    (h : K (a.put N undef) (w.setRow g cells)) : if Region.wanted oi (yielded ops a.tmps) = true then Oper.wp P oi a w K Q else K (a.put N undef) w := by
  rw [if_pos hw]
  subst hN
  refine wp_store_at ty x y ho g 0 cells hx hy T cur hg (by omega) hi h1 ?_
  rw [splice_all _ _ (by rw [Array.length_toList, Array.length_toList]; exact hl), Array.toArray_toList]
  exact h
end
theorem rem_nat (x : Int) (n : Nat) (hx : 0 ≤ x ∧ x < 256) : (wrap64 x).tmod ((n : Int) + 1) = ((x.toNat % (n + 1) : Nat) : Int) := by
  have h1 : wrap64 x = x := by unfold wrap64; omega
  obtain ⟨m, rfl⟩ : ∃ m : Nat, x = (m : Int) := ⟨x.toNat, by omega⟩
  rw [h1, Int.tmod_eq_emod_of_nonneg hx.1, Int.toNat_natCast]
  first | exact (Int.natCast_emod m (n + 1)).symm | exact (Int.ofNat_emod m (n + 1)).symm | simp
theorem up_nat (x : Int) (hx : 0 ≤ x ∧ x < 256) : wrap64 (1 + wrap64 (x.tmod 4)) = 1 + x % 4 := by
  rw [Int.tmod_eq_emod_of_nonneg hx.1]
  unfold wrap64
  omega
theorem up_wrap (a : Idt) (p : S46) (ha : -9223372036854775808 ≤ a.1 ∧ a.1 < 9223372036854775808) (hp : 0 ≤ p.f1 ∧ p.f1 < 256) : wrap64 (a.1 + upF a p) = a.1 + upF a p := by
  unfold upF
  split
  · unfold wrap64; omega
  · unfold wrap64; omega
/-- In the last region. -/
def SP6 (w : World) (p : S46) (a : Idt) (A : List Value) (ga : Nat) (W : World) : Prop :=
  W.cell? ⟨ga, 0, none⟩ = some (.int .i64 a.1) ∧ W.cell? ⟨w.heap.size + 1, 2, none⟩ = some (.int .u8 p.f2) ∧ W.rangeAt ga 0 A ∧ Aside0 True
theorem sp6_of {w W : World} {v : Value} {p : S46} {a : Idt} {A : List Value} {ga : Nat} {X Y : Array Value} (hA : iv a = A) (h : B5 w v p X Y W) (hg : W.heap[ga]? = some (.cells A.toArray TF (0, 0))) : SP6 w p a A ga W :=
  ⟨by rw [blk_cell hg, ← hA]; simp [iv], h.pc 2 _ rfl, range_of0 hg, ⟨trivial⟩⟩
theorem wf_iff (x : Int) : (Lit.int .i64 x).wf = true ↔ -9223372036854775808 ≤ x ∧ x < 9223372036854775808 := by
  simp [Lit.wf, IntKind.has, IntKind.min, IntKind.max, IntKind.signed, IntKind.bits]
  omega
theorem hb_bytes {x : Int} (h : 0 ≤ x ∧ x < 256) : ∀ y ∈ hb x, 0 ≤ y ∧ y < 256 := by
  intro y hy
  rcases List.mem_cons.1 hy with rfl | hy
  · exact h
  · obtain ⟨_, rfl⟩ := List.mem_replicate.1 hy
    omega
theorem z0_ok : okI z0 := ⟨by decide, rfl, fun y hy => by obtain ⟨_, rfl⟩ := List.mem_replicate.1 hy; omega⟩
theorem aft_ok {R : List Re} {p : S46} (hR : ∀ x ∈ R, okI x.id) : okI (aftF R p) := by
  unfold aftF
  split
  · exact z0_ok
  · split
    · rename_i x hx; exact hR x (List.mem_of_getElem? hx)
    · exact z0_ok
theorem ids_ok {R : List Re} {p : S46} (hp : PutOk p) (hR : ∀ x ∈ R, okI x.id) : okI (idsF R p).1 ∧ okI (idsF R p).2 := by
  unfold idsF
  split
  · exact ⟨⟨hp.w7, rfl, hb_bytes hp.b0⟩, ⟨hp.w6, rfl, hb_bytes hp.b2⟩⟩
  · have h := aft_ok (p := p) hR
    have hw := (wf_iff _).1 h.1
    refine ⟨h, ⟨(wf_iff _).2 ?_, rfl, hb_bytes hp.b2⟩⟩
    have := hp.b1
    show -9223372036854775808 ≤ (aftF R p).1 + upF (aftF R p) p ∧ (aftF R p).1 + upF (aftF R p) p < 9223372036854775808
    unfold upF
    split <;> omega
set_option maxRecDepth 100000 in
set_option maxHeartbeats 4000000 in
theorem ids_calls (w : World) (v : Value) (R : List Re) (h : OwnD w 0 v R) (hl : R.length < 90000) (p : S46) (hp : PutOk p) (hR : ∀ x ∈ R, okI x.id) :
    Calls Try.prog 19 #[.agg #[v], .agg (pcells p).toArray] w fun e w' => e = .returned (.tuple #[.agg (iv (idsF R p).1).toArray, .agg (iv (idsF R p).2).toArray]) ∧ Below w.heap.size w w' := by
  have huF := Try.underlying26
  have huP := Try.underlying46
  have HZ := Aside0.mk zero_ref
  have HZ0 : Aside0 ((iv z0).toArray.size = 33) := ⟨rfl⟩
  obtain ⟨Z, hZ⟩ : ∃ Z, (iv z0).toArray = Z := ⟨_, rfl⟩
  rw [hZ] at HZ HZ0
  have HZE := Aside0.mk hZ
  have HB := Aside0.mk (b5_new w v p Z Z)
  have HO : Aside0 (OwnD ((((w.alloc (.cells #[v] TE)).alloc (.cells (pcells p).toArray TP)).alloc (.cells Z TF)).alloc (.cells Z TF)) 0 v R) := ⟨ownD_below h (below_alloc (below_alloc (below_alloc (below_alloc (Below.refl _ _) _) _) _) _)⟩
  have HP := Aside0.mk hp
  have HRI := Aside0.mk hR
  clear h hZ hp hR
  go_enter Try.func19, Try.ntmps19
  go_upto_region 1 with ((with_reducible refine gate_ (Op.alloc TF) rfl ?_); refine wpList_alloc_as rfl TF rfl Z HZ.out ?_)
  generalize ((((w.alloc (.cells #[v] TE)).alloc (.cells (pcells p).toArray TP)).alloc (.cells Z TF)).alloc (.cells Z TF)) = w1 at *
  have k5 : w1.cell? ⟨w.heap.size + 1, 5, none⟩ = some (.bool p.f5) := HB.out.pc 5 _ rfl
  obtain ⟨bw, hbw⟩ : ∃ b, p.f5 = b := ⟨_, rfl⟩
  rw [hbw] at k5
  have HBW := Aside0.mk hbw
  cases bw with
  | true =>
    have HBA : Aside0 (Try.prog.built TF [(0, .int .i64 p.f7), (1, .agg (ns .u8 (hb p.f0)))] = some (iv (p.f7, hb p.f0)).toArray) := ⟨built_ref (p.f7, hb p.f0) rfl⟩
    have HBI : Aside0 (Try.prog.built TF [(0, .int .i64 p.f6), (1, .agg (ns .u8 (hb p.f2)))] = some (iv (p.f6, hb p.f2)).toArray) := ⟨built_ref (p.f6, hb p.f2) rfl⟩
    have HHA := Aside0.mk (built_hb p.f0)
    have HHI := Aside0.mk (built_hb p.f2)
    have HAs : Aside0 ((iv (p.f7, hb p.f0)).toArray.size = 33) := ⟨rfl⟩
    have HIs : Aside0 ((iv (p.f6, hb p.f2)).toArray.size = 33) := ⟨rfl⟩
    have HA1 : Aside0 ((iv (p.f7, hb p.f0)).toArray.all (·.oneCell') = true) := ⟨iv_all _⟩
    have HI1 : Aside0 ((iv (p.f6, hb p.f2)).toArray.all (·.oneCell') = true) := ⟨iv_all _⟩
    have HE : Aside0 (idsF R p = ((p.f7, hb p.f0), (p.f6, hb p.f2))) := ⟨by unfold idsF; rw [if_pos hbw]⟩
    generalize ns .u8 (hb p.f0) = NA at *
    generalize ns .u8 (hb p.f2) = NI at *
    obtain ⟨XA, hXA⟩ : ∃ X, (iv (p.f7, hb p.f0)).toArray = X := ⟨_, rfl⟩
    obtain ⟨XI, hXI⟩ : ∃ X, (iv (p.f6, hb p.f2)).toArray = X := ⟨_, rfl⟩
    rw [hXA] at HBA HAs HA1
    rw [hXI] at HBI HIs HI1
    have HXA := Aside0.mk hXA
    have HXI := Aside0.mk hXI
    clear hXA hXI hbw
    go_upto_region 2 with fail
    -- [wild
    refine start_ (n := 14) (S := SP5 w v p Z) (ds := []) #[false, false, false, false, false, false, false, false, false, false, false, false, false, false] (by kernel_rfl) rfl rfl (sp5_of (HB.out.step (pw_below_drewN (Below.refl _ _) 1))) (fun hHeld => ?_)
    have HB0 := Aside0.mk (HB.out.step (pw_below_drewN (Below.refl w1.heap.size w1) 1))
    rw [show w1.drewN 1 = w1.drew from rfl] at HB0
    generalize w1.drew = wd at hHeld HB0 ⊢
    clear HB HO
    refine pure_ (i := 0) (N := some 11) (v := ?_) (a' := ?_) #[true, false, false, false, false, false, false, false, false, false, false, false, false, false] rfl rfl (by kernel_rfl) (fun _ _ _ h => h) (Or.inl ⟨by rfl, ?_⟩) ?_ ?_
    rotate_left
    · intro w'
      go_simp
      with_reducible rfl
    rotate_left
    · simp only [Act.put, List.setIfInBounds_toArray, List.set_cons_zero, List.set_cons_succ, i64_w, i32_w]
      rfl
    refine take_ (i := 1) (N := some 12) (v := ?_) (a' := ?_) #[true, true, false, false, false, false, false, false, false, false, false, false, false, false] rfl rfl (by kernel_rfl) (fun _ _ _ h => h) (Or.inl ⟨by rfl, ?_⟩) hHeld ?_ ?_
    rotate_left
    · rintro w' ⟨s1, s2, s3, s4, _⟩
      go_simp
      with_reducible rfl
    rotate_left
    · simp only [Act.put, List.setIfInBounds_toArray, List.set_cons_zero, List.set_cons_succ, i64_w, i32_w]
      rfl
    refine pure_ (i := 2) (N := some 13) (v := ?_) (a' := ?_) #[true, true, true, false, false, false, false, false, false, false, false, false, false, false] rfl rfl (by kernel_rfl) (fun _ _ _ h => h) (Or.inl ⟨by rfl, ?_⟩) ?_ ?_
    rotate_left
    · intro w'
      go_simp
      with_reducible rfl
    rotate_left
    · simp only [Act.put, List.setIfInBounds_toArray, List.set_cons_zero, List.set_cons_succ, i64_w, i32_w]
      rfl
    refine take_ (i := 3) (N := some 14) (v := ?_) (a' := ?_) #[true, true, true, true, false, false, false, false, false, false, false, false, false, false] rfl rfl (by kernel_rfl) (fun _ _ _ h => h) (Or.inl ⟨by rfl, ?_⟩) hHeld ?_ ?_
    rotate_left
    · rintro w' ⟨s1, s2, s3, s4, _⟩
      go_simp
      with_reducible rfl
    rotate_left
    · simp only [Act.put, List.setIfInBounds_toArray, List.set_cons_zero, List.set_cons_succ, i64_w, i32_w]
      rfl
    refine pure_ (i := 4) (N := some 15) (v := .agg NA) (a' := ?_) #[true, true, true, true, true, false, false, false, false, false, false, false, false, false] rfl rfl (by kernel_rfl) (fun _ _ _ h => h) (Or.inl ⟨by rfl, fun w' => exec_build 23 #[(0, .tmp 14)] rfl _ (by first | rfl | (simp only [List.map_toArray, List.map_cons, List.map_nil]; rfl)) _ HHA.out⟩) ?_ ?_
    rotate_left
    · simp only [Act.put, List.setIfInBounds_toArray, List.set_cons_zero, List.set_cons_succ, i64_w, i32_w]
      rfl
    refine pure_ (i := 5) (N := some 16) (v := .agg XA) (a' := ?_) #[true, true, true, true, true, true, false, false, false, false, false, false, false, false] rfl rfl (by kernel_rfl) (fun _ _ _ h => h) (Or.inl ⟨by rfl, fun w' => exec_build TF #[(0, .tmp 12), (1, .tmp 15)] rfl _ (by first | rfl | (simp only [List.map_toArray, List.map_cons, List.map_nil]; rfl)) _ HBA.out⟩) ?_ ?_
    rotate_left
    · simp only [Act.put, List.setIfInBounds_toArray, List.set_cons_zero, List.set_cons_succ, i64_w, i32_w]
      rfl
    refine pure_ (i := 6) (N := some 17) (v := ?_) (a' := ?_) #[true, true, true, true, true, true, true, false, false, false, false, false, false, false] rfl rfl (by kernel_rfl) (fun _ _ _ h => h) (Or.inl ⟨by rfl, ?_⟩) ?_ ?_
    rotate_left
    · intro w'
      go_simp
      with_reducible rfl
    rotate_left
    · simp only [Act.put, List.setIfInBounds_toArray, List.set_cons_zero, List.set_cons_succ, i64_w, i32_w]
      rfl
    refine take_ (i := 7) (N := some 18) (v := ?_) (a' := ?_) #[true, true, true, true, true, true, true, true, false, false, false, false, false, false] rfl rfl (by kernel_rfl) (fun _ _ _ h => h) (Or.inl ⟨by rfl, ?_⟩) hHeld ?_ ?_
    rotate_left
    · rintro w' ⟨s1, s2, s3, s4, _⟩
      go_simp
      with_reducible rfl
    rotate_left
    · simp only [Act.put, List.setIfInBounds_toArray, List.set_cons_zero, List.set_cons_succ, i64_w, i32_w]
      rfl
    refine pure_ (i := 8) (N := some 19) (v := ?_) (a' := ?_) #[true, true, true, true, true, true, true, true, true, false, false, false, false, false] rfl rfl (by kernel_rfl) (fun _ _ _ h => h) (Or.inl ⟨by rfl, ?_⟩) ?_ ?_
    rotate_left
    · intro w'
      go_simp
      with_reducible rfl
    rotate_left
    · simp only [Act.put, List.setIfInBounds_toArray, List.set_cons_zero, List.set_cons_succ, i64_w, i32_w]
      rfl
    refine take_ (i := 9) (N := some 20) (v := ?_) (a' := ?_) #[true, true, true, true, true, true, true, true, true, true, false, false, false, false] rfl rfl (by kernel_rfl) (fun _ _ _ h => h) (Or.inl ⟨by rfl, ?_⟩) hHeld ?_ ?_
    rotate_left
    · rintro w' ⟨s1, s2, s3, s4, _⟩
      go_simp
      with_reducible rfl
    rotate_left
    · simp only [Act.put, List.setIfInBounds_toArray, List.set_cons_zero, List.set_cons_succ, i64_w, i32_w]
      rfl
    refine pure_ (i := 10) (N := some 21) (v := .agg NI) (a' := ?_) #[true, true, true, true, true, true, true, true, true, true, true, false, false, false] rfl rfl (by kernel_rfl) (fun _ _ _ h => h) (Or.inl ⟨by rfl, fun w' => exec_build 23 #[(0, .tmp 20)] rfl _ (by first | rfl | (simp only [List.map_toArray, List.map_cons, List.map_nil]; rfl)) _ HHI.out⟩) ?_ ?_
    rotate_left
    · simp only [Act.put, List.setIfInBounds_toArray, List.set_cons_zero, List.set_cons_succ, i64_w, i32_w]
      rfl
    refine pure_ (i := 11) (N := some 22) (v := .agg XI) (a' := ?_) #[true, true, true, true, true, true, true, true, true, true, true, true, false, false] rfl rfl (by kernel_rfl) (fun _ _ _ h => h) (Or.inl ⟨by rfl, fun w' => exec_build TF #[(0, .tmp 18), (1, .tmp 21)] rfl _ (by first | rfl | (simp only [List.map_toArray, List.map_cons, List.map_nil]; rfl)) _ HBI.out⟩) ?_ ?_
    rotate_left
    · simp only [Act.put, List.setIfInBounds_toArray, List.set_cons_zero, List.set_cons_succ, i64_w, i32_w]
      rfl
    refine one_ (i := 12) (N := none) #[true, true, true, true, true, true, true, true, true, true, true, true, true, false] rfl rfl (by kernel_rfl) (by decide) (fun K hK => ?_)
    refine store_ (by rfl) TF (.tmp 4) (.tmp 16) rfl rfl (w.heap.size + 1 + 1) XA rfl rfl TF Z HB0.out.b2 (by rw [HAs.out, HZ0.out]) (by rw [HAs.out]; exact size_ref) HA1.out ?_
    have HB1 := Aside0.mk (HB0.out.put2 XA)
    clear hHeld HB0
    refine hK.out _ _ (sp5_of HB1.out) (fun hHeld => ?_)
    clear hK
    generalize wd.setRow (w.heap.size + 1 + 1) XA = we at hHeld HB1 ⊢
    refine one_ (i := 13) (N := none) #[true, true, true, true, true, true, true, true, true, true, true, true, true, true] rfl rfl (by kernel_rfl) (by decide) (fun K hK => ?_)
    refine store_ (by rfl) TF (.tmp 5) (.tmp 22) rfl rfl (w.heap.size + 1 + 1 + 1) XI rfl rfl TF Z HB1.out.b3 (by rw [HIs.out, HZ0.out]) (by rw [HIs.out]; exact size_ref) HI1.out ?_
    have HB2 := Aside0.mk (HB1.out.put3 XI)
    clear hHeld HB1
    refine hK.out _ _ (sp5_of HB2.out) (fun hHeld => ?_)
    clear hK hHeld
    generalize we.setRow (w.heap.size + 1 + 1 + 1) XI = wf at HB2 ⊢
    refine done_ (by kernel_rfl) ?_
    go_wp2_with fail
    -- wild]
    refine bodyPost_ret (results_cc rfl _ _ (w.heap.size + 1 + 1) (w.heap.size + 1 + 1 + 1) TF TF XA XI (0, 0) (0, 0) _ _ rfl HB2.out.b2 huF rfl (by rw [HAs.out]; exact size_ref) rfl HB2.out.b3 huF rfl (by rw [HIs.out]; exact size_ref)) rfl ?_
    exact ⟨by rw [HE.out, HXA.out, HXI.out], HB2.out.bel⟩
  | false =>
    obtain ⟨A0, c0, rfl, hlc0, -⟩ := Kd.R_reads HO.out
    go_upto_region 4 with ((with_reducible refine gate_ (Op.alloc TF) rfl ?_); refine wpList_alloc_as rfl TF rfl Z HZ.out ?_)
    have HBA0 : Aside0 ((w1.alloc (.cells Z TF)).heap[w1.heap.size]? = some (.cells Z TF (0, 0))) := ⟨blk_new w1 _⟩
    have HGA : Aside0 (w.heap.size + 1 + 1 + 1 < w1.heap.size) := ⟨blk_lt HB.out.b3⟩
    have HB1 := Aside0.mk (HB.out.step (below_alloc (Below.refl w1.heap.size w1) (.cells Z TF)))
    have HO1 := Aside0.mk (ownD_below HO.out (below_alloc (Below.refl w1.heap.size w1) (.cells Z TF)))
    clear HB HO k5
    generalize w1.alloc (.cells Z TF) = w2 at *
    generalize w1.heap.size = ga at *
    have k0 : w2.cell? ⟨w.heap.size + 1, 0, none⟩ = some (.int .u8 p.f0) := HB1.out.pc 0 _ rfl
    have kr : w2.cell? ⟨w.heap.size, 0, none⟩ = some (.slice A0 R.length c0) := (blk_cell HB1.out.b0 0).trans rfl
    go_upto_region 5 with fail
    obtain ⟨q, hq⟩ : ∃ q : Nat, p.f0.toNat % (R.length + 1) = q := ⟨_, rfl⟩
    have hqt := rem_nat p.f0 R.length HP.out.b0
    have hql : q ≤ R.length := by have : p.f0.toNat % (R.length + 1) < R.length + 1 := Nat.mod_lt _ (Nat.succ_pos _); omega
    rw [hq] at hqt
    rw [hqt]
    have HQ := Aside0.mk hq
    clear hq hqt k0
    have k1 : w2.cell? ⟨w.heap.size + 1, 1, none⟩ = some (.int .u8 p.f1) := HB1.out.pc 1 _ rfl
    have hup := up_nat p.f1 HP.out.b1
    obtain ⟨U, hU⟩ : ∃ U, 1 + p.f1 % 4 = U := ⟨_, rfl⟩
    rw [hU] at hup
    have HUP := Aside0.mk hup
    have HUE := Aside0.mk hU
    clear hup hU
    obtain ⟨a, ha⟩ : ∃ a, aftF R p = a := ⟨_, rfl⟩
    have HAF := Aside0.mk ha
    clear ha
    have HBI : Aside0 (Try.prog.built TF [(0, .int .i64 (a.1 + upF a p)), (1, .agg (ns .u8 (hb p.f2)))] = some (iv (a.1 + upF a p, hb p.f2)).toArray) := ⟨built_ref (a.1 + upF a p, hb p.f2) rfl⟩
    have HHI := Aside0.mk (built_hb p.f2)
    have HIs : Aside0 ((iv (a.1 + upF a p, hb p.f2)).toArray.size = 33) := ⟨rfl⟩
    have HI1 : Aside0 ((iv (a.1 + upF a p, hb p.f2)).toArray.all (·.oneCell') = true) := ⟨iv_all _⟩
    have HE : Aside0 (idsF R p = (a, (a.1 + upF a p, hb p.f2))) := ⟨by unfold idsF; rw [if_neg (by rw [HBW.out]; decide), HAF.out]⟩
    have haok : okI a := by
      rw [← HAF.out]
      unfold aftF
      split
      · exact ⟨by decide, rfl, fun y hy => by obtain ⟨_, rfl⟩ := List.mem_replicate.1 hy; omega⟩
      · split
        · rename_i x hx; exact HRI.out x (List.mem_of_getElem? hx)
        · exact ⟨by decide, rfl, fun y hy => by obtain ⟨_, rfl⟩ := List.mem_replicate.1 hy; omega⟩
    have hab : -9223372036854775808 ≤ a.1 ∧ a.1 < 9223372036854775808 := by
      have := haok.1
      simp [Lit.wf, IntKind.has, IntKind.min, IntKind.max, IntKind.signed, IntKind.bits] at this
      omega
    have HWR := Aside0.mk (up_wrap a p hab HP.out.b1)
    have HSA : Aside0 ((Try.prog.info? TF).map (·.size) = some (iv a).length) := ⟨by rw [iv_len haok.2.1]; exact size_ref⟩
    have HAs : Aside0 ((iv a).toArray.size = 33) := ⟨by rw [List.size_toArray, iv_len haok.2.1]⟩
    have HA1 : Aside0 ((iv a).toArray.all (·.oneCell') = true) := ⟨iv_all _⟩
    have HA0 : Aside0 ((iv a).toArray[0]? = some (.int .i64 a.1)) := ⟨by simp [iv]⟩
    generalize ns .u8 (hb p.f2) = NI at *
    obtain ⟨XI, hXI⟩ : ∃ X, (iv (a.1 + upF a p, hb p.f2)).toArray = X := ⟨_, rfl⟩
    rw [hXI] at HBI HIs HI1
    have HXI := Aside0.mk hXI
    obtain ⟨A, hA⟩ : ∃ A, iv a = A := ⟨_, rfl⟩
    rw [hA] at HSA HAs HA1 HA0
    have HAE := Aside0.mk hA
    clear hXI hA haok hab
    match q, hql, HQ with
    | 0, _, HQ =>
      have haz : a = z0 := by rw [← HAF.out]; unfold aftF; rw [HQ.out]
      have HBA4 : Aside0 (w2.heap[ga]? = some (.cells A.toArray TF (0, 0))) := ⟨by rw [← HAE.out, haz, HZE.out]; exact HBA0.out⟩
      have ka : w2.cell? ⟨ga, 0, none⟩ = some (.int .i64 a.1) := (blk_cell HBA4.out 0).trans HA0.out
      have HB := Aside0.mk HB1.out
      clear haz HBA0 HB1 HO1
      go_upto_region 8 with fail
      rw [HUP.out]
      by_cases hbig : a.1 > 1099511627776
      · have t5 : decide (a.1 > 1099511627776) = true := decide_eq_true hbig
        have t6 : decide (1099511627776 < a.1) = true := decide_eq_true hbig
        have t7 : (1099511627776 < a.1) = True := eq_true hbig
        have hu0 : upF a p = 0 := by unfold upF; rw [if_pos hbig]
        rw [hu0] at HWR
        simp only [Int.add_zero] at HWR
        have HU0 := Aside0.mk hu0
        clear hu0 hbig
        go_upto_region 10 with fail
        -- [big0
        refine start_ (n := 11) (S := SP6 w p a A ga) (ds := []) #[false, false, false, false, false, false, false, false, false, false, false] (by kernel_rfl) rfl rfl (sp6_of HAE.out (HB.out.step (pw_below_drewN (Below.refl _ _) 1)) (blk_below HBA4.out (pw_below_drewN (Below.refl _ _) 1))) (fun hHeld => ?_)
        have HB0 := Aside0.mk (HB.out.step (pw_below_drewN (Below.refl w2.heap.size w2) 1))
        have HBA5 := Aside0.mk (blk_below HBA4.out (pw_below_drewN (Below.refl w2.heap.size w2) 1))
        rw [show w2.drewN 1 = w2.drew from rfl] at HB0 HBA5
        generalize w2.drew = wd at hHeld HB0 HBA5 ⊢
        clear HB HBA4
        refine take_ (i := 0) (N := some 48) (v := .agg A.toArray) (a' := ?_) #[true, false, false, false, false, false, false, false, false, false, false] rfl rfl (by kernel_rfl) (fun _ _ _ h => h) (yieldsIf_load_mid (by rfl) TF (.tmp 6) rfl ga 0 rfl A _ (fun w' hS => hS.2.2.1) huF rfl HSA.out) hHeld ?_ ?_
        rotate_left
        · simp only [Act.put, List.setIfInBounds_toArray, List.set_cons_zero, List.set_cons_succ, i64_w, i32_w]
          rfl
        refine pure_ (i := 1) (N := some 49) (v := ?_) (a' := ?_) #[true, true, false, false, false, false, false, false, false, false, false] rfl rfl (by kernel_rfl) (fun _ _ _ h => h) (Or.inl ⟨by rfl, ?_⟩) ?_ ?_
        rotate_left
        · intro w'
          go_simp
          with_reducible rfl
        rotate_left
        · simp only [Act.put, List.setIfInBounds_toArray, List.set_cons_zero, List.set_cons_succ, i64_w, i32_w]
          rfl
        refine take_ (i := 2) (N := some 50) (v := ?_) (a' := ?_) #[true, true, true, false, false, false, false, false, false, false, false] rfl rfl (by kernel_rfl) (fun _ _ _ h => h) (Or.inl ⟨by rfl, ?_⟩) hHeld ?_ ?_
        rotate_left
        · rintro w' ⟨s1, s2, _, _⟩
          go_simp
          with_reducible rfl
        rotate_left
        · simp only [Act.put, List.setIfInBounds_toArray, List.set_cons_zero, List.set_cons_succ, i64_w, i32_w]
          rfl
        refine pure_ (i := 3) (N := some 51) (v := ?_) (a' := ?_) #[true, true, true, true, false, false, false, false, false, false, false] rfl rfl (by kernel_rfl) (fun _ _ _ h => h) (Or.inl ⟨by rfl, ?_⟩) ?_ ?_
        rotate_left
        · intro w'
          go_simp
          with_reducible rfl
        rotate_left
        · simp only [Act.put, List.setIfInBounds_toArray, List.set_cons_zero, List.set_cons_succ, i64_w, i32_w]
          rfl
        refine pure_ (i := 4) (N := some 52) (v := .int .i64 (a.1 + upF a p)) (a' := ?_) #[true, true, true, true, true, false, false, false, false, false, false] rfl rfl (by kernel_rfl) (fun _ _ _ h => h) (Or.inl ⟨by rfl, ?_⟩) ?_ ?_
        · intro w'
          have hwr := HWR.out
          have hu0 := HU0.out
          go_simp
          try simp
          first | exact (i64_w _).trans hwr | (rw [hu0]; exact (i64_w _).trans hwr) | (rw [hu0, hwr]) | (rw [hwr])
        rotate_left
        · simp only [Act.put, List.setIfInBounds_toArray, List.set_cons_zero, List.set_cons_succ, i64_w, i32_w]
          rfl
        refine pure_ (i := 5) (N := some 53) (v := ?_) (a' := ?_) #[true, true, true, true, true, true, false, false, false, false, false] rfl rfl (by kernel_rfl) (fun _ _ _ h => h) (Or.inl ⟨by rfl, ?_⟩) ?_ ?_
        rotate_left
        · intro w'
          go_simp
          with_reducible rfl
        rotate_left
        · simp only [Act.put, List.setIfInBounds_toArray, List.set_cons_zero, List.set_cons_succ, i64_w, i32_w]
          rfl
        refine take_ (i := 6) (N := some 54) (v := ?_) (a' := ?_) #[true, true, true, true, true, true, true, false, false, false, false] rfl rfl (by kernel_rfl) (fun _ _ _ h => h) (Or.inl ⟨by rfl, ?_⟩) hHeld ?_ ?_
        rotate_left
        · rintro w' ⟨s1, s2, _, _⟩
          go_simp
          with_reducible rfl
        rotate_left
        · simp only [Act.put, List.setIfInBounds_toArray, List.set_cons_zero, List.set_cons_succ, i64_w, i32_w]
          rfl
        refine pure_ (i := 7) (N := some 55) (v := .agg NI) (a' := ?_) #[true, true, true, true, true, true, true, true, false, false, false] rfl rfl (by kernel_rfl) (fun _ _ _ h => h) (Or.inl ⟨by rfl, fun w' => exec_build 23 #[(0, .tmp 54)] rfl _ (by first | rfl | (simp only [List.map_toArray, List.map_cons, List.map_nil]; rfl)) _ HHI.out⟩) ?_ ?_
        rotate_left
        · simp only [Act.put, List.setIfInBounds_toArray, List.set_cons_zero, List.set_cons_succ, i64_w, i32_w]
          rfl
        refine pure_ (i := 8) (N := some 56) (v := .agg XI) (a' := ?_) #[true, true, true, true, true, true, true, true, true, false, false] rfl rfl (by kernel_rfl) (fun _ _ _ h => h) (Or.inl ⟨by rfl, fun w' => exec_build TF #[(0, .tmp 52), (1, .tmp 55)] rfl _ (by first | rfl | (simp only [List.map_toArray, List.map_cons, List.map_nil]; rfl)) _ HBI.out⟩) ?_ ?_
        rotate_left
        · simp only [Act.put, List.setIfInBounds_toArray, List.set_cons_zero, List.set_cons_succ, i64_w, i32_w]
          rfl
        refine one_ (i := 9) (N := none) #[true, true, true, true, true, true, true, true, true, true, false] rfl rfl (by kernel_rfl) (by decide) (fun K hK => ?_)
        refine store_ (by rfl) TF (.tmp 4) (.tmp 48) rfl rfl (w.heap.size + 1 + 1) A.toArray rfl rfl TF Z HB0.out.b2 (by rw [HAs.out, HZ0.out]) (by rw [HAs.out]; exact size_ref) HA1.out ?_
        have HB1 := Aside0.mk (HB0.out.put2 A.toArray)
        have HBA6 := Aside0.mk ((setRow_other wd (w.heap.size + 1 + 1) _ A.toArray (by have := HGA.out; omega)).trans HBA5.out)
        clear hHeld HB0 HBA5
        refine hK.out _ _ (sp6_of HAE.out HB1.out HBA6.out) (fun hHeld => ?_)
        clear hK
        generalize wd.setRow (w.heap.size + 1 + 1) A.toArray = we at hHeld HB1 HBA6 ⊢
        refine one_ (i := 10) (N := none) #[true, true, true, true, true, true, true, true, true, true, true] rfl rfl (by kernel_rfl) (by decide) (fun K hK => ?_)
        refine store_ (by rfl) TF (.tmp 5) (.tmp 56) rfl rfl (w.heap.size + 1 + 1 + 1) XI rfl rfl TF Z HB1.out.b3 (by rw [HIs.out, HZ0.out]) (by rw [HIs.out]; exact size_ref) HI1.out ?_
        have HB2 := Aside0.mk (HB1.out.put3 XI)
        have HBA7 := Aside0.mk ((setRow_other we (w.heap.size + 1 + 1 + 1) _ XI (by have := HGA.out; omega)).trans HBA6.out)
        clear hHeld HB1 HBA6
        refine hK.out _ _ (sp6_of HAE.out HB2.out HBA7.out) (fun hHeld => ?_)
        clear hK hHeld
        generalize we.setRow (w.heap.size + 1 + 1 + 1) XI = wf at HB2 HBA7 ⊢
        refine done_ (by kernel_rfl) ?_
        go_wp2_with fail
        -- big0]
        refine bodyPost_ret (results_cc rfl _ _ (w.heap.size + 1 + 1) (w.heap.size + 1 + 1 + 1) TF TF A.toArray XI (0, 0) (0, 0) _ _ rfl HB2.out.b2 huF rfl (by rw [HAs.out]; exact size_ref) rfl HB2.out.b3 huF rfl (by rw [HIs.out]; exact size_ref)) rfl ?_
        exact ⟨by rw [HE.out, HXI.out, HAE.out], HB2.out.bel⟩
      · have t5 : decide (a.1 > 1099511627776) = false := decide_eq_false hbig
        have t6 : decide (1099511627776 < a.1) = false := decide_eq_false hbig
        have t7 : (1099511627776 < a.1) = False := eq_false hbig
        have hu0 : upF a p = U := by unfold upF; rw [if_neg hbig, HUE.out]
        rw [hu0] at HWR
        have HU0 := Aside0.mk hu0
        clear hu0 hbig
        go_upto_region 10 with fail
        -- [sml0
        refine start_ (n := 11) (S := SP6 w p a A ga) (ds := []) #[false, false, false, false, false, false, false, false, false, false, false] (by kernel_rfl) rfl rfl (sp6_of HAE.out (HB.out.step (pw_below_drewN (Below.refl _ _) 1)) (blk_below HBA4.out (pw_below_drewN (Below.refl _ _) 1))) (fun hHeld => ?_)
        have HB0 := Aside0.mk (HB.out.step (pw_below_drewN (Below.refl w2.heap.size w2) 1))
        have HBA5 := Aside0.mk (blk_below HBA4.out (pw_below_drewN (Below.refl w2.heap.size w2) 1))
        rw [show w2.drewN 1 = w2.drew from rfl] at HB0 HBA5
        generalize w2.drew = wd at hHeld HB0 HBA5 ⊢
        clear HB HBA4
        refine take_ (i := 0) (N := some 48) (v := .agg A.toArray) (a' := ?_) #[true, false, false, false, false, false, false, false, false, false, false] rfl rfl (by kernel_rfl) (fun _ _ _ h => h) (yieldsIf_load_mid (by rfl) TF (.tmp 6) rfl ga 0 rfl A _ (fun w' hS => hS.2.2.1) huF rfl HSA.out) hHeld ?_ ?_
        rotate_left
        · simp only [Act.put, List.setIfInBounds_toArray, List.set_cons_zero, List.set_cons_succ, i64_w, i32_w]
          rfl
        refine pure_ (i := 1) (N := some 49) (v := ?_) (a' := ?_) #[true, true, false, false, false, false, false, false, false, false, false] rfl rfl (by kernel_rfl) (fun _ _ _ h => h) (Or.inl ⟨by rfl, ?_⟩) ?_ ?_
        rotate_left
        · intro w'
          go_simp
          with_reducible rfl
        rotate_left
        · simp only [Act.put, List.setIfInBounds_toArray, List.set_cons_zero, List.set_cons_succ, i64_w, i32_w]
          rfl
        refine take_ (i := 2) (N := some 50) (v := ?_) (a' := ?_) #[true, true, true, false, false, false, false, false, false, false, false] rfl rfl (by kernel_rfl) (fun _ _ _ h => h) (Or.inl ⟨by rfl, ?_⟩) hHeld ?_ ?_
        rotate_left
        · rintro w' ⟨s1, s2, _, _⟩
          go_simp
          with_reducible rfl
        rotate_left
        · simp only [Act.put, List.setIfInBounds_toArray, List.set_cons_zero, List.set_cons_succ, i64_w, i32_w]
          rfl
        refine pure_ (i := 3) (N := some 51) (v := ?_) (a' := ?_) #[true, true, true, true, false, false, false, false, false, false, false] rfl rfl (by kernel_rfl) (fun _ _ _ h => h) (Or.inl ⟨by rfl, ?_⟩) ?_ ?_
        rotate_left
        · intro w'
          go_simp
          with_reducible rfl
        rotate_left
        · simp only [Act.put, List.setIfInBounds_toArray, List.set_cons_zero, List.set_cons_succ, i64_w, i32_w]
          rfl
        refine pure_ (i := 4) (N := some 52) (v := .int .i64 (a.1 + upF a p)) (a' := ?_) #[true, true, true, true, true, false, false, false, false, false, false] rfl rfl (by kernel_rfl) (fun _ _ _ h => h) (Or.inl ⟨by rfl, ?_⟩) ?_ ?_
        · intro w'
          have hwr := HWR.out
          have hu0 := HU0.out
          go_simp
          try simp
          first | exact (i64_w _).trans hwr | (rw [hu0]; exact (i64_w _).trans hwr) | (rw [hu0, hwr]) | (rw [hwr])
        rotate_left
        · simp only [Act.put, List.setIfInBounds_toArray, List.set_cons_zero, List.set_cons_succ, i64_w, i32_w]
          rfl
        refine pure_ (i := 5) (N := some 53) (v := ?_) (a' := ?_) #[true, true, true, true, true, true, false, false, false, false, false] rfl rfl (by kernel_rfl) (fun _ _ _ h => h) (Or.inl ⟨by rfl, ?_⟩) ?_ ?_
        rotate_left
        · intro w'
          go_simp
          with_reducible rfl
        rotate_left
        · simp only [Act.put, List.setIfInBounds_toArray, List.set_cons_zero, List.set_cons_succ, i64_w, i32_w]
          rfl
        refine take_ (i := 6) (N := some 54) (v := ?_) (a' := ?_) #[true, true, true, true, true, true, true, false, false, false, false] rfl rfl (by kernel_rfl) (fun _ _ _ h => h) (Or.inl ⟨by rfl, ?_⟩) hHeld ?_ ?_
        rotate_left
        · rintro w' ⟨s1, s2, _, _⟩
          go_simp
          with_reducible rfl
        rotate_left
        · simp only [Act.put, List.setIfInBounds_toArray, List.set_cons_zero, List.set_cons_succ, i64_w, i32_w]
          rfl
        refine pure_ (i := 7) (N := some 55) (v := .agg NI) (a' := ?_) #[true, true, true, true, true, true, true, true, false, false, false] rfl rfl (by kernel_rfl) (fun _ _ _ h => h) (Or.inl ⟨by rfl, fun w' => exec_build 23 #[(0, .tmp 54)] rfl _ (by first | rfl | (simp only [List.map_toArray, List.map_cons, List.map_nil]; rfl)) _ HHI.out⟩) ?_ ?_
        rotate_left
        · simp only [Act.put, List.setIfInBounds_toArray, List.set_cons_zero, List.set_cons_succ, i64_w, i32_w]
          rfl
        refine pure_ (i := 8) (N := some 56) (v := .agg XI) (a' := ?_) #[true, true, true, true, true, true, true, true, true, false, false] rfl rfl (by kernel_rfl) (fun _ _ _ h => h) (Or.inl ⟨by rfl, fun w' => exec_build TF #[(0, .tmp 52), (1, .tmp 55)] rfl _ (by first | rfl | (simp only [List.map_toArray, List.map_cons, List.map_nil]; rfl)) _ HBI.out⟩) ?_ ?_
        rotate_left
        · simp only [Act.put, List.setIfInBounds_toArray, List.set_cons_zero, List.set_cons_succ, i64_w, i32_w]
          rfl
        refine one_ (i := 9) (N := none) #[true, true, true, true, true, true, true, true, true, true, false] rfl rfl (by kernel_rfl) (by decide) (fun K hK => ?_)
        refine store_ (by rfl) TF (.tmp 4) (.tmp 48) rfl rfl (w.heap.size + 1 + 1) A.toArray rfl rfl TF Z HB0.out.b2 (by rw [HAs.out, HZ0.out]) (by rw [HAs.out]; exact size_ref) HA1.out ?_
        have HB1 := Aside0.mk (HB0.out.put2 A.toArray)
        have HBA6 := Aside0.mk ((setRow_other wd (w.heap.size + 1 + 1) _ A.toArray (by have := HGA.out; omega)).trans HBA5.out)
        clear hHeld HB0 HBA5
        refine hK.out _ _ (sp6_of HAE.out HB1.out HBA6.out) (fun hHeld => ?_)
        clear hK
        generalize wd.setRow (w.heap.size + 1 + 1) A.toArray = we at hHeld HB1 HBA6 ⊢
        refine one_ (i := 10) (N := none) #[true, true, true, true, true, true, true, true, true, true, true] rfl rfl (by kernel_rfl) (by decide) (fun K hK => ?_)
        refine store_ (by rfl) TF (.tmp 5) (.tmp 56) rfl rfl (w.heap.size + 1 + 1 + 1) XI rfl rfl TF Z HB1.out.b3 (by rw [HIs.out, HZ0.out]) (by rw [HIs.out]; exact size_ref) HI1.out ?_
        have HB2 := Aside0.mk (HB1.out.put3 XI)
        have HBA7 := Aside0.mk ((setRow_other we (w.heap.size + 1 + 1 + 1) _ XI (by have := HGA.out; omega)).trans HBA6.out)
        clear hHeld HB1 HBA6
        refine hK.out _ _ (sp6_of HAE.out HB2.out HBA7.out) (fun hHeld => ?_)
        clear hK hHeld
        generalize we.setRow (w.heap.size + 1 + 1 + 1) XI = wf at HB2 HBA7 ⊢
        refine done_ (by kernel_rfl) ?_
        go_wp2_with fail
        -- sml0]
        refine bodyPost_ret (results_cc rfl _ _ (w.heap.size + 1 + 1) (w.heap.size + 1 + 1 + 1) TF TF A.toArray XI (0, 0) (0, 0) _ _ rfl HB2.out.b2 huF rfl (by rw [HAs.out]; exact size_ref) rfl HB2.out.b3 huF rfl (by rw [HIs.out]; exact size_ref)) rfl ?_
        exact ⟨by rw [HE.out, HXI.out, HAE.out], HB2.out.bel⟩
    | q + 1, hql, HQ =>
      obtain ⟨x, hx⟩ : ∃ x, R[q]? = some x := ⟨_, List.getElem?_eq_getElem hql⟩
      have hax : a = x.id := by rw [← HAF.out]; unfold aftF; rw [HQ.out]; simp only [hx]
      obtain ⟨gk, cap, cur, he, hg, ht⟩ : ∃ gk cap cur, (.slice A0 R.length c0 : Value) = .slice (some ⟨gk, 0, none⟩) R.length cap ∧ w2.heap[gk]? = some (.cells cur TD (0, 0)) ∧ cur.toList.take (R.length * 68) = fr R := by
        rcases ownD_form HO1.out with ⟨_, hn⟩ | ⟨gk, cap, cur, hv, _, h2, _, _, _, h3⟩
        · rw [hn] at hql; simp at hql
        · exact ⟨gk, cap, cur, hv, h2, h3⟩
      obtain ⟨rfl, rfl⟩ : A0 = some ⟨gk, 0, none⟩ ∧ c0 = cap := by injection he with h1 _ h3; exact ⟨h1, h3⟩
      have HG := Aside0.mk hg
      have HCA : Aside0 (∀ j v, A[j]? = some v → cur[q * 68 + j]? = some v) := ⟨fun j v hj => curD_at HO1.out.okr ht hx j v (re_id j v (by rw [← hax, HAE.out]; exact hj))⟩
      have hsD := size_re
      have t0 : decide ((0 : Int) < ((q + 1 : Nat) : Int)) = true := decide_eq_true (by omega)
      have t1 : ((0 : Int) < ((q + 1 : Nat) : Int)) = True := eq_true (by omega)
      have t2 : wrap64 (((q + 1 : Nat) : Int) - 1) = (q : Int) := by unfold wrap64; omega
      have t3 : ((q : Int) < (R.length : Int)) = True := eq_true (by omega)
      have hgs : ga < w2.heap.size := blk_lt HBA0.out
      have HBn : Aside0 (B5 w (.slice (some ⟨gk, 0, none⟩) R.length c0) p Z Z (w2.setRow ga A.toArray)) := ⟨⟨below_setRow HB1.out.bel (by have := HGA.out; omega) _, (setRow_other w2 ga _ A.toArray (by have := HGA.out; omega)).trans HB1.out.b0, (setRow_other w2 ga _ A.toArray (by have := HGA.out; omega)).trans HB1.out.b1, (setRow_other w2 ga _ A.toArray (by have := HGA.out; omega)).trans HB1.out.b2, (setRow_other w2 ga _ A.toArray (by have := HGA.out; omega)).trans HB1.out.b3⟩⟩
      have HBAn : Aside0 ((w2.setRow ga A.toArray).heap[ga]? = some (.cells A.toArray TF (0, 0))) := ⟨blk_row HBA0.out _⟩
      have k1n : (w2.setRow ga A.toArray).cell? ⟨w.heap.size + 1, 1, none⟩ = some (.int .u8 p.f1) := HBn.out.pc 1 _ rfl
      clear hx hax he hg ht k1 HO1
      go_upto_region 7 with (first | ((with_reducible refine gate_ (Op.load TF (.tmp 38)) rfl ?_); refine wpList_load_at rfl TF (.tmp 38) rfl gk (q * 68) rfl TD cur HG.out A HCA.out _ huF rfl HSA.out ?_) | ((with_reducible refine gate_ (Op.store TF (.tmp 6) (.tmp 39)) rfl ?_); refine wpList_store_at rfl TF (.tmp 6) (.tmp 39) rfl ga 0 A.toArray rfl rfl TF Z HBA0.out (by rw [HAs.out, HZ0.out]; decide) (by rw [HAs.out]; exact size_ref) HA1.out ?_; rw [splice_all _ _ (by rw [Array.length_toList, Array.length_toList, HAs.out, HZ0.out]), Array.toArray_toList]))
      clear kr HG HCA HB1 HBA0
      generalize w2.setRow ga A.toArray = w3 at *
      have HB := Aside0.mk HBn.out
      have HBA4 := Aside0.mk HBAn.out
      have ka : w3.cell? ⟨ga, 0, none⟩ = some (.int .i64 a.1) := (blk_cell HBA4.out 0).trans HA0.out
      clear HBn HBAn
      go_upto_region 8 with fail
      rw [HUP.out]
      by_cases hbig : a.1 > 1099511627776
      · have t5 : decide (a.1 > 1099511627776) = true := decide_eq_true hbig
        have t6 : decide (1099511627776 < a.1) = true := decide_eq_true hbig
        have t7 : (1099511627776 < a.1) = True := eq_true hbig
        have hu0 : upF a p = 0 := by unfold upF; rw [if_pos hbig]
        rw [hu0] at HWR
        simp only [Int.add_zero] at HWR
        have HU0 := Aside0.mk hu0
        clear hu0 hbig
        go_upto_region 10 with fail
        -- [big1
        refine start_ (n := 11) (S := SP6 w p a A ga) (ds := []) #[false, false, false, false, false, false, false, false, false, false, false] (by kernel_rfl) rfl rfl (sp6_of HAE.out (HB.out.step (pw_below_drewN (Below.refl _ _) 1)) (blk_below HBA4.out (pw_below_drewN (Below.refl _ _) 1))) (fun hHeld => ?_)
        have HB0 := Aside0.mk (HB.out.step (pw_below_drewN (Below.refl w3.heap.size w3) 1))
        have HBA5 := Aside0.mk (blk_below HBA4.out (pw_below_drewN (Below.refl w3.heap.size w3) 1))
        rw [show w3.drewN 1 = w3.drew from rfl] at HB0 HBA5
        generalize w3.drew = wd at hHeld HB0 HBA5 ⊢
        clear HB HBA4
        refine take_ (i := 0) (N := some 48) (v := .agg A.toArray) (a' := ?_) #[true, false, false, false, false, false, false, false, false, false, false] rfl rfl (by kernel_rfl) (fun _ _ _ h => h) (yieldsIf_load_mid (by rfl) TF (.tmp 6) rfl ga 0 rfl A _ (fun w' hS => hS.2.2.1) huF rfl HSA.out) hHeld ?_ ?_
        rotate_left
        · simp only [Act.put, List.setIfInBounds_toArray, List.set_cons_zero, List.set_cons_succ, i64_w, i32_w]
          rfl
        refine pure_ (i := 1) (N := some 49) (v := ?_) (a' := ?_) #[true, true, false, false, false, false, false, false, false, false, false] rfl rfl (by kernel_rfl) (fun _ _ _ h => h) (Or.inl ⟨by rfl, ?_⟩) ?_ ?_
        rotate_left
        · intro w'
          go_simp
          with_reducible rfl
        rotate_left
        · simp only [Act.put, List.setIfInBounds_toArray, List.set_cons_zero, List.set_cons_succ, i64_w, i32_w]
          rfl
        refine take_ (i := 2) (N := some 50) (v := ?_) (a' := ?_) #[true, true, true, false, false, false, false, false, false, false, false] rfl rfl (by kernel_rfl) (fun _ _ _ h => h) (Or.inl ⟨by rfl, ?_⟩) hHeld ?_ ?_
        rotate_left
        · rintro w' ⟨s1, s2, _, _⟩
          go_simp
          with_reducible rfl
        rotate_left
        · simp only [Act.put, List.setIfInBounds_toArray, List.set_cons_zero, List.set_cons_succ, i64_w, i32_w]
          rfl
        refine pure_ (i := 3) (N := some 51) (v := ?_) (a' := ?_) #[true, true, true, true, false, false, false, false, false, false, false] rfl rfl (by kernel_rfl) (fun _ _ _ h => h) (Or.inl ⟨by rfl, ?_⟩) ?_ ?_
        rotate_left
        · intro w'
          go_simp
          with_reducible rfl
        rotate_left
        · simp only [Act.put, List.setIfInBounds_toArray, List.set_cons_zero, List.set_cons_succ, i64_w, i32_w]
          rfl
        refine pure_ (i := 4) (N := some 52) (v := .int .i64 (a.1 + upF a p)) (a' := ?_) #[true, true, true, true, true, false, false, false, false, false, false] rfl rfl (by kernel_rfl) (fun _ _ _ h => h) (Or.inl ⟨by rfl, ?_⟩) ?_ ?_
        · intro w'
          have hwr := HWR.out
          have hu0 := HU0.out
          go_simp
          try simp
          first | exact (i64_w _).trans hwr | (rw [hu0]; exact (i64_w _).trans hwr) | (rw [hu0, hwr]) | (rw [hwr])
        rotate_left
        · simp only [Act.put, List.setIfInBounds_toArray, List.set_cons_zero, List.set_cons_succ, i64_w, i32_w]
          rfl
        refine pure_ (i := 5) (N := some 53) (v := ?_) (a' := ?_) #[true, true, true, true, true, true, false, false, false, false, false] rfl rfl (by kernel_rfl) (fun _ _ _ h => h) (Or.inl ⟨by rfl, ?_⟩) ?_ ?_
        rotate_left
        · intro w'
          go_simp
          with_reducible rfl
        rotate_left
        · simp only [Act.put, List.setIfInBounds_toArray, List.set_cons_zero, List.set_cons_succ, i64_w, i32_w]
          rfl
        refine take_ (i := 6) (N := some 54) (v := ?_) (a' := ?_) #[true, true, true, true, true, true, true, false, false, false, false] rfl rfl (by kernel_rfl) (fun _ _ _ h => h) (Or.inl ⟨by rfl, ?_⟩) hHeld ?_ ?_
        rotate_left
        · rintro w' ⟨s1, s2, _, _⟩
          go_simp
          with_reducible rfl
        rotate_left
        · simp only [Act.put, List.setIfInBounds_toArray, List.set_cons_zero, List.set_cons_succ, i64_w, i32_w]
          rfl
        refine pure_ (i := 7) (N := some 55) (v := .agg NI) (a' := ?_) #[true, true, true, true, true, true, true, true, false, false, false] rfl rfl (by kernel_rfl) (fun _ _ _ h => h) (Or.inl ⟨by rfl, fun w' => exec_build 23 #[(0, .tmp 54)] rfl _ (by first | rfl | (simp only [List.map_toArray, List.map_cons, List.map_nil]; rfl)) _ HHI.out⟩) ?_ ?_
        rotate_left
        · simp only [Act.put, List.setIfInBounds_toArray, List.set_cons_zero, List.set_cons_succ, i64_w, i32_w]
          rfl
        refine pure_ (i := 8) (N := some 56) (v := .agg XI) (a' := ?_) #[true, true, true, true, true, true, true, true, true, false, false] rfl rfl (by kernel_rfl) (fun _ _ _ h => h) (Or.inl ⟨by rfl, fun w' => exec_build TF #[(0, .tmp 52), (1, .tmp 55)] rfl _ (by first | rfl | (simp only [List.map_toArray, List.map_cons, List.map_nil]; rfl)) _ HBI.out⟩) ?_ ?_
        rotate_left
        · simp only [Act.put, List.setIfInBounds_toArray, List.set_cons_zero, List.set_cons_succ, i64_w, i32_w]
          rfl
        refine one_ (i := 9) (N := none) #[true, true, true, true, true, true, true, true, true, true, false] rfl rfl (by kernel_rfl) (by decide) (fun K hK => ?_)
        refine store_ (by rfl) TF (.tmp 4) (.tmp 48) rfl rfl (w.heap.size + 1 + 1) A.toArray rfl rfl TF Z HB0.out.b2 (by rw [HAs.out, HZ0.out]) (by rw [HAs.out]; exact size_ref) HA1.out ?_
        have HB1 := Aside0.mk (HB0.out.put2 A.toArray)
        have HBA6 := Aside0.mk ((setRow_other wd (w.heap.size + 1 + 1) _ A.toArray (by have := HGA.out; omega)).trans HBA5.out)
        clear hHeld HB0 HBA5
        refine hK.out _ _ (sp6_of HAE.out HB1.out HBA6.out) (fun hHeld => ?_)
        clear hK
        generalize wd.setRow (w.heap.size + 1 + 1) A.toArray = we at hHeld HB1 HBA6 ⊢
        refine one_ (i := 10) (N := none) #[true, true, true, true, true, true, true, true, true, true, true] rfl rfl (by kernel_rfl) (by decide) (fun K hK => ?_)
        refine store_ (by rfl) TF (.tmp 5) (.tmp 56) rfl rfl (w.heap.size + 1 + 1 + 1) XI rfl rfl TF Z HB1.out.b3 (by rw [HIs.out, HZ0.out]) (by rw [HIs.out]; exact size_ref) HI1.out ?_
        have HB2 := Aside0.mk (HB1.out.put3 XI)
        have HBA7 := Aside0.mk ((setRow_other we (w.heap.size + 1 + 1 + 1) _ XI (by have := HGA.out; omega)).trans HBA6.out)
        clear hHeld HB1 HBA6
        refine hK.out _ _ (sp6_of HAE.out HB2.out HBA7.out) (fun hHeld => ?_)
        clear hK hHeld
        generalize we.setRow (w.heap.size + 1 + 1 + 1) XI = wf at HB2 HBA7 ⊢
        refine done_ (by kernel_rfl) ?_
        go_wp2_with fail
        -- big1]
        refine bodyPost_ret (results_cc rfl _ _ (w.heap.size + 1 + 1) (w.heap.size + 1 + 1 + 1) TF TF A.toArray XI (0, 0) (0, 0) _ _ rfl HB2.out.b2 huF rfl (by rw [HAs.out]; exact size_ref) rfl HB2.out.b3 huF rfl (by rw [HIs.out]; exact size_ref)) rfl ?_
        exact ⟨by rw [HE.out, HXI.out, HAE.out], HB2.out.bel⟩
      · have t5 : decide (a.1 > 1099511627776) = false := decide_eq_false hbig
        have t6 : decide (1099511627776 < a.1) = false := decide_eq_false hbig
        have t7 : (1099511627776 < a.1) = False := eq_false hbig
        have hu0 : upF a p = U := by unfold upF; rw [if_neg hbig, HUE.out]
        rw [hu0] at HWR
        have HU0 := Aside0.mk hu0
        clear hu0 hbig
        go_upto_region 10 with fail
        -- [sml1
        refine start_ (n := 11) (S := SP6 w p a A ga) (ds := []) #[false, false, false, false, false, false, false, false, false, false, false] (by kernel_rfl) rfl rfl (sp6_of HAE.out (HB.out.step (pw_below_drewN (Below.refl _ _) 1)) (blk_below HBA4.out (pw_below_drewN (Below.refl _ _) 1))) (fun hHeld => ?_)
        have HB0 := Aside0.mk (HB.out.step (pw_below_drewN (Below.refl w3.heap.size w3) 1))
        have HBA5 := Aside0.mk (blk_below HBA4.out (pw_below_drewN (Below.refl w3.heap.size w3) 1))
        rw [show w3.drewN 1 = w3.drew from rfl] at HB0 HBA5
        generalize w3.drew = wd at hHeld HB0 HBA5 ⊢
        clear HB HBA4
        refine take_ (i := 0) (N := some 48) (v := .agg A.toArray) (a' := ?_) #[true, false, false, false, false, false, false, false, false, false, false] rfl rfl (by kernel_rfl) (fun _ _ _ h => h) (yieldsIf_load_mid (by rfl) TF (.tmp 6) rfl ga 0 rfl A _ (fun w' hS => hS.2.2.1) huF rfl HSA.out) hHeld ?_ ?_
        rotate_left
        · simp only [Act.put, List.setIfInBounds_toArray, List.set_cons_zero, List.set_cons_succ, i64_w, i32_w]
          rfl
        refine pure_ (i := 1) (N := some 49) (v := ?_) (a' := ?_) #[true, true, false, false, false, false, false, false, false, false, false] rfl rfl (by kernel_rfl) (fun _ _ _ h => h) (Or.inl ⟨by rfl, ?_⟩) ?_ ?_
        rotate_left
        · intro w'
          go_simp
          with_reducible rfl
        rotate_left
        · simp only [Act.put, List.setIfInBounds_toArray, List.set_cons_zero, List.set_cons_succ, i64_w, i32_w]
          rfl
        refine take_ (i := 2) (N := some 50) (v := ?_) (a' := ?_) #[true, true, true, false, false, false, false, false, false, false, false] rfl rfl (by kernel_rfl) (fun _ _ _ h => h) (Or.inl ⟨by rfl, ?_⟩) hHeld ?_ ?_
        rotate_left
        · rintro w' ⟨s1, s2, _, _⟩
          go_simp
          with_reducible rfl
        rotate_left
        · simp only [Act.put, List.setIfInBounds_toArray, List.set_cons_zero, List.set_cons_succ, i64_w, i32_w]
          rfl
        refine pure_ (i := 3) (N := some 51) (v := ?_) (a' := ?_) #[true, true, true, true, false, false, false, false, false, false, false] rfl rfl (by kernel_rfl) (fun _ _ _ h => h) (Or.inl ⟨by rfl, ?_⟩) ?_ ?_
        rotate_left
        · intro w'
          go_simp
          with_reducible rfl
        rotate_left
        · simp only [Act.put, List.setIfInBounds_toArray, List.set_cons_zero, List.set_cons_succ, i64_w, i32_w]
          rfl
        refine pure_ (i := 4) (N := some 52) (v := .int .i64 (a.1 + upF a p)) (a' := ?_) #[true, true, true, true, true, false, false, false, false, false, false] rfl rfl (by kernel_rfl) (fun _ _ _ h => h) (Or.inl ⟨by rfl, ?_⟩) ?_ ?_
        · intro w'
          have hwr := HWR.out
          have hu0 := HU0.out
          go_simp
          try simp
          first | exact (i64_w _).trans hwr | (rw [hu0]; exact (i64_w _).trans hwr) | (rw [hu0, hwr]) | (rw [hwr])
        rotate_left
        · simp only [Act.put, List.setIfInBounds_toArray, List.set_cons_zero, List.set_cons_succ, i64_w, i32_w]
          rfl
        refine pure_ (i := 5) (N := some 53) (v := ?_) (a' := ?_) #[true, true, true, true, true, true, false, false, false, false, false] rfl rfl (by kernel_rfl) (fun _ _ _ h => h) (Or.inl ⟨by rfl, ?_⟩) ?_ ?_
        rotate_left
        · intro w'
          go_simp
          with_reducible rfl
        rotate_left
        · simp only [Act.put, List.setIfInBounds_toArray, List.set_cons_zero, List.set_cons_succ, i64_w, i32_w]
          rfl
        refine take_ (i := 6) (N := some 54) (v := ?_) (a' := ?_) #[true, true, true, true, true, true, true, false, false, false, false] rfl rfl (by kernel_rfl) (fun _ _ _ h => h) (Or.inl ⟨by rfl, ?_⟩) hHeld ?_ ?_
        rotate_left
        · rintro w' ⟨s1, s2, _, _⟩
          go_simp
          with_reducible rfl
        rotate_left
        · simp only [Act.put, List.setIfInBounds_toArray, List.set_cons_zero, List.set_cons_succ, i64_w, i32_w]
          rfl
        refine pure_ (i := 7) (N := some 55) (v := .agg NI) (a' := ?_) #[true, true, true, true, true, true, true, true, false, false, false] rfl rfl (by kernel_rfl) (fun _ _ _ h => h) (Or.inl ⟨by rfl, fun w' => exec_build 23 #[(0, .tmp 54)] rfl _ (by first | rfl | (simp only [List.map_toArray, List.map_cons, List.map_nil]; rfl)) _ HHI.out⟩) ?_ ?_
        rotate_left
        · simp only [Act.put, List.setIfInBounds_toArray, List.set_cons_zero, List.set_cons_succ, i64_w, i32_w]
          rfl
        refine pure_ (i := 8) (N := some 56) (v := .agg XI) (a' := ?_) #[true, true, true, true, true, true, true, true, true, false, false] rfl rfl (by kernel_rfl) (fun _ _ _ h => h) (Or.inl ⟨by rfl, fun w' => exec_build TF #[(0, .tmp 52), (1, .tmp 55)] rfl _ (by first | rfl | (simp only [List.map_toArray, List.map_cons, List.map_nil]; rfl)) _ HBI.out⟩) ?_ ?_
        rotate_left
        · simp only [Act.put, List.setIfInBounds_toArray, List.set_cons_zero, List.set_cons_succ, i64_w, i32_w]
          rfl
        refine one_ (i := 9) (N := none) #[true, true, true, true, true, true, true, true, true, true, false] rfl rfl (by kernel_rfl) (by decide) (fun K hK => ?_)
        refine store_ (by rfl) TF (.tmp 4) (.tmp 48) rfl rfl (w.heap.size + 1 + 1) A.toArray rfl rfl TF Z HB0.out.b2 (by rw [HAs.out, HZ0.out]) (by rw [HAs.out]; exact size_ref) HA1.out ?_
        have HB1 := Aside0.mk (HB0.out.put2 A.toArray)
        have HBA6 := Aside0.mk ((setRow_other wd (w.heap.size + 1 + 1) _ A.toArray (by have := HGA.out; omega)).trans HBA5.out)
        clear hHeld HB0 HBA5
        refine hK.out _ _ (sp6_of HAE.out HB1.out HBA6.out) (fun hHeld => ?_)
        clear hK
        generalize wd.setRow (w.heap.size + 1 + 1) A.toArray = we at hHeld HB1 HBA6 ⊢
        refine one_ (i := 10) (N := none) #[true, true, true, true, true, true, true, true, true, true, true] rfl rfl (by kernel_rfl) (by decide) (fun K hK => ?_)
        refine store_ (by rfl) TF (.tmp 5) (.tmp 56) rfl rfl (w.heap.size + 1 + 1 + 1) XI rfl rfl TF Z HB1.out.b3 (by rw [HIs.out, HZ0.out]) (by rw [HIs.out]; exact size_ref) HI1.out ?_
        have HB2 := Aside0.mk (HB1.out.put3 XI)
        have HBA7 := Aside0.mk ((setRow_other we (w.heap.size + 1 + 1 + 1) _ XI (by have := HGA.out; omega)).trans HBA6.out)
        clear hHeld HB1 HBA6
        refine hK.out _ _ (sp6_of HAE.out HB2.out HBA7.out) (fun hHeld => ?_)
        clear hK hHeld
        generalize we.setRow (w.heap.size + 1 + 1 + 1) XI = wf at HB2 HBA7 ⊢
        refine done_ (by kernel_rfl) ?_
        go_wp2_with fail
        -- sml1]
        refine bodyPost_ret (results_cc rfl _ _ (w.heap.size + 1 + 1) (w.heap.size + 1 + 1 + 1) TF TF A.toArray XI (0, 0) (0, 0) _ _ rfl HB2.out.b2 huF rfl (by rw [HAs.out]; exact size_ref) rfl HB2.out.b3 huF rfl (by rw [HIs.out]; exact size_ref)) rfl ?_
        exact ⟨by rw [HE.out, HXI.out, HAE.out], HB2.out.bel⟩
end Go.Proofs.Ytkcdlilglgfkaaa.Rg

/- Rows of cells: the plain law: cells that are put one after the other stand as the tree says. -/
set_option linter.unusedVariables false
set_option linter.unusedSimpArgs false
namespace Go.Proofs.Ytkcdlilglgfkaaa.Rg
open Go Go.RowKit Go.Proofs.YtkcdlilglgfkaaaW.PrintWords Go.Proofs.YtkcdlilglgfkaaaW.PrintLast Go.Proofs.YtkcdlilglgfkaaaW.PrintMore Go.Proofs.Ytkcdlilglgfkaaa.PA Go.Proofs.Ytkcdlilglgfkaaa.Ar Go.Proofs.Ytkcdlilglgfkaaa.Sha
def toC (x : Re) : Ce := ⟨x.id, x.ch, x.gone⟩
/-! ### Putting in order -/
theorem insR_nil (c : Re) : insR [] c = [c] := rfl
theorem insR_cons (x : Re) (l : List Re) (c : Re) : insR (x :: l) c = if lessI c.id x.id = true then x :: insR l c else c :: x :: l := by
  unfold insR posK
  by_cases h : lessI c.id x.id = true
  · rw [if_pos h, List.takeWhile_cons, if_pos h]
    rfl
  · rw [if_neg h, List.takeWhile_cons, if_neg h]
    rfl
theorem insR_skip {c : Re} : ∀ {P : List Re} (T : List Re), (∀ x ∈ P, lessI c.id x.id = true) → insR (P ++ T) c = P ++ insR T c
  | [], T, _ => rfl
  | x :: P, T, h => by
    rw [List.cons_append, insR_cons, if_pos (h x (by simp)), insR_skip T (fun y hy => h y (by simp [hy])), List.cons_append]
theorem insR_front {c : Re} {T : List Re} (h : ∀ y ∈ T.head?, lessI c.id y.id = false) : insR T c = c :: T := by
  cases T with
  | nil => rfl
  | cons x l => rw [insR_cons, if_neg (by rw [h x (by simp)]; decide)]
theorem lessI_gt {a b : Idt} (h : a.1 < b.1) : lessI a b = true := by unfold lessI; rw [if_neg (by omega)]; exact decide_eq_true h
theorem lessI_lt {a b : Idt} (h : b.1 < a.1) : lessI a b = false := by unfold lessI; rw [if_neg (by omega)]; exact decide_eq_false (by omega)
theorem lessI_le {a b : Idt} (h : lessI a b = true) : a.1 ≤ b.1 := by
  unfold lessI at h
  split at h
  · omega
  · have := of_decide_eq_true h; omega
theorem lessI_ge {a b : Idt} (h : lessI a b ≠ true) : b.1 ≤ a.1 := by
  by_cases h2 : a.1 < b.1
  · exact absurd (lessI_gt h2) h
  · omega
/-- By their numbers, the greatest first. -/
def Desc (K : List Re) : Prop := K.Pairwise fun x y => y.id.1 ≤ x.id.1
theorem desc_ins : ∀ {K : List Re} {c : Re}, Desc K → Desc (insR K c)
  | [], c, _ => List.pairwise_singleton _ _
  | x :: K, c, h => by
    obtain ⟨h1, h2⟩ := List.pairwise_cons.1 h
    rw [insR_cons]
    by_cases hl : lessI c.id x.id = true
    · rw [if_pos hl]
      refine List.pairwise_cons.2 ⟨fun y hy => ?_, desc_ins h2⟩
      rcases mem_insR.1 hy with rfl | hy
      · exact lessI_le hl
      · exact h1 y hy
    · rw [if_neg hl]
      have hx := lessI_ge hl
      refine List.pairwise_cons.2 ⟨fun y hy => ?_, h⟩
      rcases List.mem_cons.1 hy with rfl | hy
      · exact hx
      · have := h1 y hy; omega
theorem desc_fold : ∀ (l K : List Re), Desc K → Desc (l.foldl insR K)
  | [], _, h => h
  | x :: l, K, h => by rw [List.foldl_cons]; exact desc_fold l _ (desc_ins h)
theorem desc_kids (R : List Re) (i : Idt) : Desc (kidsF R i) := desc_fold _ _ List.Pairwise.nil
/-! ### How deep -/
theorem filter_lt {α : Type} {p q : α → Bool} : ∀ {l : List α}, (∀ x, p x = true → q x = true) → (∃ c ∈ l, q c = true ∧ p c = false) → (l.filter p).length < (l.filter q).length
  | [], _, ⟨c, hc, _⟩ => by simp at hc
  | x :: l, h, ⟨c, hc, h1, h2⟩ => by
    have hle : ∀ l : List α, (l.filter p).length ≤ (l.filter q).length := fun l => by
      induction l with
      | nil => simp
      | cons y r ih =>
        simp only [List.filter_cons]
        by_cases hp : p y = true
        · rw [if_pos hp, if_pos (h y hp)]; simp only [List.length_cons]; omega
        · rw [if_neg hp]; split <;> (try simp only [List.length_cons]) <;> omega
    simp only [List.filter_cons]
    rcases List.mem_cons.1 hc with rfl | hc
    · rw [if_neg (by rw [h2]; decide), if_pos h1, List.length_cons]
      have := hle l; omega
    · have ih := filter_lt (l := l) h ⟨c, hc, h1, h2⟩
      by_cases hp : p x = true
      · rw [if_pos hp, if_pos (h x hp)]; simp only [List.length_cons]; omega
      · rw [if_neg hp]; split <;> (try simp only [List.length_cons]) <;> omega
/-- A cell's number is above that of the one behind which it was put. -/
def Up (R : List Re) : Prop := ∀ x ∈ R, x.after.1 < x.id.1
def above (R : List Re) (i : Idt) : Nat := (R.filter fun x => decide (i.1 < x.id.1)).length
theorem above_lt {R : List Re} (hU : Up R) {c : Re} (hc : c ∈ R) : above R c.id < above R c.after :=
  filter_lt (fun x hx => decide_eq_true (by have := of_decide_eq_true hx; have := hU c hc; omega)) ⟨c, hc, decide_eq_true (hU c hc), decide_eq_false (by omega)⟩
theorem deep_of : ∀ {n : Nat} {R : List Re} {i : Idt}, Up R → above R i < n → Deep R n i
  | 0, _, _, _, h => absurd h (by omega)
  | n + 1, R, i, hU, h => fun c hc hi => deep_of hU (by have := above_lt hU hc; rw [hi] at this; omega)
theorem above_le (R : List Re) (i : Idt) : above R i ≤ R.length := List.length_filter_le _ _
theorem flat_congr {α β : Type} {f g : α → List β} : ∀ {l : List α}, (∀ x ∈ l, f x = g x) → l.flatMap f = l.flatMap g
  | [], _ => rfl
  | x :: l, h => by rw [List.flatMap_cons, List.flatMap_cons, h x (by simp), flat_congr (fun y hy => h y (by simp [hy]))]
theorem fuel_eq : ∀ {n m : Nat} {R : List Re} {i : Idt}, Up R → above R i < n → above R i < m → belowF n R i = belowF m R i
  | 0, _, _, _, _, h, _ => absurd h (by omega)
  | _, 0, _, _, _, _, h => absurd h (by omega)
  | n + 1, m + 1, R, i, hU, h1, h2 => by
    rw [belowF, belowF]
    refine flat_congr (fun c hc => ?_)
    obtain ⟨hc1, hc2⟩ := mem_kids.1 hc
    have := above_lt hU hc1
    rw [hc2] at this
    rw [fuel_eq hU (by omega : above R c.id < n) (by omega : above R c.id < m)]
theorem below_gt : ∀ {n : Nat} {R : List Re} {i : Idt} {x : Re}, Up R → x ∈ belowF n R i → i.1 < x.id.1
  | 0, _, _, _, _, h => by simp [belowF] at h
  | n + 1, R, i, x, hU, h => by
    rw [belowF] at h
    obtain ⟨c, hc, hx⟩ := List.mem_flatMap.1 h
    obtain ⟨hc1, hc2⟩ := mem_kids.1 hc
    have h1 := hU c hc1
    rw [hc2] at h1
    rcases List.mem_cons.1 hx with rfl | hx
    · exact h1
    · have := below_gt hU hx; omega
/-! ### One more cell -/
section
variable {R : List Re} {c : Re}
/-- The cell is new. -/
structure New (R : List Re) (c : Re) : Prop where
  up : Up R
  lt : c.after.1 < c.id.1
  no : ∀ x ∈ R, x.after ≠ c.id
theorem New.up' (h : New R c) : Up (R ++ [c]) := fun x hx => by
  rcases List.mem_append.1 hx with hx | hx
  · exact h.up x hx
  · rw [List.mem_singleton.1 hx]; exact h.lt
theorem kids_new (h : New R c) : kidsF (R ++ [c]) c.id = [] := by
  rw [kids_snoc, if_neg (fun e => by have := h.lt; rw [e] at this; omega)]
  cases hk : kidsF R c.id with
  | nil => rfl
  | cons x l =>
    obtain ⟨h1, h2⟩ := mem_kids.1 (hk ▸ (by simp : x ∈ x :: l) : x ∈ kidsF R c.id)
    exact absurd h2 (h.no x h1)
theorem below_new (h : New R c) : ∀ n, belowF n (R ++ [c]) c.id = []
  | 0 => rfl
  | n + 1 => by rw [belowF, kids_new h]; rfl
/-- Where it is not put nothing is turned. -/
theorem below_same (h : New R c) : ∀ {n : Nat} {i : Idt}, i ≠ c.after → (∀ x ∈ belowF n R i, x.id ≠ c.after) → belowF n (R ++ [c]) i = belowF n R i
  | 0, _, _, _ => rfl
  | n + 1, i, hi, hx => by
    rw [belowF, belowF, kids_snoc, if_neg (fun e => hi e.symm)]
    rw [belowF] at hx
    refine flat_congr (fun k hk => ?_)
    have hm : ∀ x ∈ k :: belowF n R k.id, x.id ≠ c.after := fun x hxx => hx x (List.mem_flatMap.2 ⟨k, hk, hxx⟩)
    rw [below_same h (hm k (by simp)) (fun x hxx => hm x (by simp [hxx]))]
theorem claim1 (h : New R c) {n : Nat} {rest : List Re} (hr : ∀ y ∈ rest.head?, lessI c.id y.id = false) :
    insR (belowF (n + 1) R c.after ++ rest) c = belowF (n + 1) (R ++ [c]) c.after ++ rest := by
  have hk : ∀ k ∈ kidsF R c.after, c.after.1 < k.id.1 := fun k hk => by
    obtain ⟨h1, h2⟩ := mem_kids.1 hk
    have := h.up k h1
    rwa [h2] at this
  have hf : ∀ k ∈ kidsF R c.after, belowF n (R ++ [c]) k.id = belowF n R k.id := fun k hkk => below_same h (fun e => by have := hk k hkk; rw [e] at this; omega) (fun x hx e => by
    have h1 := below_gt h.up hx
    have h2 := hk k hkk
    rw [e] at h1
    omega)
  rw [belowF, belowF, kids_snoc, if_pos rfl]
  generalize kidsF R c.after = K at hk hf
  induction K with
  | nil =>
    rw [List.flatMap_nil, List.nil_append, insR_front hr, insR_nil, List.flatMap_singleton, below_new h]
    rfl
  | cons k K ih =>
    have ih := ih (fun x hx => hk x (by simp [hx])) (fun x hx => hf x (by simp [hx]))
    rw [List.flatMap_cons, List.append_assoc, List.cons_append, insR_cons, insR_cons]
    by_cases hl : lessI c.id k.id = true
    · rw [if_pos hl, if_pos hl, insR_skip _ (fun x hx => lessI_gt (by have := below_gt h.up hx; have := lessI_le hl; omega)), ih, List.flatMap_cons, hf k (by simp), List.append_assoc, List.cons_append]
    · rw [if_neg hl, if_neg hl, List.flatMap_cons, List.flatMap_cons, below_new h, hf k (by simp)]
      rw [flat_congr (l := K) (f := fun q => q :: belowF n (R ++ [c]) q.id) (g := fun q => q :: belowF n R q.id) (fun x hx => by rw [hf x (by simp [hx])])]
      simp
/-- Behind the one of an id. -/
def insA (a : Idt) (c : Re) : List Re → List Re
  | [] => []
  | x :: l => if x.id = a then x :: insR l c else x :: insA a c l
theorem insA_skip {a : Idt} : ∀ {P : List Re} (T : List Re), (∀ x ∈ P, x.id ≠ a) → insA a c (P ++ T) = P ++ insA a c T
  | [], T, _ => rfl
  | x :: P, T, h => by
    rw [List.cons_append, insA, if_neg (h x (by simp)), insA_skip T (fun y hy => h y (by simp [hy])), List.cons_append]
def idsOf (l : List Re) : List Idt := l.map (·.id)
theorem mem_ids {l : List Re} {a : Idt} : a ∈ idsOf l ↔ ∃ x ∈ l, x.id = a := by unfold idsOf; rw [List.mem_map]
theorem ids_app (l m : List Re) : idsOf (l ++ m) = idsOf l ++ idsOf m := List.map_append
theorem claim2 (h : New R c) : ∀ {n : Nat} {i : Idt} {rest : List Re}, above R i < n → (idsOf (belowF n R i)).Nodup → c.after ∈ idsOf (belowF n R i) → (∀ y ∈ rest.head?, y.id.1 ≤ i.1) → insA c.after c (belowF n R i ++ rest) = belowF n (R ++ [c]) i ++ rest
  | 0, _, _, hn, _, _, _ => absurd hn (by omega)
  | n + 1, i, rest, hn, hnd, ha, hr => by
    have hki : i ≠ c.after := fun e => by
      obtain ⟨x, hx, hxa⟩ := mem_ids.1 ha
      have := below_gt h.up hx
      rw [hxa, e] at this
      omega
    have hk : ∀ k ∈ kidsF R i, i.1 < k.id.1 ∧ above R k.id < n := fun k hk => by
      obtain ⟨h1, h2⟩ := mem_kids.1 hk
      have h3 := h.up k h1
      have h4 := above_lt h.up h1
      rw [h2] at h3 h4
      exact ⟨h3, by omega⟩
    have hd := desc_kids R i
    rw [belowF] at hnd ha ⊢
    rw [belowF, kids_snoc, if_neg (fun e => hki e.symm)]
    generalize kidsF R i = K at hk hd hnd ha
    induction K with
    | nil => simp [idsOf] at ha
    | cons k K ih =>
      obtain ⟨hd1, hd2⟩ := List.pairwise_cons.1 hd
      rw [List.flatMap_cons, ids_app] at hnd ha
      obtain ⟨hn1, hn2, hn3⟩ := List.nodup_append.1 hnd
      obtain ⟨hk1, hk2⟩ := hk k (by simp)
      -- what stands behind k's own
      have hrest : ∀ y ∈ (K.flatMap (fun q => q :: belowF n R q.id) ++ rest).head?, y.id.1 ≤ k.id.1 := fun y hy => by
        cases K with
        | nil => rw [List.flatMap_nil, List.nil_append] at hy; have := hr y hy; omega
        | cons q K' =>
          rw [List.flatMap_cons, List.cons_append, List.cons_append, List.head?_cons] at hy
          obtain rfl : q = y := by simpa using hy
          exact hd1 q (by simp)
      have hKf : c.after ∉ idsOf (K.flatMap fun q => q :: belowF n R q.id) → K.flatMap (fun q => q :: belowF n (R ++ [c]) q.id) = K.flatMap (fun q => q :: belowF n R q.id) := fun hno =>
        flat_congr (fun q hq => by
          have hm : ∀ x ∈ q :: belowF n R q.id, x.id ≠ c.after := fun x hx e => hno (mem_ids.2 ⟨x, List.mem_flatMap.2 ⟨q, hq, hx⟩, e⟩)
          rw [below_same h (hm q (by simp)) (fun x hx => hm x (by simp [hx]))])
      rw [List.flatMap_cons, List.flatMap_cons, List.append_assoc, List.append_assoc, List.cons_append, List.cons_append]
      by_cases hka : k.id = c.after
      · have hno : c.after ∉ idsOf (K.flatMap fun q => q :: belowF n R q.id) := fun hm => hn3 _ (mem_ids.2 ⟨k, by simp, hka⟩) _ hm rfl
        rw [insA, if_pos hka, hKf hno]
        match n, hk2, hrest with
        | 0, hk2, _ => omega
        | n + 1, hk2, hrest =>
          rw [hka] at hrest ⊢
          rw [claim1 h (fun y hy => lessI_lt (by have := hrest y hy; have := h.lt; omega))]
      · rw [insA, if_neg hka]
        by_cases hin : c.after ∈ idsOf (belowF n R k.id)
        · have hno : c.after ∉ idsOf (K.flatMap fun q => q :: belowF n R q.id) := fun hm => hn3 _ (by
            obtain ⟨x, hx, e⟩ := mem_ids.1 hin
            exact mem_ids.2 ⟨x, by simp [hx], e⟩) _ hm rfl
          rw [hKf hno, claim2 h hk2 (by
            have := hn1
            rw [idsOf, List.map_cons] at this
            exact (List.nodup_cons.1 this).2) hin hrest]
        · have hne : ∀ x ∈ belowF n R k.id, x.id ≠ c.after := fun x hx e => hin (mem_ids.2 ⟨x, hx, e⟩)
          have ha2 : c.after ∈ idsOf (K.flatMap fun q => q :: belowF n R q.id) := by
            rcases List.mem_append.1 ha with ha | ha
            · obtain ⟨x, hx, e⟩ := mem_ids.1 ha
              rcases List.mem_cons.1 hx with rfl | hx
              · exact absurd e hka
              · exact absurd e (hne x hx)
            · exact ha
          rw [insA_skip _ hne, ih (fun x hx => hk x (by simp [hx])) hd2 hn2 ha2, below_same h hka hne]
end
/-! ### Which go -/
def gon1 (y : Idt) (x : Re) : Re := if x.id = y then goneR x else x
def gon (y : Idt) (R : List Re) : List Re := R.map (gon1 y)
theorem gon1_id (y : Idt) (x : Re) : (gon1 y x).id = x.id := by unfold gon1; split <;> rfl
theorem gon1_after (y : Idt) (x : Re) : (gon1 y x).after = x.after := by unfold gon1; split <;> rfl
theorem insR_map (y : Idt) : ∀ (K : List Re) (c : Re), insR (K.map (gon1 y)) (gon1 y c) = (insR K c).map (gon1 y)
  | [], c => rfl
  | x :: K, c => by
    rw [List.map_cons, insR_cons, insR_cons, gon1_id, gon1_id]
    split
    · rw [insR_map y K c, List.map_cons]
    · rfl
theorem fold_map (y : Idt) : ∀ (l K : List Re), (l.map (gon1 y)).foldl insR (K.map (gon1 y)) = (l.foldl insR K).map (gon1 y)
  | [], K => rfl
  | x :: l, K => by rw [List.map_cons, List.foldl_cons, insR_map, fold_map y l, List.foldl_cons]
theorem kids_gon (y : Idt) (R : List Re) (i : Idt) : kidsF (gon y R) i = (kidsF R i).map (gon1 y) := by
  unfold kidsF gon
  rw [List.filter_map]
  have : ((fun x : Re => decide (x.after = i)) ∘ gon1 y) = fun x : Re => decide (x.after = i) := by
    funext x
    simp only [Function.comp, gon1_after]
  rw [this]
  exact fold_map y _ []
theorem below_gon (y : Idt) : ∀ (n : Nat) (R : List Re) (i : Idt), belowF n (gon y R) i = (belowF n R i).map (gon1 y)
  | 0, _, _ => rfl
  | n + 1, R, i => by
    rw [belowF, belowF, kids_gon, List.map_flatMap, List.flatMap_map]
    refine flat_congr (fun k _ => ?_)
    rw [gon1_id, below_gon y n R k.id, List.map_cons]
theorem set_gon : ∀ {R : List Re} {j : Nat} {x : Re}, (idsOf R).Nodup → R[j]? = some x → R.set j (goneR x) = gon x.id R
  | [], j, x, _, hj => by simp at hj
  | z :: r, 0, x, hn, hj => by
    obtain rfl : z = x := by simpa using hj
    have hn2 := (List.nodup_cons.1 hn).1
    have e : gon z.id r = r := by
      unfold gon
      conv => rhs; rw [← List.map_id r]
      refine List.map_congr_left (fun q hq => ?_)
      unfold gon1
      rw [if_neg (fun e => hn2 (mem_ids.2 ⟨q, hq, e⟩))]
      rfl
    show goneR z :: r = gon1 z.id z :: gon z.id r
    rw [e]
    unfold gon1
    rw [if_pos rfl]
  | z :: r, j + 1, x, hn, hj => by
    have hj' : r[j]? = some x := by simpa using hj
    obtain ⟨h1, h2⟩ := List.nodup_cons.1 hn
    have hz : gon1 x.id z = z := by
      unfold gon1
      rw [if_neg (fun e => h1 (mem_ids.2 ⟨x, List.mem_of_getElem? hj', e.symm⟩))]
    show z :: r.set j (goneR x) = gon1 x.id z :: gon x.id r
    rw [hz, set_gon h2 hj']
theorem setC_gon : ∀ {T : List Re} {j : Nat} {x : Ce} {y : Idt}, (idsOf T).Nodup → (T.map toC)[j]? = some x → x.id = y → (T.map toC).set j (goneC x) = (gon y T).map toC
  | [], j, x, y, _, hj, _ => by simp at hj
  | z :: r, 0, x, y, hn, hj, hy => by
    obtain rfl : toC z = x := by simpa using hj
    have hy : z.id = y := hy
    subst hy
    have hn2 := (List.nodup_cons.1 hn).1
    have e : gon z.id r = r := by
      unfold gon
      conv => rhs; rw [← List.map_id r]
      refine List.map_congr_left (fun q hq => ?_)
      unfold gon1
      rw [if_neg (fun e => hn2 (mem_ids.2 ⟨q, hq, e⟩))]
      rfl
    show goneC (toC z) :: r.map toC = toC (gon1 z.id z) :: (gon z.id r).map toC
    rw [e]
    unfold gon1
    rw [if_pos rfl]
    rfl
  | z :: r, j + 1, x, y, hn, hj, hy => by
    have hj' : (r.map toC)[j]? = some x := by simpa using hj
    obtain ⟨h1, h2⟩ := List.nodup_cons.1 hn
    have hz : gon1 y z = z := by
      unfold gon1
      rw [if_neg (fun e => h1 (mem_ids.2 (by
        obtain ⟨q, hq, hqx⟩ := List.mem_map.1 (List.mem_of_getElem? hj')
        exact ⟨q, hq, by show q.id = z.id; rw [e, ← hy, ← hqx]; rfl⟩)))]
    show toC z :: (r.map toC).set j (goneC x) = toC (gon1 y z) :: (gon y r).map toC
    rw [hz, setC_gon h2 hj' hy]
/-! ### Both rows -/
def tellF (R : List Re) : List Re := belowF (R.length + 1) R z0
/-- The row stands as the document's is told. -/
structure Alike (L : List Ce) (R : List Re) : Prop where
  eq : L = (tellF R).map toC
  up : Up R
  nd : (idsOf R).Nodup
  ndT : (idsOf (tellF R)).Nodup
  same : ∀ y, y ∈ idsOf (tellF R) ↔ y ∈ idsOf R
  len : (tellF R).length = R.length
  ok : ∀ x ∈ R, okI x.id
  pos : ∀ x ∈ R, 1 ≤ x.id.1
  afters : ∀ x ∈ R, x.after = z0 ∨ ∃ q ∈ R, q.id = x.after
theorem Alike.deep {L : List Ce} {R : List Re} (h : Alike L R) : Deep R (R.length + 1) z0 := deep_of h.up (by have := above_le R z0; omega)
theorem alike_nil : Alike [] [] := ⟨rfl, fun x hx => by simp at hx, List.nodup_nil, List.nodup_nil, fun y => Iff.rfl, rfl, fun x hx => by simp at hx, fun x hx => by simp at hx, fun x hx => by simp at hx⟩
theorem ids_toC (T : List Re) (y : Idt) : (∃ x ∈ T.map toC, x.id = y) ↔ y ∈ idsOf T := by
  rw [mem_ids]
  constructor
  · rintro ⟨x, hx, e⟩
    obtain ⟨q, hq, rfl⟩ := List.mem_map.1 hx
    exact ⟨q, hq, e⟩
  · rintro ⟨q, hq, e⟩
    exact ⟨toC q, List.mem_map.2 ⟨q, hq, rfl⟩, e⟩
theorem Alike.mem {L : List Ce} {R : List Re} (h : Alike L R) (y : Idt) : (∃ x ∈ L, x.id = y) ↔ ∃ x ∈ R, x.id = y := by
  rw [h.eq, ids_toC, h.same, mem_ids]
theorem adv_map (T : List Re) (c : Re) (k : Nat) : adv (T.map toC) c.id k = k + posK c (T.drop k) := by
  unfold adv posK
  rw [← List.map_drop, List.takeWhile_map, List.length_map]
  rfl
theorem insAt_map (T : List Re) (c : Re) (k : Nat) : insAt (T.map toC) k (toC c) = (T.take k ++ [c] ++ T.drop k).map toC := by
  unfold insAt
  rw [List.map_append, List.map_append, List.map_take, List.map_drop]
  rfl
theorem put_at {T : List Re} {c : Re} {k : Nat} (hk : k ≤ T.length) : insAt (T.map toC) (adv (T.map toC) c.id k) (toC c) = (T.take k ++ insR (T.drop k) c).map toC := by
  rw [adv_map, insAt_map, insR]
  congr 1
  rw [List.take_add, List.drop_drop, List.append_assoc, List.append_assoc, List.append_assoc]
theorem insA_at {a : Idt} {c : Re} : ∀ {T : List Re} {k : Nat} {x : Re}, (idsOf T).Nodup → T[k]? = some x → x.id = a → insA a c T = T.take (k + 1) ++ insR (T.drop (k + 1)) c
  | [], k, x, _, hk, _ => by simp at hk
  | z :: r, 0, x, _, hk, hx => by
    obtain rfl : z = x := by simpa using hk
    rw [insA, if_pos hx]
    rfl
  | z :: r, k + 1, x, hn, hk, hx => by
    have hk' : r[k]? = some x := by simpa using hk
    obtain ⟨h1, h2⟩ := List.nodup_cons.1 hn
    rw [insA, if_neg (fun e => h1 (mem_ids.2 ⟨x, List.mem_of_getElem? hk', by rw [hx, ← e]⟩)), insA_at h2 hk' hx]
    rfl
theorem mem_insA {a : Idt} {c y : Re} : ∀ {T : List Re}, (∃ x ∈ T, x.id = a) → (y ∈ insA a c T ↔ y = c ∨ y ∈ T)
  | [], h => by obtain ⟨x, hx, _⟩ := h; simp at hx
  | z :: r, h => by
    rw [insA]
    by_cases hz : z.id = a
    · rw [if_pos hz, List.mem_cons, mem_insR, List.mem_cons]
      constructor
      · rintro (h | h | h)
        · exact Or.inr (Or.inl h)
        · exact Or.inl h
        · exact Or.inr (Or.inr h)
      · rintro (h | h | h)
        · exact Or.inr (Or.inl h)
        · exact Or.inl h
        · exact Or.inr (Or.inr h)
    · rw [if_neg hz, List.mem_cons, mem_insA (T := r) (by
        obtain ⟨x, hx, e⟩ := h
        rcases List.mem_cons.1 hx with rfl | hx
        · exact absurd e hz
        · exact ⟨x, hx, e⟩), List.mem_cons]
      constructor
      · rintro (h | h | h)
        · exact Or.inr (Or.inl h)
        · exact Or.inl h
        · exact Or.inr (Or.inr h)
      · rintro (h | h | h)
        · exact Or.inr (Or.inl h)
        · exact Or.inl h
        · exact Or.inr (Or.inr h)
theorem nodup_insR {c : Re} : ∀ {T : List Re}, (idsOf T).Nodup → c.id ∉ idsOf T → (idsOf (insR T c)).Nodup
  | [], _, _ => by simp [insR_nil, idsOf]
  | z :: r, h, hc => by
    obtain ⟨h1, h2⟩ := List.nodup_cons.1 h
    rw [insR_cons]
    split
    · have hc2 : c.id ∉ idsOf r := fun hm => hc (List.mem_cons_of_mem _ hm)
      refine List.nodup_cons.2 ⟨fun hm => ?_, nodup_insR h2 hc2⟩
      obtain ⟨q, hq, e⟩ := mem_ids.1 hm
      rcases mem_insR.1 hq with rfl | hq
      · exact hc (by rw [e]; exact List.mem_cons_self)
      · exact h1 (mem_ids.2 ⟨q, hq, e⟩)
    · exact List.nodup_cons.2 ⟨hc, h⟩
theorem nodup_insA {a : Idt} {c : Re} : ∀ {T : List Re}, (idsOf T).Nodup → c.id ∉ idsOf T → (idsOf (insA a c T)).Nodup
  | [], h, _ => h
  | z :: r, h, hc => by
    obtain ⟨h1, h2⟩ := List.nodup_cons.1 h
    have hc2 : c.id ∉ idsOf r := fun hm => hc (List.mem_cons_of_mem _ hm)
    have hcz : c.id ≠ z.id := fun e => hc (by rw [e]; exact List.mem_cons_self)
    rw [insA]
    split
    · refine List.nodup_cons.2 ⟨fun hm => ?_, nodup_insR h2 hc2⟩
      obtain ⟨q, hq, e⟩ := mem_ids.1 hm
      rcases mem_insR.1 hq with rfl | hq
      · exact hcz e
      · exact h1 (mem_ids.2 ⟨q, hq, e⟩)
    · refine List.nodup_cons.2 ⟨fun hm => ?_, nodup_insA h2 hc2⟩
      obtain ⟨q, hq, e⟩ := mem_ids.1 hm
      have : q = c ∨ q ∈ r := by
        by_cases ha : ∃ x ∈ r, x.id = a
        · exact (mem_insA ha).1 hq
        · have e2 : insA a c r = r := by
            have := insA_skip (c := c) (P := r) [] (fun x hx e => ha ⟨x, hx, e⟩)
            rwa [List.append_nil, insA, List.append_nil] at this
          rw [e2] at hq
          exact Or.inr hq
      rcases this with rfl | hq
      · exact hcz e
      · exact h1 (mem_ids.2 ⟨q, hq, e⟩)
theorem insA_len {a : Idt} {c : Re} : ∀ {T : List Re}, (∃ x ∈ T, x.id = a) → (insA a c T).length = T.length + 1
  | [], h => by obtain ⟨x, hx, _⟩ := h; simp at hx
  | z :: r, h => by
    rw [insA]
    by_cases hz : z.id = a
    · rw [if_pos hz, List.length_cons, insR_len, List.length_cons]
    · rw [if_neg hz, List.length_cons, insA_len (T := r) (by
        obtain ⟨x, hx, e⟩ := h
        rcases List.mem_cons.1 hx with rfl | hx
        · exact absurd e hz
        · exact ⟨x, hx, e⟩), List.length_cons]
/-- A cell that is put. -/
theorem Alike.put {L : List Ce} {R : List Re} (h : Alike L R) {a i : Idt} {ch : Int} (h1 : ¬ (i.1 < 1 ∨ i.1 ≤ a.1)) (h2 : ∀ x ∈ R, x.id ≠ i) (h3 : a = z0 ∨ ∃ x ∈ R, x.id = a) (hi : okI i) {j : Nat} (hj : start L a j) :
    Alike (insAt L (adv L i j) ⟨i, ch, false⟩) (R ++ [⟨i, a, ch, false⟩]) := by
  obtain ⟨c, hc⟩ : ∃ c : Re, c = ⟨i, a, ch, false⟩ := ⟨_, rfl⟩
  have hci : c.id = i := by rw [hc]
  have hca : c.after = a := by rw [hc]
  have hct : toC c = ⟨i, ch, false⟩ := by rw [hc]; rfl
  rw [← hc, ← hct, ← hci]
  have hzi : ∀ x ∈ R, x.after ≠ c.id := fun x hx e => by
    -- an `after` is nought or an id that is there: its number is at least nought
    exact (h.afters x hx).elim (fun e2 => by rw [e2] at e; rw [hci] at e; rw [← e] at h1; exact h1 (Or.inl (by decide))) (fun ⟨q, hq, e2⟩ => h2 q hq (by rw [e2, e, hci]))
  have hnew : New R c := ⟨h.up, by rw [hca, hci]; omega, hzi⟩
  have hcn : c.id ∉ idsOf (tellF R) := fun hm => by
    obtain ⟨x, hx, e⟩ := mem_ids.1 ((h.same _).1 hm)
    exact h2 x hx (e.trans hci)
  have hfu : belowF (R.length + 1 + 1) R z0 = tellF R := fuel_eq h.up (by have := above_le R z0; omega) (by have := above_le R z0; omega)
  have hlen' : tellF (R ++ [c]) = belowF (R.length + 1 + 1) (R ++ [c]) z0 := by rw [tellF, List.length_append, List.length_singleton]
  -- what is told anew
  have key : insAt L (adv L c.id j) (toC c) = (tellF (R ++ [c])).map toC ∧ (idsOf (tellF (R ++ [c]))).Nodup ∧ (∀ y, y ∈ tellF (R ++ [c]) ↔ y = c ∨ y ∈ tellF R) ∧ (tellF (R ++ [c])).length = (tellF R).length + 1 := by
    rcases hj with ⟨hz, rfl⟩ | ⟨hz, k, x, rfl, hk, hx⟩
    · have e := claim1 hnew (n := R.length + 1) (rest := []) (by simp)
      rw [List.append_nil, List.append_nil, hca, hz, hfu, ← hlen'] at e
      rw [← e]
      refine ⟨?_, nodup_insR h.ndT hcn, fun y => mem_insR, insR_len _ _⟩
      rw [h.eq, put_at (Nat.zero_le _)]
      rfl
    · obtain ⟨q, hq, hqx⟩ : ∃ q, (tellF R)[k]? = some q ∧ toC q = x := by
        rw [h.eq, List.getElem?_map] at hk
        cases hq : (tellF R)[k]? with
        | none => rw [hq] at hk; cases hk
        | some q => rw [hq] at hk; exact ⟨q, rfl, by simpa using hk⟩
      have hqa : q.id = a := by rw [← hx, ← hqx]; rfl
      have hain : ∃ x ∈ tellF R, x.id = a := ⟨q, List.mem_of_getElem? hq, hqa⟩
      have e := claim2 hnew (n := R.length + 1 + 1) (i := z0) (rest := []) (by have := above_le R z0; omega) (by rw [hfu]; exact h.ndT) (by rw [hfu, hca]; exact mem_ids.2 hain) (by simp)
      rw [List.append_nil, List.append_nil, hca, hfu, ← hlen'] at e
      rw [← e]
      refine ⟨?_, nodup_insA h.ndT hcn, fun y => mem_insA hain, insA_len hain⟩
      rw [h.eq, put_at (by have := (List.getElem?_eq_some_iff.1 hq).1; omega), insA_at h.ndT hq hqa]
  obtain ⟨k1, k2, k3, k4⟩ := key
  have hcnR : c.id ∉ idsOf R := fun hm => hcn ((h.same _).2 hm)
  refine ⟨k1, hnew.up', ?_, k2, fun y => ?_, by rw [k4, h.len, List.length_append, List.length_singleton], fun x hx => ?_, fun x hx => ?_, fun x hx => ?_⟩
  · rw [ids_app]
    refine List.nodup_append.2 ⟨h.nd, by simp [idsOf], fun y hy z hz e => ?_⟩
    have : z = c.id := by simpa [idsOf] using hz
    subst this
    subst e
    exact hcnR hy
  · rw [ids_app, List.mem_append, ← h.same, mem_ids]
    constructor
    · rintro ⟨x, hx, e⟩
      rcases (k3 x).1 hx with rfl | hx
      · exact Or.inr (by rw [← e]; simp [idsOf])
      · exact Or.inl (mem_ids.2 ⟨x, hx, e⟩)
    · rintro (hm | hm)
      · obtain ⟨x, hx, e⟩ := mem_ids.1 hm
        exact ⟨x, (k3 x).2 (Or.inr hx), e⟩
      · have : y = c.id := by simpa [idsOf] using hm
        exact ⟨c, (k3 c).2 (Or.inl rfl), this.symm⟩
  · rcases List.mem_append.1 hx with hx | hx
    · exact h.ok x hx
    · rw [List.mem_singleton.1 hx, hci]; exact hi
  · rcases List.mem_append.1 hx with hx | hx
    · exact h.pos x hx
    · rw [List.mem_singleton.1 hx, hci]; omega
  · rcases List.mem_append.1 hx with hx | hx
    · rcases h.afters x hx with e | ⟨q, hq, e⟩
      · exact Or.inl e
      · exact Or.inr ⟨q, List.mem_append.2 (Or.inl hq), e⟩
    · rw [List.mem_singleton.1 hx, hca]
      rcases h3 with e | ⟨q, hq, e⟩
      · exact Or.inl e
      · exact Or.inr ⟨q, List.mem_append.2 (Or.inl hq), e⟩
theorem ids_gon (y : Idt) (R : List Re) : idsOf (gon y R) = idsOf R := by
  unfold idsOf gon
  rw [List.map_map]
  exact List.map_congr_left (fun x _ => gon1_id y x)
theorem tell_gon (y : Idt) (R : List Re) : tellF (gon y R) = gon y (tellF R) := by
  unfold tellF
  rw [below_gon]
  unfold gon
  rw [List.length_map]
theorem mem_gon {y : Idt} {R : List Re} {x : Re} (h : x ∈ gon y R) : ∃ q ∈ R, x.id = q.id ∧ x.after = q.after := by
  obtain ⟨q, hq, rfl⟩ := List.mem_map.1 h
  exact ⟨q, hq, gon1_id y q, gon1_after y q⟩
/-- A cell that goes. -/
theorem Alike.go {L : List Ce} {R : List Re} (h : Alike L R) {y : Idt} {j : Nat} {x : Ce} (hj : L[j]? = some x) (hx : x.id = y) {k : Nat} {q : Re} (hk : R[k]? = some q) (hq : q.id = y) :
    Alike (L.set j (goneC x)) (R.set k (goneR q)) := by
  have e1 : R.set k (goneR q) = gon y R := by rw [← hq]; exact set_gon h.nd hk
  have e2 : L.set j (goneC x) = (gon y (tellF R)).map toC := by
    have := hj
    rw [h.eq] at this ⊢
    exact setC_gon h.ndT this hx
  rw [e1, e2, ← tell_gon]
  refine ⟨rfl, fun z hz => ?_, by rw [ids_gon]; exact h.nd, by rw [tell_gon, ids_gon]; exact h.ndT, fun z => by rw [tell_gon, ids_gon, ids_gon]; exact h.same z, by rw [tell_gon]; unfold gon; rw [List.length_map, List.length_map]; exact h.len, fun z hz => ?_, fun z hz => ?_, fun z hz => ?_⟩
  · obtain ⟨p, hp, e3, e4⟩ := mem_gon hz
    rw [e3, e4]; exact h.up p hp
  · obtain ⟨p, hp, e3, e4⟩ := mem_gon hz
    rw [e3]; exact h.ok p hp
  · obtain ⟨p, hp, e3, e4⟩ := mem_gon hz
    rw [e3]; exact h.pos p hp
  · obtain ⟨p, hp, e3, e4⟩ := mem_gon hz
    rw [e4]
    rcases h.afters p hp with e | ⟨u, hu, e⟩
    · exact Or.inl e
    · exact Or.inr ⟨gon1 y u, List.mem_map.2 ⟨u, hu, rfl⟩, by rw [gon1_id]; exact e⟩
theorem Alike.at {L : List Ce} {R : List Re} (h : Alike L R) (p : Int) : atF (L.map visC) p = atF ((belowF (R.length + 1) R z0).map vis) p := by
  rw [h.eq, List.map_map]
  rfl
theorem Alike.size {L : List Ce} {R : List Re} (h : Alike L R) : L.length = R.length := by rw [h.eq, List.length_map]; exact h.len
end Go.Proofs.Ytkcdlilglgfkaaa.Rg

/- Rows of cells: a put on both rows. -/
set_option linter.unusedVariables false
set_option linter.unusedSimpArgs false
namespace Go.Proofs.Ytkcdlilglgfkaaa.Rg
open Go Go.RowKit Go.Proofs.YtkcdlilglgfkaaaW.PrintWords Go.Proofs.YtkcdlilglgfkaaaW.PrintLast Go.Proofs.YtkcdlilglgfkaaaW.PrintMore Go.Proofs.Ytkcdlilglgfkaaa.PA Go.Proofs.Ytkcdlilglgfkaaa.Ar Go.Proofs.Ytkcdlilglgfkaaa.Sha
/-- What Insert tells, of the row alone. -/
def OIns (L : List Ce) (a i : Idt) (ch : Int) (L' : List Ce) (c : Int) : Prop :=
  (c = 2 ∧ L' = L ∧ (i.1 < 1 ∨ i.1 ≤ a.1)) ∨ (c = 23 ∧ L' = L ∧ ¬ (i.1 < 1 ∨ i.1 ≤ a.1) ∧ ∃ x ∈ L, x.id = i) ∨ (c = 22 ∧ L' = L ∧ ¬ (i.1 < 1 ∨ i.1 ≤ a.1) ∧ (∀ x ∈ L, x.id ≠ i) ∧ a ≠ z0 ∧ ∀ x ∈ L, x.id ≠ a) ∨
    (c = 0 ∧ (∃ j, start L a j ∧ L' = insAt L (adv L i j) ⟨i, ch, false⟩) ∧ ¬ (i.1 < 1 ∨ i.1 ≤ a.1) ∧ (∀ x ∈ L, x.id ≠ i) ∧ (a = z0 ∨ ∃ x ∈ L, x.id = a))
def ORem (L : List Ce) (y : Idt) (L' : List Ce) (c : Int) : Prop := (c = 22 ∧ L' = L ∧ ∀ x ∈ L, x.id ≠ y) ∨ (c = 0 ∧ ∃ j x, L[j]? = some x ∧ x.id = y ∧ L' = L.set j (goneC x))
theorem ins_match {L L' : List Ce} {R R' : List Re} {a i : Idt} {ch c c' : Int} (h : Alike L R) (hi : okI i) (h1 : OIns L a i ch L' c) (h2 : RIns R a i ch R' c') : c = c' ∧ Alike L' R' ∧ R'.length ≤ R.length + 1 := by
  have e1 : (∀ x ∈ R, x.id ≠ i) ↔ ∀ x ∈ L, x.id ≠ i := ⟨fun hn x hx e => by obtain ⟨q, hq, e2⟩ := (h.mem i).1 ⟨x, hx, e⟩; exact hn q hq e2, fun hn x hx e => by obtain ⟨q, hq, e2⟩ := (h.mem i).2 ⟨x, hx, e⟩; exact hn q hq e2⟩
  have e2 : (∀ x ∈ R, x.id ≠ a) ↔ ∀ x ∈ L, x.id ≠ a := ⟨fun hn x hx e => by obtain ⟨q, hq, e2⟩ := (h.mem a).1 ⟨x, hx, e⟩; exact hn q hq e2, fun hn x hx e => by obtain ⟨q, hq, e2⟩ := (h.mem a).2 ⟨x, hx, e⟩; exact hn q hq e2⟩
  unfold OIns at h1
  unfold RIns at h2
  rw [h.mem i, h.mem a, ← e1, ← e2] at h1
  rcases h1 with ⟨rfl, rfl, hb⟩ | ⟨rfl, rfl, hb, ht⟩ | ⟨rfl, rfl, hb, ht, hz, hn⟩ | ⟨rfl, ⟨j, hj, rfl⟩, hb, ht, hn⟩
  · rcases h2 with ⟨rfl, rfl, _⟩ | ⟨_, _, h3, _⟩ | ⟨_, _, h3, _⟩ | ⟨_, _, h3, _⟩
    · exact ⟨rfl, h, by omega⟩
    all_goals exact absurd hb h3
  · rcases h2 with ⟨_, _, h3⟩ | ⟨rfl, rfl, _⟩ | ⟨_, _, _, h3, _⟩ | ⟨_, _, _, h3, _⟩
    · exact absurd h3 hb
    · exact ⟨rfl, h, by omega⟩
    all_goals (obtain ⟨x, hx, e⟩ := ht; exact absurd e (h3 x hx))
  · rcases h2 with ⟨_, _, h3⟩ | ⟨_, _, _, x, hx, e⟩ | ⟨rfl, rfl, _⟩ | ⟨_, _, _, _, h3⟩
    · exact absurd h3 hb
    · exact absurd e (ht x hx)
    · exact ⟨rfl, h, by omega⟩
    · rcases h3 with h3 | ⟨x, hx, e⟩
      · exact absurd h3 hz
      · exact absurd e (hn x hx)
  · rcases h2 with ⟨_, _, h3⟩ | ⟨_, _, _, x, hx, e⟩ | ⟨_, _, _, _, h3, h4⟩ | ⟨rfl, rfl, _⟩
    · exact absurd h3 hb
    · exact absurd e (ht x hx)
    · rcases hn with hn | ⟨x, hx, e⟩
      · exact absurd hn h3
      · exact absurd e (h4 x hx)
    · exact ⟨rfl, h.put hb ht hn hi hj, by rw [List.length_append]; simp⟩
theorem rem_match {L L' : List Ce} {R R' : List Re} {y : Idt} {c c' : Int} (h : Alike L R) (h1 : ORem L y L' c) (h2 : RRem R y R' c') : c = c' ∧ Alike L' R' ∧ R'.length ≤ R.length + 1 := by
  rcases h1 with ⟨rfl, rfl, hn⟩ | ⟨rfl, j, x, hj, hx, rfl⟩
  · rcases h2 with ⟨rfl, rfl, _⟩ | ⟨_, k, q, hk, hq, _⟩
    · exact ⟨rfl, h, by omega⟩
    · obtain ⟨x, hx, e⟩ := (h.mem y).2 ⟨q, List.mem_of_getElem? hk, hq⟩
      exact absurd e (hn x hx)
  · rcases h2 with ⟨_, _, hn⟩ | ⟨rfl, k, q, hk, hq, _, rfl⟩
    · obtain ⟨q, hq, e⟩ := (h.mem y).1 ⟨x, List.mem_of_getElem? hj, hx⟩
      exact absurd e (hn q hq)
    · exact ⟨rfl, h.go hj hx hk hq, by rw [List.length_set]; omega⟩
section
variable {w0 w w1 W : World} {gr gm : Nat} {L : List Ce} {M : List Idt} {v : Value}
/-- The blocks of the row. -/
def Xo (gr gm : Nat) (v : Value) (k : Nat) : Prop := k = gr ∨ k = gm ∨ v.ownBlock = some k
theorem Insert2_calls (h : Rw w0 gr gm L M v w) (hl : L.length < 99999) {a i : Idt} {ch : Int} (ha : okI a) (hi : okI i) :
    Calls Try.prog 20 #[.pointer (some ⟨gr, 0, none⟩), .agg (iv a).toArray, .agg (iv i).toArray, .int .u8 ch] w fun e w' => ∃ c L1 M1 v1, e = .returned (.int .i64 c) ∧ Rw w0 gr gm L1 M1 v1 w' ∧ Kept w w' (Xo gr gm v) ∧ (v1.ownBlock = v.ownBlock ∨ ∃ b, v1.ownBlock = some b ∧ w.heap.size ≤ b) ∧ OIns L a i ch L1 c := by
  have hn : ∀ y, y ∉ M → ∀ x ∈ L, x.id ≠ y := fun y hy x hx e => hy ((h.same y).2 ⟨x, hx, e⟩)
  refine (Insert_calls h hl ha hi).mono ?_
  rintro e w' ⟨c, rfl, ⟨hbad, hb⟩ | ⟨rfl, h1, h2, h3, j, v1, hst, hR, hk, ho⟩⟩
  · refine ⟨c, L, M, v, rfl, h.step hb, Kept.of_below hb _, Or.inl rfl, ?_⟩
    rcases hbad with ⟨rfl, h1⟩ | ⟨rfl, h1, h2⟩ | ⟨rfl, h1, h2, h3, h4⟩
    · exact Or.inl ⟨rfl, rfl, h1⟩
    · exact Or.inr (Or.inl ⟨rfl, rfl, h1, (h.same i).1 h2⟩)
    · exact Or.inr (Or.inr (Or.inl ⟨rfl, rfl, h1, hn i h2, h3, hn a h4⟩))
  · exact ⟨0, _, _, v1, rfl, hR, hk, ho, Or.inr (Or.inr (Or.inr ⟨rfl, ⟨j, hst, rfl⟩, h1, hn i h2, h3.imp_right (h.same a).1⟩))⟩
theorem Remove2_calls (h : Rw w0 gr gm L M v w) (hl : L.length < 99999) {y : Idt} (hy : okI y) :
    Calls Try.prog 27 #[.pointer (some ⟨gr, 0, none⟩), .agg (iv y).toArray] w fun e w' => ∃ c L1 M1 v1, e = .returned (.int .i64 c) ∧ Rw w0 gr gm L1 M1 v1 w' ∧ Kept w w' (Xo gr gm v) ∧ (v1.ownBlock = v.ownBlock ∨ ∃ b, v1.ownBlock = some b ∧ w.heap.size ≤ b) ∧ ORem L y L1 c := by
  refine (Remove_calls h hl y hy).mono ?_
  rintro e w' ⟨c, rfl, ⟨rfl, h1, hb⟩ | ⟨rfl, h1, j, x, hj, hx, hR, hk⟩⟩
  · exact ⟨22, L, M, v, rfl, h.step hb, Kept.of_below hb _, Or.inl rfl, Or.inl ⟨rfl, rfl, fun x hx e => h1 ((h.same y).2 ⟨x, hx, e⟩)⟩⟩
  · exact ⟨0, _, M, v, rfl, hR, hk, Or.inl rfl, Or.inr ⟨rfl, j, x, hj, hx, rfl⟩⟩
theorem own_ty (h : Rw w0 gr gm L M v W) {k : Nat} (hk : Xo gr gm v k) : ¬ Ty W TD k ∧ ¬ Ty W TE k ∧ ¬ Ty W TF k ∧ ¬ Ty W TP k ∧ ¬ Ty W TI k := by
  rcases hk with rfl | rfl | hk
  · have ht : Ty W TR k := ⟨_, h.pb⟩
    exact ⟨fun h2 => absurd (Ty.ne ht h2) (by decide), fun h2 => absurd (Ty.ne ht h2) (by decide), fun h2 => absurd (Ty.ne ht h2) (by decide), fun h2 => absurd (Ty.ne ht h2) (by decide), fun h2 => absurd (Ty.ne ht h2) (by decide)⟩
  · have hm : ∀ T, ¬ Ty W T k := fun T ⟨c, hc⟩ => by rw [h.mb] at hc; cases hc
    exact ⟨hm _, hm _, hm _, hm _, hm _⟩
  · have ht := (own_block h.row k hk).1
    exact ⟨fun h2 => absurd (Ty.ne ht h2) (by decide), fun h2 => absurd (Ty.ne ht h2) (by decide), fun h2 => absurd (Ty.ne ht h2) (by decide), fun h2 => absurd (Ty.ne ht h2) (by decide), fun h2 => absurd (Ty.ne ht h2) (by decide)⟩
theorem ownD_kept {W1 : World} {b : Nat} {u : Value} {R : List Re} (h : OwnD W b u R) {X : Nat → Prop} (hk : Kept W W1 X) (hX : ∀ k, X k → ¬ Ty W TD k) : OwnD W1 b u R :=
  Kd.R_mono (Kd.R_step (Kd.R_bound h) (fun k hb hl => hk.2 k hl (fun hx => hX k hx (by
    obtain ⟨q, hq, cells, hc⟩ := hb.2.2.2
    have : q ∈ [TD] := hq
    rw [List.mem_singleton.1 this] at hc
    exact ⟨cells, hc⟩)))) (fun _ _ => trivial)
/-- In the midst of a put. -/
structure Dw (w w0 : World) (gr gm : Nat) (X0 : Nat → Prop) (L : List Ce) (M : List Idt) (v vr : Value) (R : List Re) (p : S46) (rr : Value) (g8 g9 : Nat) (A I : List Value) (W : World) : Prop where
  kp : Kept w W X0
  b0 : W.heap[w.heap.size]? = some (.cells #[vr] TE (0, 0))
  b1 : W.heap[w.heap.size + 1]? = some (.cells (pcells p).toArray TP (0, 0))
  b2 : W.heap[w.heap.size + 1 + 1]? = some (.cells #[rr] TE (0, 0))
  c8 : W.heap[g8]? = some (.cells A.toArray TF (0, 0))
  c9 : W.heap[g9]? = some (.cells I.toArray TF (0, 0))
  rw : Rw w0 gr gm L M v W
  own : OwnD W 0 vr R
variable {X0 : Nat → Prop} {vr rr : Value} {R : List Re} {p : S46} {g8 g9 : Nat} {A I : List Value}
theorem Dw.step (h : Dw w w0 gr gm X0 L M v vr R p rr g8 g9 A I W) (hb : Below W.heap.size W w1) : Dw w w0 gr gm X0 L M v vr R p rr g8 g9 A I w1 :=
  ⟨h.kp.below hb, blk_below h.b0 hb, blk_below h.b1 hb, blk_below h.b2 hb, blk_below h.c8 hb, blk_below h.c9 hb, h.rw.step hb, ownD_below h.own hb⟩
theorem Dw.turn {L1 : List Ce} {M1 : List Idt} {v1 : Value} (h : Dw w w0 gr gm X0 L M v vr R p rr g8 g9 A I W) (hx : ∀ k, Xo gr gm v k → X0 k ∨ w.heap.size ≤ k) (hk : Kept W w1 (Xo gr gm v)) (hR : Rw w0 gr gm L1 M1 v1 w1) : Dw w w0 gr gm X0 L1 M1 v1 vr R p rr g8 g9 A I w1 :=
  ⟨h.kp.then_ hk hx, blk_kept h.b0 hk (fun h2 => (own_ty h.rw h2).2.1 ⟨_, h.b0⟩), blk_kept h.b1 hk (fun h2 => (own_ty h.rw h2).2.2.2.1 ⟨_, h.b1⟩), blk_kept h.b2 hk (fun h2 => (own_ty h.rw h2).2.1 ⟨_, h.b2⟩),
   blk_kept h.c8 hk (fun h2 => (own_ty h.rw h2).2.2.1 ⟨_, h.c8⟩), blk_kept h.c9 hk (fun h2 => (own_ty h.rw h2).2.2.1 ⟨_, h.c9⟩), hR, ownD_kept h.own hk (fun k h2 => (own_ty h.rw h2).1)⟩
theorem rw_cell {g o : Nat} {u : Value} {C : Array Value} {T : TypeId} (h : Rw w0 gr gm L M v W) (hg : W.heap[g]? = some (.cells C T (0, 0))) (hT : T = TE) (hw : w0.heap.size ≤ g) : Rw w0 gr gm L M v (W.setCell ⟨g, o, none⟩ u) := by
  subst hT
  have hn : ∀ {k : Nat}, Xo gr gm v k → k ≠ g := fun {k} hk e => (own_ty h hk).2.1 ⟨_, e ▸ hg⟩
  exact ⟨below_cell h.below hw, (Below.heap_setCell W ⟨g, o, none⟩ u gr (hn (Or.inl rfl))).trans h.pb, own_step h.row (fun k hk _ => Below.heap_setCell W ⟨g, o, none⟩ u k (fun e => by
    have e : k = g := e
    subst e
    exact absurd (Ty.ne hk ⟨_, hg⟩) (by decide))), (Below.heap_setCell W ⟨g, o, none⟩ u gm (hn (Or.inr (Or.inl rfl)))).trans h.mb, h.g0, h.oks, h.same⟩
theorem Dw.put2 (h : Dw w w0 gr gm X0 L M v vr R p rr g8 g9 A I W) (h0 : w0.heap.size ≤ w.heap.size) (u : Value) : Dw w w0 gr gm X0 L M v vr R p u g8 g9 A I (W.setCell ⟨w.heap.size + 1 + 1, 0, none⟩ u) := by
  have hn : ∀ {k : Nat} {C : Array Value} {T : TypeId}, W.heap[k]? = some (.cells C T (0, 0)) → k ≠ w.heap.size + 1 + 1 → (W.setCell ⟨w.heap.size + 1 + 1, 0, none⟩ u).heap[k]? = some (.cells C T (0, 0)) := fun {k C T} hk hne => (Below.heap_setCell W ⟨w.heap.size + 1 + 1, 0, none⟩ u k hne).trans hk
  have hf : ∀ {k : Nat} {C : Array Value}, W.heap[k]? = some (.cells C TF (0, 0)) → k ≠ w.heap.size + 1 + 1 := fun {k C} hk e => absurd (Ty.ne ⟨_, e ▸ hk⟩ ⟨_, h.b2⟩) (by decide)
  exact ⟨h.kp.setCell (Or.inr (by show w.heap.size ≤ w.heap.size + 1 + 1; omega)) u, hn h.b0 (by omega), hn h.b1 (by omega), blk_set h.b2 0 u, hn h.c8 (hf h.c8), hn h.c9 (hf h.c9), rw_cell h.rw h.b2 rfl (by omega), ownD_cell h.own h.b2 (by decide) 0 u⟩
theorem Dw.put0 {R1 : List Re} {vr1 : Value} (h : Dw w w0 gr gm X0 L M v vr R p rr g8 g9 A I W) (h0 : w0.heap.size ≤ w.heap.size) (ho : OwnD W 0 vr1 R1) : Dw w w0 gr gm X0 L M v vr1 R1 p rr g8 g9 A I (W.setCell ⟨w.heap.size, 0, none⟩ vr1) := by
  have hn : ∀ {k : Nat} {C : Array Value} {T : TypeId}, W.heap[k]? = some (.cells C T (0, 0)) → k ≠ w.heap.size → (W.setCell ⟨w.heap.size, 0, none⟩ vr1).heap[k]? = some (.cells C T (0, 0)) := fun {k C T} hk hne => (Below.heap_setCell W ⟨w.heap.size, 0, none⟩ vr1 k hne).trans hk
  have hf : ∀ {k : Nat} {C : Array Value}, W.heap[k]? = some (.cells C TF (0, 0)) → k ≠ w.heap.size := fun {k C} hk e => absurd (Ty.ne ⟨_, e ▸ hk⟩ ⟨_, h.b0⟩) (by decide)
  exact ⟨h.kp.setCell (Or.inr (Nat.le_refl _)) vr1, blk_set h.b0 0 vr1, hn h.b1 (by omega), hn h.b2 (by omega), hn h.c8 (hf h.c8), hn h.c9 (hf h.c9), rw_cell h.rw h.b0 rfl h0, ownD_cell ho h.b0 (by decide) 0 vr1⟩
end
end Go.Proofs.Ytkcdlilglgfkaaa.Rg

/- Rows of cells: do walked. -/
set_option linter.unusedVariables false
set_option linter.unusedSimpArgs false
namespace Go.Proofs.Ytkcdlilglgfkaaa.Rg
open Go Go.RowKit Go.Proofs.YtkcdlilglgfkaaaW.PrintWords Go.Proofs.YtkcdlilglgfkaaaW.PrintLast Go.Proofs.YtkcdlilglgfkaaaW.PrintMore Go.Proofs.Ytkcdlilglgfkaaa.PA Go.Proofs.Ytkcdlilglgfkaaa.Ar Go.Proofs.Ytkcdlilglgfkaaa.Sha
section
variable {w0 w w1 W : World} {gr gm : Nat} {L : List Ce} {M : List Idt} {v vr : Value} {R : List Re} {p : S46} {rr : Value}
/-- Before the ids are told. -/
structure De (w w0 : World) (gr gm : Nat) (L : List Ce) (M : List Idt) (v vr : Value) (R : List Re) (p : S46) (W : World) : Prop where
  kp : Kept w W (Xo gr gm v)
  b0 : W.heap[w.heap.size]? = some (.cells #[vr] TE (0, 0))
  b1 : W.heap[w.heap.size + 1]? = some (.cells (pcells p).toArray TP (0, 0))
  b2 : W.heap[w.heap.size + 1 + 1]? = some (.cells #[.slice none 0 0] TE (0, 0))
  rw : Rw w0 gr gm L M v W
  own : OwnD W 0 vr R
theorem De.step (h : De w w0 gr gm L M v vr R p W) (hb : Below W.heap.size W w1) : De w w0 gr gm L M v vr R p w1 :=
  ⟨h.kp.below hb, blk_below h.b0 hb, blk_below h.b1 hb, blk_below h.b2 hb, h.rw.step hb, ownD_below h.own hb⟩
theorem de_new (h : Rw w0 gr gm L M v w) (hO : OwnD w 0 vr R) : De w w0 gr gm L M v vr R p (((w.alloc (.cells #[vr] TE)).alloc (.cells (pcells p).toArray TP)).alloc (.cells #[.slice none 0 0] TE)) := by
  have hb : Below w.heap.size w (((w.alloc (.cells #[vr] TE)).alloc (.cells (pcells p).toArray TP)).alloc (.cells #[.slice none 0 0] TE)) := below_alloc (below_alloc (below_alloc (Below.refl _ _) _) _) _
  exact ⟨Kept.of_below hb _, blk_alloc (blk_alloc (blk_new w _) _) _, blk_alloc (new_at _ _ _ (by simp)) _, new_at _ _ _ (by simp), h.step hb, ownD_below hO hb⟩
theorem below_ids (W : World) (Z A I : Array Value) : Below W.heap.size W ((((W.alloc (.cells Z TF)).alloc (.cells Z TF)).setRow W.heap.size A).setRow (W.heap.size + 1) I) :=
  below_setRow (below_setRow (below_alloc (below_alloc (Below.refl _ _) _) _) (Nat.le_refl _) _) (by omega) _
theorem alloc_size (W : World) (o : Obj) : (W.alloc o).heap.size = W.heap.size + 1 := by simp
theorem ids_b9 (W : World) (Z A : Array Value) : (((W.alloc (.cells Z TF)).alloc (.cells Z TF)).setRow W.heap.size A).heap[W.heap.size + 1]? = some (.cells Z TF (0, 0)) := (setRow_other _ _ _ _ (by omega)).trans (new_at _ _ _ (by simp))
theorem De.ids (h : De w w0 gr gm L M v vr R p W) (Z : Array Value) (A I : List Value) : Dw w w0 gr gm (Xo gr gm v) L M v vr R p (.slice none 0 0) W.heap.size (W.heap.size + 1) A I ((((W.alloc (.cells Z TF)).alloc (.cells Z TF)).setRow W.heap.size A.toArray).setRow (W.heap.size + 1) I.toArray) := by
  have hb := below_ids W Z A.toArray I.toArray
  have h' := h.step hb
  refine ⟨h'.kp, h'.b0, h'.b1, h'.b2, ?_, ?_, h'.rw, h'.own⟩
  · exact (setRow_other _ _ _ _ (by omega)).trans (blk_row (blk_alloc (blk_new W _) _) _)
  · exact blk_row ((setRow_other _ _ _ _ (by omega)).trans (new_at _ _ _ (by simp))) _
/-- What do tells. -/
def DoPost (w0 w : World) (gr gm : Nat) (v : Value) (R : List Re) (e : Ending) (w' : World) : Prop :=
  ∃ L1 M1 v1 vr1 R1, e = .returned (.tuple #[.agg #[vr1], .bool true]) ∧ Rw w0 gr gm L1 M1 v1 w' ∧ OwnD w' 0 vr1 R1 ∧ Alike L1 R1 ∧ R1.length ≤ R.length + 1 ∧ Kept w w' (Xo gr gm v) ∧ (v1.ownBlock = v.ownBlock ∨ ∃ b, v1.ownBlock = some b ∧ w.heap.size ≤ b)
/-- In the drawn region. -/
def SW (w w0 : World) (gr gm : Nat) (L : List Ce) (M : List Idt) (v vr : Value) (R : List Re) (p : S46) (rr : Value) (g8 g9 : Nat) (A I : List Value) (W : World) : Prop :=
  W.rangeAt g8 0 A ∧ W.rangeAt g9 0 I ∧ W.cell? ⟨w.heap.size + 1, 3, none⟩ = some (.int .u8 p.f3) ∧ Aside0 (Dw w w0 gr gm (Xo gr gm v) L M v vr R p rr g8 g9 A I W)
theorem Dw.pc {X0 : Nat → Prop} {g8 g9 : Nat} {A I : List Value} (h : Dw w w0 gr gm X0 L M v vr R p rr g8 g9 A I W) (i : Nat) (u : Value) (hu : (pcells p)[i]? = some u) : W.cell? ⟨w.heap.size + 1, i, none⟩ = some u := by
  rw [blk_cell h.b1, List.getElem?_toArray]; exact hu
theorem sw_of {g8 g9 : Nat} {A I : List Value} (h : Dw w w0 gr gm (Xo gr gm v) L M v vr R p rr g8 g9 A I W) : SW w w0 gr gm L M v vr R p rr g8 g9 A I W :=
  ⟨range_of0 h.c8, range_of0 h.c9, h.pc 3 _ rfl, ⟨h⟩⟩
end
set_option maxRecDepth 100000 in
set_option maxHeartbeats 4000000 in
theorem do_calls {w0 w : World} {gr gm : Nat} {L : List Ce} {M : List Idt} {v vr : Value} {R : List Re} (h : Rw w0 gr gm L M v w) (hO : OwnD w 0 vr R) (hA : Alike L R) (hl : R.length < 80000) (p : S46) (hp : PutOk p) :
    Calls Try.prog 23 #[.pointer (some ⟨gr, 0, none⟩), .agg #[vr], .agg (pcells p).toArray] w fun e w' => DoPost w0 w gr gm v R e w' := by
  have huF := Try.underlying26
  have huP := Try.underlying46
  have HPS : Aside0 ((Try.prog.info? TP).map (·.size) = some (pcells p).toArray.size) := ⟨by rw [show (pcells p).toArray.size = 8 from rfl]; kernel_rfl⟩
  have HZ := Aside0.mk zero_ref
  have HID := Aside0.mk (fun W (hW : OwnD W 0 vr R) => ids_calls W vr R hW (by omega) p hp hA.ok)
  have hok := ids_ok (R := R) hp hA.ok
  obtain ⟨a, ha⟩ : ∃ a, (idsF R p).1 = a := ⟨_, rfl⟩
  obtain ⟨i, hi⟩ : ∃ i, (idsF R p).2 = i := ⟨_, rfl⟩
  rw [ha, hi] at HID hok
  obtain ⟨hoa, hoi⟩ := hok
  have hLR := hA.size
  have HIN := Aside0.mk (fun W (hW : Rw w0 gr gm L M v W) => Insert2_calls (ch := p.f3) hW (by omega) hoa hoi)
  have HRM := Aside0.mk (fun W (hW : Rw w0 gr gm L M v W) => Remove2_calls hW (by omega) hoa)
  have HRI := Aside0.mk (fun W (hW : OwnD W 0 vr R) => RInsert_calls W vr R hW (by omega) a i hoa.2.1 hoi.2.1 p.f3)
  have HRR := Aside0.mk (fun W (hW : OwnD W 0 vr R) => RRemove_calls W vr R hW (by omega) a hoa.2.1)
  have HOA := Aside0.mk (fun W => own_calls W a hoa.2.1)
  have HOI := Aside0.mk (fun W => own_calls W i hoi.2.1)
  have HMI : Aside0 (∀ L' R' c c', OIns L a i p.f3 L' c → RIns R a i p.f3 R' c' → c = c' ∧ Alike L' R' ∧ R'.length ≤ R.length + 1) := ⟨fun L' R' c c' h1 h2 => ins_match hA hoi h1 h2⟩
  have HMR : Aside0 (∀ L' R' c c', ORem L a L' c → RRem R a R' c' → c = c' ∧ Alike L' R' ∧ R'.length ≤ R.length + 1) := ⟨fun L' R' c c' h1 h2 => rem_match hA h1 h2⟩
  have HAs : Aside0 ((iv a).toArray.size = 33) := ⟨by rw [List.size_toArray, iv_len hoa.2.1]⟩
  have HIs : Aside0 ((iv i).toArray.size = 33) := ⟨by rw [List.size_toArray, iv_len hoi.2.1]⟩
  have HA1 : Aside0 ((iv a).toArray.all (·.oneCell') = true) := ⟨iv_all _⟩
  have HI1 : Aside0 ((iv i).toArray.all (·.oneCell') = true) := ⟨iv_all _⟩
  have HZs : Aside0 ((iv z0).toArray.size = 33) := ⟨rfl⟩
  have HH0 : Aside0 (w0.heap.size ≤ w.heap.size) := ⟨h.below.size⟩
  have HD := Aside0.mk (de_new (p := p) h hO)
  obtain ⟨A, hAe⟩ : ∃ A, iv a = A := ⟨_, rfl⟩
  obtain ⟨I, hIe⟩ : ∃ I, iv i = I := ⟨_, rfl⟩
  obtain ⟨Z, hZe⟩ : ∃ Z, (iv z0).toArray = Z := ⟨_, rfl⟩
  rw [hAe] at HID HIN HRM HRI HRR HOA HAs HA1
  rw [hIe] at HID HIN HRI HOI HIs HI1
  rw [hZe] at HZ HZs
  have HSA : Aside0 ((Try.prog.info? TF).map (·.size) = some A.toArray.size) := ⟨by rw [HAs.out]; exact size_ref⟩
  have HSI : Aside0 ((Try.prog.info? TF).map (·.size) = some I.toArray.size) := ⟨by rw [HIs.out]; exact size_ref⟩
  clear h hO hA hl hp ha hi hoa hoi hLR hAe hIe hZe
  go_enter Try.func23, Try.ntmps23
  go_upto_region 1 with fail
  generalize (((w.alloc (.cells #[vr] TE)).alloc (.cells (pcells p).toArray TP)).alloc (.cells #[.slice none 0 0] TE)) = w1 at *
  have k0 : w1.cell? ⟨w.heap.size, 0, none⟩ = some vr := (blk_cell HD.out.b0 0).trans rfl
  have hb1 := Aside0.mk HD.out.b1
  go_upto_region 2 with (first | ((with_reducible refine gate_ (Op.load TP (.tmp 5)) rfl ?_); refine wpList_load_row rfl TP (.tmp 5) rfl (w.heap.size + 1) rfl _ _ _ _ hb1.out huP rfl HPS.out ?_) | (go_at_call 19; refine (HID.out _ HD.out.own).mono ?_; rintro e w2 ⟨rfl, hb⟩; have HD2 := Aside0.mk (HD.out.step hb); clear hb) | ((with_reducible refine gate_ (Op.alloc TF) rfl ?_); refine wpList_alloc_as rfl TF rfl Z HZ.out ?_) | ((with_reducible refine gate_ (Op.store TF (.tmp 8) (.tmp 19)) rfl ?_); refine wpList_store_at rfl TF (.tmp 8) (.tmp 19) rfl w2.heap.size 0 A.toArray rfl rfl TF Z (blk_alloc (blk_new w2 _) _) (by rw [HAs.out, HZs.out]; decide) HSA.out HA1.out ?_; rw [splice_all _ _ (by rw [Array.length_toList, Array.length_toList, HAs.out, HZs.out]), Array.toArray_toList]) | ((with_reducible refine gate_ (Op.store TF (.tmp 9) (.tmp 20)) rfl ?_); refine wpList_store_at rfl TF (.tmp 9) (.tmp 20) rfl (w2.heap.size + 1) 0 I.toArray (by rw [← alloc_size w2 (.cells Z TF)]; rfl) rfl TF Z (ids_b9 w2 Z A.toArray) (by rw [HIs.out, HZs.out]; decide) HSI.out HI1.out ?_; rw [splice_all _ _ (by rw [Array.length_toList, Array.length_toList, HIs.out, HZs.out]), Array.toArray_toList]))
  have HE := Aside0.mk (HD2.out.ids Z A I)
  clear k0 hb1 HD HID
  rw [alloc_size w2 (.cells Z TF)]
  generalize (((w2.alloc (.cells Z TF)).alloc (.cells Z TF)).setRow w2.heap.size A.toArray).setRow (w2.heap.size + 1) I.toArray = w3 at *
  generalize w2.heap.size = g8 at *
  generalize g8 + 1 = g9 at *
  clear HD2
  have k4 : w3.cell? ⟨w.heap.size + 1, 4, none⟩ = some (.bool p.f4) := HE.out.pc 4 _ rfl
  obtain ⟨bc, hbc⟩ : ∃ b, p.f4 = b := ⟨_, rfl⟩
  rw [hbc] at k4
  clear hbc
  have HC8 := Aside0.mk HE.out.c8
  cases bc with
  | true =>
    clear HIN HRI HOI HMI HIs HI1 HSI
    go_upto_region 4 with (first | ((with_reducible refine gate_ (Op.load TF (.tmp 8)) rfl ?_); refine wpList_load_row rfl TF (.tmp 8) rfl g8 rfl _ _ _ _ HC8.out huF rfl HSA.out ?_) | (go_at_call 12; refine (HOA.out _).mono ?_; rintro e w4 ⟨rfl, hb⟩; have HE4 := Aside0.mk (HE.out.step hb); clear hb k4) | (go_at_call 27; refine (HRM.out _ HE4.out.rw).mono ?_; rintro e w5 ⟨c, L1, M1, v1, rfl, hR, hk, ho, hor⟩; have HE5 := Aside0.mk (HE4.out.turn (fun k hk => Or.inl hk) hk hR); have HOR := Aside0.mk (And.intro hor (ho.imp_right (fun ⟨b, h1, h2⟩ => (⟨b, h1, Nat.le_trans HE4.out.kp.1 h2⟩ : ∃ b, v1.ownBlock = some b ∧ w.heap.size ≤ b)))); clear hk hR ho hor))
    clear HC8 HE HE4 HRM HOA
    have HC8 := Aside0.mk HE5.out.c8
    have k0 : w5.cell? ⟨w.heap.size, 0, none⟩ = some vr := (blk_cell HE5.out.b0 0).trans rfl
    go_upto_region 5 with (first | ((with_reducible refine gate_ (Op.load TF (.tmp 8)) rfl ?_); refine wpList_load_row rfl TF (.tmp 8) rfl g8 rfl _ _ _ _ HC8.out huF rfl HSA.out ?_) | (go_at_call 37; refine (HRR.out _ HE5.out.own).mono ?_; rintro e w6 ⟨vr1, R1, c', rfl, hO, hb, hrr⟩; obtain ⟨A6, c6, rfl⟩ := Kd.R_slice hO; have HE6 := Aside0.mk (HE5.out.step hb); have HO6 := Aside0.mk hO; have hM := HMR.out _ _ _ _ HOR.out.1 hrr; clear hb hO hrr))
    obtain ⟨rfl, hAL, hRl⟩ := hM
    have HM := Aside0.mk (And.intro hAL hRl)
    clear hAL hRl k0
    have HE7 := Aside0.mk (HE6.out.step (below_alloc (Below.refl _ _) (.cells #[.slice A6 R1.length c6] TE)))
    have HO7 := Aside0.mk (ownD_below HO6.out (below_alloc (Below.refl _ _) (.cells #[.slice A6 R1.length c6] TE)))
    have k11 : (w6.alloc (.cells #[.slice A6 R1.length c6] TE)).cell? ⟨w6.heap.size, 0, none⟩ = some (.slice A6 R1.length c6) := (blk_cell (blk_new w6 _) 0).trans rfl
    clear HE6 HO6
    generalize w6.alloc (.cells #[.slice A6 R1.length c6] TE) = w7 at *
    generalize w6.heap.size = g11 at *
    have k2 : w7.cell? ⟨w.heap.size + 1 + 1, 0, none⟩ = some (.slice none 0 0) := (blk_cell HE7.out.b2 0).trans rfl
    have f2 : w7.frozen? ⟨w.heap.size + 1 + 1, 0, none⟩ = false := blk_frozen HE7.out.b2 _
    go_wp2_with fail
    refine bodyPost_ret (results_ct rfl _ _ (w.heap.size + 1 + 1) TE #[.slice A6 R1.length c6] (0, 0) _ rfl (HE7.out.put2 HH0.out _).b2 Try.underlying48 rfl (by kernel_rfl)) rfl ?_
    exact ⟨L1, M1, v1, _, R1, rfl, (HE7.out.put2 HH0.out _).rw, ownD_cell HO7.out HE7.out.b2 (by decide) _ _, HM.out.1, HM.out.2, (HE7.out.put2 HH0.out _).kp, HOR.out.2⟩
  | false =>
    clear HRM HRR HMR
    go_upto_region 6 with fail
    -- [ins
    refine start_ (n := 9) (S := SW w w0 gr gm L M v vr R p (.slice none 0 0) g8 g9 A I) (ds := [7]) #[false, false, false, false, false, false, false, false, false] (by kernel_rfl) rfl rfl (sw_of (HE.out.step (pw_below_drewN (Below.refl _ _) 1))) (fun hHeld => ?_)
    generalize w3.drew = wd at hHeld ⊢
    clear HE
    refine pure_ (i := 0) (N := some 37) (v := ?_) (a' := ?_) #[true, false, false, false, false, false, false, false, false] rfl rfl (by kernel_rfl) (fun _ _ _ h => h) (Or.inl ⟨by rfl, ?_⟩) ?_ ?_
    rotate_left
    · intro w'
      go_simp
      with_reducible rfl
    rotate_left
    · simp only [Act.put, List.setIfInBounds_toArray, List.set_cons_zero, List.set_cons_succ, i64_w, i32_w]
      rfl
    refine take_ (i := 1) (N := some 38) (v := .agg A.toArray) (a' := ?_) #[true, true, false, false, false, false, false, false, false] rfl rfl (by kernel_rfl) (fun _ _ _ h => h) (yieldsIf_load_mid (by rfl) TF (.tmp 8) rfl g8 0 rfl A _ (fun w' hS => hS.1) huF rfl (by rw [← List.size_toArray]; exact HSA.out)) hHeld ?_ ?_
    rotate_left
    · simp only [Act.put, List.setIfInBounds_toArray, List.set_cons_zero, List.set_cons_succ, i64_w, i32_w]
      rfl
    refine take_ (i := 3) (N := some 40) (v := .agg I.toArray) (a' := ?_) #[true, true, false, true, false, false, false, false, false] rfl rfl (by kernel_rfl) (fun _ _ _ h => h) (yieldsIf_load_mid (by rfl) TF (.tmp 9) rfl g9 0 rfl I _ (fun w' hS => hS.2.1) huF rfl (by rw [← List.size_toArray]; exact HSI.out)) hHeld ?_ ?_
    rotate_left
    · simp only [Act.put, List.setIfInBounds_toArray, List.set_cons_zero, List.set_cons_succ, i64_w, i32_w]
      rfl
    refine pure_ (i := 5) (N := some 42) (v := ?_) (a' := ?_) #[true, true, false, true, false, true, false, false, false] rfl rfl (by kernel_rfl) (fun _ _ _ h => h) (Or.inl ⟨by rfl, ?_⟩) ?_ ?_
    rotate_left
    · intro w'
      go_simp
      with_reducible rfl
    rotate_left
    · simp only [Act.put, List.setIfInBounds_toArray, List.set_cons_zero, List.set_cons_succ, i64_w, i32_w]
      rfl
    refine take_ (i := 6) (N := some 43) (v := ?_) (a' := ?_) #[true, true, false, true, false, true, true, false, false] rfl rfl (by kernel_rfl) (fun _ _ _ h => h) (Or.inl ⟨by rfl, ?_⟩) hHeld ?_ ?_
    rotate_left
    · rintro w' ⟨_, _, s3, _⟩
      go_simp
      with_reducible rfl
    rotate_left
    · simp only [Act.put, List.setIfInBounds_toArray, List.set_cons_zero, List.set_cons_succ, i64_w, i32_w]
      rfl
    refine one_ (i := 2) (N := some 39) #[true, true, true, true, false, true, true, false, false] rfl rfl (by kernel_rfl) (by decide) (fun K hK => ?_)
    refine goes_ Try.func12 (by kernel_rfl) rfl #[.agg A.toArray] (by rfl) rfl rfl (by first | rfl | (simp only [List.map_toArray, List.map_cons, List.map_nil]; done) | (simp only [List.map_toArray, List.map_cons, List.map_nil]; rfl)) ?_
    refine (HOA.out _).mono ?_
    rintro e w4 ⟨rfl, hb⟩
    refine ⟨_, rfl, ?_⟩
    have hS2 := sw_of (hHeld.2.2.2.out.step hb)
    clear hb hHeld
    refine hK.out _ _ hS2 (fun hHeld => ?_)
    clear hK K hS2
    refine norm_ (a' := ?_) ?_ ?_
    rotate_left
    · show Act.put _ (some 39) _ = _
      simp only [Act.put, List.setIfInBounds_toArray, List.set_cons_zero, List.set_cons_succ, i64_w, i32_w]
      rfl
    refine one_ (i := 4) (N := some 41) #[true, true, true, true, true, true, true, false, false] rfl rfl (by kernel_rfl) (by decide) (fun K hK => ?_)
    refine goes_ Try.func12 (by kernel_rfl) rfl #[.agg I.toArray] (by rfl) rfl rfl (by first | rfl | (simp only [List.map_toArray, List.map_cons, List.map_nil]; done) | (simp only [List.map_toArray, List.map_cons, List.map_nil]; rfl)) ?_
    refine (HOI.out _).mono ?_
    rintro e w4 ⟨rfl, hb⟩
    refine ⟨_, rfl, ?_⟩
    have hS2 := sw_of (hHeld.2.2.2.out.step hb)
    clear hb hHeld
    refine hK.out _ _ hS2 (fun hHeld => ?_)
    clear hK K hS2
    refine norm_ (a' := ?_) ?_ ?_
    rotate_left
    · show Act.put _ (some 41) _ = _
      simp only [Act.put, List.setIfInBounds_toArray, List.set_cons_zero, List.set_cons_succ, i64_w, i32_w]
      rfl
    refine last_ (i := 7) (N := some 44) #[true, true, true, true, true, true, true, true, false] rfl rfl (by kernel_rfl) (by decide) (fun K hK => ?_)
    refine goes_ Try.func20 (by kernel_rfl) rfl #[.pointer (some ⟨gr, 0, none⟩), .agg A.toArray, .agg I.toArray, .int .u8 p.f3] (by rfl) rfl rfl (by first | rfl | (simp only [List.map_toArray, List.map_cons, List.map_nil]; done) | (simp only [List.map_toArray, List.map_cons, List.map_nil]; rfl)) ?_
    refine (HIN.out _ hHeld.2.2.2.out.rw).mono ?_
    rintro e w5 ⟨c, L1, M1, v1, rfl, hR, hk, ho, hor⟩
    refine ⟨_, rfl, ?_⟩
    have HE5 := Aside0.mk (hHeld.2.2.2.out.turn (fun k hk => Or.inl hk) hk hR)
    have HOR := Aside0.mk (And.intro hor (ho.imp_right (fun ⟨b, h1, h2⟩ => (⟨b, h1, Nat.le_trans hHeld.2.2.2.out.kp.1 h2⟩ : ∃ b, v1.ownBlock = some b ∧ w.heap.size ≤ b))))
    clear hk hR ho hor hHeld
    refine hK.out _ _ ?_
    clear hK K
    refine norm_ (a' := ?_) ?_ ?_
    rotate_left
    · show Act.put _ (some 44) _ = _
      simp only [Act.put, List.setIfInBounds_toArray, List.set_cons_zero, List.set_cons_succ, i64_w, i32_w]
      rfl
    refine pure_ (i := 8) (N := some 13) (v := ?_) (a' := ?_) #[true, true, true, true, true, true, true, true, true] rfl rfl (by kernel_rfl) (fun _ _ _ h => h) (Or.inl ⟨by rfl, ?_⟩) ?_ ?_
    rotate_left
    · intro w'
      go_simp
      with_reducible rfl
    rotate_left
    · simp only [Act.put, List.setIfInBounds_toArray, List.set_cons_zero, List.set_cons_succ, i64_w, i32_w]
      rfl
    refine done_ (by kernel_rfl) ?_
    -- ins]
    clear HOA HOI HIN HC8
    have HC8 := Aside0.mk HE5.out.c8
    have HC9 := Aside0.mk HE5.out.c9
    have k0 : w5.cell? ⟨w.heap.size, 0, none⟩ = some vr := (blk_cell HE5.out.b0 0).trans rfl
    have k3 : w5.cell? ⟨w.heap.size + 1, 3, none⟩ = some (.int .u8 p.f3) := HE5.out.pc 3 _ rfl
    have HFR := Aside0.mk (fun (W : World) (hW : Dw w w0 gr gm (Xo gr gm v) L1 M1 v1 vr R p (.slice none 0 0) g8 g9 A I W) => (blk_frozen hW.b0 0 : W.frozen? ⟨w.heap.size, 0, none⟩ = false))
    go_upto_region 8 with (first | ((with_reducible refine gate_ (Op.load TF (.tmp 8)) rfl ?_); refine wpList_load_row rfl TF (.tmp 8) rfl g8 rfl _ _ _ _ HC8.out huF rfl HSA.out ?_) | ((with_reducible refine gate_ (Op.load TF (.tmp 9)) rfl ?_); refine wpList_load_row rfl TF (.tmp 9) rfl g9 rfl _ _ _ _ HC9.out huF rfl HSI.out ?_) | (go_at_call 33; refine (HRI.out _ HE5.out.own).mono ?_; rintro e w6 ⟨vr1, R1, c', rfl, hO, hb, hrr⟩; obtain ⟨A6, c6, rfl⟩ := Kd.R_slice hO; have HE6 := Aside0.mk (HE5.out.step hb); have HO6 := Aside0.mk hO; have hM := HMI.out _ _ _ _ HOR.out.1 hrr; clear hb hO hrr k0; have k0 : w6.cell? ⟨w.heap.size, 0, none⟩ = some vr := (blk_cell HE6.out.b0 0).trans rfl; have f0 := HFR.out w6 HE6.out))
    obtain ⟨rfl, hAL, hRl⟩ := hM
    have HM := Aside0.mk (And.intro hAL hRl)
    have HO7 := Aside0.mk (ownD_cell HO6.out HE6.out.b0 (by decide) 0 (.slice A6 R1.length c6))
    have HE7 := Aside0.mk (HE6.out.put0 HH0.out HO6.out)
    clear hAL hRl k0 f0 HE6 HO6 HE5 HC8 HC9 HFR
    generalize w6.setCell ⟨w.heap.size, 0, none⟩ (.slice A6 R1.length c6) = w7 at *
    have k0 : w7.cell? ⟨w.heap.size, 0, none⟩ = some (.slice A6 R1.length c6) := (blk_cell HE7.out.b0 0).trans rfl
    have k2 : w7.cell? ⟨w.heap.size + 1 + 1, 0, none⟩ = some (.slice none 0 0) := (blk_cell HE7.out.b2 0).trans rfl
    have f2 : w7.frozen? ⟨w.heap.size + 1 + 1, 0, none⟩ = false := blk_frozen HE7.out.b2 _
    go_wp2_with fail
    refine bodyPost_ret (results_ct rfl _ _ (w.heap.size + 1 + 1) TE #[.slice A6 R1.length c6] (0, 0) _ rfl (HE7.out.put2 HH0.out _).b2 Try.underlying48 rfl (by kernel_rfl)) rfl ?_
    exact ⟨L1, M1, v1, _, R1, rfl, (HE7.out.put2 HH0.out _).rw, ownD_cell HO7.out HE7.out.b2 (by decide) _ _, HM.out.1, HM.out.2, (HE7.out.put2 HH0.out _).kp, HOR.out.2⟩
end Go.Proofs.Ytkcdlilglgfkaaa.Rg

/- Rows of cells: Cells, and the document's Text. -/
set_option linter.unusedVariables false
set_option linter.unusedSimpArgs false
namespace Go.Proofs.Ytkcdlilglgfkaaa.Rg
open Go Go.RowKit Go.Proofs.YtkcdlilglgfkaaaW.PrintWords Go.Proofs.YtkcdlilglgfkaaaW.PrintLast Go.Proofs.YtkcdlilglgfkaaaW.PrintMore Go.Proofs.Ytkcdlilglgfkaaa.PA Go.Proofs.Ytkcdlilglgfkaaa.Ar Go.Proofs.Ytkcdlilglgfkaaa.Sha
set_option maxRecDepth 100000 in
set_option maxHeartbeats 4000000 in
theorem Clone_calls (w : World) (A0 : Option Addr) (c0 : Nat) (L : List Ce) (hr : KC.C w A0 L.length L) (hl : L.length < 100000) :
    Calls Try.prog 34 #[.slice A0 L.length c0] w fun e w' => ∃ v1, e = .returned v1 ∧ Own w' w.heap.size v1 L ∧ Below w.heap.size w w' := by
  have HR0 := Aside0.mk hr
  have LM := Aside0.mk hl
  clear hr hl
  have heql := fun W : World => Lib.run_eql_slice_nil (P := Try.prog) W TCs TC A0 L.length c0 0 0 Try.underlying40
  cases A0 with
  | none =>
    have hn : L = [] := by
      have := HR0.out.2.2
      cases L with
      | nil => rfl
      | cons x t => obtain ⟨ad, he, _⟩ := this (by simp); cases he
    subst hn
    simp only [Option.isNone_none, List.length_nil] at heql ⊢
    go_enter Try.func34, Try.ntmps34
    go_wp2
    go_ret
    exact ⟨_, rfl, Kd.R_nil _ _ _ _ _, Below.refl _ _⟩
  | some ad =>
    simp only [Option.isNone_some] at heql
    go_enter Try.func34, Try.ntmps34
    go_wp2_with (first | ((with_reducible refine gate_dst (N := 5) rfl ?_); refine Kd.R_lit KC (w0 := w) w.heap.size TC ?hg (N := 5) ?hd (xs := ([] : List Ce)) (inner := []) (ok := fun _ => True) (okp := fun _ => True) ?hr ?hp (fun _ hk => hk) trivial (Below.refl _ _) (Nat.le_refl _) (by simp) ?_; (case hd => rfl); (case hg => rfl); (case hr => first | (go_simp; done) | (go_simp; rfl)); (case hp => exact (Reps.none _ _)); intro v360 w18 ho19 hb hg_ hnew_; clear hg_ hnew_) | ((with_reducible refine gate_builtin (b := .append) (xs := #[.tmp 5, .tmp 6]) rfl ?_); at_builtin; refine Kd.R_append_rows KC (w0 := w) w.heap.size rfl (.tmp 5) (.tmp 6) TCs TC (.agg (ce Rg.c0).toArray) 48 rfl Try.underlying40 zcell (by simp [Value.cells, ce, iv, nums, KC, Rg.c0, z0]) (by decide) (by decide) v360 ([] : List Ce) L _ _ _ (fun _ => True) (fun _ => False) rfl rfl ?aO ?aR (fun _ _ h => h) (fun _ h => h.elim) ?aF ?aB ?aS ?aL ?_; (case aR => exact (Kd.C_below HR0.out hb)); (case aB => exact hb); (case aF => exact (fun _ _ => trivial)); (case aO => exact ho19); (case aS => exact hb.size); (case aL => have := LM.out; simp; omega); intro v103 w6 ho2 hb2 hg2 hat2; have HO := Aside0.mk ho2; have HB := Aside0.mk hb2; clear ho2 hb2 hg2 hat2 ho19 hb))
    go_ret
    exact ⟨_, rfl, by have := HO.out; rwa [List.nil_append] at this, HB.out⟩
section
variable {w0 w : World} {gr gm : Nat} {L : List Ce} {M : List Idt} {v : Value}
set_option maxRecDepth 100000 in
set_option maxHeartbeats 4000000 in
theorem Cells_calls (h : Rw w0 gr gm L M v w) (hl : L.length < 100000) :
    Calls Try.prog 18 #[.pointer (some ⟨gr, 0, none⟩)] w fun e w' => ∃ v1, e = .returned v1 ∧ Own w' w.heap.size v1 L ∧ Below w.heap.size w w' := by
  have HR := Aside0.mk h
  obtain ⟨A, c, rfl, hlc, hC⟩ := Kd.R_reads h.row
  have HC := Aside0.mk (Clone_calls w A c L hC hl)
  have k0 : w.cell? ⟨gr, 0, none⟩ = some (.slice A L.length c) := (blk_cell h.pb 0).trans rfl
  clear h hlc hC
  go_enter Try.func18, Try.ntmps18
  go_wp2_with (go_at_call 34; refine HC.out.mono ?_; rintro e w2 ⟨v1, rfl, hO, hb⟩; have HO := Aside0.mk hO; have HB := Aside0.mk hb; clear hO hb)
  go_ret
  exact ⟨_, rfl, HO.out, HB.out⟩
set_option maxRecDepth 100000 in
set_option maxHeartbeats 4000000 in
theorem Len_calls (h : Rw w0 gr gm L M v w) : Calls Try.prog 30 #[.pointer (some ⟨gr, 0, none⟩)] w fun e w' => e = .returned (.int .i64 (shown L)) ∧ Below w.heap.size w w' := by
  have k2 : w.cell? ⟨gr, 2, none⟩ = some (.int .i64 (shown L)) := (blk_cell h.pb 2).trans rfl
  clear h
  go_enter Try.func30, Try.ntmps30
  go_wp2_with fail
  go_ret
  exact ⟨rfl, Below.refl _ _⟩
end
/-- The characters that are shown, of the document's cells. -/
def textR (T : List Re) : List Int := (T.filter fun x => !x.gone).map (·.ch)
theorem textR_snoc (T : List Re) (x : Re) : textR (T ++ [x]) = textR T ++ if x.gone then [] else [x.ch] := by
  unfold textR
  rw [List.filter_append, List.map_append, List.filter_cons]
  cases x.gone <;> simp
theorem textR_len (T : List Re) : (textR T).length ≤ T.length := by
  unfold textR
  rw [List.length_map]
  exact List.length_filter_le _ _
theorem textF_eq (T : List Re) : textF (T.map toC) = textR T := by
  unfold textF
  generalize 0 = n
  induction T generalizing n with
  | nil => rfl
  | cons x r ih =>
    rw [List.map_cons, seen]
    unfold textR at ih ⊢
    by_cases h : x.gone = true
    · rw [if_pos (show (toC x).gone = true from h), ih, List.filter_cons, if_neg (by rw [h]; decide)]
    · rw [if_neg (show ¬ (toC x).gone = true from h), List.filter_cons, if_pos (by simp only [Bool.not_eq_true] at h; rw [h]; rfl), List.map_cons]
      unfold chars at ih ⊢
      rw [List.map_cons, ih]
      rfl
theorem shown_eq (T : List Re) : shown (T.map toC) = ((textR T).length : Int) := by
  unfold shown textR
  rw [List.length_map, List.filter_map, List.length_map]
  rfl
theorem one_byte {w : World} {g : Nat} {x : Int} (hv : w.heap[g]? = some (.cells #[.int .u8 x] 5 (0, 0))) : Kd.C (Kd.int .u8) w (some ⟨g, 0, none⟩) 1 [x] := by
  refine ⟨rfl, by decide, fun _ => ⟨_, rfl, fun j p hp => ?_⟩⟩
  have hj : j = 0 := by have := (List.getElem?_eq_some_iff.1 hp).1; simp at this; exact this
  subst hj
  obtain rfl : x = p := by simpa using hp
  refine ⟨[.int .u8 x], rfl, rfl, fun i u hu => ?_⟩
  have hadd : ∀ i, (⟨g, 0, none⟩ : Addr).add i = ⟨g, i, none⟩ := fun i => by unfold Addr.add; split <;> simp_all
  rw [Nat.zero_mul, Nat.zero_add, hadd, blk_cell hv]
  simpa using hu
set_option maxRecDepth 100000 in
set_option maxHeartbeats 4000000 in
theorem RText_calls (w : World) (v : Value) (R : List Re) (h : OwnD w 0 v R) (hl : R.length < 90000) (n : Nat) (hd : Deep R n z0) (hlen : (belowF n R z0).length < 90000) :
    Calls Try.prog 40 #[.agg #[v]] w fun e w' => e = .returned (.string (strOfNums (textR (belowF n R z0)))) ∧ Below w.heap.size w w' := by
  have hb0 : Below w.heap.size w (w.alloc (.cells #[v] TE)) := below_alloc (Below.refl _ _) _
  have HRC := Aside0.mk (RCells_calls (w.alloc (.cells #[v] TE)) v R (ownD_below h hb0) hl n hd hlen)
  obtain ⟨T, hT⟩ : ∃ T, belowF n R z0 = T := ⟨_, rfl⟩
  rw [hT] at HRC hlen ⊢
  have HLEN := Aside0.mk hlen
  have HB0 := Aside0.mk hb0
  have k0 : (w.alloc (.cells #[v] TE)).cell? ⟨w.heap.size, 0, none⟩ = some v := (blk_cell (blk_new w _) 0).trans rfl
  clear h hd hlen hT hb0
  go_enter Try.func40, Try.ntmps40
  go_upto_region 2 with (go_at_call 39; refine HRC.out.mono ?_; rintro e w2 ⟨v2, rfl, ho, hb⟩; have HO2 := Aside0.mk ho; have HB2 := Aside0.mk (below_step HB0.out hb); clear ho hb)
  obtain ⟨A, c, rfl, hlc, -⟩ := Kd.R_reads HO2.out
  clear HRC k0 HB0
  have hTL : T.length < 90000 := HLEN.out
  go_wp2_with fail
  go_loopw [4, 5] (fun q s wr => ∃ (i : Nat) (o : Value), i ≤ T.length ∧ s = .int .i64 i ∧ o = q ∧ Aside0 (Below w2.heap.size w2 wr ∧ Kd.R (Kd.int .u8) 5 wr w2.heap.size (fun _ => True) o (textR (T.take i)))) (fun _ s _ => T.length - (intOf s).toNat)
  case atStart => exact ⟨0, _, by omega, rfl, rfl, ⟨Below.refl _ _, Kd.R_nil _ _ _ _ _⟩⟩
  case round =>
    obtain ⟨i, o, hi, rfl, rfl, HI⟩ := hrel
    by_cases hlt : i < T.length
    · obtain ⟨x, hx⟩ : ∃ x, T[i]? = some x := ⟨_, List.getElem?_eq_getElem hlt⟩
      have hok := HO2.out.okr x (List.mem_of_getElem? hx)
      have hts : T.take (i + 1) = T.take i ++ [x] := by rw [List.take_add_one, hx]; rfl
      have hsn := textR_snoc (T.take i) x
      rw [← hts] at hsn
      obtain ⟨gk, cap, cur, he, hg, ht⟩ : ∃ gk cap cur, (.slice A T.length c : Value) = .slice (some ⟨gk, 0, none⟩) T.length cap ∧ wr.heap[gk]? = some (.cells cur TD (0, 0)) ∧ cur.toList.take (T.length * 68) = fr T := by
        rcases ownD_form HO2.out with ⟨_, hn⟩ | ⟨gk, cap, cur, hv, _, h2, _, _, _, h3⟩
        · rw [hn] at hlt; simp at hlt
        · exact ⟨gk, cap, cur, hv, blk_below h2 HI.out.1, h3⟩
      obtain ⟨rfl, rfl⟩ : A = some ⟨gk, 0, none⟩ ∧ c = cap := by injection he with h1 _ h3; exact ⟨h1, h3⟩
      have kg : wr.cell? ⟨gk, i * 68 + 67, none⟩ = some (.bool x.gone) := by
        rw [blk_cell hg]
        exact curD_at HO2.out.okr ht hx 67 _ (by rw [re, List.getElem?_append_right (by rw [iv_len hok.1]; omega), iv_len hok.1, List.getElem?_append_right (by rw [iv_len hok.2]; omega), iv_len hok.2]; rfl)
      have kc : wr.cell? ⟨gk, i * 68 + 66, none⟩ = some (.int .u8 x.ch) := by
        rw [blk_cell hg]
        exact curD_at HO2.out.okr ht hx 66 _ (by rw [re, List.getElem?_append_right (by rw [iv_len hok.1]; omega), iv_len hok.1, List.getElem?_append_right (by rw [iv_len hok.2]; omega), iv_len hok.2]; rfl)
      have hsD := size_re
      have t8 : decide ((i : Int) < (T.length : Int)) = true := decide_eq_true (by omega)
      have t9 : ((i : Int) < (T.length : Int)) = True := eq_true (by omega)
      have HTL : Aside0 ((textR (T.take i)).length < 100000) := ⟨by have h1 := textR_len (T.take i); rw [List.length_take] at h1; omega⟩
      obtain ⟨bg, hbg⟩ : ∃ b, x.gone = b := ⟨_, rfl⟩
      obtain ⟨ch, hch⟩ : ∃ b, x.ch = b := ⟨_, rfl⟩
      rw [hbg] at kg hsn
      rw [hch] at kc hsn
      clear hx hok hg ht he hbg hch hts
      cases bg with
      | true =>
        rw [if_pos rfl, List.append_nil] at hsn
        have HSN := Aside0.mk hsn
        clear hsn kc
        go_wp2_with fail
        go_roundw
        case rel => exact ⟨i + 1, _, hlt, by go_num, rfl, by rw [HSN.out]; exact HI⟩
        case measure => simp [intOf]; omega
      | false =>
        rw [if_neg (by decide)] at hsn
        have HSN := Aside0.mk hsn
        clear hsn
        have HRO := Aside0.mk HI.out.2
        have HBI := Aside0.mk HI.out.1
        clear HI
        obtain ⟨txt, htx⟩ : ∃ t, textR (T.take i) = t := ⟨_, rfl⟩
        rw [htx] at HRO HSN HTL
        clear htx
        go_wp2_with ((with_reducible refine gate_builtin (b := .append) (xs := #[.tmp 20, .tmp 26]) rfl ?_); at_builtin; refine Kd.R_append_rows (Kd.int .u8) (w0 := w2) w2.heap.size rfl (.tmp 20) (.tmp 26) 34 5 (.int .u8 0) 1 rfl Try.underlying34 infoB rfl (by decide) (by omega) o txt [ch] _ _ _ (fun _ => True) (fun _ => False) rfl rfl ?aO ?aR (fun _ _ h => h) (fun _ h => h.elim) (fun _ _ => trivial) ?aB ?aS ?aL ?_; (case aR => exact one_byte (blk_new wr _)); (case aB => exact below_alloc HBI.out _); (case aO => exact Kd.R_below HRO.out (below_alloc (Below.refl _ _) _)); (case aS => exact (below_alloc HBI.out _).size); (case aL => have := HTL.out; omega); intro v103 w6 ho2 hb2 hg2 hat2; have HO := Aside0.mk ho2; have HB := Aside0.mk hb2; clear ho2 hb2 hg2 hat2)
        go_roundw
        case rel => exact ⟨i + 1, _, hlt, by go_num, rfl, ⟨HB.out, by rw [HSN.out]; exact HO.out⟩⟩
        case measure => simp [intOf]; omega
    · obtain rfl : i = T.length := by omega
      rw [List.take_of_length_le (Nat.le_refl _)] at HI
      obtain ⟨A2, c2, rfl, hlc2, hC2⟩ := Kd.R_reads HI.out.2
      have s1 := Kd.C_string (src := 34) (dst := 9) (c := c2) Try.underlying34 Try.underlying5 Try.underlying9 hC2
      have HBL := Aside0.mk (below_step HB2.out HI.out.1)
      clear HI hC2 hlc2
      go_wp2_with fail
      go_ret
      exact ⟨rfl, HBL.out⟩
end Go.Proofs.Ytkcdlilglgfkaaa.Rg

/- Rows of cells: both rows told the same. -/
set_option linter.unusedVariables false
set_option linter.unusedSimpArgs false
namespace Go.Proofs.Ytkcdlilglgfkaaa.Rg
open Go Go.RowKit Go.Proofs.YtkcdlilglgfkaaaW.PrintWords Go.Proofs.YtkcdlilglgfkaaaW.PrintLast Go.Proofs.YtkcdlilglgfkaaaW.PrintMore Go.Proofs.Ytkcdlilglgfkaaa.PA Go.Proofs.Ytkcdlilglgfkaaa.Ar Go.Proofs.Ytkcdlilglgfkaaa.Sha
theorem own_low {w : World} {base : Nat} {v : Value} {L : List Ce} (h : Own w base v L) {b : Nat} (hb : b ≤ base) : Own w b v L := by
  obtain ⟨⟨h0, ho⟩, hk⟩ := own_raw h
  refine raw_own ⟨h0, ?_⟩ hk
  rcases ho with h1 | ⟨g, cap, cur, h1, h2, h3⟩
  · exact Or.inl h1
  · exact Or.inr ⟨g, cap, cur, h1, Nat.le_trans hb h2, h3⟩
section
variable {w0 w w1 W : World} {gr gm : Nat} {L : List Ce} {M : List Idt} {v vr vx vy : Value} {R T : List Re}
structure Sb (w w0 : World) (gr gm : Nat) (L : List Ce) (M : List Idt) (v vr : Value) (R : List Re) (W : World) : Prop where
  bel : Below w.heap.size w W
  b0 : W.heap[w.heap.size]? = some (.cells #[vr] TE (0, 0))
  rw : Rw w0 gr gm L M v W
  own : OwnD W 0 vr R
theorem Sb.step (h : Sb w w0 gr gm L M v vr R W) (hb : Below W.heap.size W w1) : Sb w w0 gr gm L M v vr R w1 := ⟨below_step h.bel hb, blk_below h.b0 hb, h.rw.step hb, ownD_below h.own hb⟩
theorem sb_new (h : Rw w0 gr gm L M v w) (hO : OwnD w 0 vr R) : Sb w w0 gr gm L M v vr R (w.alloc (.cells #[vr] TE)) :=
  ⟨below_alloc (Below.refl _ _) _, blk_new w _, h.step (below_alloc (Below.refl _ _) _), ownD_below hO (below_alloc (Below.refl _ _) _)⟩
def S1 (w w0 : World) (gr gm : Nat) (L : List Ce) (M : List Idt) (v vr : Value) (R : List Re) (W : World) : Prop := W.cell? ⟨w.heap.size, 0, none⟩ = some vr ∧ Aside0 (Sb w w0 gr gm L M v vr R W)
theorem s1_of (h : Sb w w0 gr gm L M v vr R W) : S1 w w0 gr gm L M v vr R W := ⟨(blk_cell h.b0 0).trans rfl, ⟨h⟩⟩
structure Sc (w w0 : World) (gr gm : Nat) (L : List Ce) (M : List Idt) (v vr : Value) (R : List Re) (vx vy : Value) (T : List Re) (W : World) : Prop where
  sb : Sb w w0 gr gm L M v vr R W
  ox : Own W w.heap.size vx L
  oy : OwnD W w.heap.size vy T
theorem Sc.step (h : Sc w w0 gr gm L M v vr R vx vy T W) (hb : Below W.heap.size W w1) : Sc w w0 gr gm L M v vr R vx vy T w1 := ⟨h.sb.step hb, Kd.R_below h.ox hb, ownD_below h.oy hb⟩
def S2 (w w0 : World) (gr gm : Nat) (L : List Ce) (M : List Idt) (v vr : Value) (R : List Re) (vx vy : Value) (T : List Re) (W : World) : Prop := W.cell? ⟨w.heap.size, 0, none⟩ = some vr ∧ Aside0 (Sc w w0 gr gm L M v vr R vx vy T W)
theorem s2_of (h : Sc w w0 gr gm L M v vr R vx vy T W) : S2 w w0 gr gm L M v vr R vx vy T W := ⟨(blk_cell h.sb.b0 0).trans rfl, ⟨h⟩⟩
theorem conv_run {o : Oper} {a : Act} {w : World} {A : Option Addr} {n c : Nat} {xs : List Int} {x : Operand} (ho : o.op = .convert 34 9 x) (hx : a.eval x = .slice A n c) (h : Kd.C (Kd.int .u8) w A n xs) : (execOp a.eval o).run Try.prog w = .ok (.value (.string (strOfNums xs))) w := by
  unfold execOp
  simp only [ho, hx, Sem.run_bind, Kd.C_string (src := 34) (dst := 9) (c := c) Try.underlying34 Try.underlying5 Try.underlying9 h, Result.andThen_ok]
  rfl
/-- While both are held against one another. -/
structure Sx (w : World) (vx vy : Value) (T : List Re) (i : Nat) (W : World) : Prop where
  bel : Below w.heap.size w W
  oy : OwnD W w.heap.size vy T
  bx : ∀ (j : Nat) (x : Re), i ≤ j → T[j]? = some x → ∃ gx cap cur, vx = .slice (some ⟨gx, 0, none⟩) T.length cap ∧ w.heap.size ≤ gx ∧ W.heap[gx]? = some (.cells cur TC (0, 0)) ∧ ∀ k v, (ce (toC x))[k]? = some v → cur[j * 35 + k]? = some v
theorem Sx.step {i : Nat} (h : Sx w vx vy T i W) (hb : Below W.heap.size W w1) : Sx w vx vy T i w1 :=
  ⟨below_step h.bel hb, ownD_below h.oy hb, fun j x hj hx => by
    obtain ⟨gx, cap, cur, h1, h2, h3, h4⟩ := h.bx j x hj hx
    exact ⟨gx, cap, cur, h1, h2, blk_below h3 hb, h4⟩⟩
theorem sx_new (h : Below w.heap.size w W) (hx : Own W w.heap.size vx (T.map toC)) (hy : OwnD W w.heap.size vy T) : Sx w vx vy T 0 W :=
  ⟨h, hy, fun j x _ hj => by
    have hj' : (T.map toC)[j]? = some (toC x) := by rw [List.getElem?_map, hj]; rfl
    rcases own_form hx with ⟨_, hn⟩ | ⟨gx, cap, cur, h1, h2, h3, _, _, _, h4⟩
    · rw [hn] at hj'; simp at hj'
    · rw [List.length_map] at h1
      exact ⟨gx, cap, cur, h1, h2, h3, fun k v hv => cur_at (own_raw hx).2 h4 hj' k v hv⟩⟩
theorem Sx.set {i gx cap : Nat} (h : Sx w (.slice (some ⟨gx, 0, none⟩) T.length cap) vy T i W) (hi : ∃ x, T[i]? = some x) (hok : ∀ x ∈ T, x.id.2.length = 32) (u : Value) : Sx w (.slice (some ⟨gx, 0, none⟩) T.length cap) vy T (i + 1) (W.setCell ⟨gx, i * 35 + 33, none⟩ u) := by
  obtain ⟨x0, hx0⟩ := hi
  obtain ⟨gx', cap', cur0, e0, g0, b0, _⟩ := h.bx i x0 (Nat.le_refl _) hx0
  obtain rfl : gx = gx' := by injection e0 with h1; injection h1 with h1; injection h1
  refine ⟨below_cell h.bel g0, ownD_cell h.oy b0 (by decide) _ u, fun j x hj hx => ?_⟩
  obtain ⟨gx', cap', cur, e1, h2, h3, h4⟩ := h.bx j x (by omega) hx
  obtain rfl : gx = gx' := by injection e1 with h1; injection h1 with h1; injection h1
  refine ⟨gx, cap', _, e1, h2, blk_set h3 _ u, fun k v hv => ?_⟩
  have hk : k < 35 := by
    have := (List.getElem?_eq_some_iff.1 hv).1
    rwa [ce_len (x := toC x) (show okC (toC x) from hok x (List.mem_of_getElem? hx))] at this
  rw [Array.getElem?_setIfInBounds, if_neg (by omega)]
  exact h4 k v hv
def S7 (w : World) (gx gy i : Nat) (F : List Value) (ch : Int) (gone : Bool) (vx vy : Value) (T : List Re) (W : World) : Prop :=
  W.rangeAt gx (i * 35) F ∧ W.rangeAt gy (i * 68) F ∧ W.cell? ⟨gx, i * 35 + 33, none⟩ = some (.int .u8 ch) ∧ W.cell? ⟨gx, i * 35 + 34, none⟩ = some (.bool gone) ∧ W.cell? ⟨gy, i * 68 + 66, none⟩ = some (.int .u8 ch) ∧ W.cell? ⟨gy, i * 68 + 67, none⟩ = some (.bool gone) ∧ Aside0 (Sx w vx vy T i W)
theorem s7_of {gx gy i cx cy : Nat} {x : Re} (h : Sx w (.slice (some ⟨gx, 0, none⟩) T.length cx) (.slice (some ⟨gy, 0, none⟩) T.length cy) T i W) (hx : T[i]? = some x) :
    S7 w gx gy i (iv x.id) x.ch x.gone (.slice (some ⟨gx, 0, none⟩) T.length cx) (.slice (some ⟨gy, 0, none⟩) T.length cy) T W := by
  have hok := h.oy.okr x (List.mem_of_getElem? hx)
  obtain ⟨gx', cap', cur, e1, h2, h3, h4⟩ := h.bx i x (Nat.le_refl _) hx
  obtain rfl : gx = gx' := by injection e1 with h1; injection h1 with h1; injection h1
  obtain ⟨gy', capy, cury, e2, hg, ht⟩ : ∃ gk cap cur, (.slice (some ⟨gy, 0, none⟩) T.length cy : Value) = .slice (some ⟨gk, 0, none⟩) T.length cap ∧ W.heap[gk]? = some (.cells cur TD (0, 0)) ∧ cur.toList.take (T.length * 68) = fr T := by
    rcases ownD_form h.oy with ⟨_, hn⟩ | ⟨gk, cap, cur, hv, _, h2, _, _, _, h3⟩
    · rw [hn] at hx; simp at hx
    · exact ⟨gk, cap, cur, hv, h2, h3⟩
  obtain rfl : gy = gy' := by injection e2 with h1; injection h1 with h1; injection h1
  have hiv := iv_len hok.1
  refine ⟨fun j v hv => ?_, fun j v hv => ?_, ?_, ?_, ?_, ?_, ⟨h⟩⟩
  · rw [blk_cell h3]
    exact h4 j v (by rw [ce, List.getElem?_append_left (by have := (List.getElem?_eq_some_iff.1 hv).1; exact this)]; exact hv)
  · rw [blk_cell hg]
    exact curD_at h.oy.okr ht hx j v (re_id j v hv)
  · rw [blk_cell h3]
    exact h4 33 _ (by rw [ce, List.getElem?_append_right (by show (iv x.id).length ≤ _; omega)]; show [Value.int .u8 x.ch, .bool x.gone][33 - (iv x.id).length]? = _; rw [hiv]; rfl)
  · rw [blk_cell h3]
    exact h4 34 _ (by rw [ce, List.getElem?_append_right (by show (iv x.id).length ≤ _; omega)]; show [Value.int .u8 x.ch, .bool x.gone][34 - (iv x.id).length]? = _; rw [hiv]; rfl)
  · rw [blk_cell hg]
    exact curD_at h.oy.okr ht hx 66 _ (by rw [re, List.getElem?_append_right (by rw [iv_len hok.1]; omega), iv_len hok.1, List.getElem?_append_right (by rw [iv_len hok.2]; omega), iv_len hok.2]; rfl)
  · rw [blk_cell hg]
    exact curD_at h.oy.okr ht hx 67 _ (by rw [re, List.getElem?_append_right (by rw [iv_len hok.1]; omega), iv_len hok.1, List.getElem?_append_right (by rw [iv_len hok.2]; omega), iv_len hok.2]; rfl)
end
set_option maxRecDepth 100000 in
set_option maxHeartbeats 4000000 in
theorem same_calls {w0 w : World} {gr gm : Nat} {L : List Ce} {M : List Idt} {v vr : Value} {R : List Re} (h : Rw w0 gr gm L M v w) (hO : OwnD w 0 vr R) (hA : Alike L R) (hl : R.length < 80000) :
    Calls Try.prog 28 #[.pointer (some ⟨gr, 0, none⟩), .agg #[vr]] w fun e w' => e = .returned (.bool true) ∧ Below w.heap.size w w' := by
  have hT : tellF R = belowF (R.length + 1) R z0 := rfl
  obtain ⟨T, hTe⟩ : ∃ T, tellF R = T := ⟨_, rfl⟩
  rw [hTe] at hT
  have hTl : T.length = R.length := by rw [← hTe]; exact hA.len
  have hLT : L = T.map toC := by rw [← hTe]; exact hA.eq
  have hLl : L.length = T.length := by rw [hLT, List.length_map]
  have hd := hA.deep
  have HCL := Aside0.mk (fun W (hW : Rw w0 gr gm L M v W) => Cells_calls hW (by omega))
  have HTX := Aside0.mk (fun W (hW : Rw w0 gr gm L M v W) => Text_calls hW (by omega))
  have HLN := Aside0.mk (fun W (hW : Rw w0 gr gm L M v W) => Len_calls hW)
  have HRC := Aside0.mk (fun W (hW : OwnD W 0 vr R) => RCells_calls W vr R hW (by omega) (R.length + 1) hd (by rw [← hT]; omega))
  have HRT := Aside0.mk (fun W (hW : OwnD W 0 vr R) => RText_calls W vr R hW (by omega) (R.length + 1) hd (by rw [← hT]; omega))
  have htf : textF L = textR T := by rw [hLT]; exact textF_eq T
  have hsh : shown L = ((textR T).length : Int) := by rw [hLT]; exact shown_eq T
  rw [← hT] at HRC HRT
  rw [htf] at HTX
  rw [hsh] at HLN
  have HCV : Aside0 (∀ (o : Oper) (a : Act) (W : World) (A : Option Addr) (c : Nat), o.op = .convert 34 9 (.tmp 19) → a.eval (.tmp 19) = .slice A (textR T).length c → Kd.C (Kd.int .u8) W A (textR T).length (textR T) → (execOp a.eval o).run Try.prog W = .ok (.value (.string (strOfNums (textR T)))) W) := ⟨fun o a W A c ho hx h => conv_run ho hx h⟩
  have HSS : Aside0 ((strOfNums (textR T)).size = (textR T).length) := ⟨strOfNums_size _⟩
  generalize strOfNums (textR T) = ST at *
  generalize hm : (textR T).length = m at *
  have HS := Aside0.mk (sb_new h hO)
  have HLL := Aside0.mk hLT
  have HTL : Aside0 (T.length < 80000) := ⟨by omega⟩
  clear h hO hA hl hT hTe hTl hLT hd htf hsh hm
  go_enter Try.func28, Try.ntmps28
  go_upto_region 1 with fail
  generalize w.alloc (.cells #[vr] TE) = w1 at *
  -- [r1
  refine start_ (n := 6) (S := S1 w w0 gr gm L M v vr R) (ds := []) #[false, false, false, false, false, false] (by kernel_rfl) rfl rfl (s1_of (HS.out.step (pw_below_drewN (Below.refl _ _) 1))) (fun hHeld => ?_)
  generalize w1.drew = wd at hHeld ⊢
  clear HS
  refine pure_ (i := 0) (N := some 8) (v := ?_) (a' := ?_) #[true, false, false, false, false, false] rfl rfl (by kernel_rfl) (fun _ _ _ h => h) (Or.inl ⟨by rfl, ?_⟩) ?_ ?_
  rotate_left
  · intro w'
    go_simp
    with_reducible rfl
  rotate_left
  · simp only [Act.put, List.setIfInBounds_toArray, List.set_cons_zero, List.set_cons_succ, i64_w, i32_w]
    rfl
  refine take_ (i := 2) (N := some 10) (v := ?_) (a' := ?_) #[true, false, true, false, false, false] rfl rfl (by kernel_rfl) (fun _ _ _ h => h) (Or.inl ⟨by rfl, ?_⟩) hHeld ?_ ?_
  rotate_left
  · rintro w' ⟨s1, _⟩
    go_simp
    with_reducible rfl
  rotate_left
  · simp only [Act.put, List.setIfInBounds_toArray, List.set_cons_zero, List.set_cons_succ, i64_w, i32_w]
    rfl
  refine one_ (i := 1) (N := some 9) #[true, true, true, false, false, false] rfl rfl (by kernel_rfl) (by decide) (fun K hK => ?_)
  refine goes_ Try.func18 (by kernel_rfl) rfl #[.pointer (some ⟨gr, 0, none⟩)] (by rfl) rfl rfl (by first | rfl | (simp only [List.map_toArray, List.map_cons, List.map_nil]; done) | (simp only [List.map_toArray, List.map_cons, List.map_nil]; rfl)) ?_
  refine (HCL.out _ hHeld.2.out.rw).mono ?_
  rintro e w4 ⟨vx, rfl, hO, hb⟩
  refine ⟨_, rfl, ?_⟩
  have HOX := Aside0.mk (own_low hO hHeld.2.out.bel.size)
  have hS2 := s1_of (hHeld.2.out.step hb)
  clear hb hHeld hO
  refine hK.out _ _ hS2 (fun hHeld => ?_)
  clear hK K hS2
  refine norm_ (a' := ?_) ?_ ?_
  rotate_left
  · show Act.put _ (some 9) _ = _
    simp only [Act.put, List.setIfInBounds_toArray, List.set_cons_zero, List.set_cons_succ, i64_w, i32_w]
    rfl
  refine one_ (i := 3) (N := some 11) #[true, true, true, true, false, false] rfl rfl (by kernel_rfl) (by decide) (fun K hK => ?_)
  refine goes_ Try.func39 (by kernel_rfl) rfl #[.agg #[vr]] (by rfl) rfl rfl (by first | rfl | (simp only [List.map_toArray, List.map_cons, List.map_nil]; done) | (simp only [List.map_toArray, List.map_cons, List.map_nil]; rfl)) ?_
  refine (HRC.out _ hHeld.2.out.own).mono ?_
  rintro e w4 ⟨vy, rfl, hO, hb⟩
  refine ⟨_, rfl, ?_⟩
  have HOY := Aside0.mk (ownD_low hO hHeld.2.out.bel.size)
  have HOX2 := Aside0.mk (Kd.R_below HOX.out hb)
  have hS2 := s1_of (hHeld.2.out.step hb)
  clear hb hHeld hO HOX
  refine hK.out _ _ hS2 (fun hHeld => ?_)
  clear hK K hS2
  refine norm_ (a' := ?_) ?_ ?_
  rotate_left
  · show Act.put _ (some 11) _ = _
    simp only [Act.put, List.setIfInBounds_toArray, List.set_cons_zero, List.set_cons_succ, i64_w, i32_w]
    rfl
  refine pure_ (i := 4) (N := some 5) (v := ?_) (a' := ?_) #[true, true, true, true, true, false] rfl rfl (by kernel_rfl) (fun _ _ _ h => h) (Or.inl ⟨by rfl, ?_⟩) ?_ ?_
  rotate_left
  · intro w'
    go_simp
    with_reducible rfl
  rotate_left
  · simp only [Act.put, List.setIfInBounds_toArray, List.set_cons_zero, List.set_cons_succ, i64_w, i32_w]
    rfl
  refine pure_ (i := 5) (N := some 6) (v := ?_) (a' := ?_) #[true, true, true, true, true, true] rfl rfl (by kernel_rfl) (fun _ _ _ h => h) (Or.inl ⟨by rfl, ?_⟩) ?_ ?_
  rotate_left
  · intro w'
    go_simp
    with_reducible rfl
  rotate_left
  · simp only [Act.put, List.setIfInBounds_toArray, List.set_cons_zero, List.set_cons_succ, i64_w, i32_w]
    rfl
  refine done_ (by kernel_rfl) ?_
  -- r1]
  have hLl : L.length = T.length := by rw [HLL.out, List.length_map]
  have HT := Aside0.mk (Sc.mk hHeld.2.out HOX2.out HOY.out)
  obtain ⟨Ax, cx, hvx⟩ := Kd.R_slice HOX2.out
  obtain ⟨Ay, cy, rfl⟩ := Kd.R_slice HOY.out
  rw [hLl] at hvx
  subst hvx
  clear HOX2 HOY hHeld hLl HCL HRC
  generalize w4 = w2 at *
  go_upto_region 2 with fail
  -- [r2
  refine start_ (n := 21) (S := S2 w w0 gr gm L M v vr R (.slice Ax T.length cx) (.slice Ay T.length cy) T) (ds := []) #[false, false, false, false, false, false, false, false, false, false, false, false, false, false, false, false, false, false, false, false, false] (by kernel_rfl) rfl rfl (s2_of (HT.out.step (pw_below_drewN (Below.refl _ _) 1))) (fun hHeld => ?_)
  generalize w2.drew = wd at hHeld ⊢
  clear HT
  refine pure_ (i := 0) (N := some 12) (v := ?_) (a' := ?_) #[true, false, false, false, false, false, false, false, false, false, false, false, false, false, false, false, false, false, false, false, false] rfl rfl (by kernel_rfl) (fun _ _ _ h => h) (Or.inl ⟨by rfl, ?_⟩) ?_ ?_
  rotate_left
  · intro w'
    go_simp
    with_reducible rfl
  rotate_left
  · simp only [Act.put, List.setIfInBounds_toArray, List.set_cons_zero, List.set_cons_succ, i64_w, i32_w]
    rfl
  refine pure_ (i := 1) (N := some 13) (v := ?_) (a' := ?_) #[true, true, false, false, false, false, false, false, false, false, false, false, false, false, false, false, false, false, false, false, false] rfl rfl (by kernel_rfl) (fun _ _ _ h => h) (Or.inl ⟨by rfl, ?_⟩) ?_ ?_
  rotate_left
  · intro w'
    go_simp
    with_reducible rfl
  rotate_left
  · simp only [Act.put, List.setIfInBounds_toArray, List.set_cons_zero, List.set_cons_succ, i64_w, i32_w]
    rfl
  refine pure_ (i := 2) (N := some 14) (v := ?_) (a' := ?_) #[true, true, true, false, false, false, false, false, false, false, false, false, false, false, false, false, false, false, false, false, false] rfl rfl (by kernel_rfl) (fun _ _ _ h => h) (Or.inl ⟨by rfl, ?_⟩) ?_ ?_
  rotate_left
  · intro w'
    go_simp
    with_reducible rfl
  rotate_left
  · simp only [Act.put, List.setIfInBounds_toArray, List.set_cons_zero, List.set_cons_succ, i64_w, i32_w]
    rfl
  refine pure_ (i := 3) (N := some 15) (v := ?_) (a' := ?_) #[true, true, true, true, false, false, false, false, false, false, false, false, false, false, false, false, false, false, false, false, false] rfl rfl (by kernel_rfl) (fun _ _ _ h => h) (Or.inl ⟨by rfl, ?_⟩) ?_ ?_
  rotate_left
  · intro w'
    go_simp
    with_reducible rfl
  rotate_left
  · simp only [Act.put, List.setIfInBounds_toArray, List.set_cons_zero, List.set_cons_succ, i64_w, i32_w]
    rfl
  refine pure_ (i := 4) (N := some 16) (v := .bool false) (a' := ?_) #[true, true, true, true, true, false, false, false, false, false, false, false, false, false, false, false, false, false, false, false, false] rfl rfl (by kernel_rfl) (fun _ _ _ h => h) (Or.inl ⟨by rfl, ?_⟩) ?_ ?_
  · intro w'
    go_simp
    try simp
  rotate_left
  · simp only [Act.put, List.setIfInBounds_toArray, List.set_cons_zero, List.set_cons_succ, i64_w, i32_w]
    rfl
  refine pure_ (i := 5) (N := some 17) (v := ?_) (a' := ?_) #[true, true, true, true, true, true, false, false, false, false, false, false, false, false, false, false, false, false, false, false, false] rfl rfl (by kernel_rfl) (fun _ _ _ h => h) (Or.inl ⟨by rfl, ?_⟩) ?_ ?_
  rotate_left
  · intro w'
    go_simp
    with_reducible rfl
  rotate_left
  · simp only [Act.put, List.setIfInBounds_toArray, List.set_cons_zero, List.set_cons_succ, i64_w, i32_w]
    rfl
  refine pure_ (i := 6) (N := some 18) (v := ?_) (a' := ?_) #[true, true, true, true, true, true, true, false, false, false, false, false, false, false, false, false, false, false, false, false, false] rfl rfl (by kernel_rfl) (fun _ _ _ h => h) (Or.inl ⟨by rfl, ?_⟩) ?_ ?_
  rotate_left
  · intro w'
    go_simp
    with_reducible rfl
  rotate_left
  · simp only [Act.put, List.setIfInBounds_toArray, List.set_cons_zero, List.set_cons_succ, i64_w, i32_w]
    rfl
  refine take_ (i := 9) (N := some 21) (v := ?_) (a' := ?_) #[true, true, true, true, true, true, true, false, false, true, false, false, false, false, false, false, false, false, false, false, false] rfl rfl (by kernel_rfl) (fun _ _ _ h => h) (Or.inl ⟨by rfl, ?_⟩) hHeld ?_ ?_
  rotate_left
  · rintro w' ⟨s1, _⟩
    go_simp
    with_reducible rfl
  rotate_left
  · simp only [Act.put, List.setIfInBounds_toArray, List.set_cons_zero, List.set_cons_succ, i64_w, i32_w]
    rfl
  refine one_ (i := 7) (N := some 19) #[true, true, true, true, true, true, true, true, false, true, false, false, false, false, false, false, false, false, false, false, false] rfl rfl (by kernel_rfl) (by decide) (fun K hK => ?_)
  refine goes_ Try.func26 (by kernel_rfl) rfl #[.pointer (some ⟨gr, 0, none⟩)] (by rfl) rfl rfl (by first | rfl | (simp only [List.map_toArray, List.map_cons, List.map_nil]; done) | (simp only [List.map_toArray, List.map_cons, List.map_nil]; rfl)) ?_
  refine (HTX.out _ hHeld.2.out.sb.rw).mono ?_
  rintro e w4 ⟨At, ct, rfl, hC, hb⟩
  refine ⟨_, rfl, ?_⟩
  have HCT := Aside0.mk hC
  have hS2 := s2_of (hHeld.2.out.step hb)
  clear hb hHeld hC
  refine hK.out _ _ hS2 (fun hHeld => ?_)
  clear hK K hS2
  refine norm_ (a' := ?_) ?_ ?_
  rotate_left
  · show Act.put _ (some 19) _ = _
    simp only [Act.put, List.setIfInBounds_toArray, List.set_cons_zero, List.set_cons_succ, i64_w, i32_w]
    rfl
  refine join_ (σ := Unit) 10 #[true, true, true, true, true, true, true, true, true, true, true, false, false, false, false, false, false, false, false, false, false] (fun _ => [(20, .string ST), (22, .string ST)]) (fun _ w' => Aside0 (Sc w w0 gr gm L M v vr R (.slice Ax T.length cx) (.slice Ay T.length cy) T w')) ?_ ?_
  rotate_left
  · intro HJ
    refine two_ (i := 8) (j := 10) (Ni := some 20) (Nj := some 22) #[true, true, true, true, true, true, true, true, true, true, false, false, false, false, false, false, false, false, false, false, false] #[true, true, true, true, true, true, true, true, false, true, true, false, false, false, false, false, false, false, false, false, false] rfl rfl rfl rfl (by kernel_rfl) (by decide) (by decide) (fun K hK => ?_) (fun K hK => ?_)
    · refine value_ (N := some 20) (by rfl) rfl (HCV.out _ _ _ _ _ rfl rfl HCT.out) ?_
      refine hK.out _ _ hHeld (fun _ => ?_)
      refine one_ (i := 10) (N := some 22) #[true, true, true, true, true, true, true, true, true, true, true, false, false, false, false, false, false, false, false, false, false] rfl rfl (by kernel_rfl) (by decide) (fun K2 hK2 => ?_)
      refine goes_ Try.func40 (by kernel_rfl) rfl #[.agg #[vr]] (by rfl) rfl rfl (by first | rfl | (simp only [List.map_toArray, List.map_cons, List.map_nil]; done) | (simp only [List.map_toArray, List.map_cons, List.map_nil]; rfl)) ?_
      refine (HRT.out _ hHeld.2.out.sb.own).mono ?_
      rintro e w5 ⟨rfl, hb⟩
      refine ⟨_, rfl, ?_⟩
      have hF := hHeld.2.out.step hb
      refine hK2.out _ _ (s2_of hF) (fun _ => ?_)
      refine norm_ (a' := _) ?_ (HJ () _ ⟨hF⟩)
      simp only [putAll, Act.put, List.setIfInBounds_toArray, List.set_cons_zero, List.set_cons_succ, i64_w, i32_w]
    · refine goes_ Try.func40 (by kernel_rfl) rfl #[.agg #[vr]] (by rfl) rfl rfl (by first | rfl | (simp only [List.map_toArray, List.map_cons, List.map_nil]; done) | (simp only [List.map_toArray, List.map_cons, List.map_nil]; rfl)) ?_
      refine (HRT.out _ hHeld.2.out.sb.own).mono ?_
      rintro e w5 ⟨rfl, hb⟩
      refine ⟨_, rfl, ?_⟩
      have hF := hHeld.2.out.step hb
      refine hK.out _ _ (s2_of hF) (fun _ => ?_)
      refine one_ (i := 8) (N := some 20) #[true, true, true, true, true, true, true, true, true, true, true, false, false, false, false, false, false, false, false, false, false] rfl rfl (by kernel_rfl) (by decide) (fun K2 hK2 => ?_)
      refine value_ (N := some 20) (by rfl) rfl (HCV.out _ _ _ _ _ rfl rfl (Kd.C_below HCT.out hb)) ?_
      refine hK2.out _ _ (s2_of hF) (fun _ => ?_)
      refine norm_ (a' := _) ?_ (HJ () _ ⟨hF⟩)
      simp only [putAll, Act.put, List.setIfInBounds_toArray, List.set_cons_zero, List.set_cons_succ, i64_w, i32_w]
  clear hHeld HCT
  rintro _ w5 HF
  have hHeld := s2_of HF.out
  clear HF
  refine norm_ (a' := ?_) ?_ ?_
  rotate_left
  · simp only [putAll]
    simp only [Act.put, List.setIfInBounds_toArray, List.set_cons_zero, List.set_cons_succ, i64_w, i32_w]
    rfl
  refine pure_ (i := 11) (N := some 23) (v := .bool false) (a' := ?_) #[true, true, true, true, true, true, true, true, true, true, true, true, false, false, false, false, false, false, false, false, false] rfl rfl (by kernel_rfl) (fun _ _ _ h => h) (Or.inl ⟨by rfl, ?_⟩) ?_ ?_
  · intro w'
    go_simp
    try simp
  rotate_left
  · simp only [Act.put, List.setIfInBounds_toArray, List.set_cons_zero, List.set_cons_succ, i64_w, i32_w]
    rfl
  refine pure_ (i := 12) (N := some 24) (v := .bool false) (a' := ?_) #[true, true, true, true, true, true, true, true, true, true, true, true, true, false, false, false, false, false, false, false, false] rfl rfl (by kernel_rfl) (fun _ _ _ h => h) (Or.inl ⟨by rfl, ?_⟩) ?_ ?_
  · intro w'
    go_simp
    try simp
  rotate_left
  · simp only [Act.put, List.setIfInBounds_toArray, List.set_cons_zero, List.set_cons_succ, i64_w, i32_w]
    rfl
  refine pure_ (i := 13) (N := some 25) (v := ?_) (a' := ?_) #[true, true, true, true, true, true, true, true, true, true, true, true, true, true, false, false, false, false, false, false, false] rfl rfl (by kernel_rfl) (fun _ _ _ h => h) (Or.inl ⟨by rfl, ?_⟩) ?_ ?_
  rotate_left
  · intro w'
    go_simp
    with_reducible rfl
  rotate_left
  · simp only [Act.put, List.setIfInBounds_toArray, List.set_cons_zero, List.set_cons_succ, i64_w, i32_w]
    rfl
  refine pure_ (i := 14) (N := some 26) (v := ?_) (a' := ?_) #[true, true, true, true, true, true, true, true, true, true, true, true, true, true, true, false, false, false, false, false, false] rfl rfl (by kernel_rfl) (fun _ _ _ h => h) (Or.inl ⟨by rfl, ?_⟩) ?_ ?_
  rotate_left
  · intro w'
    go_simp
    with_reducible rfl
  rotate_left
  · simp only [Act.put, List.setIfInBounds_toArray, List.set_cons_zero, List.set_cons_succ, i64_w, i32_w]
    rfl
  refine take_ (i := 16) (N := some 28) (v := ?_) (a' := ?_) #[true, true, true, true, true, true, true, true, true, true, true, true, true, true, true, false, true, false, false, false, false] rfl rfl (by kernel_rfl) (fun _ _ _ h => h) (Or.inl ⟨by rfl, ?_⟩) hHeld ?_ ?_
  rotate_left
  · rintro w' ⟨s1, _⟩
    go_simp
    with_reducible rfl
  rotate_left
  · simp only [Act.put, List.setIfInBounds_toArray, List.set_cons_zero, List.set_cons_succ, i64_w, i32_w]
    rfl
  refine one_ (i := 15) (N := some 27) #[true, true, true, true, true, true, true, true, true, true, true, true, true, true, true, true, true, false, false, false, false] rfl rfl (by kernel_rfl) (by decide) (fun K hK => ?_)
  refine goes_ Try.func30 (by kernel_rfl) rfl #[.pointer (some ⟨gr, 0, none⟩)] (by rfl) rfl rfl (by first | rfl | (simp only [List.map_toArray, List.map_cons, List.map_nil]; done) | (simp only [List.map_toArray, List.map_cons, List.map_nil]; rfl)) ?_
  refine (HLN.out _ hHeld.2.out.sb.rw).mono ?_
  rintro e w4 ⟨rfl, hb⟩
  refine ⟨_, rfl, ?_⟩
  have hS2 := s2_of (hHeld.2.out.step hb)
  clear hb hHeld
  refine hK.out _ _ hS2 (fun hHeld => ?_)
  clear hK K hS2
  refine norm_ (a' := ?_) ?_ ?_
  rotate_left
  · show Act.put _ (some 27) _ = _
    simp only [Act.put, List.setIfInBounds_toArray, List.set_cons_zero, List.set_cons_succ, i64_w, i32_w]
    rfl
  refine one_ (i := 17) (N := some 29) #[true, true, true, true, true, true, true, true, true, true, true, true, true, true, true, true, true, true, false, false, false] rfl rfl (by kernel_rfl) (by decide) (fun K hK => ?_)
  refine goes_ Try.func40 (by kernel_rfl) rfl #[.agg #[vr]] (by rfl) rfl rfl (by first | rfl | (simp only [List.map_toArray, List.map_cons, List.map_nil]; done) | (simp only [List.map_toArray, List.map_cons, List.map_nil]; rfl)) ?_
  refine (HRT.out _ hHeld.2.out.sb.own).mono ?_
  rintro e w4 ⟨rfl, hb⟩
  refine ⟨_, rfl, ?_⟩
  have hS2 := s2_of (hHeld.2.out.step hb)
  clear hb hHeld
  refine hK.out _ _ hS2 (fun hHeld => ?_)
  clear hK K hS2
  refine norm_ (a' := ?_) ?_ ?_
  rotate_left
  · show Act.put _ (some 29) _ = _
    simp only [Act.put, List.setIfInBounds_toArray, List.set_cons_zero, List.set_cons_succ, i64_w, i32_w]
    rfl
  refine pure_ (i := 18) (N := some 30) (v := .int .i64 (m : Int)) (a' := ?_) #[true, true, true, true, true, true, true, true, true, true, true, true, true, true, true, true, true, true, true, false, false] rfl rfl (by kernel_rfl) (fun _ _ _ h => h) (Or.inl ⟨by rfl, ?_⟩) ?_ ?_
  · intro w'
    have := HSS.out
    go_simp
    try simp
  rotate_left
  · simp only [Act.put, List.setIfInBounds_toArray, List.set_cons_zero, List.set_cons_succ, i64_w, i32_w]
    rfl
  refine pure_ (i := 19) (N := some 31) (v := .bool false) (a' := ?_) #[true, true, true, true, true, true, true, true, true, true, true, true, true, true, true, true, true, true, true, true, false] rfl rfl (by kernel_rfl) (fun _ _ _ h => h) (Or.inl ⟨by rfl, ?_⟩) ?_ ?_
  · intro w'
    go_simp
    try simp
  rotate_left
  · simp only [Act.put, List.setIfInBounds_toArray, List.set_cons_zero, List.set_cons_succ, i64_w, i32_w]
    rfl
  refine pure_ (i := 20) (N := some 32) (v := .bool false) (a' := ?_) #[true, true, true, true, true, true, true, true, true, true, true, true, true, true, true, true, true, true, true, true, true] rfl rfl (by kernel_rfl) (fun _ _ _ h => h) (Or.inl ⟨by rfl, ?_⟩) ?_ ?_
  · intro w'
    go_simp
    try simp
  rotate_left
  · simp only [Act.put, List.setIfInBounds_toArray, List.set_cons_zero, List.set_cons_succ, i64_w, i32_w]
    rfl
  refine done_ (by kernel_rfl) ?_
  have HT := Aside0.mk hHeld.2.out
  clear hHeld
  -- r2]
  have HX := Aside0.mk (sx_new HT.out.sb.bel (by have := HT.out.ox; rwa [HLL.out] at this) HT.out.oy)
  clear HT HTX HLN HRT HCV HSS HLL
  have hTL : T.length < 80000 := HTL.out
  have huI := Try.underlying28
  have huF := Try.underlying26
  clear HTL
  go_wp2_with fail
  go_loopw [7] (fun s wr => ∃ i : Nat, i ≤ T.length ∧ s = .int .i64 i ∧ Aside0 (Sx w (.slice Ax T.length cx) (.slice Ay T.length cy) T i wr)) (fun s _ => T.length - (intOf s).toNat)
  case atStart => exact ⟨0, by omega, rfl, HX⟩
  case round =>
    obtain ⟨i, hi, rfl, HI⟩ := hrel
    clear HX
    by_cases hlt : i < T.length
    · obtain ⟨x, hx⟩ : ∃ x, T[i]? = some x := ⟨_, List.getElem?_eq_getElem hlt⟩
      have hok := HI.out.oy.okr x (List.mem_of_getElem? hx)
      obtain ⟨gx, rfl, cxe⟩ : ∃ gx, Ax = some ⟨gx, 0, none⟩ ∧ True := by
        obtain ⟨gx, cap, cur, e, _⟩ := HI.out.bx i x (Nat.le_refl _) hx
        injection e with h1
        exact ⟨gx, h1, trivial⟩
      obtain ⟨gy, rfl⟩ : ∃ gy, Ay = some ⟨gy, 0, none⟩ := by
        rcases ownD_form HI.out.oy with ⟨_, hn⟩ | ⟨gk, cap, cur, hv, _⟩
        · rw [hn] at hlt; simp at hlt
        · injection hv with h1; exact ⟨gk, h1⟩
      have HS7 : Aside0 (∀ W, Sx w (.slice (some ⟨gx, 0, none⟩) T.length cx) (.slice (some ⟨gy, 0, none⟩) T.length cy) T i W → S7 w gx gy i (iv x.id) x.ch x.gone (.slice (some ⟨gx, 0, none⟩) T.length cx) (.slice (some ⟨gy, 0, none⟩) T.length cy) T W) := ⟨fun W h => s7_of h hx⟩
      have HOW := Aside0.mk (fun W => own_calls W x.id hok.1)
      have heq := fun W => run_eqId W x.id x.id hok.1 hok.1
      rw [decide_eq_true rfl] at heq
      have HSI : Aside0 ((Try.prog.info? TI).map (·.size) = some (iv x.id).length) := ⟨by rw [iv_len hok.1]; exact size_id⟩
      have HSF : Aside0 ((Try.prog.info? TF).map (·.size) = some (iv x.id).length) := ⟨by rw [iv_len hok.1]; exact size_ref⟩
      have HXX := Aside0.mk hx
      have HOK : Aside0 (∀ x ∈ T, x.id.2.length = 32) := ⟨fun y hy => (HI.out.oy.okr y hy).1⟩
      have hsD := size_re
      have hsC := size_ce
      have t8 : decide ((i : Int) < (T.length : Int)) = true := decide_eq_true (by omega)
      have t9 : ((i : Int) < (T.length : Int)) = True := eq_true (by omega)
      generalize iv x.id = F at *
      generalize x.ch = ch at *
      generalize x.gone = gone at *
      clear hx hok cxe
      go_upto_region 7 with fail
      -- [r7
      refine start_ (n := 38) (S := S7 w gx gy i F ch gone (.slice (some ⟨gx, 0, none⟩) T.length cx) (.slice (some ⟨gy, 0, none⟩) T.length cy) T) (ds := []) #[false, false, false, false, false, false, false, false, false, false, false, false, false, false, false, false, false, false, false, false, false, false, false, false, false, false, false, false, false, false, false, false, false, false, false, false, false, false] (by kernel_rfl) rfl rfl (HS7.out _ (HI.out.step (pw_below_drewN (Below.refl _ _) 1))) (fun hHeld => ?_)
      generalize wr.drew = wd at hHeld ⊢
      clear HI
      refine pure_ (i := 0) (N := some 39) (v := ?_) (a' := ?_) #[true, false, false, false, false, false, false, false, false, false, false, false, false, false, false, false, false, false, false, false, false, false, false, false, false, false, false, false, false, false, false, false, false, false, false, false, false, false] rfl rfl (by kernel_rfl) (fun _ _ _ h => h) (Or.inl ⟨by rfl, ?_⟩) ?_ ?_
      rotate_left
      · intro w'
        go_simp
        with_reducible rfl
      rotate_left
      · simp only [Act.put, List.setIfInBounds_toArray, List.set_cons_zero, List.set_cons_succ, i64_w, i32_w]
        rfl
      refine pure_ (i := 1) (N := some 40) (v := ?_) (a' := ?_) #[true, true, false, false, false, false, false, false, false, false, false, false, false, false, false, false, false, false, false, false, false, false, false, false, false, false, false, false, false, false, false, false, false, false, false, false, false, false] rfl rfl (by kernel_rfl) (fun _ _ _ h => h) (Or.inl ⟨by rfl, ?_⟩) ?_ ?_
      rotate_left
      · intro w'
        go_simp
        with_reducible rfl
      rotate_left
      · simp only [Act.put, List.setIfInBounds_toArray, List.set_cons_zero, List.set_cons_succ, i64_w, i32_w]
        rfl
      refine pure_ (i := 2) (N := some 41) (v := ?_) (a' := ?_) #[true, true, true, false, false, false, false, false, false, false, false, false, false, false, false, false, false, false, false, false, false, false, false, false, false, false, false, false, false, false, false, false, false, false, false, false, false, false] rfl rfl (by kernel_rfl) (fun _ _ _ h => h) (Or.inl ⟨by rfl, ?_⟩) ?_ ?_
      rotate_left
      · intro w'
        go_simp
        with_reducible rfl
      rotate_left
      · simp only [Act.put, List.setIfInBounds_toArray, List.set_cons_zero, List.set_cons_succ, i64_w, i32_w]
        rfl
      refine pure_ (i := 3) (N := some 42) (v := ?_) (a' := ?_) #[true, true, true, true, false, false, false, false, false, false, false, false, false, false, false, false, false, false, false, false, false, false, false, false, false, false, false, false, false, false, false, false, false, false, false, false, false, false] rfl rfl (by kernel_rfl) (fun _ _ _ h => h) (Or.inl ⟨by rfl, ?_⟩) ?_ ?_
      rotate_left
      · intro w'
        go_simp
        with_reducible rfl
      rotate_left
      · simp only [Act.put, List.setIfInBounds_toArray, List.set_cons_zero, List.set_cons_succ, i64_w, i32_w]
        rfl
      refine take_ (i := 4) (N := some 43) (v := .agg F.toArray) (a' := ?_) #[true, true, true, true, true, false, false, false, false, false, false, false, false, false, false, false, false, false, false, false, false, false, false, false, false, false, false, false, false, false, false, false, false, false, false, false, false, false] rfl rfl (by kernel_rfl) (fun _ _ _ h => h) (yieldsIf_load_mid (by rfl) TI (.tmp 42) rfl gx (i * 35) rfl F _ (fun w' hS => hS.1) huI rfl HSI.out) hHeld ?_ ?_
      rotate_left
      · simp only [Act.put, List.setIfInBounds_toArray, List.set_cons_zero, List.set_cons_succ, i64_w, i32_w]
        rfl
      refine pure_ (i := 5) (N := some 44) (v := ?_) (a' := ?_) #[true, true, true, true, true, true, false, false, false, false, false, false, false, false, false, false, false, false, false, false, false, false, false, false, false, false, false, false, false, false, false, false, false, false, false, false, false, false] rfl rfl (by kernel_rfl) (fun _ _ _ h => h) (Or.inl ⟨by rfl, ?_⟩) ?_ ?_
      rotate_left
      · intro w'
        go_simp
        with_reducible rfl
      rotate_left
      · simp only [Act.put, List.setIfInBounds_toArray, List.set_cons_zero, List.set_cons_succ, i64_w, i32_w]
        rfl
      refine pure_ (i := 6) (N := some 45) (v := ?_) (a' := ?_) #[true, true, true, true, true, true, true, false, false, false, false, false, false, false, false, false, false, false, false, false, false, false, false, false, false, false, false, false, false, false, false, false, false, false, false, false, false, false] rfl rfl (by kernel_rfl) (fun _ _ _ h => h) (Or.inl ⟨by rfl, ?_⟩) ?_ ?_
      rotate_left
      · intro w'
        go_simp
        with_reducible rfl
      rotate_left
      · simp only [Act.put, List.setIfInBounds_toArray, List.set_cons_zero, List.set_cons_succ, i64_w, i32_w]
        rfl
      refine pure_ (i := 7) (N := some 46) (v := ?_) (a' := ?_) #[true, true, true, true, true, true, true, true, false, false, false, false, false, false, false, false, false, false, false, false, false, false, false, false, false, false, false, false, false, false, false, false, false, false, false, false, false, false] rfl rfl (by kernel_rfl) (fun _ _ _ h => h) (Or.inl ⟨by rfl, ?_⟩) ?_ ?_
      rotate_left
      · intro w'
        go_simp
        with_reducible rfl
      rotate_left
      · simp only [Act.put, List.setIfInBounds_toArray, List.set_cons_zero, List.set_cons_succ, i64_w, i32_w]
        rfl
      refine pure_ (i := 8) (N := some 47) (v := ?_) (a' := ?_) #[true, true, true, true, true, true, true, true, true, false, false, false, false, false, false, false, false, false, false, false, false, false, false, false, false, false, false, false, false, false, false, false, false, false, false, false, false, false] rfl rfl (by kernel_rfl) (fun _ _ _ h => h) (Or.inl ⟨by rfl, ?_⟩) ?_ ?_
      rotate_left
      · intro w'
        go_simp
        with_reducible rfl
      rotate_left
      · simp only [Act.put, List.setIfInBounds_toArray, List.set_cons_zero, List.set_cons_succ, i64_w, i32_w]
        rfl
      refine take_ (i := 9) (N := some 48) (v := .agg F.toArray) (a' := ?_) #[true, true, true, true, true, true, true, true, true, true, false, false, false, false, false, false, false, false, false, false, false, false, false, false, false, false, false, false, false, false, false, false, false, false, false, false, false, false] rfl rfl (by kernel_rfl) (fun _ _ _ h => h) (yieldsIf_load_mid (by rfl) TF (.tmp 47) rfl gy (i * 68) rfl F _ (fun w' hS => hS.2.1) huF rfl HSF.out) hHeld ?_ ?_
      rotate_left
      · simp only [Act.put, List.setIfInBounds_toArray, List.set_cons_zero, List.set_cons_succ, i64_w, i32_w]
        rfl
      refine one_ (i := 10) (N := some 49) #[true, true, true, true, true, true, true, true, true, true, true, false, false, false, false, false, false, false, false, false, false, false, false, false, false, false, false, false, false, false, false, false, false, false, false, false, false, false] rfl rfl (by kernel_rfl) (by decide) (fun K hK => ?_)
      refine goes_ Try.func12 (by kernel_rfl) rfl #[.agg F.toArray] (by rfl) rfl rfl (by first | rfl | (simp only [List.map_toArray, List.map_cons, List.map_nil]; done) | (simp only [List.map_toArray, List.map_cons, List.map_nil]; rfl)) ?_
      refine (HOW.out _).mono ?_
      rintro e w4 ⟨rfl, hb⟩
      refine ⟨_, rfl, ?_⟩
      have hS2 := HS7.out _ (hHeld.2.2.2.2.2.2.out.step hb)
      clear hb hHeld
      refine hK.out _ _ hS2 (fun hHeld => ?_)
      clear hK K hS2
      refine norm_ (a' := ?_) ?_ ?_
      rotate_left
      · show Act.put _ (some 49) _ = _
        simp only [Act.put, List.setIfInBounds_toArray, List.set_cons_zero, List.set_cons_succ, i64_w, i32_w]
        rfl
      refine pure_ (i := 11) (N := some 50) (v := .bool false) (a' := ?_) #[true, true, true, true, true, true, true, true, true, true, true, true, false, false, false, false, false, false, false, false, false, false, false, false, false, false, false, false, false, false, false, false, false, false, false, false, false, false] rfl rfl (by kernel_rfl) (fun _ _ _ h => h) (Or.inl ⟨by rfl, ?_⟩) ?_ ?_
      · intro w'
        have := heq w'
        go_simp
        try simp
      rotate_left
      · simp only [Act.put, List.setIfInBounds_toArray, List.set_cons_zero, List.set_cons_succ, i64_w, i32_w]
        rfl
      refine pure_ (i := 12) (N := some 51) (v := ?_) (a' := ?_) #[true, true, true, true, true, true, true, true, true, true, true, true, true, false, false, false, false, false, false, false, false, false, false, false, false, false, false, false, false, false, false, false, false, false, false, false, false, false] rfl rfl (by kernel_rfl) (fun _ _ _ h => h) (Or.inl ⟨by rfl, ?_⟩) ?_ ?_
      rotate_left
      · intro w'
        go_simp
        with_reducible rfl
      rotate_left
      · simp only [Act.put, List.setIfInBounds_toArray, List.set_cons_zero, List.set_cons_succ, i64_w, i32_w]
        rfl
      refine pure_ (i := 13) (N := some 52) (v := ?_) (a' := ?_) #[true, true, true, true, true, true, true, true, true, true, true, true, true, true, false, false, false, false, false, false, false, false, false, false, false, false, false, false, false, false, false, false, false, false, false, false, false, false] rfl rfl (by kernel_rfl) (fun _ _ _ h => h) (Or.inl ⟨by rfl, ?_⟩) ?_ ?_
      rotate_left
      · intro w'
        go_simp
        with_reducible rfl
      rotate_left
      · simp only [Act.put, List.setIfInBounds_toArray, List.set_cons_zero, List.set_cons_succ, i64_w, i32_w]
        rfl
      refine pure_ (i := 14) (N := some 53) (v := ?_) (a' := ?_) #[true, true, true, true, true, true, true, true, true, true, true, true, true, true, true, false, false, false, false, false, false, false, false, false, false, false, false, false, false, false, false, false, false, false, false, false, false, false] rfl rfl (by kernel_rfl) (fun _ _ _ h => h) (Or.inl ⟨by rfl, ?_⟩) ?_ ?_
      rotate_left
      · intro w'
        go_simp
        with_reducible rfl
      rotate_left
      · simp only [Act.put, List.setIfInBounds_toArray, List.set_cons_zero, List.set_cons_succ, i64_w, i32_w]
        rfl
      refine pure_ (i := 15) (N := some 54) (v := ?_) (a' := ?_) #[true, true, true, true, true, true, true, true, true, true, true, true, true, true, true, true, false, false, false, false, false, false, false, false, false, false, false, false, false, false, false, false, false, false, false, false, false, false] rfl rfl (by kernel_rfl) (fun _ _ _ h => h) (Or.inl ⟨by rfl, ?_⟩) ?_ ?_
      rotate_left
      · intro w'
        go_simp
        with_reducible rfl
      rotate_left
      · simp only [Act.put, List.setIfInBounds_toArray, List.set_cons_zero, List.set_cons_succ, i64_w, i32_w]
        rfl
      refine pure_ (i := 16) (N := some 55) (v := ?_) (a' := ?_) #[true, true, true, true, true, true, true, true, true, true, true, true, true, true, true, true, true, false, false, false, false, false, false, false, false, false, false, false, false, false, false, false, false, false, false, false, false, false] rfl rfl (by kernel_rfl) (fun _ _ _ h => h) (Or.inl ⟨by rfl, ?_⟩) ?_ ?_
      rotate_left
      · intro w'
        go_simp
        with_reducible rfl
      rotate_left
      · simp only [Act.put, List.setIfInBounds_toArray, List.set_cons_zero, List.set_cons_succ, i64_w, i32_w]
        rfl
      refine take_ (i := 17) (N := some 56) (v := ?_) (a' := ?_) #[true, true, true, true, true, true, true, true, true, true, true, true, true, true, true, true, true, true, false, false, false, false, false, false, false, false, false, false, false, false, false, false, false, false, false, false, false, false] rfl rfl (by kernel_rfl) (fun _ _ _ h => h) (Or.inl ⟨by rfl, ?_⟩) hHeld ?_ ?_
      rotate_left
      · rintro w' ⟨_, _, s3, s4, s5, s6, _⟩
        go_simp
        with_reducible rfl
      rotate_left
      · simp only [Act.put, List.setIfInBounds_toArray, List.set_cons_zero, List.set_cons_succ, i64_w, i32_w]
        rfl
      refine pure_ (i := 18) (N := some 57) (v := ?_) (a' := ?_) #[true, true, true, true, true, true, true, true, true, true, true, true, true, true, true, true, true, true, true, false, false, false, false, false, false, false, false, false, false, false, false, false, false, false, false, false, false, false] rfl rfl (by kernel_rfl) (fun _ _ _ h => h) (Or.inl ⟨by rfl, ?_⟩) ?_ ?_
      rotate_left
      · intro w'
        go_simp
        with_reducible rfl
      rotate_left
      · simp only [Act.put, List.setIfInBounds_toArray, List.set_cons_zero, List.set_cons_succ, i64_w, i32_w]
        rfl
      refine pure_ (i := 19) (N := some 58) (v := ?_) (a' := ?_) #[true, true, true, true, true, true, true, true, true, true, true, true, true, true, true, true, true, true, true, true, false, false, false, false, false, false, false, false, false, false, false, false, false, false, false, false, false, false] rfl rfl (by kernel_rfl) (fun _ _ _ h => h) (Or.inl ⟨by rfl, ?_⟩) ?_ ?_
      rotate_left
      · intro w'
        go_simp
        with_reducible rfl
      rotate_left
      · simp only [Act.put, List.setIfInBounds_toArray, List.set_cons_zero, List.set_cons_succ, i64_w, i32_w]
        rfl
      refine pure_ (i := 20) (N := some 59) (v := ?_) (a' := ?_) #[true, true, true, true, true, true, true, true, true, true, true, true, true, true, true, true, true, true, true, true, true, false, false, false, false, false, false, false, false, false, false, false, false, false, false, false, false, false] rfl rfl (by kernel_rfl) (fun _ _ _ h => h) (Or.inl ⟨by rfl, ?_⟩) ?_ ?_
      rotate_left
      · intro w'
        go_simp
        with_reducible rfl
      rotate_left
      · simp only [Act.put, List.setIfInBounds_toArray, List.set_cons_zero, List.set_cons_succ, i64_w, i32_w]
        rfl
      refine pure_ (i := 21) (N := some 60) (v := ?_) (a' := ?_) #[true, true, true, true, true, true, true, true, true, true, true, true, true, true, true, true, true, true, true, true, true, true, false, false, false, false, false, false, false, false, false, false, false, false, false, false, false, false] rfl rfl (by kernel_rfl) (fun _ _ _ h => h) (Or.inl ⟨by rfl, ?_⟩) ?_ ?_
      rotate_left
      · intro w'
        go_simp
        with_reducible rfl
      rotate_left
      · simp only [Act.put, List.setIfInBounds_toArray, List.set_cons_zero, List.set_cons_succ, i64_w, i32_w]
        rfl
      refine take_ (i := 22) (N := some 61) (v := ?_) (a' := ?_) #[true, true, true, true, true, true, true, true, true, true, true, true, true, true, true, true, true, true, true, true, true, true, true, false, false, false, false, false, false, false, false, false, false, false, false, false, false, false] rfl rfl (by kernel_rfl) (fun _ _ _ h => h) (Or.inl ⟨by rfl, ?_⟩) hHeld ?_ ?_
      rotate_left
      · rintro w' ⟨_, _, s3, s4, s5, s6, _⟩
        go_simp
        with_reducible rfl
      rotate_left
      · simp only [Act.put, List.setIfInBounds_toArray, List.set_cons_zero, List.set_cons_succ, i64_w, i32_w]
        rfl
      refine pure_ (i := 23) (N := some 62) (v := .bool false) (a' := ?_) #[true, true, true, true, true, true, true, true, true, true, true, true, true, true, true, true, true, true, true, true, true, true, true, true, false, false, false, false, false, false, false, false, false, false, false, false, false, false] rfl rfl (by kernel_rfl) (fun _ _ _ h => h) (Or.inl ⟨by rfl, ?_⟩) ?_ ?_
      · intro w'
        go_simp
        try simp
      rotate_left
      · simp only [Act.put, List.setIfInBounds_toArray, List.set_cons_zero, List.set_cons_succ, i64_w, i32_w]
        rfl
      refine pure_ (i := 24) (N := some 63) (v := .bool false) (a' := ?_) #[true, true, true, true, true, true, true, true, true, true, true, true, true, true, true, true, true, true, true, true, true, true, true, true, true, false, false, false, false, false, false, false, false, false, false, false, false, false] rfl rfl (by kernel_rfl) (fun _ _ _ h => h) (Or.inl ⟨by rfl, ?_⟩) ?_ ?_
      · intro w'
        go_simp
        try simp
      rotate_left
      · simp only [Act.put, List.setIfInBounds_toArray, List.set_cons_zero, List.set_cons_succ, i64_w, i32_w]
        rfl
      refine pure_ (i := 25) (N := some 64) (v := ?_) (a' := ?_) #[true, true, true, true, true, true, true, true, true, true, true, true, true, true, true, true, true, true, true, true, true, true, true, true, true, true, false, false, false, false, false, false, false, false, false, false, false, false] rfl rfl (by kernel_rfl) (fun _ _ _ h => h) (Or.inl ⟨by rfl, ?_⟩) ?_ ?_
      rotate_left
      · intro w'
        go_simp
        with_reducible rfl
      rotate_left
      · simp only [Act.put, List.setIfInBounds_toArray, List.set_cons_zero, List.set_cons_succ, i64_w, i32_w]
        rfl
      refine pure_ (i := 26) (N := some 65) (v := ?_) (a' := ?_) #[true, true, true, true, true, true, true, true, true, true, true, true, true, true, true, true, true, true, true, true, true, true, true, true, true, true, true, false, false, false, false, false, false, false, false, false, false, false] rfl rfl (by kernel_rfl) (fun _ _ _ h => h) (Or.inl ⟨by rfl, ?_⟩) ?_ ?_
      rotate_left
      · intro w'
        go_simp
        with_reducible rfl
      rotate_left
      · simp only [Act.put, List.setIfInBounds_toArray, List.set_cons_zero, List.set_cons_succ, i64_w, i32_w]
        rfl
      refine pure_ (i := 27) (N := some 66) (v := ?_) (a' := ?_) #[true, true, true, true, true, true, true, true, true, true, true, true, true, true, true, true, true, true, true, true, true, true, true, true, true, true, true, true, false, false, false, false, false, false, false, false, false, false] rfl rfl (by kernel_rfl) (fun _ _ _ h => h) (Or.inl ⟨by rfl, ?_⟩) ?_ ?_
      rotate_left
      · intro w'
        go_simp
        with_reducible rfl
      rotate_left
      · simp only [Act.put, List.setIfInBounds_toArray, List.set_cons_zero, List.set_cons_succ, i64_w, i32_w]
        rfl
      refine pure_ (i := 28) (N := some 67) (v := ?_) (a' := ?_) #[true, true, true, true, true, true, true, true, true, true, true, true, true, true, true, true, true, true, true, true, true, true, true, true, true, true, true, true, true, false, false, false, false, false, false, false, false, false] rfl rfl (by kernel_rfl) (fun _ _ _ h => h) (Or.inl ⟨by rfl, ?_⟩) ?_ ?_
      rotate_left
      · intro w'
        go_simp
        with_reducible rfl
      rotate_left
      · simp only [Act.put, List.setIfInBounds_toArray, List.set_cons_zero, List.set_cons_succ, i64_w, i32_w]
        rfl
      refine pure_ (i := 29) (N := some 68) (v := ?_) (a' := ?_) #[true, true, true, true, true, true, true, true, true, true, true, true, true, true, true, true, true, true, true, true, true, true, true, true, true, true, true, true, true, true, false, false, false, false, false, false, false, false] rfl rfl (by kernel_rfl) (fun _ _ _ h => h) (Or.inl ⟨by rfl, ?_⟩) ?_ ?_
      rotate_left
      · intro w'
        go_simp
        with_reducible rfl
      rotate_left
      · simp only [Act.put, List.setIfInBounds_toArray, List.set_cons_zero, List.set_cons_succ, i64_w, i32_w]
        rfl
      refine take_ (i := 30) (N := some 69) (v := ?_) (a' := ?_) #[true, true, true, true, true, true, true, true, true, true, true, true, true, true, true, true, true, true, true, true, true, true, true, true, true, true, true, true, true, true, true, false, false, false, false, false, false, false] rfl rfl (by kernel_rfl) (fun _ _ _ h => h) (Or.inl ⟨by rfl, ?_⟩) hHeld ?_ ?_
      rotate_left
      · rintro w' ⟨_, _, s3, s4, s5, s6, _⟩
        go_simp
        with_reducible rfl
      rotate_left
      · simp only [Act.put, List.setIfInBounds_toArray, List.set_cons_zero, List.set_cons_succ, i64_w, i32_w]
        rfl
      refine pure_ (i := 31) (N := some 70) (v := ?_) (a' := ?_) #[true, true, true, true, true, true, true, true, true, true, true, true, true, true, true, true, true, true, true, true, true, true, true, true, true, true, true, true, true, true, true, true, false, false, false, false, false, false] rfl rfl (by kernel_rfl) (fun _ _ _ h => h) (Or.inl ⟨by rfl, ?_⟩) ?_ ?_
      rotate_left
      · intro w'
        go_simp
        with_reducible rfl
      rotate_left
      · simp only [Act.put, List.setIfInBounds_toArray, List.set_cons_zero, List.set_cons_succ, i64_w, i32_w]
        rfl
      refine pure_ (i := 32) (N := some 71) (v := ?_) (a' := ?_) #[true, true, true, true, true, true, true, true, true, true, true, true, true, true, true, true, true, true, true, true, true, true, true, true, true, true, true, true, true, true, true, true, true, false, false, false, false, false] rfl rfl (by kernel_rfl) (fun _ _ _ h => h) (Or.inl ⟨by rfl, ?_⟩) ?_ ?_
      rotate_left
      · intro w'
        go_simp
        with_reducible rfl
      rotate_left
      · simp only [Act.put, List.setIfInBounds_toArray, List.set_cons_zero, List.set_cons_succ, i64_w, i32_w]
        rfl
      refine pure_ (i := 33) (N := some 72) (v := ?_) (a' := ?_) #[true, true, true, true, true, true, true, true, true, true, true, true, true, true, true, true, true, true, true, true, true, true, true, true, true, true, true, true, true, true, true, true, true, true, false, false, false, false] rfl rfl (by kernel_rfl) (fun _ _ _ h => h) (Or.inl ⟨by rfl, ?_⟩) ?_ ?_
      rotate_left
      · intro w'
        go_simp
        with_reducible rfl
      rotate_left
      · simp only [Act.put, List.setIfInBounds_toArray, List.set_cons_zero, List.set_cons_succ, i64_w, i32_w]
        rfl
      refine pure_ (i := 34) (N := some 73) (v := ?_) (a' := ?_) #[true, true, true, true, true, true, true, true, true, true, true, true, true, true, true, true, true, true, true, true, true, true, true, true, true, true, true, true, true, true, true, true, true, true, true, false, false, false] rfl rfl (by kernel_rfl) (fun _ _ _ h => h) (Or.inl ⟨by rfl, ?_⟩) ?_ ?_
      rotate_left
      · intro w'
        go_simp
        with_reducible rfl
      rotate_left
      · simp only [Act.put, List.setIfInBounds_toArray, List.set_cons_zero, List.set_cons_succ, i64_w, i32_w]
        rfl
      refine take_ (i := 35) (N := some 74) (v := ?_) (a' := ?_) #[true, true, true, true, true, true, true, true, true, true, true, true, true, true, true, true, true, true, true, true, true, true, true, true, true, true, true, true, true, true, true, true, true, true, true, true, false, false] rfl rfl (by kernel_rfl) (fun _ _ _ h => h) (Or.inl ⟨by rfl, ?_⟩) hHeld ?_ ?_
      rotate_left
      · rintro w' ⟨_, _, s3, s4, s5, s6, _⟩
        go_simp
        with_reducible rfl
      rotate_left
      · simp only [Act.put, List.setIfInBounds_toArray, List.set_cons_zero, List.set_cons_succ, i64_w, i32_w]
        rfl
      refine pure_ (i := 36) (N := some 75) (v := .bool false) (a' := ?_) #[true, true, true, true, true, true, true, true, true, true, true, true, true, true, true, true, true, true, true, true, true, true, true, true, true, true, true, true, true, true, true, true, true, true, true, true, true, false] rfl rfl (by kernel_rfl) (fun _ _ _ h => h) (Or.inl ⟨by rfl, ?_⟩) ?_ ?_
      · intro w'
        go_simp
        try simp
      rotate_left
      · simp only [Act.put, List.setIfInBounds_toArray, List.set_cons_zero, List.set_cons_succ, i64_w, i32_w]
        rfl
      refine pure_ (i := 37) (N := some 76) (v := .bool false) (a' := ?_) #[true, true, true, true, true, true, true, true, true, true, true, true, true, true, true, true, true, true, true, true, true, true, true, true, true, true, true, true, true, true, true, true, true, true, true, true, true, true] rfl rfl (by kernel_rfl) (fun _ _ _ h => h) (Or.inl ⟨by rfl, ?_⟩) ?_ ?_
      · intro w'
        go_simp
        try simp
      rotate_left
      · simp only [Act.put, List.setIfInBounds_toArray, List.set_cons_zero, List.set_cons_succ, i64_w, i32_w]
        rfl
      refine done_ (by kernel_rfl) ?_
      have HI := Aside0.mk hHeld.2.2.2.2.2.2.out
      clear hHeld
      -- r7]
      have k33 : w4.cell? ⟨gx, i * 35 + 33, none⟩ = some (.int .u8 ch) := (HS7.out _ HI.out).2.2.1
      have f33 : w4.frozen? ⟨gx, i * 35 + 33, none⟩ = false := by
        obtain ⟨gx', cap', cur, e1, h2, h3, h4⟩ := HI.out.bx i x (Nat.le_refl _) HXX.out
        obtain rfl : gx = gx' := by injection e1 with h1; injection h1 with h1; injection h1
        exact blk_frozen h3 _
      have HN : Aside0 (∀ u, Sx w (.slice (some ⟨gx, 0, none⟩) T.length cx) (.slice (some ⟨gy, 0, none⟩) T.length cy) T (i + 1) (w4.setCell ⟨gx, i * 35 + 33, none⟩ u)) := ⟨fun u => HI.out.set ⟨x, HXX.out⟩ HOK.out u⟩
      go_wp2_with fail
      go_roundw
      case rel => exact ⟨i + 1, hlt, by go_num, ⟨HN.out _⟩⟩
      case measure => simp [intOf]; omega
    · obtain rfl : i = T.length := by omega
      have HB := Aside0.mk HI.out.bel
      clear HI
      go_wp2_with fail
      go_ret
      exact ⟨rfl, HB.out⟩
end Go.Proofs.Ytkcdlilglgfkaaa.Rg

/- Rows of cells: both sides after some puts. -/
set_option linter.unusedVariables false
set_option linter.unusedSimpArgs false
namespace Go.Proofs.Ytkcdlilglgfkaaa.Rg
open Go Go.RowKit Go.Proofs.YtkcdlilglgfkaaaW.PrintWords Go.Proofs.YtkcdlilglgfkaaaW.PrintLast Go.Proofs.YtkcdlilglgfkaaaW.PrintMore Go.Proofs.Ytkcdlilglgfkaaa.PA Go.Proofs.Ytkcdlilglgfkaaa.Ar Go.Proofs.Ytkcdlilglgfkaaa.Sha
/-- A record out of a row of records, in a region that draws its order. -/
theorem loadVar_add {P : Program} (w : World) (ad : Addr) (ty : TypeId) (cs : List Value) (d : TypeDesc) (hc : ∀ j v, cs[j]? = some v → w.cell? (ad.add j) = some v)
    (hu : P.underlying ty = some d) (hd : d.isRow = true) (hi : (P.info? ty).map (·.size) = some cs.length) : (loadVar ty ad).run P w = .ok (.agg cs.toArray) w := by
  obtain ⟨i, hq, hs⟩ := Option.map_eq_some_iff.1 hi
  have hl := run_loadCells_list (P := P) w ad cs hc
  have ha : (isAgg ty).run P w = .ok true w := by
    unfold isAgg
    rw [Sem.run_bind, run_underlying hu w]
    cases d <;> first | (simp [TypeDesc.isRow] at hd; done) | simp
  unfold loadVar
  simp [Sem.run_bind, ha, sizeOf, typeInfo, hq, hs, hl]
theorem yields_load_add {P : Program} {ops : Array Oper} {S : World → Prop} {op : Oper} {a : Go.Act} (hw : Region.wanted op (yielded ops a.tmps) = true) (ty : TypeId) (x : Operand) (ho : op.op = .load ty x)
    (ad : Addr) (hx : a.eval x = .pointer (some ad)) (cs : List Value) (d : TypeDesc) (hS : ∀ w, S w → ∀ j v, cs[j]? = some v → w.cell? (ad.add j) = some v)
    (hu : P.underlying ty = some d) (hd : d.isRow = true) (hi : (P.info? ty).map (·.size) = some cs.length) : YieldsIf P ops S op (.agg cs.toArray) a :=
  .inl ⟨hw, fun w hw' => by
    unfold execOp
    simp only [ho, hx, Instr.loadAt, Instr.sureAddr, Sem.run_bind, Sem.run_pure, Result.andThen_ok, loadVar_add w ad ty cs d (hS w hw') hu hd hi]⟩
/-- Both sides after some puts. -/
structure Pr (w : World) (gr gm g n : Nat) (W : World) : Prop where
  ex : ∃ L M v vr R, Rw w gr gm L M v W ∧ OwnD W 0 vr R ∧ Alike L R ∧ R.length ≤ n ∧ W.heap[g]? = some (.cells #[vr] TE (0, 0))
  g0 : w.heap.size ≤ g
section
variable {w w1 W : World} {gr gm g n : Nat} {vr : Value}
theorem Pr.step (h : Pr w gr gm g n W) (hb : Below W.heap.size W w1) : Pr w gr gm g n w1 := by
  obtain ⟨L, M, v, vr, R, h1, h2, h3, h4, h5⟩ := h.ex
  exact ⟨⟨L, M, v, vr, R, h1.step hb, ownD_below h2 hb, h3, h4, blk_below h5 hb⟩, h.g0⟩
theorem Pr.below (h : Pr w gr gm g n W) : Below w.heap.size w W := by
  obtain ⟨L, M, v, vr, R, h1, _⟩ := h.ex
  exact h1.below
theorem Pr.blk (h : Pr w gr gm g n W) : ∃ A m c, W.heap[g]? = some (.cells #[.slice A m c] TE (0, 0)) ∧ m ≤ n := by
  obtain ⟨L, M, v, vr, R, h1, h2, h3, h4, h5⟩ := h.ex
  obtain ⟨A, c, rfl⟩ := Kd.R_slice h2
  exact ⟨A, _, c, h5, h4⟩
theorem do_pr (h : Pr w gr gm g n W) (hv : W.heap[g]? = some (.cells #[vr] TE (0, 0))) (hn : n < 70000) (p : S46) (hp : PutOk p) :
    Calls Try.prog 23 #[.pointer (some ⟨gr, 0, none⟩), .agg #[vr], .agg (pcells p).toArray] W fun e w' => ∃ A m c, e = .returned (.tuple #[.agg #[.slice A m c], .bool true]) ∧ w'.heap[g]? = some (.cells #[vr] TE (0, 0)) ∧ Below w.heap.size w w' ∧ Pr w gr gm g (n + 1) (w'.setCell ⟨g, 0, none⟩ (.slice A m c)) := by
  obtain ⟨L, M, v, vr', R, h1, h2, h3, h4, h5⟩ := h.ex
  obtain rfl : vr = vr' := by rw [h5] at hv; cases hv; rfl
  refine (do_calls h1 h2 h3 (by omega) p hp).mono ?_
  rintro e w' ⟨L1, M1, v1, vr1, R1, rfl, k1, k2, k3, k4, k5, k6⟩
  obtain ⟨A, c, rfl⟩ := Kd.R_slice k2
  have hg : w'.heap[g]? = some (.cells #[vr] TE (0, 0)) := blk_kept hv k5 (fun hx => (own_ty h1 hx).2.1 ⟨_, hv⟩)
  exact ⟨A, _, c, rfl, hg, k1.below, ⟨⟨L1, M1, v1, _, R1, rw_cell k1 hg rfl h.g0, ownD_cell k2 hg (by decide) _ _, k3, by omega, blk_set hg 0 _⟩, h.g0⟩⟩
theorem pr_new (h : Rw w gr gm [] [] (.slice none 0 0) W) : Pr w gr gm W.heap.size 0 (W.alloc (.cells #[.slice none 0 0] TE)) :=
  ⟨⟨[], [], _, _, [], h.step (below_alloc (Below.refl _ _) _), Kd.R_nil _ _ _ _ _, alike_nil, Nat.le_refl _, blk_new W _⟩, h.below.size⟩
theorem same_pr (h : Pr w gr gm g n W) (hv : W.heap[g]? = some (.cells #[vr] TE (0, 0))) (hn : n < 70000) :
    Calls Try.prog 28 #[.pointer (some ⟨gr, 0, none⟩), .agg #[vr]] W fun e w' => e = .returned (.bool true) ∧ Below W.heap.size W w' := by
  obtain ⟨L, M, v, vr', R, h1, h2, h3, h4, h5⟩ := h.ex
  obtain rfl : vr = vr' := by rw [h5] at hv; cases hv; rfl
  exact same_calls h1 h2 h3 (by omega)
theorem at_ok : ∀ (l : List (Idt × Bool)) (p : Int), (∀ x ∈ l, x.1.2.length = 32) → (atF l p).1.2.length = 32
  | [], _, _ => rfl
  | (i, true) :: r, p, h => at_ok r p (fun x hx => h x (by simp [hx]))
  | (i, false) :: r, p, h => by
    rw [atF]
    by_cases hp : p = 0
    · simp [hp]; exact h (i, false) (by simp)
    · simp [hp]; exact at_ok r (p - 1) (fun x hx => h x (by simp [hx]))
/-- Both tell the same at a place. -/
theorem at_pr (h : Pr w gr gm g n W) (hv : W.heap[g]? = some (.cells #[vr] TE (0, 0))) (hn : n < 70000) (p : Int) (hp : (Lit.int .i64 p).wf = true) : ∃ (K : Idt) (b : Bool), K.2.length = 32 ∧
    (∀ W1, Below W.heap.size W W1 → Calls Try.prog 24 #[.pointer (some ⟨gr, 0, none⟩), .int .i64 p] W1 fun e w' => e = .returned (.tuple #[.agg (iv K).toArray, .bool b]) ∧ Below W1.heap.size W1 w') ∧
    (∀ W1, Below W.heap.size W W1 → Calls Try.prog 25 #[.agg #[vr], .int .i64 p] W1 fun e w' => e = .returned (.tuple #[.agg (iv K).toArray, .bool b]) ∧ Below W1.heap.size W1 w') := by
  obtain ⟨L, M, v, vr', R, h1, h2, h3, h4, h5⟩ := h.ex
  obtain rfl : vr = vr' := by rw [h5] at hv; cases hv; rfl
  have he := h3.at p
  have hsz := h3.size
  refine ⟨(atF (L.map visC) p).1, (atF (L.map visC) p).2, at_ok _ _ (fun x hx => ?_), fun W1 hb => At_calls (h1.step hb) (by omega) p, fun W1 hb => ?_⟩
  · obtain ⟨c, hc, rfl⟩ := List.mem_map.1 hx
    exact h1.okc c hc
  · rw [he]
    exact RAt_calls W1 vr R (ownD_below h2 hb) (by omega) _ h3.deep (by have := h3.len; unfold tellF at this; omega) p hp
/-- A put as it lies in the asker's row. -/
theorem put_at46 {w : World} {A : Option Addr} {n : Nat} {xs : List S46} (h : Kd.C k46 w A n xs) (i : Nat) (h1 : i < n) : ∃ ad x, A = some ad ∧ xs[i]? = some x ∧ ∀ (j : Nat) (v : Value), (pcells x)[j]? = some v → w.cell? (ad.add (i * 8 + j)) = some v := by
  have hn : xs.length = n := h.1
  obtain ⟨ad, c, e, _, hK, hc⟩ := Kd.C_get h z46 (i : Int) (by omega) (by omega)
  rw [Int.toNat_natCast] at hK hc
  have hx : xs[i]? = some (xs.getD i z46) := by simp [List.getD_eq_getElem?_getD, hn, h1]
  generalize xs.getD i z46 = x at *
  rw [k46_open hK] at hc
  exact ⟨ad, x, e, hx, fun j v hv => hc j v hv⟩
end
end Go.Proofs.Ytkcdlilglgfkaaa.Rg
