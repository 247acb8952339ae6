/- Rows of cells: the document's Insert. -/
import Derived.Test.YtkcdlilglgfkaaaRgH
set_option linter.unusedVariables false
set_option linter.unusedSimpArgs false
namespace Go.Proofs.Ytkcdlilglgfkaaa.Rg
open Go Go.RowKit Go.Proofs.YtkcdlilglgfkaaaW.PrintWords Go.Proofs.YtkcdlilglgfkaaaW.PrintLast Go.Proofs.YtkcdlilglgfkaaaW.PrintMore Go.Proofs.Ytkcdlilglgfkaaa.PA Go.Proofs.Ytkcdlilglgfkaaa.Ar Go.Proofs.Ytkcdlilglgfkaaa.Sha
theorem built_re (x : Re) (hx : okR x) : Try.prog.built TD [(0, .agg (iv x.id).toArray), (1, .agg (iv x.after).toArray), (2, .int .u8 x.ch), (3, .bool x.gone)] = some (re x).toArray := by
  obtain ⟨⟨c, l⟩, ⟨d, m⟩, ch, gn⟩ := x
  obtain ⟨a0, a1, a2, a3, a4, a5, a6, a7, a8, a9, a10, a11, a12, a13, a14, a15, a16, a17, a18, a19, a20, a21, a22, a23, a24, a25, a26, a27, a28, a29, a30, a31, rfl⟩ := l32 l hx.1
  obtain ⟨b0, b1, b2, b3, b4, b5, b6, b7, b8, b9, b10, b11, b12, b13, b14, b15, b16, b17, b18, b19, b20, b21, b22, b23, b24, b25, b26, b27, b28, b29, b30, b31, rfl⟩ := l32 m hx.2
  kernel_rfl
theorem bsliceD_run (w : World) (x : Re) (hx : okR x) : (Instr.buildSlice TDs 1 #[(0, .agg (re x).toArray)]).run Try.prog w = .ok (.slice (some ⟨w.heap.size, 0, none⟩) 1 1) (w.alloc (.cells (re x).toArray TD)) := by
  have hu := Try.underlying36
  have hz := zcellD
  obtain ⟨it, hq, hi⟩ := Option.map_eq_some_iff.1 hz
  simp only [Prod.mk.injEq] at hi
  obtain ⟨h1, h2, h3⟩ := hi
  have h2 : it.size = 68 := h2
  have hf : Instr.fill (fun i => some (i * 68, 68)) ((Array.range (1 * 68)).map ((Value.agg (re r0).toArray).cells[· % (Value.agg (re r0).toArray).cells.size]!)) [(0, .agg (re x).toArray)] = some (re x).toArray := by
    obtain ⟨⟨c, l⟩, ⟨d, m⟩, ch, gn⟩ := x
    obtain ⟨a0, a1, a2, a3, a4, a5, a6, a7, a8, a9, a10, a11, a12, a13, a14, a15, a16, a17, a18, a19, a20, a21, a22, a23, a24, a25, a26, a27, a28, a29, a30, a31, rfl⟩ := l32 l hx.1
    obtain ⟨b0, b1, b2, b3, b4, b5, b6, b7, b8, b9, b10, b11, b12, b13, b14, b15, b16, b17, b18, b19, b20, b21, b22, b23, b24, b25, b26, b27, b28, b29, b30, b31, rfl⟩ := l32 m hx.2
    kernel_rfl
  unfold Instr.buildSlice
  generalize (Value.agg (re r0).toArray) = Z at h1 hf
  rw [Nat.one_mul] at hf
  simp [Sem.run_bind, run_underlying hu, sizeOf, zeroValue, typeInfo, hq, h1, h2, hf]
  rfl
theorem exec_bsliceD {o : Oper} {a : Act} {w : World} (x : Re) (hx : okR x) (y : Operand) (ho : o.op = .buildSlice TDs 1 #[(0, y)]) (hy : a.eval y = .agg (re x).toArray) : (execOp a.eval o).run Try.prog w = .ok (.value (.slice (some ⟨w.heap.size, 0, none⟩) 1 1)) (w.alloc (.cells (re x).toArray TD)) := by
  unfold execOp
  simp only [ho, List.map_toArray, List.map_cons, List.map_nil, hy, Sem.run_bind, bsliceD_run w x hx, Result.andThen_ok]
  rfl
theorem one_cellD {w : World} {gv : Nat} {x : Re} (hx : okR x) (hv : w.heap[gv]? = some (.cells (re x).toArray TD (0, 0))) : KD.C w (some ⟨gv, 0, none⟩) 1 [x] := by
  refine ⟨rfl, by decide, fun _ => ⟨_, rfl, fun j p hp => ?_⟩⟩
  have hj : j = 0 := by have := (List.getElem?_eq_some_iff.1 hp).1; simp at this; exact this
  subst hj
  obtain rfl : x = p := by simpa using hp
  refine ⟨re x, re_len hx, ⟨rfl, hx⟩, fun i u hu => ?_⟩
  rw [Nat.zero_mul, Nat.zero_add, add0, blk_cell hv]
  simpa using hu
/-- The call's boxes and its result's place. -/
structure B4 (w : World) (v : Value) (C D : Array Value) (r : Value) (W : World) : Prop where
  bel : Below w.heap.size w W
  b0 : W.heap[w.heap.size]? = some (.cells #[v] TE (0, 0))
  b1 : W.heap[w.heap.size + 1]? = some (.cells C TF (0, 0))
  b2 : W.heap[w.heap.size + 1 + 1]? = some (.cells D TF (0, 0))
  b3 : W.heap[w.heap.size + 1 + 1 + 1]? = some (.cells #[r] TE (0, 0))
theorem B4.step {w W w1 : World} {v r : Value} {C D : Array Value} (h : B4 w v C D r W) (hb : Below W.heap.size W w1) : B4 w v C D r w1 := ⟨below_step h.bel hb, blk_below h.b0 hb, blk_below h.b1 hb, blk_below h.b2 hb, blk_below h.b3 hb⟩
theorem b4_new (w : World) (v : Value) (C D : Array Value) (r : Value) : B4 w v C D r ((((w.alloc (.cells #[v] TE)).alloc (.cells C TF)).alloc (.cells D TF)).alloc (.cells #[r] TE)) :=
  ⟨below_alloc (below_alloc (below_alloc (below_alloc (Below.refl _ _) _) _) _) _, blk_alloc (blk_alloc (blk_alloc (blk_new w _) _) _) _, blk_alloc (blk_alloc (new_at _ _ _ (by simp)) _) _, blk_alloc (new_at _ _ _ (by simp)) _, new_at _ _ _ (by simp)⟩
theorem B4.put0 {w W : World} {v r : Value} {C D : Array Value} (h : B4 w v C D r W) (u : Value) : B4 w u C D r (W.setCell ⟨w.heap.size, 0, none⟩ u) := by
  have hn : ∀ {k : Nat} {o : Obj}, k ≠ w.heap.size → W.heap[k]? = some o → (W.setCell ⟨w.heap.size, 0, none⟩ u).heap[k]? = some o := fun {k o} hk h => (Below.heap_setCell W ⟨w.heap.size, 0, none⟩ u k hk).trans h
  exact ⟨below_cell h.bel (Nat.le_refl _), blk_set h.b0 0 u, hn (by omega) h.b1, hn (by omega) h.b2, hn (by omega) h.b3⟩
theorem B4.put3 {w W : World} {v r : Value} {C D : Array Value} (h : B4 w v C D r W) (u : Value) : B4 w v C D u (W.setCell ⟨w.heap.size + 1 + 1 + 1, 0, none⟩ u) := by
  have hn : ∀ {k : Nat} {o : Obj}, k ≠ w.heap.size + 1 + 1 + 1 → W.heap[k]? = some o → (W.setCell ⟨w.heap.size + 1 + 1 + 1, 0, none⟩ u).heap[k]? = some o := fun {k o} hk h => (Below.heap_setCell W ⟨w.heap.size + 1 + 1 + 1, 0, none⟩ u k hk).trans h
  exact ⟨below_cell h.bel (by omega), hn (by omega) h.b0, hn (by omega) h.b1, hn (by omega) h.b2, blk_set h.b3 0 u⟩
/-- What an Insert tells. -/
def RIns (L : List Re) (a i : Idt) (ch : Int) (L' : List Re) (c : Int) : Prop :=
  (c = 2 ∧ L' = L ∧ (i.1 < 1 ∨ i.1 ≤ a.1)) ∨ (c = 23 ∧ L' = L ∧ ¬ (i.1 < 1 ∨ i.1 ≤ a.1) ∧ ∃ x ∈ L, x.id = i) ∨ (c = 22 ∧ L' = L ∧ ¬ (i.1 < 1 ∨ i.1 ≤ a.1) ∧ (∀ x ∈ L, x.id ≠ i) ∧ a ≠ z0 ∧ ∀ x ∈ L, x.id ≠ a) ∨
    (c = 0 ∧ L' = L ++ [⟨i, a, ch, false⟩] ∧ ¬ (i.1 < 1 ∨ i.1 ≤ a.1) ∧ (∀ x ∈ L, x.id ≠ i) ∧ (a = z0 ∨ ∃ x ∈ L, x.id = a))
/-- In the last region. -/
def SZ (w : World) (v : Value) (C D : List Value) (L : List Re) (W : World) : Prop := W.cell? ⟨w.heap.size, 0, none⟩ = some v ∧ W.rangeAt (w.heap.size + 1) 0 C ∧ W.rangeAt (w.heap.size + 1 + 1) 0 D ∧ Aside0 (B4 w v C.toArray D.toArray (.slice none 0 0) W ∧ OwnD W 0 v L)
theorem range_of0 {w : World} {g : Nat} {C : List Value} {T : TypeId} (h : w.heap[g]? = some (.cells C.toArray T (0, 0))) : w.rangeAt g 0 C := fun j v hv => by
  rw [blk_cell h, Nat.zero_add, List.getElem?_toArray]; exact hv
theorem sz_of {w W : World} {v : Value} {C D : List Value} {L : List Re} (h : B4 w v C.toArray D.toArray (.slice none 0 0) W) (h2 : OwnD W 0 v L) : SZ w v C D L W :=
  ⟨(blk_cell h.b0 0).trans rfl, range_of0 h.b1, range_of0 h.b2, ⟨h, h2⟩⟩
/-- Behind the first append and the new cell's row. -/
structure Fz (wd : World) (L : List Re) (X : List Value) (v1 : Value) (gv : Nat) (w' : World) : Prop where
  bel : Below wd.heap.size wd w'
  own : OwnD w' wd.heap.size v1 L
  blk : w'.heap[gv]? = some (.cells X.toArray TD (0, 0))
theorem fz_a {wd w1 : World} {L : List Re} {X : List Value} {v1 : Value} (ho : OwnD w1 wd.heap.size v1 L) (hb : Below wd.heap.size wd w1) : Fz wd L X v1 w1.heap.size (w1.alloc (.cells X.toArray TD)) :=
  ⟨below_alloc hb _, ownD_below ho (below_alloc (Below.refl _ _) _), blk_new w1 _⟩
theorem fz_b {wd w2 : World} {L : List Re} {X : List Value} {v1 : Value} (ho : OwnD w2 (wd.alloc (.cells X.toArray TD)).heap.size v1 L) (hb : Below (wd.alloc (.cells X.toArray TD)).heap.size (wd.alloc (.cells X.toArray TD)) w2) : Fz wd L X v1 wd.heap.size w2 :=
  ⟨(below_alloc (Below.refl _ _) _).trans (hb.mono (by simp)), ownD_low ho (by simp), blk_below (blk_new wd _) hb⟩
set_option maxRecDepth 100000 in
set_option maxHeartbeats 4000000 in
theorem RInsert_calls (w : World) (v : Value) (L : List Re) (h : OwnD w 0 v L) (hl : L.length < 90000) (a i : Idt) (ha : a.2.length = 32) (hi : i.2.length = 32) (ch : Int) :
    Calls Try.prog 33 #[.agg #[v], .agg (iv a).toArray, .agg (iv i).toArray, .int .u8 ch] w fun e w' => ∃ v' L' c, e = .returned (.tuple #[.agg #[v'], .int .i64 c]) ∧ OwnD w' 0 v' L' ∧ Below w.heap.size w w' ∧ RIns L a i ch L' c := by
  have huF := Try.underlying26
  have HSA : Aside0 ((Try.prog.info? TF).map (·.size) = some (iv a).length) := ⟨by rw [iv_len ha]; exact size_ref⟩
  have HSI : Aside0 ((Try.prog.info? TF).map (·.size) = some (iv i).length) := ⟨by rw [iv_len hi]; exact size_ref⟩
  have HA0 : Aside0 ((iv a).toArray[0]? = some (.int .i64 a.1)) := ⟨by simp [iv]⟩
  have HI0 : Aside0 ((iv i).toArray[0]? = some (.int .i64 i.1)) := ⟨by simp [iv]⟩
  have HO := Aside0.mk h
  have HL := Aside0.mk hl
  have HEZ := Aside0.mk (fun W => run_eqRef W a z0 ha rfl)
  have HBZ : Aside0 (Try.prog.built TF [] = some (iv z0).toArray) := ⟨by kernel_rfl⟩
  have HFI := Aside0.mk (fun W (hW : OwnD W 0 v L) => Find_calls W v L hW (by omega) i hi)
  have HFA := Aside0.mk (fun W (hW : OwnD W 0 v L) => Find_calls W v L hW (by omega) a ha)
  have hok : okR ⟨i, a, ch, false⟩ := ⟨hi, ha⟩
  have HBX := Aside0.mk (built_re ⟨i, a, ch, false⟩ hok)
  have HBS : Aside0 (∀ (o : Oper) (b : Act) (W : World), o.op = .buildSlice TDs 1 #[(0, .tmp 47)] → b.eval (.tmp 47) = .agg (re ⟨i, a, ch, false⟩).toArray → (execOp b.eval o).run Try.prog W = .ok (.value (.slice (some ⟨W.heap.size, 0, none⟩) 1 1)) (W.alloc (.cells (re ⟨i, a, ch, false⟩).toArray TD))) := ⟨fun o b W ho hb => exec_bsliceD ⟨i, a, ch, false⟩ hok (.tmp 47) ho hb⟩
  have HON : Aside0 (∀ (W : World) (gv : Nat), W.heap[gv]? = some (.cells (re ⟨i, a, ch, false⟩).toArray TD (0, 0)) → KD.C W (some ⟨gv, 0, none⟩) 1 [⟨i, a, ch, false⟩]) := ⟨fun W gv hg => one_cellD hok hg⟩
  obtain ⟨C, hC⟩ : ∃ C, iv a = C := ⟨_, rfl⟩
  obtain ⟨D, hD⟩ : ∃ D, iv i = D := ⟨_, rfl⟩
  obtain ⟨X, hX⟩ : ∃ X, re ⟨i, a, ch, false⟩ = X := ⟨_, rfl⟩
  obtain ⟨Z, hZ⟩ : ∃ Z, (iv z0).toArray = Z := ⟨_, rfl⟩
  have HBX : Aside0 (Try.prog.built TD [(0, .agg (iv i).toArray), (1, .agg (iv a).toArray), (2, .int .u8 ch), (3, .bool false)] = some (re ⟨i, a, ch, false⟩).toArray) := ⟨HBX.out⟩
  rw [hC] at HSA HA0 HFA HEZ HBX ⊢
  rw [hD] at HSI HI0 HFI HBX ⊢
  rw [hX] at HBX HBS HON
  rw [hZ] at HEZ HBZ
  have HB := Aside0.mk (b4_new w v C.toArray D.toArray (.slice none 0 0))
  have HO1 : Aside0 (OwnD ((((w.alloc (.cells #[v] TE)).alloc (.cells C.toArray TF)).alloc (.cells D.toArray TF)).alloc (.cells #[.slice none 0 0] TE)) 0 v L) := ⟨ownD_below h (below_alloc (below_alloc (below_alloc (below_alloc (Below.refl _ _) _) _) _) _)⟩
  obtain ⟨A, c, rfl, -, -⟩ := Kd.R_reads h
  clear h hl ha hi hC hD hX hZ hok
  go_enter Try.func33, Try.ntmps33
  go_upto_region 1 with fail
  generalize ((((w.alloc (.cells #[.slice A L.length c] TE)).alloc (.cells C.toArray TF)).alloc (.cells D.toArray TF)).alloc (.cells #[.slice none 0 0] TE)) = w1 at *
  have k1 : w1.cell? ⟨w.heap.size + 1, 0, none⟩ = some (.int .i64 a.1) := (blk_cell HB.out.b1 0).trans HA0.out
  have k2 : w1.cell? ⟨w.heap.size + 1 + 1, 0, none⟩ = some (.int .i64 i.1) := (blk_cell HB.out.b2 0).trans HI0.out
  have k0 : w1.cell? ⟨w.heap.size, 0, none⟩ = some (.slice A L.length c) := (blk_cell HB.out.b0 0).trans rfl
  have k3 : w1.cell? ⟨w.heap.size + 1 + 1 + 1, 0, none⟩ = some (.slice none 0 0) := (blk_cell HB.out.b3 0).trans rfl
  have f3 : w1.frozen? ⟨w.heap.size + 1 + 1 + 1, 0, none⟩ = false := blk_frozen HB.out.b3 _
  by_cases h2 : i.1 < 1 ∨ i.1 ≤ a.1
  · have H2 := Aside0.mk h2
    by_cases h1 : i.1 < 1
    · have t1 : decide (i.1 < 1) = true := decide_eq_true h1
      clear h1 h2
      go_wp2_with fail
      refine bodyPost_ret (results_ct rfl _ _ (w.heap.size + 1 + 1 + 1) TE #[.slice A L.length c] (0, 0) _ rfl (HB.out.put3 _).b3 Try.underlying48 rfl (by kernel_rfl)) rfl ?_
      exact ⟨_, L, 2, rfl, ownD_cell HO1.out HB.out.b3 (by decide) _ _, (HB.out.put3 _).bel, Or.inl ⟨rfl, rfl, H2.out⟩⟩
    · have t1 : decide (i.1 < 1) = false := decide_eq_false h1
      have t2 : decide (i.1 ≤ a.1) = true := decide_eq_true (h2.resolve_left h1)
      clear h1 h2
      go_wp2_with fail
      refine bodyPost_ret (results_ct rfl _ _ (w.heap.size + 1 + 1 + 1) TE #[.slice A L.length c] (0, 0) _ rfl (HB.out.put3 _).b3 Try.underlying48 rfl (by kernel_rfl)) rfl ?_
      exact ⟨_, L, 2, rfl, ownD_cell HO1.out HB.out.b3 (by decide) _ _, (HB.out.put3 _).bel, Or.inl ⟨rfl, rfl, H2.out⟩⟩
  have t1 : decide (i.1 < 1) = false := decide_eq_false (by omega)
  have t2 : decide (i.1 ≤ a.1) = false := decide_eq_false (by omega)
  have H2 := Aside0.mk h2
  clear h2
  go_upto_region 3 with fail
  have hb2 := Aside0.mk HB.out.b2
  clear k3 f3
  go_upto_if 23 with (first | ((with_reducible refine gate_ (Op.load TF (.tmp 6)) rfl ?_); refine wpList_load_row rfl TF (.tmp 6) rfl (w.heap.size + 1 + 1) rfl _ _ _ _ hb2.out huF rfl (by rw [List.size_toArray]; exact HSI.out) ?_) | (go_at_call 21; refine (HFI.out _ HO1.out).mono ?_; rintro e w2 ⟨r, rfl, hp, hb⟩; have HP := Aside0.mk hp; have HB2 := Aside0.mk (HB.out.step hb); have HO2 := Aside0.mk (ownD_below HO1.out hb); clear hp hb))
  clear k0 k1 k2 HB HO1 hb2 HFI
  have k0 : w2.cell? ⟨w.heap.size, 0, none⟩ = some (.slice A L.length c) := (blk_cell HB2.out.b0 0).trans rfl
  have k3 : w2.cell? ⟨w.heap.size + 1 + 1 + 1, 0, none⟩ = some (.slice none 0 0) := (blk_cell HB2.out.b3 0).trans rfl
  have f3 : w2.frozen? ⟨w.heap.size + 1 + 1 + 1, 0, none⟩ = false := blk_frozen HB2.out.b3 _
  rcases HP.out with ⟨rfl, hn⟩ | ⟨j, x, rfl, hj, hx, -⟩
  rotate_left
  · have H3 := Aside0.mk (⟨x, List.mem_of_getElem? hj, hx⟩ : ∃ x ∈ L, x.id = i)
    have t3 : decide ((0 : Int) ≤ (j : Int)) = true := decide_eq_true (by omega)
    have t4 : ((0 : Int) ≤ (j : Int)) = True := eq_true (by omega)
    have t5 : ((j : Int) < 0) = False := eq_false (by omega)
    clear hj hx HP
    go_wp2_with fail
    refine bodyPost_ret (results_ct rfl _ _ (w.heap.size + 1 + 1 + 1) TE #[.slice A L.length c] (0, 0) _ rfl (HB2.out.put3 _).b3 Try.underlying48 rfl (by kernel_rfl)) rfl ?_
    exact ⟨_, L, 23, rfl, ownD_cell HO2.out HB2.out.b3 (by decide) _ _, (HB2.out.put3 _).bel, Or.inr (Or.inl ⟨rfl, rfl, H2.out, H3.out⟩)⟩
  · have H3 := Aside0.mk hn
    have hb1 := Aside0.mk HB2.out.b1
    clear hn HP
    obtain ⟨bz, hbz⟩ : ∃ b, decide (a = z0) = b := ⟨_, rfl⟩
    rw [hbz] at HEZ
    have heq := HEZ.out
    have HBZ2 := Aside0.mk hbz
    clear hbz
    -- HERE
    cases bz with
    | true =>
      have H4 : Aside0 (a = z0 ∨ ∃ x ∈ L, x.id = a) := ⟨Or.inl (of_decide_eq_true HBZ2.out)⟩
      go_upto_if 29 with (first | ((with_reducible refine gate_ (Op.load TF (.tmp 5)) rfl ?_); refine load_atG (by rfl) TF (.tmp 5) rfl (w.heap.size + 1) 0 rfl TF _ hb1.out C (fun j v hj => by rw [List.getElem?_toArray, Nat.zero_add]; exact hj) _ huF rfl HSA.out ?_) | ((with_reducible refine gate_ (Op.build TF #[]) rfl ?_); refine wpList_build_as rfl TF _ rfl [] (by first | rfl | simp) Z HBZ.out ?_))
      clear k0 k3 f3 heq
      go_upto_region 8 with fail
      refine start_ (n := 12) (S := SZ w (.slice A L.length c) C D L) (ds := [11]) #[false, false, false, false, false, false, false, false, false, false, false, false] (by kernel_rfl) rfl rfl (sz_of (HB2.out.step (pw_below_drewN (Below.refl _ _) 1)) (ownD_below HO2.out (pw_below_drewN (Below.refl _ _) 1))) (fun hHeld => ?_)
      generalize w2.drew = wd at hHeld ⊢
      clear HB2 HO2
      refine pure_ (i := 0) (N := some 40) (v := ?_) (a' := ?_) #[true, false, false, false, false, false, false, false, false, false, false, false] rfl rfl (by kernel_rfl) (fun _ _ _ h => h) (Or.inl ⟨by rfl, ?_⟩) ?_ ?_
      rotate_left
      · intro w'
        go_simp
        with_reducible rfl
      rotate_left
      · simp only [Act.put, List.setIfInBounds_toArray, List.set_cons_zero, List.set_cons_succ, i64_w, i32_w]
        rfl
      refine pure_ (i := 1) (N := some 41) (v := ?_) (a' := ?_) #[true, true, false, false, false, false, false, false, false, false, false, false] rfl rfl (by kernel_rfl) (fun _ _ _ h => h) (Or.inl ⟨by rfl, ?_⟩) ?_ ?_
      rotate_left
      · intro w'
        go_simp
        with_reducible rfl
      rotate_left
      · simp only [Act.put, List.setIfInBounds_toArray, List.set_cons_zero, List.set_cons_succ, i64_w, i32_w]
        rfl
      refine take_ (i := 2) (N := some 42) (v := ?_) (a' := ?_) #[true, true, true, false, false, false, false, false, false, false, false, false] rfl rfl (by kernel_rfl) (fun _ _ _ h => h) (Or.inl ⟨by rfl, ?_⟩) hHeld ?_ ?_
      rotate_left
      · rintro w' ⟨s1, _, _, _⟩
        go_simp
        with_reducible rfl
      rotate_left
      · simp only [Act.put, List.setIfInBounds_toArray, List.set_cons_zero, List.set_cons_succ, i64_w, i32_w]
        rfl
      refine take_ (i := 4) (N := some 44) (v := .agg D.toArray) (a' := ?_) #[true, true, true, false, true, false, false, false, false, false, false, false] rfl rfl (by kernel_rfl) (fun _ _ _ h => h) (yieldsIf_load_mid (by rfl) TF (.tmp 6) rfl (w.heap.size + 1 + 1) 0 rfl D _ (fun w' hS => hS.2.2.1) huF rfl HSI.out) hHeld ?_ ?_
      rotate_left
      · simp only [Act.put, List.setIfInBounds_toArray, List.set_cons_zero, List.set_cons_succ, i64_w, i32_w]
        rfl
      refine take_ (i := 5) (N := some 45) (v := .agg C.toArray) (a' := ?_) #[true, true, true, false, true, true, false, false, false, false, false, false] rfl rfl (by kernel_rfl) (fun _ _ _ h => h) (yieldsIf_load_mid (by rfl) TF (.tmp 5) rfl (w.heap.size + 1) 0 rfl C _ (fun w' hS => hS.2.1) huF rfl HSA.out) hHeld ?_ ?_
      rotate_left
      · simp only [Act.put, List.setIfInBounds_toArray, List.set_cons_zero, List.set_cons_succ, i64_w, i32_w]
        rfl
      refine pure_ (i := 6) (N := some 46) (v := ?_) (a' := ?_) #[true, true, true, false, true, true, true, false, false, false, false, false] rfl rfl (by kernel_rfl) (fun _ _ _ h => h) (Or.inl ⟨by rfl, ?_⟩) ?_ ?_
      rotate_left
      · intro w'
        go_simp
        with_reducible rfl
      rotate_left
      · simp only [Act.put, List.setIfInBounds_toArray, List.set_cons_zero, List.set_cons_succ, i64_w, i32_w]
        rfl
      refine pure_ (i := 7) (N := some 47) (v := .agg X.toArray) (a' := ?_) #[true, true, true, false, true, true, true, true, false, false, false, false] rfl rfl (by kernel_rfl) (fun _ _ _ h => h) (Or.inl ⟨by rfl, fun w' => exec_build TD #[(0, .tmp 44), (1, .tmp 45), (2, .tmp 46), (3, .const (.bool false))] rfl _ (by first | rfl | (simp only [List.map_toArray, List.map_cons, List.map_nil]; rfl)) _ HBX.out⟩) ?_ ?_
      rotate_left
      · simp only [Act.put, List.setIfInBounds_toArray, List.set_cons_zero, List.set_cons_succ, i64_w, i32_w]
        rfl
      obtain ⟨hB, hO⟩ := hHeld.2.2.2.out
      obtain ⟨A', c', he', hlc', hCC⟩ := Kd.R_reads hO
      obtain ⟨rfl, rfl⟩ : A = A' ∧ c = c' := by injection he' with h1 _ h3; exact ⟨h1, h3⟩
      have hlL := HL.out
      refine join_ (σ := Value × Nat) 3 #[true, true, true, true, true, true, true, true, true, false, false, false] (fun s => [(43, s.1), (48, .slice (some ⟨s.2, 0, none⟩) 1 1)]) (fun s w' => Aside0 (Fz wd L X s.1 s.2 w')) ?_ ?_
      rotate_left
      · intro HJ
        refine two_ (i := 3) (j := 8) (Ni := some 43) (Nj := some 48) #[true, true, true, true, true, true, true, true, false, false, false, false] #[true, true, true, false, true, true, true, true, true, false, false, false] rfl rfl rfl rfl (by kernel_rfl) (by decide) (by decide) (fun K hK => ?_) (fun K hK => ?_)
        · refine appD_nil_step (by rfl) (.tmp 40) (.tmp 42) rfl rfl L A L.length c hCC (by omega) rfl rfl (fun v1 w3 ho hb => ?_)
          refine hK.out _ _ (sz_of (hB.step hb) (ownD_below hO hb)) (fun _ => ?_)
          refine one_ (i := 8) (N := some 48) #[true, true, true, true, true, true, true, true, true, false, false, false] rfl rfl (by kernel_rfl) (by decide) (fun K2 hK2 => ?_)
          refine value_ (N := some 48) (by rfl) rfl (HBS.out _ _ _ rfl rfl) ?_
          have hF := fz_a (X := X) ho hb
          refine hK2.out _ _ (sz_of (hB.step hF.bel) (ownD_below hO hF.bel)) (fun _ => ?_)
          refine norm_ (a' := _) ?_ (HJ (v1, w3.heap.size) _ ⟨hF⟩)
          simp only [putAll, Act.put, List.setIfInBounds_toArray, List.set_cons_zero, List.set_cons_succ, i64_w, i32_w]
        · refine value_ (N := some 48) (by rfl) rfl (HBS.out _ _ _ rfl rfl) ?_
          have hb0 : Below wd.heap.size wd (wd.alloc (.cells X.toArray TD)) := below_alloc (Below.refl _ _) _
          refine hK.out _ _ (sz_of (hB.step hb0) (ownD_below hO hb0)) (fun _ => ?_)
          refine one_ (i := 3) (N := some 43) #[true, true, true, true, true, true, true, true, true, false, false, false] rfl rfl (by kernel_rfl) (by decide) (fun K2 hK2 => ?_)
          refine appD_nil_step (by rfl) (.tmp 40) (.tmp 42) rfl rfl L A L.length c (Kd.R_reads' (ownD_below hO hb0)).2.2 (by omega) rfl rfl (fun v1 w3 ho hb => ?_)
          have hF := fz_b ho hb
          refine hK2.out _ _ (sz_of (hB.step hF.bel) (ownD_below hO hF.bel)) (fun _ => ?_)
          refine norm_ (a' := _) ?_ (HJ (v1, wd.heap.size) _ ⟨hF⟩)
          simp only [putAll, Act.put, List.setIfInBounds_toArray, List.set_cons_zero, List.set_cons_succ, i64_w, i32_w]
      rintro ⟨v1, gv⟩ w3 HF
      refine norm_ (a' := ?_) ?_ ?_
      rotate_left
      · simp only [putAll]
        simp only [Act.put, List.setIfInBounds_toArray, List.set_cons_zero, List.set_cons_succ, i64_w, i32_w]
        rfl
      clear hHeld hCC he' hlc'
      refine one_ (i := 9) (N := some 49) #[true, true, true, true, true, true, true, true, true, true, false, false] rfl rfl (by kernel_rfl) (by decide) (fun K hK => ?_)
      refine appD_more_step (w0 := wd) wd.heap.size (by rfl) (.tmp 43) (.tmp 48) rfl rfl _ (some ⟨gv, 0, none⟩) 1 1 HF.out.own (HON.out _ _ HF.out.blk) (by omega) (by omega) rfl rfl HF.out.bel HF.out.bel.size (fun v2 w4 ho hb => ?_)
      have HB5 := Aside0.mk (hB.step hb)
      have HO5 := Aside0.mk ho
      have hS2 := sz_of HB5.out (ownD_below hO hb)
      clear HF hB hO hb
      refine hK.out _ _ hS2 (fun hHeld => ?_)
      clear hK K hS2
      obtain ⟨A2, c2, rfl⟩ := Kd.R_slice ho
      clear ho hHeld
      refine norm_ (a' := ?_) ?_ ?_
      rotate_left
      · show Act.put _ (some 49) _ = _
        simp only [Act.put, List.setIfInBounds_toArray, List.set_cons_zero, List.set_cons_succ, i64_w, i32_w]
        rfl
      refine pure_ (i := 10) (N := some 50) (v := ?_) (a' := ?_) #[true, true, true, true, true, true, true, true, true, true, true, false] rfl rfl (by kernel_rfl) (fun _ _ _ h => h) (Or.inl ⟨by rfl, ?_⟩) ?_ ?_
      rotate_left
      · intro w'
        go_simp
        with_reducible rfl
      rotate_left
      · simp only [Act.put, List.setIfInBounds_toArray, List.set_cons_zero, List.set_cons_succ, i64_w, i32_w]
        rfl
      refine last_ (i := 11) (N := none) #[true, true, true, true, true, true, true, true, true, true, true, true] rfl rfl (by kernel_rfl) (by decide) (fun K hK => ?_)
      have kc : w4.cell? ⟨w.heap.size, 0, none⟩ = some (.slice A L.length c) := (blk_cell HB5.out.b0 0).trans rfl
      have kf : w4.frozen? ⟨w.heap.size, 0, none⟩ = false := blk_frozen HB5.out.b0 _
      refine skip_ (w1 := w4.setCell ⟨w.heap.size, 0, none⟩ (.slice A2 (L ++ [(⟨i, a, ch, false⟩ : Re)]).length c2)) (by rfl) rfl (by go_simp) ?_
      refine hK.out _ _ ?_
      clear hK K kc kf
      refine done_ (by kernel_rfl) ?_
      have HB6 := Aside0.mk (HB5.out.put0 (.slice A2 (L ++ [(⟨i, a, ch, false⟩ : Re)]).length c2))
      have HO6 := Aside0.mk (ownD_cell HO5.out HB5.out.b0 (by decide) 0 (.slice A2 (L ++ [(⟨i, a, ch, false⟩ : Re)]).length c2))
      clear HB5 HO5
      generalize w4.setCell ⟨w.heap.size, 0, none⟩ (.slice A2 (L ++ [(⟨i, a, ch, false⟩ : Re)]).length c2) = w5 at *
      have k0 : w5.cell? ⟨w.heap.size, 0, none⟩ = some (.slice A2 (L ++ [(⟨i, a, ch, false⟩ : Re)]).length c2) := (blk_cell HB6.out.b0 0).trans rfl
      have k3 : w5.cell? ⟨w.heap.size + 1 + 1 + 1, 0, none⟩ = some (.slice none 0 0) := (blk_cell HB6.out.b3 0).trans rfl
      have f3 : w5.frozen? ⟨w.heap.size + 1 + 1 + 1, 0, none⟩ = false := blk_frozen HB6.out.b3 _
      generalize hnl : (L ++ [(⟨i, a, ch, false⟩ : Re)]).length = nl at k0
      go_wp2_with fail
      refine bodyPost_ret (results_ct rfl _ _ (w.heap.size + 1 + 1 + 1) TE #[.slice A2 nl c2] (0, 0) _ rfl (HB6.out.put3 _).b3 Try.underlying48 rfl (by kernel_rfl)) rfl ?_
      rw [hnl] at HO6 HB6
      exact ⟨_, L ++ [(⟨i, a, ch, false⟩ : Re)], 0, rfl, ownD_low (ownD_cell HO6.out HB6.out.b3 (by decide) _ _) (Nat.zero_le _), (HB6.out.put3 _).bel, Or.inr (Or.inr (Or.inr ⟨rfl, rfl, H2.out, H3.out, H4.out⟩))⟩
    | false =>
      go_upto_if 29 with (first | ((with_reducible refine gate_ (Op.load TF (.tmp 5)) rfl ?_); refine load_atG (by rfl) TF (.tmp 5) rfl (w.heap.size + 1) 0 rfl TF _ hb1.out C (fun j v hj => by rw [List.getElem?_toArray, Nat.zero_add]; exact hj) _ huF rfl HSA.out ?_) | ((with_reducible refine gate_ (Op.build TF #[]) rfl ?_); refine wpList_build_as rfl TF _ rfl [] (by first | rfl | simp) Z HBZ.out ?_) | (go_at_call 21; refine (HFA.out _ HO2.out).mono ?_; rintro e w3 ⟨r, rfl, hp, hb⟩; have HP := Aside0.mk hp; have HB3 := Aside0.mk (HB2.out.step hb); have HO3 := Aside0.mk (ownD_below HO2.out hb); clear hp hb))
      clear k0 k3 f3 heq hb1 HB2 HO2
      rcases HP.out with ⟨rfl, hn⟩ | ⟨j, x, rfl, hj, hx, -⟩
      · have H4 := Aside0.mk hn
        clear hn HP
        have k0 : w3.cell? ⟨w.heap.size, 0, none⟩ = some (.slice A L.length c) := (blk_cell HB3.out.b0 0).trans rfl
        have k3 : w3.cell? ⟨w.heap.size + 1 + 1 + 1, 0, none⟩ = some (.slice none 0 0) := (blk_cell HB3.out.b3 0).trans rfl
        have f3 : w3.frozen? ⟨w.heap.size + 1 + 1 + 1, 0, none⟩ = false := blk_frozen HB3.out.b3 _
        go_wp2_with fail
        refine bodyPost_ret (results_ct rfl _ _ (w.heap.size + 1 + 1 + 1) TE #[.slice A L.length c] (0, 0) _ rfl (HB3.out.put3 _).b3 Try.underlying48 rfl (by kernel_rfl)) rfl ?_
        exact ⟨_, L, 22, rfl, ownD_cell HO3.out HB3.out.b3 (by decide) _ _, (HB3.out.put3 _).bel, Or.inr (Or.inr (Or.inl ⟨rfl, rfl, H2.out, H3.out, of_decide_eq_false HBZ2.out, H4.out⟩))⟩
      · have H4 : Aside0 (a = z0 ∨ ∃ x ∈ L, x.id = a) := ⟨Or.inr ⟨x, List.mem_of_getElem? hj, hx⟩⟩
        have t5 : ((j : Int) < 0) = False := eq_false (by omega)
        have t6 : decide ((j : Int) < 0) = false := decide_eq_false (by omega)
        clear hj hx HP
        go_upto_region 8 with fail
        refine start_ (n := 12) (S := SZ w (.slice A L.length c) C D L) (ds := [11]) #[false, false, false, false, false, false, false, false, false, false, false, false] (by kernel_rfl) rfl rfl (sz_of (HB3.out.step (pw_below_drewN (Below.refl _ _) 1)) (ownD_below HO3.out (pw_below_drewN (Below.refl _ _) 1))) (fun hHeld => ?_)
        generalize w3.drew = wd at hHeld ⊢
        clear HB3 HO3
        refine pure_ (i := 0) (N := some 40) (v := ?_) (a' := ?_) #[true, false, false, false, false, false, false, false, false, false, false, false] rfl rfl (by kernel_rfl) (fun _ _ _ h => h) (Or.inl ⟨by rfl, ?_⟩) ?_ ?_
        rotate_left
        · intro w'
          go_simp
          with_reducible rfl
        rotate_left
        · simp only [Act.put, List.setIfInBounds_toArray, List.set_cons_zero, List.set_cons_succ, i64_w, i32_w]
          rfl
        refine pure_ (i := 1) (N := some 41) (v := ?_) (a' := ?_) #[true, true, false, false, false, false, false, false, false, false, false, false] rfl rfl (by kernel_rfl) (fun _ _ _ h => h) (Or.inl ⟨by rfl, ?_⟩) ?_ ?_
        rotate_left
        · intro w'
          go_simp
          with_reducible rfl
        rotate_left
        · simp only [Act.put, List.setIfInBounds_toArray, List.set_cons_zero, List.set_cons_succ, i64_w, i32_w]
          rfl
        refine take_ (i := 2) (N := some 42) (v := ?_) (a' := ?_) #[true, true, true, false, false, false, false, false, false, false, false, false] rfl rfl (by kernel_rfl) (fun _ _ _ h => h) (Or.inl ⟨by rfl, ?_⟩) hHeld ?_ ?_
        rotate_left
        · rintro w' ⟨s1, _, _, _⟩
          go_simp
          with_reducible rfl
        rotate_left
        · simp only [Act.put, List.setIfInBounds_toArray, List.set_cons_zero, List.set_cons_succ, i64_w, i32_w]
          rfl
        refine take_ (i := 4) (N := some 44) (v := .agg D.toArray) (a' := ?_) #[true, true, true, false, true, false, false, false, false, false, false, false] rfl rfl (by kernel_rfl) (fun _ _ _ h => h) (yieldsIf_load_mid (by rfl) TF (.tmp 6) rfl (w.heap.size + 1 + 1) 0 rfl D _ (fun w' hS => hS.2.2.1) huF rfl HSI.out) hHeld ?_ ?_
        rotate_left
        · simp only [Act.put, List.setIfInBounds_toArray, List.set_cons_zero, List.set_cons_succ, i64_w, i32_w]
          rfl
        refine take_ (i := 5) (N := some 45) (v := .agg C.toArray) (a' := ?_) #[true, true, true, false, true, true, false, false, false, false, false, false] rfl rfl (by kernel_rfl) (fun _ _ _ h => h) (yieldsIf_load_mid (by rfl) TF (.tmp 5) rfl (w.heap.size + 1) 0 rfl C _ (fun w' hS => hS.2.1) huF rfl HSA.out) hHeld ?_ ?_
        rotate_left
        · simp only [Act.put, List.setIfInBounds_toArray, List.set_cons_zero, List.set_cons_succ, i64_w, i32_w]
          rfl
        refine pure_ (i := 6) (N := some 46) (v := ?_) (a' := ?_) #[true, true, true, false, true, true, true, false, false, false, false, false] rfl rfl (by kernel_rfl) (fun _ _ _ h => h) (Or.inl ⟨by rfl, ?_⟩) ?_ ?_
        rotate_left
        · intro w'
          go_simp
          with_reducible rfl
        rotate_left
        · simp only [Act.put, List.setIfInBounds_toArray, List.set_cons_zero, List.set_cons_succ, i64_w, i32_w]
          rfl
        refine pure_ (i := 7) (N := some 47) (v := .agg X.toArray) (a' := ?_) #[true, true, true, false, true, true, true, true, false, false, false, false] rfl rfl (by kernel_rfl) (fun _ _ _ h => h) (Or.inl ⟨by rfl, fun w' => exec_build TD #[(0, .tmp 44), (1, .tmp 45), (2, .tmp 46), (3, .const (.bool false))] rfl _ (by first | rfl | (simp only [List.map_toArray, List.map_cons, List.map_nil]; rfl)) _ HBX.out⟩) ?_ ?_
        rotate_left
        · simp only [Act.put, List.setIfInBounds_toArray, List.set_cons_zero, List.set_cons_succ, i64_w, i32_w]
          rfl
        obtain ⟨hB, hO⟩ := hHeld.2.2.2.out
        obtain ⟨A', c', he', hlc', hCC⟩ := Kd.R_reads hO
        obtain ⟨rfl, rfl⟩ : A = A' ∧ c = c' := by injection he' with h1 _ h3; exact ⟨h1, h3⟩
        have hlL := HL.out
        refine join_ (σ := Value × Nat) 3 #[true, true, true, true, true, true, true, true, true, false, false, false] (fun s => [(43, s.1), (48, .slice (some ⟨s.2, 0, none⟩) 1 1)]) (fun s w' => Aside0 (Fz wd L X s.1 s.2 w')) ?_ ?_
        rotate_left
        · intro HJ
          refine two_ (i := 3) (j := 8) (Ni := some 43) (Nj := some 48) #[true, true, true, true, true, true, true, true, false, false, false, false] #[true, true, true, false, true, true, true, true, true, false, false, false] rfl rfl rfl rfl (by kernel_rfl) (by decide) (by decide) (fun K hK => ?_) (fun K hK => ?_)
          · refine appD_nil_step (by rfl) (.tmp 40) (.tmp 42) rfl rfl L A L.length c hCC (by omega) rfl rfl (fun v1 w3 ho hb => ?_)
            refine hK.out _ _ (sz_of (hB.step hb) (ownD_below hO hb)) (fun _ => ?_)
            refine one_ (i := 8) (N := some 48) #[true, true, true, true, true, true, true, true, true, false, false, false] rfl rfl (by kernel_rfl) (by decide) (fun K2 hK2 => ?_)
            refine value_ (N := some 48) (by rfl) rfl (HBS.out _ _ _ rfl rfl) ?_
            have hF := fz_a (X := X) ho hb
            refine hK2.out _ _ (sz_of (hB.step hF.bel) (ownD_below hO hF.bel)) (fun _ => ?_)
            refine norm_ (a' := _) ?_ (HJ (v1, w3.heap.size) _ ⟨hF⟩)
            simp only [putAll, Act.put, List.setIfInBounds_toArray, List.set_cons_zero, List.set_cons_succ, i64_w, i32_w]
          · refine value_ (N := some 48) (by rfl) rfl (HBS.out _ _ _ rfl rfl) ?_
            have hb0 : Below wd.heap.size wd (wd.alloc (.cells X.toArray TD)) := below_alloc (Below.refl _ _) _
            refine hK.out _ _ (sz_of (hB.step hb0) (ownD_below hO hb0)) (fun _ => ?_)
            refine one_ (i := 3) (N := some 43) #[true, true, true, true, true, true, true, true, true, false, false, false] rfl rfl (by kernel_rfl) (by decide) (fun K2 hK2 => ?_)
            refine appD_nil_step (by rfl) (.tmp 40) (.tmp 42) rfl rfl L A L.length c (Kd.R_reads' (ownD_below hO hb0)).2.2 (by omega) rfl rfl (fun v1 w3 ho hb => ?_)
            have hF := fz_b ho hb
            refine hK2.out _ _ (sz_of (hB.step hF.bel) (ownD_below hO hF.bel)) (fun _ => ?_)
            refine norm_ (a' := _) ?_ (HJ (v1, wd.heap.size) _ ⟨hF⟩)
            simp only [putAll, Act.put, List.setIfInBounds_toArray, List.set_cons_zero, List.set_cons_succ, i64_w, i32_w]
        rintro ⟨v1, gv⟩ w3 HF
        refine norm_ (a' := ?_) ?_ ?_
        rotate_left
        · simp only [putAll]
          simp only [Act.put, List.setIfInBounds_toArray, List.set_cons_zero, List.set_cons_succ, i64_w, i32_w]
          rfl
        clear hHeld hCC he' hlc'
        refine one_ (i := 9) (N := some 49) #[true, true, true, true, true, true, true, true, true, true, false, false] rfl rfl (by kernel_rfl) (by decide) (fun K hK => ?_)
        refine appD_more_step (w0 := wd) wd.heap.size (by rfl) (.tmp 43) (.tmp 48) rfl rfl _ (some ⟨gv, 0, none⟩) 1 1 HF.out.own (HON.out _ _ HF.out.blk) (by omega) (by omega) rfl rfl HF.out.bel HF.out.bel.size (fun v2 w4 ho hb => ?_)
        have HB5 := Aside0.mk (hB.step hb)
        have HO5 := Aside0.mk ho
        have hS2 := sz_of HB5.out (ownD_below hO hb)
        clear HF hB hO hb
        refine hK.out _ _ hS2 (fun hHeld => ?_)
        clear hK K hS2
        obtain ⟨A2, c2, rfl⟩ := Kd.R_slice ho
        clear ho hHeld
        refine norm_ (a' := ?_) ?_ ?_
        rotate_left
        · show Act.put _ (some 49) _ = _
          simp only [Act.put, List.setIfInBounds_toArray, List.set_cons_zero, List.set_cons_succ, i64_w, i32_w]
          rfl
        refine pure_ (i := 10) (N := some 50) (v := ?_) (a' := ?_) #[true, true, true, true, true, true, true, true, true, true, true, false] rfl rfl (by kernel_rfl) (fun _ _ _ h => h) (Or.inl ⟨by rfl, ?_⟩) ?_ ?_
        rotate_left
        · intro w'
          go_simp
          with_reducible rfl
        rotate_left
        · simp only [Act.put, List.setIfInBounds_toArray, List.set_cons_zero, List.set_cons_succ, i64_w, i32_w]
          rfl
        refine last_ (i := 11) (N := none) #[true, true, true, true, true, true, true, true, true, true, true, true] rfl rfl (by kernel_rfl) (by decide) (fun K hK => ?_)
        have kc : w4.cell? ⟨w.heap.size, 0, none⟩ = some (.slice A L.length c) := (blk_cell HB5.out.b0 0).trans rfl
        have kf : w4.frozen? ⟨w.heap.size, 0, none⟩ = false := blk_frozen HB5.out.b0 _
        refine skip_ (w1 := w4.setCell ⟨w.heap.size, 0, none⟩ (.slice A2 (L ++ [(⟨i, a, ch, false⟩ : Re)]).length c2)) (by rfl) rfl (by go_simp) ?_
        refine hK.out _ _ ?_
        clear hK K kc kf
        refine done_ (by kernel_rfl) ?_
        have HB6 := Aside0.mk (HB5.out.put0 (.slice A2 (L ++ [(⟨i, a, ch, false⟩ : Re)]).length c2))
        have HO6 := Aside0.mk (ownD_cell HO5.out HB5.out.b0 (by decide) 0 (.slice A2 (L ++ [(⟨i, a, ch, false⟩ : Re)]).length c2))
        clear HB5 HO5
        generalize w4.setCell ⟨w.heap.size, 0, none⟩ (.slice A2 (L ++ [(⟨i, a, ch, false⟩ : Re)]).length c2) = w5 at *
        have k0 : w5.cell? ⟨w.heap.size, 0, none⟩ = some (.slice A2 (L ++ [(⟨i, a, ch, false⟩ : Re)]).length c2) := (blk_cell HB6.out.b0 0).trans rfl
        have k3 : w5.cell? ⟨w.heap.size + 1 + 1 + 1, 0, none⟩ = some (.slice none 0 0) := (blk_cell HB6.out.b3 0).trans rfl
        have f3 : w5.frozen? ⟨w.heap.size + 1 + 1 + 1, 0, none⟩ = false := blk_frozen HB6.out.b3 _
        generalize hnl : (L ++ [(⟨i, a, ch, false⟩ : Re)]).length = nl at k0
        go_wp2_with fail
        refine bodyPost_ret (results_ct rfl _ _ (w.heap.size + 1 + 1 + 1) TE #[.slice A2 nl c2] (0, 0) _ rfl (HB6.out.put3 _).b3 Try.underlying48 rfl (by kernel_rfl)) rfl ?_
        rw [hnl] at HO6 HB6
        exact ⟨_, L ++ [(⟨i, a, ch, false⟩ : Re)], 0, rfl, ownD_low (ownD_cell HO6.out HB6.out.b3 (by decide) _ _) (Nat.zero_le _), (HB6.out.put3 _).bel, Or.inr (Or.inr (Or.inr ⟨rfl, rfl, H2.out, H3.out, H4.out⟩))⟩
end Go.Proofs.Ytkcdlilglgfkaaa.Rg
