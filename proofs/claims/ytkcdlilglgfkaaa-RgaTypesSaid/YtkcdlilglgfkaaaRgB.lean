/- Rows of cells: the document's row, told from its root. -/
import Derived.Test.YtkcdlilglgfkaaaRgJ
set_option linter.unusedVariables false
set_option linter.unusedSimpArgs false
namespace Go.Proofs.Ytkcdlilglgfkaaa.Rg
open Go Go.RowKit Go.Proofs.YtkcdlilglgfkaaaW.PrintWords Go.Proofs.YtkcdlilglgfkaaaW.PrintLast Go.Proofs.YtkcdlilglgfkaaaW.PrintMore Go.Proofs.Ytkcdlilglgfkaaa.PA Go.Proofs.Ytkcdlilglgfkaaa.Ar Go.Proofs.Ytkcdlilglgfkaaa.Sha
def posK (x : Re) (K : List Re) : Nat := (K.takeWhile fun y => lessI x.id y.id).length
def insR (K : List Re) (x : Re) : List Re := K.take (posK x K) ++ [x] ++ K.drop (posK x K)
def kidsF (R : List Re) (i : Idt) : List Re := (R.filter fun x => decide (x.after = i)).foldl insR []
def belowF : Nat → List Re → Idt → List Re
  | 0, _, _ => []
  | n + 1, R, i => (kidsF R i).flatMap fun c => c :: belowF n R c.id
/-- What is told in so many steps is told whole. -/
def Deep (R : List Re) : Nat → Idt → Prop
  | 0, _ => False
  | n + 1, i => ∀ c ∈ R, c.after = i → Deep R n c.id
theorem insR_len (K : List Re) (x : Re) : (insR K x).length = K.length + 1 := by
  unfold insR
  rw [List.length_append, List.length_append, List.length_take, List.length_drop, List.length_singleton]
  omega
theorem mem_insR {K : List Re} {x y : Re} : y ∈ insR K x ↔ y = x ∨ y ∈ K := by
  unfold insR
  have := List.take_append_drop (posK x K) K
  constructor
  · intro h
    rcases List.mem_append.1 h with h | h
    · rcases List.mem_append.1 h with h | h
      · exact Or.inr (List.mem_of_mem_take h)
      · exact Or.inl (List.mem_singleton.1 h)
    · exact Or.inr (List.mem_of_mem_drop h)
  · rintro (rfl | h)
    · simp
    · rw [← this] at h
      rcases List.mem_append.1 h with h | h
      · exact List.mem_append.2 (Or.inl (List.mem_append.2 (Or.inl h)))
      · exact List.mem_append.2 (Or.inr h)
theorem mem_foldR : ∀ (l : List Re) (K : List Re) (y : Re), y ∈ l.foldl insR K ↔ y ∈ l ∨ y ∈ K
  | [], K, y => by simp
  | x :: r, K, y => by
    rw [List.foldl_cons, mem_foldR r, mem_insR, List.mem_cons]
    constructor
    · rintro (h | h | h)
      · exact Or.inl (Or.inr h)
      · exact Or.inl (Or.inl h)
      · exact Or.inr h
    · rintro ((h | h) | h)
      · exact Or.inr (Or.inl h)
      · exact Or.inl h
      · exact Or.inr (Or.inr h)
theorem mem_kids {R : List Re} {i : Idt} {y : Re} : y ∈ kidsF R i ↔ y ∈ R ∧ y.after = i := by
  unfold kidsF
  rw [mem_foldR]
  simp
theorem fold_len : ∀ (l K : List Re), (l.foldl insR K).length = K.length + l.length
  | [], K => rfl
  | x :: r, K => by rw [List.foldl_cons, fold_len r, insR_len, List.length_cons]; omega
theorem kids_len (R : List Re) (i : Idt) : (kidsF R i).length ≤ R.length := by
  unfold kidsF
  rw [fold_len, List.length_nil, Nat.zero_add]
  exact List.length_filter_le _ _
theorem kids_snoc (R : List Re) (x : Re) (i : Idt) : kidsF (R ++ [x]) i = if x.after = i then insR (kidsF R i) x else kidsF R i := by
  unfold kidsF
  rw [List.filter_append, List.foldl_append]
  by_cases h : x.after = i
  · rw [if_pos h, List.filter_cons, if_pos (decide_eq_true h)]; rfl
  · rw [if_neg h, List.filter_cons, if_neg (by rw [decide_eq_false h]; decide)]; rfl
theorem kids_step {R : List Re} {j : Nat} {x : Re} (hx : R[j]? = some x) (i : Idt) : kidsF (R.take (j + 1)) i = if x.after = i then insR (kidsF (R.take j) i) x else kidsF (R.take j) i := by
  rw [List.take_add_one, hx]
  exact kids_snoc _ x i
theorem pos_end {x : Re} {K : List Re} (h : ∀ y ∈ K.take K.length, lessI x.id y.id = true) : posK x K = K.length := by
  rw [List.take_of_length_le (Nat.le_refl _)] at h
  unfold posK
  have : ∀ l : List Re, (∀ y ∈ l, lessI x.id y.id = true) → (l.takeWhile fun y => lessI x.id y.id) = l := fun l => by
    induction l with
    | nil => intro _; rfl
    | cons z r ihr => intro hl; rw [List.takeWhile_cons, if_pos (hl z (by simp)), ihr (fun q hq => hl q (by simp [hq]))]
  rw [this K h]
theorem pos_at : ∀ {K : List Re} {x y : Re} {k : Nat}, (∀ z ∈ K.take k, lessI x.id z.id = true) → K[k]? = some y → lessI x.id y.id = false → posK x K = k
  | [], x, y, k, _, hk, _ => by simp at hk
  | z :: r, x, y, 0, _, hk, hn => by
    obtain rfl : z = y := by simpa using hk
    unfold posK
    rw [List.takeWhile_cons, if_neg (by rw [hn]; decide)]
    rfl
  | z :: r, x, y, k + 1, h, hk, hn => by
    have h0 := h z (by simp)
    have := pos_at (K := r) (x := x) (k := k) (fun q hq => h q (by simp [hq])) (by simpa using hk) hn
    unfold posK at this ⊢
    rw [List.takeWhile_cons, if_pos h0, List.length_cons, this]
theorem sliceD_to {A : Option Addr} {m c k : Nat} (hk : k ≤ c) (W : World) : (Instr.slice TDs (.slice A m c) none (some (.int .i64 (k : Int))) none).run Try.prog W = .ok (.slice A k c) W := by
  have hu := Try.underlying36
  have h1 : (k : Int) ≤ (c : Int) := by omega
  have h0 : (0 : Int) ≤ (k : Int) := by omega
  cases A with
  | none => go_simp
  | some ad => go_simp
theorem sliceD_from {A : Option Addr} {m c k : Nat} (hk : k ≤ m) (hA : A = none → c = 0) (hm : m ≤ c) (W : World) : (Instr.slice TDs (.slice A m c) (some (.int .i64 (k : Int))) none none).run Try.prog W = .ok (.slice (if c = k then A else A.map (·.add (k * KD.sz))) (m - k) (c - k)) W := by
  have hu := Try.underlying36
  have hz := size_re
  have h1 : (k : Int) ≤ (m : Int) := by omega
  have h0 : (0 : Int) ≤ (k : Int) := by omega
  cases A with
  | none =>
    obtain rfl := hA rfl
    obtain rfl : m = 0 := by omega
    obtain rfl : k = 0 := by omega
    go_simp
  | some ad =>
    have h2 : KD.sz = 68 := rfl
    rw [h2]
    go_simp
/-- The boxes, and the row that is asked. -/
structure Bw (w : World) (v : Value) (D : List Value) (R : List Re) (W : World) : Prop where
  bel : Below w.heap.size w W
  b0 : W.heap[w.heap.size]? = some (.cells #[v] TE (0, 0))
  b1 : W.heap[w.heap.size + 1]? = some (.cells D.toArray TF (0, 0))
  own : OwnD W 0 v R
theorem Bw.step {w W w1 : World} {v : Value} {D : List Value} {R : List Re} (h : Bw w v D R W) (hb : Below W.heap.size W w1) : Bw w v D R w1 := ⟨below_step h.bel hb, blk_below h.b0 hb, blk_below h.b1 hb, ownD_below h.own hb⟩
theorem Bw.size {w W : World} {v : Value} {D : List Value} {R : List Re} (h : Bw w v D R W) : w.heap.size + 1 + 1 ≤ W.heap.size := blk_lt h.b1
/-- With the kids so far, and the cell at hand. -/
structure Bk (w : World) (v : Value) (D : List Value) (R : List Re) (kv : Value) (K : List Re) (cb : Nat) (X : List Value) (W : World) : Prop where
  bw : Bw w v D R W
  kid : OwnD W (w.heap.size + 1 + 1) kv K
  blk : W.heap[cb]? = some (.cells X.toArray TD (0, 0))
theorem Bk.step {w W w1 : World} {v kv : Value} {D X : List Value} {R K : List Re} {cb : Nat} (h : Bk w v D R kv K cb X W) (hb : Below W.heap.size W w1) : Bk w v D R kv K cb X w1 := ⟨h.bw.step hb, ownD_below h.kid hb, blk_below h.blk hb⟩
/-- At the test of the inner loop. -/
def SL (w : World) (v : Value) (D : List Value) (R : List Re) (kv : Value) (K : List Re) (cb : Nat) (X F : List Value) (gk o : Nat) (G : List Value) (W : World) : Prop :=
  W.rangeAt cb 0 F ∧ W.rangeAt gk o G ∧ Aside0 (Bk w v D R kv K cb X W)
def SK (w : World) (v : Value) (D : List Value) (R : List Re) (kv : Value) (K : List Re) (cb : Nat) (X : List Value) (W : World) : Prop := W.rangeAt cb 0 X ∧ Aside0 (Bk w v D R kv K cb X W)
theorem sk_of {w W : World} {v kv : Value} {D X : List Value} {R K : List Re} {cb : Nat} (h : Bk w v D R kv K cb X W) : SK w v D R kv K cb X W := ⟨range_of0 h.blk, ⟨h⟩⟩
theorem sl_of {w W : World} {v : Value} {D : List Value} {R K : List Re} {cb gk cap k : Nat} {x y : Re} (hk : K[k]? = some y) (h : Bk w v D R (.slice (some ⟨gk, 0, none⟩) K.length cap) K cb (re x) W) :
    SL w v D R (.slice (some ⟨gk, 0, none⟩) K.length cap) K cb (re x) (iv x.id) gk (k * 68) (iv y.id) W := by
  refine ⟨fun j u hu => ?_, fun j u hu => ?_, ⟨h⟩⟩
  · rw [blk_cell h.blk, List.getElem?_toArray, Nat.zero_add]
    exact re_id j u hu
  · rcases ownD_form h.kid with ⟨hv, _⟩ | ⟨g, cap', cur, hv, _, hg, _, _, _, ht⟩
    · cases hv
    · injection hv with hv
      obtain rfl : gk = g := by simpa using hv
      rw [blk_cell hg]
      exact curD_at h.kid.okr ht hk j u (re_id j u hu)
/-- While it is told: H: the world in which that began. -/
def SO17 (w : World) (v : Value) (D : List Value) (R : List Re) (H : World) (gk o : Nat) (X F : List Value) (W : World) : Prop :=
  W.rangeAt gk o X ∧ W.rangeAt w.heap.size 0 [v] ∧ W.rangeAt gk o F ∧ Aside0 (Bw w v D R W ∧ Below H.heap.size H W)
theorem so17_of {w W H : World} {v : Value} {D : List Value} {R K : List Re} {gk cap i : Nat} {x : Re} (hk : K[i]? = some x) (h1 : Bw w v D R H) (h2 : OwnD H (w.heap.size + 1 + 1) (.slice (some ⟨gk, 0, none⟩) K.length cap) K) (h3 : Below H.heap.size H W) :
    SO17 w v D R H gk (i * 68) (re x) (iv x.id) W := by
  have h2 := ownD_below h2 h3
  have h1 := h1.step h3
  have hr : W.rangeAt gk (i * 68) (re x) := fun j u hu => by
    rcases ownD_form h2 with ⟨hv, _⟩ | ⟨g, cap', cur, hv, _, hg, _, _, _, ht⟩
    · cases hv
    · injection hv with hv
      obtain rfl : gk = g := by simpa using hv
      rw [blk_cell hg]
      exact curD_at h2.okr ht hk j u hu
  refine ⟨hr, fun j u hu => ?_, fun j u hu => hr j u (re_id j u hu), ⟨h1, h3⟩⟩
  rw [blk_cell h1.b0, Nat.zero_add]
  match j, hu with
  | 0, hu => exact hu
theorem told_len {n : Nat} {R K : List Re} (h : (K.flatMap fun c => c :: belowF n R c.id).length < 90000) {i : Nat} {x : Re} (hx : K[i]? = some x) :
    ((K.take i).flatMap fun c => c :: belowF n R c.id).length + 1 + (belowF n R x.id).length < 90000 := by
  have e : K.take (i + 1) ++ K.drop (i + 1) = K := List.take_append_drop _ _
  rw [← e, List.flatMap_append, List.length_append, List.take_add_one, hx, Option.toList_some, List.flatMap_append, List.length_append, List.flatMap_singleton, List.length_cons] at h
  omega
theorem told_step {n : Nat} {R K : List Re} {i : Nat} {x : Re} (hx : K[i]? = some x) :
    ((K.take (i + 1)).flatMap fun c => c :: belowF n R c.id) = ((K.take i).flatMap fun c => c :: belowF n R c.id) ++ [x] ++ belowF n R x.id := by
  rw [List.take_add_one, hx, Option.toList_some, List.flatMap_append, List.flatMap_singleton, List.append_assoc]
  rfl
set_option maxRecDepth 100000 in
set_option maxHeartbeats 4000000 in
theorem below_nil (w : World) (y : Idt) : Calls Try.prog 47 #[.agg #[.slice none 0 0], .agg (iv y).toArray] w fun e w' => e = .returned (.slice none 0 0) ∧ Below w.heap.size w w' := by
  obtain ⟨D, hD⟩ : ∃ D, (iv y).toArray = D := ⟨_, rfl⟩
  rw [hD]
  clear hD
  have hb0 : ((w.alloc (.cells #[.slice none 0 0] TE)).alloc (.cells D TF)).cell? ⟨w.heap.size, 0, none⟩ = some (.slice none 0 0) := (blk_cell (blk_alloc (blk_new w _) _) 0).trans rfl
  have HB : Aside0 (Below w.heap.size w ((w.alloc (.cells #[.slice none 0 0] TE)).alloc (.cells D TF))) := ⟨below_alloc (below_alloc (Below.refl _ _) _) _⟩
  go_enter Try.func47, Try.ntmps47
  go_wp2_with fail
  generalize (w.alloc (.cells #[.slice none 0 0] TE)).alloc (.cells D TF) = w1 at *
  go_loopw [5, 6] (fun kv i wr => kv = .slice none 0 0 ∧ i = .int .i64 0 ∧ wr = w1) (fun _ i _ => 0)
  case atStart => exact ⟨rfl, rfl, rfl⟩
  case round =>
    obtain ⟨rfl, rfl, rfl⟩ := hrel
    go_wp2_with fail
    go_loopw [10, 11] (fun ov i wr' => ov = .slice none 0 0 ∧ i = .int .i64 0 ∧ wr' = wr) (fun _ i _ => 0)
    case atStart => exact ⟨rfl, rfl, rfl⟩
    case round =>
      obtain ⟨rfl, rfl, rfl⟩ := hrel
      go_wp2_with fail
      go_ret
      exact ⟨rfl, HB.out⟩
set_option maxRecDepth 100000 in
set_option maxHeartbeats 4000000 in
theorem below_step_calls (n : Nat) (w : World) (g cap : Nat) (R : List Re) (h : OwnD w 0 (.slice (some ⟨g, 0, none⟩) R.length cap) R) (hl : R.length < 90000) (y : Idt) (hy : y.2.length = 32) (hlen : (belowF (n + 1) R y).length < 90000)
    (ih : ∀ c ∈ kidsF R y, ∀ W, OwnD W 0 (.slice (some ⟨g, 0, none⟩) R.length cap) R → Calls Try.prog 47 #[.agg #[.slice (some ⟨g, 0, none⟩) R.length cap], .agg (iv c.id).toArray] W fun e w' => ∃ v', e = .returned v' ∧ OwnD w' W.heap.size v' (belowF n R c.id) ∧ Below W.heap.size W w') :
    Calls Try.prog 47 #[.agg #[.slice (some ⟨g, 0, none⟩) R.length cap], .agg (iv y).toArray] w fun e w' => ∃ v', e = .returned v' ∧ OwnD w' w.heap.size v' (belowF (n + 1) R y) ∧ Below w.heap.size w w' := by
  have huF := Try.underlying26
  have huD := Try.underlying52
  have hsD := size_re
  have HIH := Aside0.mk ih
  have HL := Aside0.mk hl
  have HY := Aside0.mk hy
  have HLEN := Aside0.mk hlen
  have HLY : Aside0 ((Try.prog.info? TF).map (·.size) = some (iv y).length) := ⟨by rw [iv_len hy]; exact size_ref⟩
  have HEQ := Aside0.mk (fun W x hx => run_eqRef W x y hx hy)
  have HZ : Aside0 (∀ w : World, (zeroValue TD).run Try.prog w = .ok (.agg (re r0).toArray) w) := ⟨fun w => by
    obtain ⟨i, h1, h2⟩ := Option.map_eq_some_iff.1 zcellD
    simp only [Prod.mk.injEq] at h2
    simp [zeroValue, typeInfo, h1, h2.1]⟩
  have HZs : Aside0 ((re r0).toArray.size = 68) := ⟨rfl⟩
  obtain ⟨D, hD⟩ : ∃ D, iv y = D := ⟨_, rfl⟩
  obtain ⟨Z, hZ⟩ : ∃ Z, (re r0).toArray = Z := ⟨_, rfl⟩
  rw [hZ] at HZ HZs
  rw [hD] at HLY HEQ ⊢
  have HB : Aside0 (Bw w (.slice (some ⟨g, 0, none⟩) R.length cap) D R ((w.alloc (.cells #[.slice (some ⟨g, 0, none⟩) R.length cap] TE)).alloc (.cells D.toArray TF))) :=
    ⟨⟨below_alloc (below_alloc (Below.refl _ _) _) _, blk_alloc (blk_new w _) _, new_at _ _ _ (by simp), ownD_below h (below_alloc (below_alloc (Below.refl _ _) _) _)⟩⟩
  have HR : Aside0 (∀ x ∈ R, okR x) := ⟨h.okr⟩
  clear h hl hy hlen ih hD hZ
  go_enter Try.func47, Try.ntmps47
  go_upto_block 0 with fail
  generalize (w.alloc (.cells #[.slice (some ⟨g, 0, none⟩) R.length cap] TE)).alloc (.cells D.toArray TF) = w1 at *
  go_cut [5] from 6 (fun kv wr => Aside0 (Bw w (.slice (some ⟨g, 0, none⟩) R.length cap) D R wr ∧ OwnD wr (w.heap.size + 1 + 1) kv (kidsF R y)))
  case first =>
    go_wp2_with fail
    go_loopw [5, 6] (fun kv i wr => ∃ j : Nat, j ≤ R.length ∧ i = .int .i64 j ∧ Aside0 (Bw w (.slice (some ⟨g, 0, none⟩) R.length cap) D R wr ∧ OwnD wr (w.heap.size + 1 + 1) kv (kidsF (R.take j) y))) (fun _ i _ => R.length - (intOf i).toNat)
    case atStart => exact ⟨0, by omega, rfl, ⟨HB.out, Kd.R_nil _ _ _ _ _⟩⟩
    case round =>
      obtain ⟨j, hj, rfl, HW⟩ := hrel
      have HBw := Aside0.mk HW.out.1
      have HKd := Aside0.mk HW.out.2
      clear HW HB HIH HLEN
      obtain ⟨Ak, ck, rfl, hlk, -⟩ := Kd.R_reads HKd.out
      have hRL : R.length < 90000 := HL.out
      have HKN := Aside0.mk (Nat.le_trans (kids_len (R.take j) y) (List.length_take_le' j R))
      have kr : wr.cell? ⟨w.heap.size, 0, none⟩ = some (.slice (some ⟨g, 0, none⟩) R.length cap) := (blk_cell HBw.out.b0 0).trans rfl
      by_cases hlt : j < R.length
      · obtain ⟨x, hx⟩ : ∃ x, R[j]? = some x := ⟨_, List.getElem?_eq_getElem hlt⟩
        have hok := HR.out x (List.mem_of_getElem? hx)
        have HKS := Aside0.mk (kids_step hx y)
        obtain ⟨cur, hg, ht⟩ : ∃ cur, wr.heap[g]? = some (.cells cur TD (0, 0)) ∧ cur.toList.take (R.length * 68) = fr R := by
          rcases ownD_form HBw.out.own with ⟨hv, _⟩ | ⟨g', cap', cur, hv, _, h2, _, _, _, h3⟩
          · cases hv
          · injection hv with hv
            obtain rfl : g = g' := by simpa using hv
            exact ⟨cur, h2, h3⟩
        have HG := Aside0.mk hg
        have HAT := Aside0.mk (curD_at HR.out ht hx)
        have HSX : Aside0 ((Try.prog.info? TD).map (·.size) = some (re x).length) := ⟨by rw [re_len hok]; exact size_re⟩
        have HSXs : Aside0 ((re x).toArray.size = 68) := ⟨by rw [List.size_toArray, re_len hok]⟩
        have HSF : Aside0 ((Try.prog.info? TF).map (·.size) = some (iv x.id).length) := ⟨by rw [iv_len hok.1]; exact size_ref⟩
        have HSA : Aside0 ((Try.prog.info? TF).map (·.size) = some (iv x.after).length) := ⟨by rw [iv_len hok.2]; exact size_ref⟩
        have HX1 : Aside0 ((re x).toArray.all (·.oneCell') = true) := ⟨all_oneCell_toArray (re_one x)⟩
        have HAF : Aside0 (∀ j v, (iv x.after)[j]? = some v → (re x).toArray[33 + j]? = some v) := ⟨fun j v hv => by rw [List.getElem?_toArray]; exact re_after hok j v hv⟩
        have HON : Aside0 (∀ (W : World) (gv : Nat), W.heap[gv]? = some (.cells (re x).toArray TD (0, 0)) → KD.C W (some ⟨gv, 0, none⟩) 1 [x]) := ⟨fun W gv hg => one_cellD hok hg⟩
        have HBS : Aside0 (∀ (o : Oper) (b : Act) (W : World) (q : Operand), o.op = .buildSlice TDs 1 #[(0, q)] → b.eval q = .agg (re x).toArray → (execOp b.eval o).run Try.prog W = .ok (.value (.slice (some ⟨W.heap.size, 0, none⟩) 1 1)) (W.alloc (.cells (re x).toArray TD))) := ⟨fun o b W q ho hb => exec_bsliceD x hok q ho hb⟩
        have heq := fun W => HEQ.out W x.after hok.2
        obtain ⟨KL, hK⟩ : ∃ KL, kidsF (R.take j) y = KL := ⟨_, rfl⟩
        rw [hK] at HKd HKS HKN hlk ⊢
        have HSLX := Aside0.mk (fun (W : World) (cb gk k : Nat) (z : Re) (hk : KL[k]? = some z) (h : Bk w (.slice (some ⟨g, 0, none⟩) R.length cap) D R (.slice (some ⟨gk, 0, none⟩) KL.length ck) KL cb (re x) W) => sl_of hk h)
        obtain ⟨X, hX⟩ : ∃ X, re x = X := ⟨_, rfl⟩
        obtain ⟨F, hF⟩ : ∃ F, iv x.id = F := ⟨_, rfl⟩
        obtain ⟨E, hE⟩ : ∃ E, iv x.after = E := ⟨_, rfl⟩
        rw [hX] at HAT HSX HSXs HX1 HAF HON HBS HSLX
        rw [hF] at HSF HSLX
        rw [hE] at HSA HAF heq
        have HFX := Aside0.mk hF
        have HKE := Aside0.mk hK
        have HOK := Aside0.mk hok
        obtain ⟨b, hb⟩ : ∃ b, decide (x.after = y) = b := ⟨_, rfl⟩
        rw [hb] at heq
        have HBB := Aside0.mk hb
        clear hx hok hg ht hK hX hF hE hb HEQ
        cases b with
        | false =>
          rw [if_neg (of_decide_eq_false HBB.out)] at HKS
          go_wp2_with (first | ((with_reducible refine gate_ (Op.load TD (.tmp 22)) rfl ?_); refine wpList_load_at rfl TD (.tmp 22) rfl g (j * 68) rfl TD cur HG.out X HAT.out _ huD rfl HSX.out ?_) | ((with_reducible refine gate_ (Op.alloc TD) rfl ?_); refine wpList_alloc_as rfl TD rfl Z HZ.out ?_) | ((with_reducible refine gate_ (Op.store TD (.tmp 7) (.tmp 23)) rfl ?_); refine wpList_store_new rfl TD (.tmp 7) (.tmp 23) rfl wr TD Z X.toArray rfl rfl rfl (by rw [HSXs.out, HZs.out]) (by rw [HSXs.out]; exact size_re) HX1.out ?_) | ((with_reducible refine gate_ (Op.load TF (.tmp 24)) rfl ?_); refine wpList_load_at rfl TF (.tmp 24) rfl wr.heap.size 33 rfl TD X.toArray (blk_new wr _) E HAF.out _ huF rfl HSA.out ?_) | ((with_reducible refine gate_ (Op.load TF (.tmp 3)) rfl ?_); refine wpList_load_row rfl TF (.tmp 3) rfl (w.heap.size + 1) rfl _ _ _ _ (blk_alloc HBw.out.b1 _) huF rfl (by rw [List.size_toArray]; exact HLY.out) ?_))
          go_roundw
          case rel => exact ⟨j + 1, hlt, by go_num, ⟨HBw.out.step (below_alloc (Below.refl _ _) _), by rw [HKS.out]; exact ownD_below HKd.out (below_alloc (Below.refl _ _) _)⟩⟩
          case measure => simp [intOf]; omega
        | true =>
          rw [if_pos (of_decide_eq_true HBB.out)] at HKS
          go_upto_block 2 with (first | ((with_reducible refine gate_ (Op.load TD (.tmp 22)) rfl ?_); refine wpList_load_at rfl TD (.tmp 22) rfl g (j * 68) rfl TD cur HG.out X HAT.out _ huD rfl HSX.out ?_) | ((with_reducible refine gate_ (Op.alloc TD) rfl ?_); refine wpList_alloc_as rfl TD rfl Z HZ.out ?_) | ((with_reducible refine gate_ (Op.store TD (.tmp 7) (.tmp 23)) rfl ?_); refine wpList_store_new rfl TD (.tmp 7) (.tmp 23) rfl wr TD Z X.toArray rfl rfl rfl (by rw [HSXs.out, HZs.out]) (by rw [HSXs.out]; exact size_re) HX1.out ?_) | ((with_reducible refine gate_ (Op.load TF (.tmp 24)) rfl ?_); refine wpList_load_at rfl TF (.tmp 24) rfl wr.heap.size 33 rfl TD X.toArray (blk_new wr _) E HAF.out _ huF rfl HSA.out ?_) | ((with_reducible refine gate_ (Op.load TF (.tmp 3)) rfl ?_); refine wpList_load_row rfl TF (.tmp 3) rfl (w.heap.size + 1) rfl _ _ _ _ (blk_alloc HBw.out.b1 _) huF rfl (by rw [List.size_toArray]; exact HLY.out) ?_))
          have HW1 : Aside0 (Bk w (.slice (some ⟨g, 0, none⟩) R.length cap) D R (.slice Ak KL.length ck) KL wr.heap.size X (wr.alloc (.cells X.toArray TD))) := ⟨⟨HBw.out.step (below_alloc (Below.refl _ _) _), ownD_below HKd.out (below_alloc (Below.refl _ _) _), blk_new wr _⟩⟩
          clear HBw HKd HAT HG HSXs HX1 HAF HSA heq kr
          generalize wr.alloc (.cells X.toArray TD) = wx at *
          generalize wr.heap.size = cb at *
          go_cut [8] from 28 to 56 (fun s8 wy => (∃ k : Nat, s8 = .int .i64 k ∧ k ≤ KL.length ∧ Aside0 (posK x KL = k)) ∧ Aside0 (Bk w (.slice (some ⟨g, 0, none⟩) R.length cap) D R (.slice Ak KL.length ck) KL cb X wy))
          case first =>
            have hKN : KL.length < 90000 := by have := HKN.out; have := HL.out; omega
            go_wp2_with fail
            go_loopw [8] (fun s wy => ∃ k : Nat, s = .int .i64 k ∧ k ≤ KL.length ∧ Aside0 (∀ z ∈ KL.take k, lessI x.id z.id = true) ∧ Aside0 (Bk w (.slice (some ⟨g, 0, none⟩) R.length cap) D R (.slice Ak KL.length ck) KL cb X wy)) (fun s _ => KL.length - (intOf s).toNat)
            case atStart => exact ⟨0, rfl, Nat.zero_le _, ⟨fun z hz => by simp at hz⟩, HW1⟩
            case round =>
              clear HW1
              obtain ⟨k, rfl, hk, HAL, HW2⟩ := hrel
              by_cases hlk2 : k < KL.length
              · obtain ⟨z, hz⟩ : ∃ z, KL[k]? = some z := ⟨_, List.getElem?_eq_getElem hlk2⟩
                have HZZ := Aside0.mk hz
                obtain ⟨gk, rfl⟩ : ∃ gk, Ak = some ⟨gk, 0, none⟩ := by
                  rcases ownD_form HW2.out.kid with ⟨_, hn⟩ | ⟨gk, _, _, hv, _⟩
                  · rw [hn] at hlk2; simp at hlk2
                  · injection hv with hv; exact ⟨gk, hv⟩
                have hokz := HW2.out.kid.okr z (List.mem_of_getElem? hz)
                have HSL := Aside0.mk (fun (W : World) (h : Bk w (.slice (some ⟨g, 0, none⟩) R.length cap) D R (.slice (some ⟨gk, 0, none⟩) KL.length ck) KL cb X W) => HSLX.out W cb gk k z hz h)
                have HLS : Aside0 (∀ W, Calls Try.prog 13 #[.agg F.toArray, .agg (iv z.id).toArray] W fun e w' => e = .returned (.bool (lessI x.id z.id)) ∧ Below W.heap.size W w') := ⟨fun W => by rw [← HFX.out]; exact RLessI_calls W x.id z.id HOK.out.1 hokz.1⟩
                have HSG : Aside0 ((Try.prog.info? TF).map (·.size) = some (iv z.id).length) := ⟨by rw [iv_len hokz.1]; exact size_ref⟩
                have t8 : decide ((k : Int) < (KL.length : Int)) = true := decide_eq_true (by omega)
                have t9 : ((k : Int) < (KL.length : Int)) = True := eq_true (by omega)
                obtain ⟨b2, hb2⟩ : ∃ b, lessI x.id z.id = b := ⟨_, rfl⟩
                have HB2 := Aside0.mk hb2
                rw [hb2] at HLS
                generalize (iv z.id) = G at *
                clear hz hokz hb2
                go_upto_region 8 with fail
                -- [on
                refine start_ (n := 14) (S := SL w (.slice (some ⟨g, 0, none⟩) R.length cap) D R (.slice (some ⟨gk, 0, none⟩) KL.length ck) KL cb X F gk (k * 68) G) (ds := []) #[false, false, false, false, false, false, false, false, false, false, false, false, false, false] (by kernel_rfl) rfl rfl (HSL.out _ (HW2.out.step (pw_below_drewN (Below.refl _ _) 1))) (fun hHeld => ?_)
                generalize wr.drew = wd at hHeld ⊢
                clear HW2
                refine pure_ (i := 0) (N := some 28) (v := ?_) (a' := ?_) #[true, false, false, false, false, false, false, false, false, false, false, false, false, false] rfl rfl (by kernel_rfl) (fun _ _ _ h => h) (Or.inl ⟨by rfl, ?_⟩) ?_ ?_
                rotate_left
                · intro w'
                  go_simp
                  with_reducible rfl
                rotate_left
                · simp only [Act.put, List.setIfInBounds_toArray, List.set_cons_zero, List.set_cons_succ, i64_w, i32_w]
                  rfl
                refine pure_ (i := 1) (N := some 29) (v := ?_) (a' := ?_) #[true, true, false, false, false, false, false, false, false, false, false, false, false, false] rfl rfl (by kernel_rfl) (fun _ _ _ h => h) (Or.inl ⟨by rfl, ?_⟩) ?_ ?_
                rotate_left
                · intro w'
                  go_simp
                  with_reducible rfl
                rotate_left
                · simp only [Act.put, List.setIfInBounds_toArray, List.set_cons_zero, List.set_cons_succ, i64_w, i32_w]
                  rfl
                refine pure_ (i := 2) (N := some 30) (v := ?_) (a' := ?_) #[true, true, true, false, false, false, false, false, false, false, false, false, false, false] rfl rfl (by kernel_rfl) (fun _ _ _ h => h) (Or.inl ⟨by rfl, ?_⟩) ?_ ?_
                rotate_left
                · intro w'
                  go_simp
                  with_reducible rfl
                rotate_left
                · simp only [Act.put, List.setIfInBounds_toArray, List.set_cons_zero, List.set_cons_succ, i64_w, i32_w]
                  rfl
                refine pure_ (i := 3) (N := some 31) (v := ?_) (a' := ?_) #[true, true, true, true, false, false, false, false, false, false, false, false, false, false] rfl rfl (by kernel_rfl) (fun _ _ _ h => h) (Or.inl ⟨by rfl, ?_⟩) ?_ ?_
                rotate_left
                · intro w'
                  go_simp
                  with_reducible rfl
                rotate_left
                · simp only [Act.put, List.setIfInBounds_toArray, List.set_cons_zero, List.set_cons_succ, i64_w, i32_w]
                  rfl
                refine pure_ (i := 4) (N := some 32) (v := ?_) (a' := ?_) #[true, true, true, true, true, false, false, false, false, false, false, false, false, false] rfl rfl (by kernel_rfl) (fun _ _ _ h => h) (Or.inl ⟨by rfl, ?_⟩) ?_ ?_
                rotate_left
                · intro w'
                  go_simp
                  with_reducible rfl
                rotate_left
                · simp only [Act.put, List.setIfInBounds_toArray, List.set_cons_zero, List.set_cons_succ, i64_w, i32_w]
                  rfl
                refine pure_ (i := 5) (N := some 33) (v := ?_) (a' := ?_) #[true, true, true, true, true, true, false, false, false, false, false, false, false, false] rfl rfl (by kernel_rfl) (fun _ _ _ h => h) (Or.inl ⟨by rfl, ?_⟩) ?_ ?_
                rotate_left
                · intro w'
                  go_simp
                  with_reducible rfl
                rotate_left
                · simp only [Act.put, List.setIfInBounds_toArray, List.set_cons_zero, List.set_cons_succ, i64_w, i32_w]
                  rfl
                refine take_ (i := 6) (N := some 34) (v := .agg F.toArray) (a' := ?_) #[true, true, true, true, true, true, true, false, false, false, false, false, false, false] rfl rfl (by kernel_rfl) (fun _ _ _ h => h) (yieldsIf_load_mid (by rfl) TF (.tmp 33) rfl cb 0 rfl F _ (fun w' hS => hS.1) huF rfl HSF.out) hHeld ?_ ?_
                rotate_left
                · simp only [Act.put, List.setIfInBounds_toArray, List.set_cons_zero, List.set_cons_succ, i64_w, i32_w]
                  rfl
                refine pure_ (i := 7) (N := some 35) (v := ?_) (a' := ?_) #[true, true, true, true, true, true, true, true, false, false, false, false, false, false] rfl rfl (by kernel_rfl) (fun _ _ _ h => h) (Or.inl ⟨by rfl, ?_⟩) ?_ ?_
                rotate_left
                · intro w'
                  go_simp
                  with_reducible rfl
                rotate_left
                · simp only [Act.put, List.setIfInBounds_toArray, List.set_cons_zero, List.set_cons_succ, i64_w, i32_w]
                  rfl
                refine pure_ (i := 8) (N := some 36) (v := ?_) (a' := ?_) #[true, true, true, true, true, true, true, true, true, false, false, false, false, false] rfl rfl (by kernel_rfl) (fun _ _ _ h => h) (Or.inl ⟨by rfl, ?_⟩) ?_ ?_
                rotate_left
                · intro w'
                  go_simp
                  with_reducible rfl
                rotate_left
                · simp only [Act.put, List.setIfInBounds_toArray, List.set_cons_zero, List.set_cons_succ, i64_w, i32_w]
                  rfl
                refine pure_ (i := 9) (N := some 37) (v := .pointer (some ⟨gk, k * 68, none⟩)) (a' := ?_) #[true, true, true, true, true, true, true, true, true, true, false, false, false, false] rfl rfl (by kernel_rfl) (fun _ _ _ h => h) (Or.inl ⟨by rfl, ?_⟩) ?_ ?_
                · intro w'
                  go_simp
                  try simp
                rotate_left
                · simp only [Act.put, List.setIfInBounds_toArray, List.set_cons_zero, List.set_cons_succ, i64_w, i32_w]
                  rfl
                refine pure_ (i := 10) (N := some 38) (v := ?_) (a' := ?_) #[true, true, true, true, true, true, true, true, true, true, true, false, false, false] rfl rfl (by kernel_rfl) (fun _ _ _ h => h) (Or.inl ⟨by rfl, ?_⟩) ?_ ?_
                rotate_left
                · intro w'
                  go_simp
                  with_reducible rfl
                rotate_left
                · simp only [Act.put, List.setIfInBounds_toArray, List.set_cons_zero, List.set_cons_succ, i64_w, i32_w]
                  rfl
                refine take_ (i := 11) (N := some 39) (v := .agg G.toArray) (a' := ?_) #[true, true, true, true, true, true, true, true, true, true, true, true, false, false] rfl rfl (by kernel_rfl) (fun _ _ _ h => h) (yieldsIf_load_mid (by rfl) TF (.tmp 38) rfl gk (k * 68) rfl G _ (fun w' hS => hS.2.1) huF rfl HSG.out) hHeld ?_ ?_
                rotate_left
                · simp only [Act.put, List.setIfInBounds_toArray, List.set_cons_zero, List.set_cons_succ, i64_w, i32_w]
                  rfl
                refine one_ (i := 12) (N := some 40) #[true, true, true, true, true, true, true, true, true, true, true, true, true, false] rfl rfl (by kernel_rfl) (by decide) (fun K hK => ?_)
                refine goes_ Try.func13 (by kernel_rfl) rfl #[.agg F.toArray, .agg G.toArray] (by rfl) rfl rfl (by first | rfl | (simp only [List.map_toArray, List.map_cons, List.map_nil]; done) | (simp only [List.map_toArray, List.map_cons, List.map_nil]; rfl)) ?_
                refine (HLS.out wd).mono ?_
                rintro e1 w2 ⟨rfl, hb2⟩
                refine ⟨_, rfl, ?_⟩
                have hS2 := HSL.out w2 (hHeld.2.2.out.step hb2)
                clear hb2 hHeld
                refine hK.out _ _ hS2 (fun hHeld => ?_)
                clear hK hS2
                refine norm_ (a' := ?_) ?_ ?_
                rotate_left
                · show Act.put _ (some 40) _ = _
                  simp only [Act.put, List.setIfInBounds_toArray, List.set_cons_zero, List.set_cons_succ, i64_w, i32_w]
                  rfl
                refine pure_ (i := 13) (N := some 41) (v := ?_) (a' := ?_) #[true, true, true, true, true, true, true, true, true, true, true, true, true, true] rfl rfl (by kernel_rfl) (fun _ _ _ h => h) (Or.inl ⟨by rfl, ?_⟩) ?_ ?_
                rotate_left
                · intro w'
                  go_simp
                  with_reducible rfl
                rotate_left
                · simp only [Act.put, List.setIfInBounds_toArray, List.set_cons_zero, List.set_cons_succ, i64_w, i32_w]
                  rfl
                refine done_ (by kernel_rfl) ?_
                -- on]
                have HW3 := hHeld.2.2
                clear hHeld HSL HLS
                cases b2 with
                | true =>
                  go_wp2_with fail
                  go_roundw
                  case rel =>
                    refine ⟨k + 1, by go_num, hlk2, ⟨fun q hq => ?_⟩, HW3⟩
                    rw [List.take_add_one, HZZ.out] at hq
                    rcases List.mem_append.1 hq with hq | hq
                    · exact HAL.out q hq
                    · obtain rfl : q = z := by simpa using hq
                      exact HB2.out
                  case measure => simp [intOf]; omega
                | false =>
                  go_wp2_with fail
                  go_meet
                  exact ⟨⟨k, rfl, hk, ⟨pos_at HAL.out HZZ.out HB2.out⟩⟩, HW3⟩
              · obtain rfl : k = KL.length := by omega
                have t8 : decide ((KL.length : Int) < (KL.length : Int)) = false := decide_eq_false (by omega)
                go_upto_region 8 with fail
                -- [off
                refine start_ (n := 14) (S := SK w (.slice (some ⟨g, 0, none⟩) R.length cap) D R (.slice Ak KL.length ck) KL cb X) (ds := []) #[false, false, false, false, false, false, false, false, false, false, false, false, false, false] (by kernel_rfl) rfl rfl (sk_of (HW2.out.step (pw_below_drewN (Below.refl _ _) 1))) (fun hHeld => ?_)
                generalize wr.drew = wd at hHeld ⊢
                clear HW2
                refine pure_ (i := 0) (N := some 28) (v := ?_) (a' := ?_) #[true, false, false, false, false, false, false, false, false, false, false, false, false, false] rfl rfl (by kernel_rfl) (fun _ _ _ h => h) (Or.inl ⟨by rfl, ?_⟩) ?_ ?_
                rotate_left
                · intro w'
                  go_simp
                  with_reducible rfl
                rotate_left
                · simp only [Act.put, List.setIfInBounds_toArray, List.set_cons_zero, List.set_cons_succ, i64_w, i32_w]
                  rfl
                refine pure_ (i := 1) (N := some 29) (v := ?_) (a' := ?_) #[true, true, false, false, false, false, false, false, false, false, false, false, false, false] rfl rfl (by kernel_rfl) (fun _ _ _ h => h) (Or.inl ⟨by rfl, ?_⟩) ?_ ?_
                rotate_left
                · intro w'
                  go_simp
                  with_reducible rfl
                rotate_left
                · simp only [Act.put, List.setIfInBounds_toArray, List.set_cons_zero, List.set_cons_succ, i64_w, i32_w]
                  rfl
                refine pure_ (i := 2) (N := some 30) (v := ?_) (a' := ?_) #[true, true, true, false, false, false, false, false, false, false, false, false, false, false] rfl rfl (by kernel_rfl) (fun _ _ _ h => h) (Or.inl ⟨by rfl, ?_⟩) ?_ ?_
                rotate_left
                · intro w'
                  go_simp
                  with_reducible rfl
                rotate_left
                · simp only [Act.put, List.setIfInBounds_toArray, List.set_cons_zero, List.set_cons_succ, i64_w, i32_w]
                  rfl
                refine pure_ (i := 3) (N := some 31) (v := ?_) (a' := ?_) #[true, true, true, true, false, false, false, false, false, false, false, false, false, false] rfl rfl (by kernel_rfl) (fun _ _ _ h => h) (Or.inl ⟨by rfl, ?_⟩) ?_ ?_
                rotate_left
                · intro w'
                  go_simp
                  with_reducible rfl
                rotate_left
                · simp only [Act.put, List.setIfInBounds_toArray, List.set_cons_zero, List.set_cons_succ, i64_w, i32_w]
                  rfl
                refine pure_ (i := 4) (N := some 32) (v := ?_) (a' := ?_) #[true, true, true, true, true, false, false, false, false, false, false, false, false, false] rfl rfl (by kernel_rfl) (fun _ _ _ h => h) (Or.inl ⟨by rfl, ?_⟩) ?_ ?_
                rotate_left
                · intro w'
                  go_simp
                  with_reducible rfl
                rotate_left
                · simp only [Act.put, List.setIfInBounds_toArray, List.set_cons_zero, List.set_cons_succ, i64_w, i32_w]
                  rfl
                refine pure_ (i := 5) (N := some 33) (v := undef) (a' := ?_) #[true, true, true, true, true, true, false, false, false, false, false, false, false, false] rfl rfl (by kernel_rfl) (fun _ _ _ h => h) (Or.inr ⟨by rfl, rfl⟩) ?_ ?_
                rotate_left
                · simp only [Act.put, List.setIfInBounds_toArray, List.set_cons_zero, List.set_cons_succ, i64_w, i32_w]
                  rfl
                refine pure_ (i := 6) (N := some 34) (v := undef) (a' := ?_) #[true, true, true, true, true, true, true, false, false, false, false, false, false, false] rfl rfl (by kernel_rfl) (fun _ _ _ h => h) (Or.inr ⟨by rfl, rfl⟩) ?_ ?_
                rotate_left
                · simp only [Act.put, List.setIfInBounds_toArray, List.set_cons_zero, List.set_cons_succ, i64_w, i32_w]
                  rfl
                refine pure_ (i := 7) (N := some 35) (v := undef) (a' := ?_) #[true, true, true, true, true, true, true, true, false, false, false, false, false, false] rfl rfl (by kernel_rfl) (fun _ _ _ h => h) (Or.inr ⟨by rfl, rfl⟩) ?_ ?_
                rotate_left
                · simp only [Act.put, List.setIfInBounds_toArray, List.set_cons_zero, List.set_cons_succ, i64_w, i32_w]
                  rfl
                refine pure_ (i := 8) (N := some 36) (v := undef) (a' := ?_) #[true, true, true, true, true, true, true, true, true, false, false, false, false, false] rfl rfl (by kernel_rfl) (fun _ _ _ h => h) (Or.inr ⟨by rfl, rfl⟩) ?_ ?_
                rotate_left
                · simp only [Act.put, List.setIfInBounds_toArray, List.set_cons_zero, List.set_cons_succ, i64_w, i32_w]
                  rfl
                refine pure_ (i := 9) (N := some 37) (v := undef) (a' := ?_) #[true, true, true, true, true, true, true, true, true, true, false, false, false, false] rfl rfl (by kernel_rfl) (fun _ _ _ h => h) (Or.inr ⟨by rfl, rfl⟩) ?_ ?_
                rotate_left
                · simp only [Act.put, List.setIfInBounds_toArray, List.set_cons_zero, List.set_cons_succ, i64_w, i32_w]
                  rfl
                refine pure_ (i := 10) (N := some 38) (v := undef) (a' := ?_) #[true, true, true, true, true, true, true, true, true, true, true, false, false, false] rfl rfl (by kernel_rfl) (fun _ _ _ h => h) (Or.inr ⟨by rfl, rfl⟩) ?_ ?_
                rotate_left
                · simp only [Act.put, List.setIfInBounds_toArray, List.set_cons_zero, List.set_cons_succ, i64_w, i32_w]
                  rfl
                refine pure_ (i := 11) (N := some 39) (v := undef) (a' := ?_) #[true, true, true, true, true, true, true, true, true, true, true, true, false, false] rfl rfl (by kernel_rfl) (fun _ _ _ h => h) (Or.inr ⟨by rfl, rfl⟩) ?_ ?_
                rotate_left
                · simp only [Act.put, List.setIfInBounds_toArray, List.set_cons_zero, List.set_cons_succ, i64_w, i32_w]
                  rfl
                refine one_ (i := 12) (N := some 40) #[true, true, true, true, true, true, true, true, true, true, true, true, true, false] rfl rfl (by kernel_rfl) (by decide) (fun K hK => ?_)
                refine off_ (by rfl) ?_
                refine hK.out _ _ hHeld (fun hHeld => ?_)
                clear hK
                refine norm_ (a' := ?_) ?_ ?_
                rotate_left
                · show Act.put _ (some 40) _ = _
                  simp only [Act.put, List.setIfInBounds_toArray, List.set_cons_zero, List.set_cons_succ, i64_w, i32_w]
                  rfl
                refine pure_ (i := 13) (N := some 41) (v := ?_) (a' := ?_) #[true, true, true, true, true, true, true, true, true, true, true, true, true, true] rfl rfl (by kernel_rfl) (fun _ _ _ h => h) (Or.inl ⟨by rfl, ?_⟩) ?_ ?_
                rotate_left
                · intro w'
                  go_simp
                  with_reducible rfl
                rotate_left
                · simp only [Act.put, List.setIfInBounds_toArray, List.set_cons_zero, List.set_cons_succ, i64_w, i32_w]
                  rfl
                refine done_ (by kernel_rfl) ?_
                -- off]
                have HW3 := hHeld.2
                clear hHeld
                go_wp2_with fail
                go_meet
                exact ⟨⟨KL.length, rfl, hk, ⟨pos_end HAL.out⟩⟩, HW3⟩
          case rest =>
            obtain ⟨⟨k, rfl, hk, HPK⟩, HW3⟩ := hcut
            clear HW1 HSLX
            have HTO := Aside0.mk (fun W => sliceD_to (A := Ak) (m := KL.length) (c := ck) (k := k) (by omega) W)
            have HCT : Aside0 (∀ W, OwnD W (w.heap.size + 1 + 1) (.slice Ak KL.length ck) KL → KD.C W Ak k (KL.take k)) := ⟨fun W hW => by
              have := Kd.C_take (Kd.R_reads' hW).2.2 hk
              rwa [show (KL.take k).length = k by rw [List.length_take]; omega] at this⟩
            have HKL : Aside0 (k < 200000) := ⟨by have := HKN.out; have := HL.out; omega⟩
            have HKT : Aside0 ((KL.take k).length < 200000) := ⟨by rw [List.length_take]; have := HKL.out; omega⟩
            go_upto_region 11 with fail
            -- [next
            refine start_ (n := 9) (S := SK w (.slice (some ⟨g, 0, none⟩) R.length cap) D R (.slice Ak KL.length ck) KL cb X) (ds := []) #[false, false, false, false, false, false, false, false, false] (by kernel_rfl) rfl rfl (sk_of (HW3.out.step (pw_below_drewN (Below.refl _ _) 1))) (fun hHeld => ?_)
            generalize wc.drew = wd at hHeld ⊢
            clear HW3
            refine pure_ (i := 0) (N := some 44) (v := ?_) (a' := ?_) #[true, false, false, false, false, false, false, false, false] rfl rfl (by kernel_rfl) (fun _ _ _ h => h) (Or.inl ⟨by rfl, ?_⟩) ?_ ?_
            rotate_left
            · intro w'
              go_simp
              with_reducible rfl
            rotate_left
            · simp only [Act.put, List.setIfInBounds_toArray, List.set_cons_zero, List.set_cons_succ, i64_w, i32_w]
              rfl
            refine pure_ (i := 1) (N := some 45) (v := ?_) (a' := ?_) #[true, true, false, false, false, false, false, false, false] rfl rfl (by kernel_rfl) (fun _ _ _ h => h) (Or.inl ⟨by rfl, ?_⟩) ?_ ?_
            rotate_left
            · intro w'
              go_simp
              with_reducible rfl
            rotate_left
            · simp only [Act.put, List.setIfInBounds_toArray, List.set_cons_zero, List.set_cons_succ, i64_w, i32_w]
              rfl
            refine pure_ (i := 2) (N := some 46) (v := ?_) (a' := ?_) #[true, true, true, false, false, false, false, false, false] rfl rfl (by kernel_rfl) (fun _ _ _ h => h) (Or.inl ⟨by rfl, ?_⟩) ?_ ?_
            rotate_left
            · intro w'
              go_simp
              with_reducible rfl
            rotate_left
            · simp only [Act.put, List.setIfInBounds_toArray, List.set_cons_zero, List.set_cons_succ, i64_w, i32_w]
              rfl
            refine pure_ (i := 3) (N := some 47) (v := .slice Ak k ck) (a' := ?_) #[true, true, true, true, false, false, false, false, false] rfl rfl (by kernel_rfl) (fun _ _ _ h => h) (Or.inl ⟨by rfl, ?_⟩) ?_ ?_
            · intro w'
              have := HTO.out w'
              go_simp
            rotate_left
            · simp only [Act.put, List.setIfInBounds_toArray, List.set_cons_zero, List.set_cons_succ, i64_w, i32_w]
              rfl
            refine take_ (i := 5) (N := some 49) (v := .agg X.toArray) (a' := ?_) #[true, true, true, true, false, true, false, false, false] rfl rfl (by kernel_rfl) (fun _ _ _ h => h) (yieldsIf_load_mid (by rfl) TD (.tmp 7) rfl cb 0 rfl X _ (fun w' hS => hS.1) huD rfl HSX.out) hHeld ?_ ?_
            rotate_left
            · simp only [Act.put, List.setIfInBounds_toArray, List.set_cons_zero, List.set_cons_succ, i64_w, i32_w]
              rfl
            have hB := hHeld.2.out
            have hCC := HCT.out _ hB.kid
            refine join_ (σ := Value × Nat) 2 #[true, true, true, true, true, true, true, false, false] (fun s => [(48, s.1), (50, .slice (some ⟨s.2, 0, none⟩) 1 1)]) (fun s w' => Aside0 (Fz wd (KL.take k) X s.1 s.2 w')) ?_ ?_
            rotate_left
            · intro HJ
              refine two_ (i := 4) (j := 6) (Ni := some 48) (Nj := some 50) #[true, true, true, true, true, true, false, false, false] #[true, true, true, true, false, true, true, false, false] rfl rfl rfl rfl (by kernel_rfl) (by decide) (by decide) (fun K1 hK => ?_) (fun K1 hK => ?_)
              · refine appD_nil_step (by rfl) (.tmp 44) (.tmp 47) rfl rfl (KL.take k) Ak k ck hCC HKL.out rfl rfl (fun v1 w3 ho hb => ?_)
                refine hK.out _ _ (sk_of (hB.step hb)) (fun _ => ?_)
                refine one_ (i := 6) (N := some 50) #[true, true, true, true, true, true, true, false, false] rfl rfl (by kernel_rfl) (by decide) (fun K2 hK2 => ?_)
                refine value_ (N := some 50) (by rfl) rfl (HBS.out _ _ _ _ rfl rfl) ?_
                have hF := fz_a (X := X) ho hb
                refine hK2.out _ _ (sk_of (hB.step hF.bel)) (fun _ => ?_)
                refine norm_ (a' := _) ?_ (HJ (v1, w3.heap.size) _ ⟨hF⟩)
                simp only [putAll, Act.put, List.setIfInBounds_toArray, List.set_cons_zero, List.set_cons_succ, i64_w, i32_w]
              · refine value_ (N := some 50) (by rfl) rfl (HBS.out _ _ _ _ rfl rfl) ?_
                have hb0 : Below wd.heap.size wd (wd.alloc (.cells X.toArray TD)) := below_alloc (Below.refl _ _) _
                refine hK.out _ _ (sk_of (hB.step hb0)) (fun _ => ?_)
                refine one_ (i := 4) (N := some 48) #[true, true, true, true, true, true, true, false, false] rfl rfl (by kernel_rfl) (by decide) (fun K2 hK2 => ?_)
                refine appD_nil_step (by rfl) (.tmp 44) (.tmp 47) rfl rfl (KL.take k) Ak k ck (HCT.out _ (hB.step hb0).kid) HKL.out rfl rfl (fun v1 w3 ho hb => ?_)
                have hF := fz_b ho hb
                refine hK2.out _ _ (sk_of (hB.step hF.bel)) (fun _ => ?_)
                refine norm_ (a' := _) ?_ (HJ (v1, wd.heap.size) _ ⟨hF⟩)
                simp only [putAll, Act.put, List.setIfInBounds_toArray, List.set_cons_zero, List.set_cons_succ, i64_w, i32_w]
            rintro ⟨v1, gv⟩ w3 HF
            refine norm_ (a' := ?_) ?_ ?_
            rotate_left
            · simp only [putAll]
              simp only [Act.put, List.setIfInBounds_toArray, List.set_cons_zero, List.set_cons_succ, i64_w, i32_w]
              rfl
            clear hHeld hCC
            refine one_ (i := 7) (N := some 51) #[true, true, true, true, true, true, true, true, false] rfl rfl (by kernel_rfl) (by decide) (fun K hK => ?_)
            refine appD_more_step (w0 := wd) wd.heap.size (by rfl) (.tmp 48) (.tmp 50) rfl rfl _ (some ⟨gv, 0, none⟩) 1 1 HF.out.own (HON.out _ _ HF.out.blk) HKT.out (by omega) rfl rfl HF.out.bel HF.out.bel.size (fun v2 w4 ho hb => ?_)
            have HB5 := Aside0.mk (hB.step hb)
            have HO5 := Aside0.mk ho
            have HWD := Aside0.mk hb
            have HB0 := Aside0.mk hB
            have HSZ : Aside0 (w.heap.size + 1 + 1 ≤ wd.heap.size) := ⟨hB.bw.size⟩
            have hS2 := sk_of HB5.out
            clear HF hB hb
            refine hK.out _ _ hS2 (fun hHeld => ?_)
            clear hK hS2
            clear ho hHeld
            refine norm_ (a' := ?_) ?_ ?_
            rotate_left
            · show Act.put _ (some 51) _ = _
              simp only [Act.put, List.setIfInBounds_toArray, List.set_cons_zero, List.set_cons_succ, i64_w, i32_w]
              rfl
            refine pure_ (i := 8) (N := some 9) (v := ?_) (a' := ?_) #[true, true, true, true, true, true, true, true, true] rfl rfl (by kernel_rfl) (fun _ _ _ h => h) (Or.inl ⟨by rfl, ?_⟩) ?_ ?_
            rotate_left
            · intro w'
              go_simp
              with_reducible rfl
            rotate_left
            · simp only [Act.put, List.setIfInBounds_toArray, List.set_cons_zero, List.set_cons_succ, i64_w, i32_w]
              rfl
            refine done_ (by kernel_rfl) ?_
            -- next]
            have hk0 := hk
            obtain ⟨A2, c2, rfl, hl2, -⟩ := Kd.R_reads HO5.out
            have hsl := fun W => sliceD_from (A := Ak) (m := KL.length) (c := ck) (k := k) hk (fun e => by
              subst e
              rcases ownD_form HB5.out.kid with ⟨hv, _⟩ | ⟨_, _, _, hv, _⟩
              · injection hv
              · cases hv) hlk W
            have hCd := Kd.C_drop (Kd.R_reads' HB5.out.kid).2.2 hk hlk
            have hld : (KL.drop k).length = KL.length - k := List.length_drop
            rw [hld] at hCd
            have HCD := Aside0.mk hCd
            have HLD : Aside0 (KL.length - k < 200000) := ⟨by have := HKN.out; have := HL.out; omega⟩
            have HLT : Aside0 ((KL.take k ++ [x]).length < 200000) := ⟨by rw [List.length_append]; have := HKT.out; simp only [List.length_singleton]; have := HKN.out; have := HL.out; have : (KL.take k).length ≤ KL.length := List.length_take_le' k KL; omega⟩
            have HIN : Aside0 (kidsF (R.take (j + 1)) y = KL.take k ++ [x] ++ KL.drop k) := ⟨by rw [HKS.out, insR, HPK.out]⟩
            generalize (if ck = k then Ak else Ak.map (·.add (k * KD.sz))) = Ad at hsl HCD
            generalize (KL.take k ++ [x]) = KT at HO5 HLT HIN hl2 ⊢
            clear hk0 hCd hld HTO HCT HKL HKT HON HBS HPK
            go_wp2_with ((with_reducible refine gate_builtin (b := .append) (xs := #[.tmp 52, .tmp 55]) rfl ?_); at_builtin; refine appD_more (w0 := wd) wd.heap.size rfl (.tmp 52) (.tmp 55) rfl (KL.drop k) Ad (KL.length - k) (ck - k) HO5.out HCD.out HLT.out HLD.out rfl rfl HWD.out HWD.out.size ?_; intro v3 w5 ho hb _ _; have HO6 := Aside0.mk ho; have HWE := Aside0.mk hb; clear ho hb)
            go_roundw
            case rel =>
              have hown : OwnD w5 (w.heap.size + 1 + 1) v3 (kidsF (R.take (j + 1)) y) := by
                rw [HIN.out]
                exact ownD_low HO6.out HSZ.out
              exact ⟨j + 1, hlt, by go_num, ⟨HB0.out.bw.step HWE.out, hown⟩⟩
            case measure => simp [intOf]; omega
      · obtain rfl : j = R.length := by omega
        obtain ⟨KL, hK⟩ : ∃ KL, kidsF (R.take R.length) y = KL := ⟨_, rfl⟩
        rw [hK] at HKd HKN hlk ⊢
        rw [List.take_of_length_le (Nat.le_refl _)] at hK
        have HKE := Aside0.mk hK
        clear hK
        go_wp2_with fail
        go_meet
        exact ⟨⟨HBw.out, by rw [HKE.out]; exact HKd.out⟩⟩
  case rest =>
    obtain ⟨HBw0, HKd0⟩ := hcut.out
    obtain ⟨Ak, ck, rfl, hlk, -⟩ := Kd.R_reads HKd0
    have hKN := kids_len R y
    obtain ⟨KL, hK⟩ : ∃ KL, kidsF R y = KL := ⟨_, rfl⟩
    have hbl : belowF (n + 1) R y = KL.flatMap fun c => c :: belowF n R c.id := by rw [← hK]; rfl
    have HKI : Aside0 (∀ c ∈ KL, okR c) := ⟨by rw [hK] at HKd0; exact HKd0.okr⟩
    rw [hK] at HIH HKd0 hlk hKN ⊢
    have HBL := Aside0.mk hbl
    rw [hbl] at HLEN
    have HB := Aside0.mk HBw0
    have HKd := Aside0.mk HKd0
    have HKN := Aside0.mk hKN
    have huE := Try.underlying48
    have hsE : (Try.prog.info? TE).map (·.size) = some [(.slice (some ⟨g, 0, none⟩) R.length cap : Value)].length := by kernel_rfl
    clear HBw0 HKd0 hK hbl hcut hKN
    have hKL : KL.length < 90000 := by have := HKN.out; have := HL.out; omega
    go_wp2_with fail
    go_loopw [10, 11] (fun ov s wr => ∃ i : Nat, i ≤ KL.length ∧ s = .int .i64 i ∧ Aside0 (Below wc.heap.size wc wr) ∧ Aside0 (OwnD wr wc.heap.size ov ((KL.take i).flatMap fun c => c :: belowF n R c.id))) (fun _ s _ => KL.length - (intOf s).toNat)
    case atStart => exact ⟨0, by omega, rfl, ⟨Below.refl _ _⟩, ⟨Kd.R_nil _ _ _ _ _⟩⟩
    case round =>
      obtain ⟨i, hi, rfl, HBH, HO⟩ := hrel
      by_cases hlt : i < KL.length
      · obtain ⟨x, hx⟩ : ∃ x, KL[i]? = some x := ⟨_, List.getElem?_eq_getElem hlt⟩
        have hok := HKI.out x (List.mem_of_getElem? hx)
        obtain ⟨gk, rfl⟩ : ∃ gk, Ak = some ⟨gk, 0, none⟩ := by
          rcases ownD_form HKd.out with ⟨_, hn⟩ | ⟨gk, _, _, hv, _⟩
          · rw [hn] at hlt; simp at hlt
          · injection hv with hv; exact ⟨gk, hv⟩
        have HSX : Aside0 ((Try.prog.info? TD).map (·.size) = some (re x).length) := ⟨by rw [re_len hok]; exact size_re⟩
        have HSF : Aside0 ((Try.prog.info? TF).map (·.size) = some (iv x.id).length) := ⟨by rw [iv_len hok.1]; exact size_ref⟩
        have HON : Aside0 (∀ (W : World) (gv : Nat), W.heap[gv]? = some (.cells (re x).toArray TD (0, 0)) → KD.C W (some ⟨gv, 0, none⟩) 1 [x]) := ⟨fun W gv hg => one_cellD hok hg⟩
        have HBS : Aside0 (∀ (o : Oper) (b : Act) (W : World) (q : Operand), o.op = .buildSlice TDs 1 #[(0, q)] → b.eval q = .agg (re x).toArray → (execOp b.eval o).run Try.prog W = .ok (.value (.slice (some ⟨W.heap.size, 0, none⟩) 1 1)) (W.alloc (.cells (re x).toArray TD))) := ⟨fun o b W q ho hb => exec_bsliceD x hok q ho hb⟩
        have HIC := Aside0.mk (HIH.out x (List.mem_of_getElem? hx))
        have HSB := Aside0.mk (fun (W : World) (h : Below wc.heap.size wc W) => so17_of hx HB.out HKd.out h)
        have hll := told_len HLEN.out hx
        have HOL : Aside0 (((KL.take i).flatMap fun c => c :: belowF n R c.id).length < 200000) := ⟨by omega⟩
        have HSL2 : Aside0 ((belowF n R x.id).length < 200000) := ⟨by omega⟩
        have HOL2 : Aside0 ((((KL.take i).flatMap fun c => c :: belowF n R c.id) ++ [x]).length < 200000) := ⟨by rw [List.length_append, List.length_singleton]; omega⟩
        have HTS := Aside0.mk (told_step (n := n) (R := R) hx)
        have t8 : decide ((i : Int) < (KL.length : Int)) = true := decide_eq_true (by omega)
        have t9 : ((i : Int) < (KL.length : Int)) = True := eq_true (by omega)
        generalize ((KL.take i).flatMap fun c => c :: belowF n R c.id) = T at HO HOL HOL2 HTS
        generalize (belowF n R x.id) = B at HIC HSL2 HTS
        obtain ⟨X, hX⟩ : ∃ X, re x = X := ⟨_, rfl⟩
        obtain ⟨F, hF⟩ : ∃ F, iv x.id = F := ⟨_, rfl⟩
        rw [hX] at HSX HON HBS HSB
        rw [hF] at HSF HIC HSB
        clear hx hok hll hX hF
        obtain ⟨Ao, co, rfl, -, -⟩ := Kd.R_reads HO.out
        go_upto_region 17 with fail
        -- [out
        refine start_ (n := 16) (S := SO17 w (.slice (some ⟨g, 0, none⟩) R.length cap) D R wc gk (i * 68) X F) (ds := []) #[false, false, false, false, false, false, false, false, false, false, false, false, false, false, false, false] (by kernel_rfl) rfl rfl (HSB.out _ (below_step HBH.out (pw_below_drewN (Below.refl _ _) 1))) (fun hHeld => ?_)
        have HO7 := Aside0.mk (ownD_below HO.out (pw_below_drewN (Below.refl _ _) 1))
        rw [show wr.drewN 1 = wr.drew from rfl] at HO7
        generalize wr.drew = wd at hHeld HO7 ⊢
        clear HBH HO
        refine pure_ (i := 0) (N := some 63) (v := ?_) (a' := ?_) #[true, false, false, false, false, false, false, false, false, false, false, false, false, false, false, false] rfl rfl (by kernel_rfl) (fun _ _ _ h => h) (Or.inl ⟨by rfl, ?_⟩) ?_ ?_
        rotate_left
        · intro w'
          go_simp
          with_reducible rfl
        rotate_left
        · simp only [Act.put, List.setIfInBounds_toArray, List.set_cons_zero, List.set_cons_succ, i64_w, i32_w]
          rfl
        refine pure_ (i := 1) (N := some 64) (v := ?_) (a' := ?_) #[true, true, false, false, false, false, false, false, false, false, false, false, false, false, false, false] rfl rfl (by kernel_rfl) (fun _ _ _ h => h) (Or.inl ⟨by rfl, ?_⟩) ?_ ?_
        rotate_left
        · intro w'
          go_simp
          with_reducible rfl
        rotate_left
        · simp only [Act.put, List.setIfInBounds_toArray, List.set_cons_zero, List.set_cons_succ, i64_w, i32_w]
          rfl
        refine pure_ (i := 2) (N := some 65) (v := ?_) (a' := ?_) #[true, true, true, false, false, false, false, false, false, false, false, false, false, false, false, false] rfl rfl (by kernel_rfl) (fun _ _ _ h => h) (Or.inl ⟨by rfl, ?_⟩) ?_ ?_
        rotate_left
        · intro w'
          go_simp
          with_reducible rfl
        rotate_left
        · simp only [Act.put, List.setIfInBounds_toArray, List.set_cons_zero, List.set_cons_succ, i64_w, i32_w]
          rfl
        refine pure_ (i := 3) (N := some 66) (v := .pointer (some ⟨gk, i * 68, none⟩)) (a' := ?_) #[true, true, true, true, false, false, false, false, false, false, false, false, false, false, false, false] rfl rfl (by kernel_rfl) (fun _ _ _ h => h) (Or.inl ⟨by rfl, ?_⟩) ?_ ?_
        · intro w'
          go_simp
          try simp
        rotate_left
        · simp only [Act.put, List.setIfInBounds_toArray, List.set_cons_zero, List.set_cons_succ, i64_w, i32_w]
          rfl
        refine take_ (i := 4) (N := some 67) (v := .agg X.toArray) (a' := ?_) #[true, true, true, true, true, false, false, false, false, false, false, false, false, false, false, false] rfl rfl (by kernel_rfl) (fun _ _ _ h => h) (yieldsIf_load_mid (by rfl) TD (.tmp 66) rfl gk (i * 68) rfl X _ (fun w' hS => hS.1) huD rfl HSX.out) hHeld ?_ ?_
        rotate_left
        · simp only [Act.put, List.setIfInBounds_toArray, List.set_cons_zero, List.set_cons_succ, i64_w, i32_w]
          rfl
        refine take_ (i := 7) (N := some 70) (v := .agg #[.slice (some ⟨g, 0, none⟩) R.length cap]) (a' := ?_) #[true, true, true, true, true, false, false, true, false, false, false, false, false, false, false, false] rfl rfl (by kernel_rfl) (fun _ _ _ h => h) (yieldsIf_load_mid (by rfl) TE (.tmp 2) rfl w.heap.size 0 rfl [.slice (some ⟨g, 0, none⟩) R.length cap] _ (fun w' hS => hS.2.1) huE rfl hsE) hHeld ?_ ?_
        rotate_left
        · simp only [Act.put, List.setIfInBounds_toArray, List.set_cons_zero, List.set_cons_succ, i64_w, i32_w]
          rfl
        refine pure_ (i := 8) (N := some 71) (v := ?_) (a' := ?_) #[true, true, true, true, true, false, false, true, true, false, false, false, false, false, false, false] rfl rfl (by kernel_rfl) (fun _ _ _ h => h) (Or.inl ⟨by rfl, ?_⟩) ?_ ?_
        rotate_left
        · intro w'
          go_simp
          with_reducible rfl
        rotate_left
        · simp only [Act.put, List.setIfInBounds_toArray, List.set_cons_zero, List.set_cons_succ, i64_w, i32_w]
          rfl
        refine pure_ (i := 9) (N := some 72) (v := ?_) (a' := ?_) #[true, true, true, true, true, false, false, true, true, true, false, false, false, false, false, false] rfl rfl (by kernel_rfl) (fun _ _ _ h => h) (Or.inl ⟨by rfl, ?_⟩) ?_ ?_
        rotate_left
        · intro w'
          go_simp
          with_reducible rfl
        rotate_left
        · simp only [Act.put, List.setIfInBounds_toArray, List.set_cons_zero, List.set_cons_succ, i64_w, i32_w]
          rfl
        refine pure_ (i := 10) (N := some 73) (v := .pointer (some ⟨gk, i * 68, none⟩)) (a' := ?_) #[true, true, true, true, true, false, false, true, true, true, true, false, false, false, false, false] rfl rfl (by kernel_rfl) (fun _ _ _ h => h) (Or.inl ⟨by rfl, ?_⟩) ?_ ?_
        · intro w'
          go_simp
          try simp
        rotate_left
        · simp only [Act.put, List.setIfInBounds_toArray, List.set_cons_zero, List.set_cons_succ, i64_w, i32_w]
          rfl
        refine pure_ (i := 11) (N := some 74) (v := ?_) (a' := ?_) #[true, true, true, true, true, false, false, true, true, true, true, true, false, false, false, false] rfl rfl (by kernel_rfl) (fun _ _ _ h => h) (Or.inl ⟨by rfl, ?_⟩) ?_ ?_
        rotate_left
        · intro w'
          go_simp
          with_reducible rfl
        rotate_left
        · simp only [Act.put, List.setIfInBounds_toArray, List.set_cons_zero, List.set_cons_succ, i64_w, i32_w]
          rfl
        refine take_ (i := 12) (N := some 75) (v := .agg F.toArray) (a' := ?_) #[true, true, true, true, true, false, false, true, true, true, true, true, true, false, false, false] rfl rfl (by kernel_rfl) (fun _ _ _ h => h) (yieldsIf_load_mid (by rfl) TF (.tmp 74) rfl gk (i * 68) rfl F _ (fun w' hS => hS.2.2.1) huF rfl HSF.out) hHeld ?_ ?_
        rotate_left
        · simp only [Act.put, List.setIfInBounds_toArray, List.set_cons_zero, List.set_cons_succ, i64_w, i32_w]
          rfl
        refine one_ (i := 5) (N := some 68) #[true, true, true, true, true, true, false, true, true, true, true, true, true, false, false, false] rfl rfl (by kernel_rfl) (by decide) (fun K hK => ?_)
        refine value_ (N := some 68) (by rfl) rfl (HBS.out _ _ _ _ rfl rfl) ?_
        have HO8 := Aside0.mk (ownD_below HO7.out (below_alloc (Below.refl wd.heap.size wd) (.cells X.toArray TD)))
        have hgv : (wd.alloc (.cells X.toArray TD)).heap[wd.heap.size]? = some (.cells X.toArray TD (0, 0)) := blk_new wd _
        have hS2 := HSB.out _ (below_step hHeld.2.2.2.out.2 (below_alloc (Below.refl wd.heap.size wd) (.cells X.toArray TD)))
        clear hHeld HO7
        refine hK.out _ _ hS2 (fun hHeld => ?_)
        clear hK hS2
        generalize wd.alloc (.cells X.toArray TD) = we at hgv HO8 hHeld ⊢
        generalize wd.heap.size = gv at hgv ⊢
        refine norm_ (a' := ?_) ?_ ?_
        rotate_left
        · show Act.put _ (some 68) _ = _
          simp only [Act.put, List.setIfInBounds_toArray, List.set_cons_zero, List.set_cons_succ, i64_w, i32_w]
          rfl
        refine one_ (i := 6) (N := some 69) #[true, true, true, true, true, true, true, true, true, true, true, true, true, false, false, false] rfl rfl (by kernel_rfl) (by decide) (fun K hK => ?_)
        refine appD_more_step (w0 := wc) wc.heap.size (by rfl) (.tmp 63) (.tmp 68) rfl rfl _ (some ⟨gv, 0, none⟩) 1 1 HO8.out (HON.out _ _ hgv) HOL.out (by omega) rfl rfl hHeld.2.2.2.out.2 hHeld.2.2.2.out.2.size (fun v2 wf ho hb => ?_)
        have HO9 := Aside0.mk ho
        have hS2 := HSB.out _ hb
        clear hHeld HO8 hgv hb
        refine hK.out _ _ hS2 (fun hHeld => ?_)
        clear hK hS2 ho
        refine norm_ (a' := ?_) ?_ ?_
        rotate_left
        · show Act.put _ (some 69) _ = _
          simp only [Act.put, List.setIfInBounds_toArray, List.set_cons_zero, List.set_cons_succ, i64_w, i32_w]
          rfl
        refine one_ (i := 13) (N := some 76) #[true, true, true, true, true, true, true, true, true, true, true, true, true, true, false, false] rfl rfl (by kernel_rfl) (by decide) (fun K hK => ?_)
        refine goes_ Try.func47 (by kernel_rfl) rfl #[.agg #[.slice (some ⟨g, 0, none⟩) R.length cap], .agg F.toArray] (by rfl) rfl rfl (by first | rfl | (simp only [List.map_toArray, List.map_cons, List.map_nil]; done) | (simp only [List.map_toArray, List.map_cons, List.map_nil]; rfl)) ?_
        refine (HIC.out wf hHeld.2.2.2.out.1.own).mono ?_
        rintro e1 wg ⟨v3, rfl, ho3, hb3⟩
        refine ⟨_, rfl, ?_⟩
        have HO10 := Aside0.mk (ownD_below HO9.out hb3)
        have HO11 := Aside0.mk ho3
        have hS2 := HSB.out _ (below_step hHeld.2.2.2.out.2 hb3)
        clear hHeld HO9 ho3 hb3
        refine hK.out _ _ hS2 (fun hHeld => ?_)
        clear hK hS2
        refine norm_ (a' := ?_) ?_ ?_
        rotate_left
        · show Act.put _ (some 76) _ = _
          simp only [Act.put, List.setIfInBounds_toArray, List.set_cons_zero, List.set_cons_succ, i64_w, i32_w]
          rfl
        obtain ⟨A3, c3, rfl, -, hC3⟩ := Kd.R_reads HO11.out
        refine one_ (i := 14) (N := some 77) #[true, true, true, true, true, true, true, true, true, true, true, true, true, true, true, false] rfl rfl (by kernel_rfl) (by decide) (fun K hK => ?_)
        refine appD_more_step (w0 := wc) wc.heap.size (by rfl) (.tmp 69) (.tmp 76) rfl rfl _ A3 _ c3 HO10.out hC3 HOL2.out HSL2.out rfl rfl hHeld.2.2.2.out.2 hHeld.2.2.2.out.2.size (fun v4 wh ho hb => ?_)
        have HO12 := Aside0.mk ho
        have hS2 := HSB.out _ hb
        clear hHeld HO10 HO11 hC3 hb
        refine hK.out _ _ hS2 (fun hHeld => ?_)
        clear hK hS2 ho
        refine norm_ (a' := ?_) ?_ ?_
        rotate_left
        · show Act.put _ (some 77) _ = _
          simp only [Act.put, List.setIfInBounds_toArray, List.set_cons_zero, List.set_cons_succ, i64_w, i32_w]
          rfl
        refine pure_ (i := 15) (N := some 10) (v := ?_) (a' := ?_) #[true, true, true, true, true, true, true, true, true, true, true, true, true, true, true, true] rfl rfl (by kernel_rfl) (fun _ _ _ h => h) (Or.inl ⟨by rfl, ?_⟩) ?_ ?_
        rotate_left
        · intro w'
          go_simp
          with_reducible rfl
        rotate_left
        · simp only [Act.put, List.setIfInBounds_toArray, List.set_cons_zero, List.set_cons_succ, i64_w, i32_w]
          rfl
        refine done_ (by kernel_rfl) ?_
        -- out]
        have HBI := Aside0.mk hHeld.2.2.2.out.2
        clear hHeld HSB HIC HSL2 HOL HOL2 HON HBS
        go_wp2_with fail
        go_roundw
        case rel => exact ⟨i + 1, hlt, by go_num, HBI, ⟨by rw [HTS.out]; exact HO12.out⟩⟩
        case measure => simp [intOf]; omega
      · obtain rfl : i = KL.length := by omega
        go_wp2_with fail
        go_ret
        refine ⟨_, rfl, ?_, below_step HB.out.bel HBH.out⟩
        rw [HBL.out]
        have := HO.out
        rw [List.take_of_length_le (Nat.le_refl _)] at this
        exact ownD_low this HB.out.bel.size
theorem below_calls : ∀ (n : Nat) (R : List Re) (v : Value) (y : Idt), R.length < 90000 → y.2.length = 32 → Deep R n y → (belowF n R y).length < 90000 → ∀ w, OwnD w 0 v R →
    Calls Try.prog 47 #[.agg #[v], .agg (iv y).toArray] w fun e w' => ∃ v', e = .returned v' ∧ OwnD w' w.heap.size v' (belowF n R y) ∧ Below w.heap.size w w'
  | 0, _, _, _, _, _, hd, _, _, _ => hd.elim
  | n + 1, R, v, y, hl, hy, hd, hlen, w, h => by
    rcases ownD_form h with ⟨rfl, rfl⟩ | ⟨g, cap, cur, rfl, _⟩
    · refine (below_nil w y).mono ?_
      rintro e w' ⟨rfl, hb⟩
      exact ⟨_, rfl, Kd.R_nil _ _ _ _ _, hb⟩
    · refine below_step_calls n w g cap R h hl y hy hlen (fun c hc W hW => ?_)
      obtain ⟨h1, h2⟩ := mem_kids.1 hc
      obtain ⟨i, hi⟩ := List.getElem?_of_mem hc
      have := told_len (n := n) (R := R) (K := kidsF R y) hlen hi
      exact below_calls n R _ c.id hl (h.okr c h1).1 (hd c h1 h2) (by omega) W hW
end Go.Proofs.Ytkcdlilglgfkaaa.Rg
