/- Rows of cells: At. -/
import Derived.Test.YtkcdlilglgfkaaaRgT
import Derived.Test.YtkcdlilglgfkaaaRgU
set_option linter.unusedVariables false
set_option linter.unusedSimpArgs false
namespace Go.Proofs.Ytkcdlilglgfkaaa.Rg
open Go Go.RowKit Go.BigFrame Go.Shelf Go.Proofs Go.Proofs.YtkcdlilglgfkaaaW.PrintWords Go.Proofs.YtkcdlilglgfkaaaW.PrintMore Go.Proofs.Ytkcdlilglgfkaaa.Ar Go.Proofs.Ytkcdlilglgfkaaa.Sha
attribute [local go_sem] Oper.semAt_some
section
variable {P : Program} {F : Fence} {n : Nat} {ops : Array Oper} {rest : List Oper} {o : Oper} {a : Act} {w : World} {Q : Exit → Act → World → Prop}
theorem gi_build_as (hF : Lift P F) (hgd : o.guard = none) (t : TypeId) (parts : Array (Nat × Operand)) (ho : o.op = .build t parts)
    (ps : List (Nat × Value)) (hps : (parts.map fun (i, x) => (i, a.eval x)).toList = ps) (cells : Array Value) (hf : P.built t ps = some cells)
    (h : wpListIn F n P ops Q rest (a.put o.dst (.agg cells)) w) : wpListIn F n P ops Q (o :: rest) a w := by
  subst hps
  exact wpListIn_plain hgd fun K hK => hF _ _ _ _ _ _ (by rw [ho]; intro c e; cases e) (wp_build t parts ho (by rw [hf]; rfl) (by rw [hf]; exact hK _ _ h))
theorem gi_store_at (hF : Lift P F) (hgd : o.guard = none) (ty : TypeId) (x y : Operand) (ho : o.op = .store ty x y)
    (g : Nat) (cells : Array Value) (hx : a.eval x = .pointer (some ⟨g, 0, none⟩)) (hy : a.eval y = .agg cells) (T : TypeId) (cur : Array Value) (hg : w.heap[g]? = some (.cells cur T (0, 0))) (hl : cells.size = cur.size)
    (hi : (P.info? ty).map (·.size) = some cells.size) (h1 : cells.all (·.oneCell') = true) (h : wpListIn F n P ops Q rest (a.put o.dst undef) (w.setRow g cells)) : wpListIn F n P ops Q (o :: rest) a w :=
  wpListIn_plain hgd fun K hK => hF _ _ _ _ _ _ (by rw [ho]; intro c e; cases e) (wp_store_at ty x y ho g 0 cells hx hy T cur hg (by omega) hi h1 (by
    rw [splice_all _ _ (by rw [Array.length_toList, Array.length_toList]; exact hl), Array.toArray_toList]
    exact hK _ _ h))
end
def visC (x : Ce) : Idt × Bool := (x.id, x.gone)
theorem seen_ge : ∀ (m : Nat) (L : List Ce) (q : Nat × Ce), q ∈ seen m L → m ≤ q.1
  | _, [], q, h => by simp [seen] at h
  | m, c :: r, q, h => by
    rw [seen] at h
    split at h
    · exact seen_ge m r q h
    · rcases List.mem_cons.1 h with rfl | h
      · exact Nat.le_refl _
      · have := seen_ge (m + 1) r q h; omega
theorem seen_at : ∀ (m : Nat) (L : List Ce) (p : Int), ((∀ q ∈ seen m L, (q.1 : Int) ≠ p) → atF (L.map visC) (p - m) = (z0, false)) ∧ (∀ q ∈ seen m L, (q.1 : Int) = p → atF (L.map visC) (p - m) = (q.2.id, true))
  | _, [], p => ⟨fun _ => rfl, fun q h => by simp [seen] at h⟩
  | m, c :: r, p => by
    rw [List.map_cons, visC, atF, seen]
    by_cases hg : c.gone = true
    · rw [if_pos hg, if_pos hg]
      exact seen_at m r p
    · rw [if_neg hg, if_neg hg]
      obtain ⟨h1, h2⟩ := seen_at (m + 1) r p
      have e : p - ((m + 1 : Nat) : Int) = p - m - 1 := by omega
      rw [e] at h1 h2
      refine ⟨fun h => ?_, fun q hq hp => ?_⟩
      · have := h (m, c) (by simp)
        rw [if_neg (by have : (m : Int) ≠ p := this; omega)]
        exact h1 (fun q hq => h q (by simp [hq]))
      · rcases List.mem_cons.1 hq with rfl | hq
        · have : (m : Int) = p := hp
          rw [if_pos (by omega)]
        · have := seen_ge (m + 1) r q hq
          rw [if_neg (by omega)]
          exact h2 q hq hp
/-- What the call's own cells hold. -/
structure AtI (n₀ gr : Nat) (p : Int) (w : World) (Z : Array Value) (b : Bool) (W : World) : Prop where
  bel : Below n₀ w W
  b0 : W.heap[n₀]? = some (.cells #[.int .i64 p] 3 (0, 0))
  b1 : W.heap[n₀ + 1]? = some (.cells Z TI (0, 0))
  b2 : W.heap[n₀ + 2]? = some (.cells #[.bool b] 4 (0, 0))
  b3 : W.heap[n₀ + 3]? = some (.cells #[.pointer (some ⟨gr, 0, none⟩)] 38 (0, 0))
theorem AtI.grown {n₀ gr B : Nat} {p : Int} {w W W' : World} {Z : Array Value} {b : Bool} {row : Option Nat} (h : AtI n₀ gr p w Z b W) (h1 : n₀ ≤ W.heap.size) (h2 : n₀ ≤ B) (hg : W.grownBy W' row) (hr : ∀ r, row = some r → B ≤ r ∧ ∃ o : Obj, W.heap[r]? = some o ∧ o.isCells = false) : AtI n₀ gr p w Z b W' := by
  have hn : ∀ {k : Nat} {C : Array Value} {T : TypeId}, W.heap[k]? = some (.cells C T (0, 0)) → W'.heap[k]? = some (.cells C T (0, 0)) := fun {k C T} hk => blk_grown hk hg (fun e => by
    obtain ⟨o, ho, hc⟩ := (hr k e.symm).2
    rw [hk] at ho; cases ho; cases hc)
  exact ⟨h.bel.trans ⟨hg.os, hg.tape, hg.output, hg.size, fun k hk => hg.block k (by omega) (fun e => by have := (hr k e.symm).1; omega)⟩, hn h.b0, hn h.b1, hn h.b2, hn h.b3⟩
theorem AtI.size {n₀ gr : Nat} {p : Int} {w W : World} {Z : Array Value} {b : Bool} (h : AtI n₀ gr p w Z b W) : n₀ + 4 ≤ W.heap.size := blk_lt h.b3
theorem AtI.alloc {n₀ gr : Nat} {p : Int} {w W : World} {Z : Array Value} {b : Bool} (h : AtI n₀ gr p w Z b W) (o : Obj) : AtI n₀ gr p w Z b (W.alloc o) :=
  ⟨h.bel.trans ((below_alloc (Below.refl W.heap.size W) o).mono (by have := h.size; omega)), blk_alloc h.b0 o, blk_alloc h.b1 o, blk_alloc h.b2 o, blk_alloc h.b3 o⟩
theorem AtI.set {n₀ gr : Nat} {p : Int} {w W : World} {Z : Array Value} {b : Bool} (h : AtI n₀ gr p w Z b W) (X : Array Value) (c : Bool) : AtI n₀ gr p w X c ((W.setRow (n₀ + 1) X).setCell ⟨n₀ + 2, 0, none⟩ (.bool c)) := by
  have hn : ∀ {k : Nat} {o : Obj}, k ≠ n₀ + 1 → k ≠ n₀ + 2 → W.heap[k]? = some o → ((W.setRow (n₀ + 1) X).setCell ⟨n₀ + 2, 0, none⟩ (.bool c)).heap[k]? = some o := fun {k o} h1 h2 hk => (Below.heap_setCell _ ⟨n₀ + 2, 0, none⟩ _ k h2).trans ((setRow_other W _ k X h1).trans hk)
  exact ⟨below_cell (below_setRow h.bel (by omega) X) (by omega), hn (by omega) (by omega) h.b0, (Below.heap_setCell _ ⟨n₀ + 2, 0, none⟩ _ _ (by show n₀ + 1 ≠ n₀ + 2; omega)).trans (blk_row h.b1 X), blk_set ((setRow_other W _ _ X (by omega)).trans h.b2) 0 _, hn (by omega) (by omega) h.b3⟩
/-- What the loop knows. -/
def AtL (n₀ gr : Nat) (p : Int) (w : World) (Z : Array Value) (pre : List P46) (W : World) : Prop := AtI n₀ gr p w Z false W ∧ ∀ q ∈ pre, (q.1.1 : Int) ≠ p
/-- Where it was left. -/
def AtX (n₀ gr : Nat) (p : Int) (w : World) (c : Code) (pre : List P46) (W : World) : Prop := c = .ret ∧ ∃ x ∈ pre, (x.1.1 : Int) = p ∧ AtI n₀ gr p w (iv x.1.2.id).toArray true W
theorem AtI.keeps {n₀ gr : Nat} {p : Int} {w W : World} {Z : Array Value} {b : Bool} (h : AtI n₀ gr p w Z b W) (X : Array Value) (c : Bool) {B : Nat} (hB : n₀ + 4 ≤ B) : KeepsFrom B W ((W.setRow (n₀ + 1) X).setCell ⟨n₀ + 2, 0, none⟩ (.bool c)) :=
  ⟨by rw [show ((W.setRow (n₀ + 1) X).setCell ⟨n₀ + 2, 0, none⟩ (.bool c)).heap.size = (W.setRow (n₀ + 1) X).heap.size by simp [World.setCell], size_setRow]; exact Nat.le_refl _,
   fun k o hk h1 _ => (Below.heap_setCell _ ⟨n₀ + 2, 0, none⟩ _ k (by show k ≠ n₀ + 2; omega)).trans ((setRow_other W _ k X (by omega)).trans h1)⟩
set_option maxRecDepth 100000 in
set_option maxHeartbeats 4000000 in
theorem At_in (n : Nat) (hn : 3 ≤ n) {w0 w : World} {gr gm : Nat} {L : List Ce} {M : List Idt} {v : Value} (h : Rw w0 gr gm L M v w) (hl : L.length < 100000) (p : Int) :
    CallsIn Fence.wide n Try.prog 24 #[.pointer (some ⟨gr, 0, none⟩), .int .i64 p] w fun e w' => e = .returned (.tuple #[.agg (iv (atF (L.map visC) p).1).toArray, .bool (atF (L.map visC) p).2]) ∧ Below w.heap.size w w' := by
  have HZI := Aside0.mk zero_id
  have HZIs : Aside0 ((iv z0).toArray.size = 33) := ⟨rfl⟩
  have HZI1 : Aside0 (((iv z0).toArray).all (·.oneCell') = true) := ⟨iv_all z0⟩
  have HBZ := Aside0.mk built_zero
  have huI := Try.underlying28
  have huC := Try.underlying43
  obtain ⟨Y, hY⟩ : ∃ Y, (iv z0).toArray = Y := ⟨_, rfl⟩
  rw [hY] at HZI HZIs HZI1 HBZ
  have HYE := Aside0.mk hY
  clear hY
  refine callsIn_of_wp_marks Try.func24 rfl trivial ?_ rfl
  simp only [Try.ntmps24, List.size_toArray, List.length_cons, List.length_nil, Nat.reduceAdd, Nat.reduceSub, Array.replicate_succ, Array.replicate_zero, List.push_toArray, List.append_toArray, List.nil_append, List.cons_append]
  have h1 : 1 ≤ n := by omega
  gi_wp2_with (first | (refine gi_alloc_as (lift_wide _) rfl TI rfl Y HZI.out ?_) | (refine ⟨trivial, ?_⟩; gi_at_call 38; refine (mk46 (n - 1) gr _).mono ?_; rintro e w' ⟨rfl, rfl⟩))
  have hI0 : AtI w.heap.size gr p w Y false ((((w.alloc (.cells #[.int .i64 p] 3)).alloc (.cells Y TI)).alloc (.cells #[.bool false] 4)).alloc (.cells #[.pointer (some ⟨gr, 0, none⟩)] 38)) :=
    ⟨below_alloc (below_alloc (below_alloc (below_alloc (Below.refl _ _) _) _) _) _, blk_alloc (blk_alloc (blk_alloc (blk_new w _) _) _) _, blk_alloc (blk_alloc (new_at _ _ _ (by simp)) _) _, blk_alloc (new_at _ _ _ (by simp)) _, new_at _ _ _ (by simp)⟩
  have hs4 : ((((w.alloc (.cells #[.int .i64 p] 3)).alloc (.cells Y TI)).alloc (.cells #[.bool false] 4)).alloc (.cells #[.pointer (some ⟨gr, 0, none⟩)] 38)).heap.size = w.heap.size + 4 := by simp
  obtain ⟨W0, hW0⟩ : ∃ W0, ((((w.alloc (.cells #[.int .i64 p] 3)).alloc (.cells Y TI)).alloc (.cells #[.bool false] 4)).alloc (.cells #[.pointer (some ⟨gr, 0, none⟩)] 38)) = W0 := ⟨_, rfl⟩
  rw [hW0] at hI0 hs4 ⊢
  clear hW0
  have hgr : ∀ W', Below w.heap.size W0 W' → W'.cell? ⟨gr, 0, none⟩ = some v := fun W' hb => (blk_cell (blk_below h.pb (hI0.bel.trans hb)) 0).trans rfl
  have hform : (v = .slice none 0 0 ∧ L = []) ∨ ∃ gc cap, v = .slice (some ⟨gc, 0, none⟩) L.length cap ∧ ∀ W', Below w.heap.size W0 W' → ∃ cur, W'.heap[gc]? = some (.cells cur TC (0, 0)) ∧ cur.toList.take (L.length * 35) = fl L := by
    rcases own_form h.row with h | ⟨gc, cap, cur, e, _, hg, _, _, _, ht⟩
    · exact Or.inl h
    · exact Or.inr ⟨gc, cap, e, fun W' hb => ⟨cur, blk_below hg (hI0.bel.trans hb), ht⟩⟩
  have hZ := zero_ce
  have HZs : Aside0 ((ce c0).toArray.size = 35) := ⟨rfl⟩
  obtain ⟨Z, hZ1⟩ : ∃ Z : Array Value, (ce c0).toArray = Z := ⟨_, rfl⟩
  rw [hZ1] at hZ HZs
  have HZ := Aside0.mk hZ
  clear hZ hZ1
  refine wpIn_rangeFunc_ownH rfl h1 (gf := 46) (lb := #[.pointer (some ⟨w.heap.size + 1 + 1 + 1, 0, none⟩)]) rfl trivial (enters_of Try.func46 (by kernel_rfl) rfl)
    (stops46 (n - 1) (w.heap.size + 1 + 1 + 1) w.heap.size gr v L hl h.okc W0 (by omega) (by omega) ((blk_cell hI0.b3 0).trans rfl) hgr hform)
    (fun h k => h.trans k) (fun W l o o' hl => Kp.put (by omega) (by omega) W l o o' hl) (Below.refl _ _) (fun _ => rfl)
    (AtL w.heap.size gr p w Y)
    (AtX w.heap.size gr p w)
    (fun s A B row hs hg hr => ⟨hs.1.grown (by have := hs.1.size; omega) (by omega) hg hr, hs.2⟩)
    (fun c s A B row hs hg hr => ⟨hs.1, by obtain ⟨x, hx, hp, hi⟩ := hs.2; exact ⟨x, hx, hp, hi.grown (by have := hi.size; omega) (by omega) hg hr⟩⟩)
    ⟨hI0, fun q hq => by simp at hq⟩
    (fun x a' W => ∃ Bx, W.heap[Bx]? = some (.cells (ce x.1.2).toArray TC (0, 0)) ∧ a' = { tmps := #[.pointer (some ⟨gr, 0, none⟩), .int .i64 p, undef, .pointer (some ⟨w.heap.size, 0, none⟩), .pointer (some ⟨w.heap.size + 1, 0, none⟩), .pointer (some ⟨w.heap.size + 1 + 1, 0, none⟩), .int .i64 (x.1.1 : Int), .pointer (some ⟨Bx, 0, none⟩), .pointer (some ⟨gr, 0, none⟩), .bool false, undef, .pointer (some ⟨gr, 0, none⟩), .func (.func 46) #[] #[.pointer (some ⟨w.heap.size + 1 + 1 + 1, 0, none⟩)], .int .i64 (x.1.1 : Int), .agg (ce x.1.2).toArray, undef, undef, undef, undef, undef, undef], defers := [] })
    (fun x a' _ X Y row hs hg hr => by
      obtain ⟨Bx, h2, h3⟩ := hs
      exact ⟨Bx, blk_grown h2 hg (fun e => by
        obtain ⟨o, ho, hc⟩ := (hr Bx e.symm).2
        rw [h2] at ho; cases ho; cases hc), h3⟩)
    ?assign ?body ?done ?stop
  case assign =>
    rintro l pre x W K ⟨hI, hP⟩ hK
    have hox := x.2.1
    obtain ⟨CE, hCE⟩ : ∃ C : Array Value, (ce x.1.2).toArray = C := ⟨_, rfl⟩
    have HCEs : Aside0 (CE.size = 35) := ⟨by rw [← hCE, List.size_toArray, ce_len hox]⟩
    have HC1 : Aside0 (CE.all (·.oneCell') = true) := ⟨by rw [← hCE]; exact all_oneCell_toArray (ce_one x.1.2)⟩
    simp [enc46]
    rw [hCE] at hK ⊢
    gi_wp2_with (first | (refine gi_alloc_as (lift_round _ l) rfl TC rfl Z HZ.out ?_) | (refine gi_store_new (lift_round _ l) rfl TC (.tmp 7) (.tmp 14) rfl W TC Z CE rfl rfl rfl (by rw [HCEs.out, HZs.out]) (by rw [HCEs.out]; exact size_ce) HC1.out ?_))
    have hsz := hI.size
    refine hK _ _ ((KeepsOthers.alloc _ _).from _) ((Kp.refl _ _ W).alloc (by omega) (by omega) _) ⟨hI.alloc _, hP⟩ ⟨W.heap.size, blk_new W _, ?_⟩
    rfl
  case body =>
    rintro l pre x a' W hl2 _ ⟨hI, hP⟩ ⟨Bx, hbX, rfl⟩ hlt
    have hox := x.2.1
    have kp : W.cell? ⟨w.heap.size, 0, none⟩ = some (.int .i64 p) := (blk_cell hI.b0 0).trans rfl
    by_cases hp : (x.1.1 : Int) = p
    · have t1 : ((x.1.1 : Int) == p) = true := beq_iff_eq.2 hp
      have HPX := Aside0.mk hp
      have HI := Aside0.mk hI
      have HBX := Aside0.mk hbX
      have HSF : Aside0 ((Try.prog.info? TI).map (·.size) = some (iv x.1.2.id).length) := ⟨by rw [iv_len hox]; exact size_id⟩
      have HFs : Aside0 ((iv x.1.2.id).toArray.size = 33) := ⟨by rw [List.size_toArray, iv_len hox]⟩
      have HF1 : Aside0 ((iv x.1.2.id).toArray.all (·.oneCell') = true) := ⟨iv_all _⟩
      have HCX := Aside0.mk (ce_id (x := x.1.2))
      have kb : (W.setRow (w.heap.size + 1) (iv x.1.2.id).toArray).cell? ⟨w.heap.size + 1 + 1, 0, none⟩ = some (.bool false) := (blk_cell ((setRow_other W _ _ _ (by omega)).trans hI.b2) 0).trans rfl
      have fb : (W.setRow (w.heap.size + 1) (iv x.1.2.id).toArray).frozen? ⟨w.heap.size + 1 + 1, 0, none⟩ = false := blk_frozen ((setRow_other W (w.heap.size + 1) _ _ (by omega)).trans hI.b2) _
      have hks := hI.keeps (iv x.1.2.id).toArray true (B := W0.heap.size) (by omega)
      have HKS := Aside0.mk hks
      have HSET := Aside0.mk (hI.set (iv x.1.2.id).toArray true)
      obtain ⟨CX, hCX⟩ : ∃ C : Array Value, (ce x.1.2).toArray = C := ⟨_, rfl⟩
      rw [hCX] at HBX HCX ⊢
      obtain ⟨FX, hFX⟩ : ∃ C, iv x.1.2.id = C := ⟨_, rfl⟩
      rw [hFX] at HSF HFs HF1 HCX kb fb HKS HSET
      have HFX := Aside0.mk hFX
      clear hks hCX hFX hI hbX hP
      gi_wp2_with (first | (refine gi_load_at (lift_round _ l) rfl TI (.tmp 18) rfl Bx 0 rfl TC CX HBX.out FX HCX.out _ huI rfl HSF.out ?_) | (refine gi_store_at (lift_round _ l) rfl TI (.tmp 4) (.tmp 19) rfl (w.heap.size + 1) FX.toArray rfl rfl TI Y HI.out.b1 (by rw [HFs.out, HZIs.out]) (by rw [HFs.out]; exact size_id) HF1.out ?_))
      refine ⟨HKS.out, rfl, x, by simp, HPX.out, by rw [HFX.out]; exact HSET.out⟩
    · have t1 : ((x.1.1 : Int) == p) = false := beq_eq_false_iff_ne.2 hp
      have HPX := Aside0.mk hp
      have HI := Aside0.mk hI
      have HP := Aside0.mk hP
      clear hI hP hbX
      generalize (ce x.1.2).toArray = CX at *
      gi_wp2
      refine ⟨KeepsFrom.refl _ _, Kp.refl _ _ _, HI.out, fun q hq => ?_⟩
      rcases List.mem_append.1 hq with hq | hq
      · exact HP.out q hq
      · rw [List.mem_singleton.1 hq]; exact HPX.out
  case done =>
    rintro D ys W hD hys ⟨hI, hP⟩ hK
    have HI := Aside0.mk hI
    have hat : atF (L.map visC) p = (z0, false) := by
      have := (seen_at 0 L p).1 (fun q hq => by
        rw [← hys] at hq
        obtain ⟨x, hx, rfl⟩ := List.mem_map.1 hq
        exact hP x hx)
      simpa using this
    have HAT := Aside0.mk hat
    have kb : (W.setRow (w.heap.size + 1) Y).cell? ⟨w.heap.size + 1 + 1, 0, none⟩ = some (.bool false) := (blk_cell ((setRow_other W _ _ _ (by omega)).trans hI.b2) 0).trans rfl
    have fb : (W.setRow (w.heap.size + 1) Y).frozen? ⟨w.heap.size + 1 + 1, 0, none⟩ = false := blk_frozen ((setRow_other W (w.heap.size + 1) _ _ (by omega)).trans hI.b2) _
    have HSET := Aside0.mk (hI.set Y false)
    clear hI hP hat
    gi_wp2_with (first | (refine gi_build_as (lift_wide _) rfl TI _ rfl [] (by first | rfl | simp) Y HBZ.out ?_) | (refine gi_store_at (lift_wide _) rfl TI (.tmp 4) (.tmp 20) rfl (w.heap.size + 1) Y rfl rfl TI Y HI.out.b1 rfl (by rw [HZIs.out]; exact size_id) HZI1.out ?_))
    have hD4 : w.heap.size + 4 ≤ D := by omega
    have hK2 : ((W.setRow (w.heap.size + 1) Y).setCell ⟨w.heap.size + 2, 0, none⟩ (.bool false)).heap[D]? = some (.deferred (some [])) := (Below.heap_setCell _ ⟨w.heap.size + 2, 0, none⟩ _ D (by show D ≠ w.heap.size + 2; omega)).trans ((setRow_other W _ D Y (by omega)).trans hK)
    refine ⟨by simp, .inl ⟨_, _, rfl, run_takeDeferred hK2, ?_⟩⟩
    refine ⟨_, results_cs rfl _ _ (w.heap.size + 1) (w.heap.size + 1 + 1) TI Y (0, 0) _ rfl ((World.putObj_heap_other (by omega)).trans HSET.out.b1) huI rfl (by rw [HZIs.out]; exact size_id) rfl (.bool false) (load_bool _ _ _ ((blk_cell ((World.putObj_heap_other (by omega)).trans HSET.out.b2) 0).trans rfl)), by rw [HAT.out, ← HYE.out], HSET.out.bel.trans (belowK_b (w := w) (Nat.le_refl _) _ D _ _ (by omega) hK2 rfl rfl)⟩
  case stop =>
    rintro D c pre W hD hpre ⟨rfl, x, hx, hp, hI⟩ hK
    have hat : atF (L.map visC) p = (x.1.2.id, true) := by
      have := (seen_at 0 L p).2 x.1 (hpre.subset (List.mem_map.2 ⟨x, hx, rfl⟩)) hp
      simpa using this
    have hD4 : w.heap.size + 4 ≤ D := by omega
    have HAT := Aside0.mk hat
    have HI := Aside0.mk hI
    have hox := x.2.1
    clear hat hI
    gi_wp2
    refine ⟨by simp, .inl ⟨_, _, rfl, run_takeDeferred hK, ?_⟩⟩
    refine ⟨_, results_cs rfl _ _ (w.heap.size + 1) (w.heap.size + 1 + 1) TI (iv x.1.2.id).toArray (0, 0) _ rfl ((World.putObj_heap_other (by omega)).trans HI.out.b1) huI rfl (by rw [List.size_toArray, iv_len hox]; exact size_id) rfl (.bool true) (load_bool _ _ _ ((blk_cell ((World.putObj_heap_other (by omega)).trans HI.out.b2) 0).trans rfl)), by rw [HAT.out], HI.out.bel.trans (belowK_b (w := w) (Nat.le_refl _) _ D _ _ (by omega) hK rfl rfl)⟩
theorem At_calls {w0 w : World} {gr gm : Nat} {L : List Ce} {M : List Idt} {v : Value} (h : Rw w0 gr gm L M v w) (hl : L.length < 100000) (p : Int) :
    Calls Try.prog 24 #[.pointer (some ⟨gr, 0, none⟩), .int .i64 p] w fun e w' => e = .returned (.tuple #[.agg (iv (atF (L.map visC) p).1).toArray, .bool (atF (L.map visC) p).2]) ∧ Below w.heap.size w w' :=
  callsIn_wide.1 (At_in 3 (Nat.le_refl _) h hl p)
end Go.Proofs.Ytkcdlilglgfkaaa.Rg
