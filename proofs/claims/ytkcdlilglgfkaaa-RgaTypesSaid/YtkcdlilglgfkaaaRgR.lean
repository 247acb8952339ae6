/- Rows of cells: what stands; New, place. -/
import Derived.Test.YtkcdlilglgfkaaaRgP
set_option linter.unusedVariables false
set_option linter.unusedSimpArgs false
namespace Go.Proofs.Ytkcdlilglgfkaaa.Rg
open Go Go.RowKit Go.Proofs.YtkcdlilglgfkaaaW.PrintWords Go.Proofs.YtkcdlilglgfkaaaW.PrintLast Go.Proofs.YtkcdlilglgfkaaaW.PrintMore Go.Proofs.Ytkcdlilglgfkaaa.PA Go.Proofs.Ytkcdlilglgfkaaa.Ar Go.Proofs.Ytkcdlilglgfkaaa.Sha
abbrev TR : TypeId := 78
abbrev TI : TypeId := 28
def shown (L : List Ce) : Int := ((L.filter fun x => !x.gone).length : Int)
/-- A row: its box, its map, its cells. -/
structure Rw (w0 : World) (gr gm : Nat) (L : List Ce) (M : List Idt) (v : Value) (W : World) : Prop where
  below : Below w0.heap.size w0 W
  pb : W.heap[gr]? = some (.cells #[v, .map (some gm), .int .i64 (shown L)] TR (0, 0))
  row : Own W w0.heap.size v L
  mb : W.heap[gm]? = some (.map (E 0 M).toArray M.length)
  g0 : w0.heap.size ≤ gr ∧ w0.heap.size ≤ gm
  oks : Oks M
  same : ∀ y, y ∈ M ↔ ∃ x ∈ L, x.id = y
section
variable {w0 w w1 : World} {gr gm : Nat} {L : List Ce} {M : List Idt} {v : Value}
theorem Rw.step (h : Rw w0 gr gm L M v w) (hb : Below w.heap.size w w1) : Rw w0 gr gm L M v w1 :=
  ⟨h.below.trans (hb.mono h.below.size), blk_below h.pb hb, Kd.R_below h.row hb, blk_below h.mb hb, h.g0, h.oks, h.same⟩
theorem Rw.okc (h : Rw w0 gr gm L M v w) : ∀ x ∈ L, okC x := (own_raw h.row).2
theorem make_run (w : World) : (Instr.makeMap TM none).run Try.prog w = .ok (.map (some w.heap.size)) (w.alloc (.map #[] 0)) := by
  have hu := Try.underlying76
  unfold Instr.makeMap
  simp [Sem.run_bind, run_underlying hu w]
set_option maxRecDepth 100000 in
set_option maxHeartbeats 4000000 in
theorem New_calls (w : World) : Calls Try.prog 22 #[] w fun e w' => ∃ gr gm, e = .returned (.pointer (some ⟨gr, 0, none⟩)) ∧ Rw w gr gm [] [] (.slice none 0 0) w' := by
  have mk := make_run
  go_enter Try.func22, Try.ntmps22
  go_wp2
  go_ret
  refine ⟨w.heap.size + 1, w.heap.size, rfl, ⟨below_alloc (below_alloc (Below.refl _ _) _) _, new_at _ _ _ (by simp), Kd.R_nil _ _ _ _ _, blk_alloc (blk_new w _) _, ⟨by omega, Nat.le_refl _⟩, fun x hx => by simp at hx, fun y => by simp⟩⟩
set_option maxRecDepth 100000 in
set_option maxHeartbeats 4000000 in
theorem idx_nil (w : World) (B : Nat) : Calls Try.prog 42 #[.slice none 0 0, .func (.func 43) #[] #[.pointer (some ⟨B, 0, none⟩)]] w fun e w' => e = .returned (.int .i64 (-1)) ∧ Below w.heap.size w w' := by
  go_enter Try.func42, Try.ntmps42
  go_wp2_with fail
  go_loopw [8] (fun i wr => i = .int .i64 0 ∧ Aside0 (Below w.heap.size w wr)) (fun i _ => 0)
  case atStart => exact ⟨rfl, ⟨Below.refl _ _⟩⟩
  case round =>
    obtain ⟨rfl, HW⟩ := hrel
    go_wp2_with fail
    go_ret
    exact ⟨rfl, HW.out⟩
set_option maxRecDepth 100000 in
set_option maxHeartbeats 4000000 in
theorem place_calls (h : Rw w0 gr gm L M v w) (hl : L.length < 100000) (y : Idt) (hy : y.2.length = 32) :
    Calls Try.prog 35 #[.pointer (some ⟨gr, 0, none⟩), .agg (iv y).toArray] w fun e w' => ∃ r, e = .returned (.int .i64 r) ∧ Pos L y r ∧ Below w.heap.size w w' := by
  have hb1 := below_alloc (Below.refl w.heap.size w) (.cells (iv y).toArray TI)
  have c0 := pw_cell_below hb1 ((blk_cell h.pb 0).trans rfl : w.cell? ⟨gr, 0, none⟩ = some v)
  have hBB : (w.alloc (.cells (iv y).toArray TI)).heap[w.heap.size]? = some (.cells (iv y).toArray TI (0, 0)) := blk_new w _
  rcases own_form h.row with ⟨rfl, rfl⟩ | ⟨g, cap, cur, rfl, hbg, hg, hlc, hcm, hcs, ht⟩
  · have HI := Aside0.mk (idx_nil (w.alloc (.cells (iv y).toArray TI)) w.heap.size)
    have HB := Aside0.mk hb1
    clear h hy hBB hb1
    generalize (iv y).toArray = C at *
    go_enter Try.func35, Try.ntmps35
    go_wp2_with (go_at_call 42; refine HI.out.mono ?_; rintro e w2 ⟨rfl, hb⟩; have HB2 := Aside0.mk (HB.out.trans (hb.mono HB.out.size)); clear hb)
    go_ret
    exact ⟨_, rfl, Or.inl ⟨rfl, fun x hx => by simp at hx⟩, HB2.out⟩
  · have HI := Aside0.mk (idx_calls (w.alloc (.cells (iv y).toArray TI)) g cap cur L (blk_below hg hb1) ht h.okc hl w.heap.size y hy hBB)
    have HB := Aside0.mk hb1
    clear h hy hBB hb1 hbg hg hlc hcm hcs ht
    generalize (iv y).toArray = C at *
    go_enter Try.func35, Try.ntmps35
    go_wp2_with (go_at_call 42; refine HI.out.mono ?_; rintro e w2 ⟨r, rfl, hp, hb⟩; have HB2 := Aside0.mk (HB.out.trans (hb.mono HB.out.size)); have HP := Aside0.mk hp; clear hb hp)
    go_ret
    exact ⟨_, rfl, HP.out, HB2.out⟩
end
end Go.Proofs.Ytkcdlilglgfkaaa.Rg
