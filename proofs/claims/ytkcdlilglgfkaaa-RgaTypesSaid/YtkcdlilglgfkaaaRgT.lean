/- Rows of cells: Text. -/
import Derived.Test.YtkcdlilglgfkaaaRgS
import Derived.Maps.AppendAt
import Derived.Laws.MakeOwn
set_option linter.unusedVariables false
set_option linter.unusedSimpArgs false
namespace Go.Proofs.Ytkcdlilglgfkaaa.Rg
open Go Go.RowKit Go.BigFrame Go.Shelf Go.Proofs Go.Proofs.YtkcdlilglgfkaaaW.PrintWords Go.Proofs.YtkcdlilglgfkaaaW.PrintMore Go.Proofs.Ytkcdlilglgfkaaa.Ar Go.Proofs.Ytkcdlilglgfkaaa.Sha
attribute [local go_sem] Oper.semAt_some
theorem infoB : (Try.prog.info? 5).map (fun i => (i.zero, i.size, i.bytes)) = some (some (.int .u8 0), 1, 1) := by kernel_rfl
theorem shown_lt (L : List Ce) : shown L ≤ L.length := by
  unfold shown
  have := List.length_filter_le (fun x : Ce => !x.gone) L
  omega
/-- The characters that are shown. -/
def chars (L : List (Nat × Ce)) : List Int := L.map fun p => p.2.ch
def textF (L : List Ce) : List Int := chars (seen 0 L)
set_option maxHeartbeats 1000000 in
theorem mk46 (n : Nat) (gr : Nat) (w : World) :
    CallsIn Fence.wide n Try.prog 38 #[.pointer (some ⟨gr, 0, none⟩)] w fun e w' => e = .returned (.func (.func 46) #[] #[.pointer (some ⟨w.heap.size, 0, none⟩)]) ∧ w' = w.alloc (.cells #[.pointer (some ⟨gr, 0, none⟩)] 38) := by
  refine callsIn_of_wp Try.func38 rfl trivial ?_ rfl
  simp only [Try.ntmps38, List.size_toArray, List.length_cons, List.length_nil, Nat.reduceAdd, Nat.reduceSub, Array.replicate_succ, Array.replicate_zero, List.push_toArray, List.append_toArray, List.nil_append, List.cons_append]
  gi_wp2
  go_ret
  exact ⟨rfl, rfl⟩
theorem stops46 (n Bs n₀ gr : Nat) (v : Value) (L : List Ce) (hl : L.length < 100000) (hk : ∀ x ∈ L, okC x) (w : World) (hBs : Bs < w.heap.size) (hn₀ : n₀ ≤ w.heap.size)
    (hb : w.cell? ⟨Bs, 0, none⟩ = some (.pointer (some ⟨gr, 0, none⟩))) (hgr : ∀ W', Below n₀ w W' → W'.cell? ⟨gr, 0, none⟩ = some v)
    (hform : (v = .slice none 0 0 ∧ L = []) ∨ ∃ gc cap, v = .slice (some ⟨gc, 0, none⟩) L.length cap ∧ ∀ W', Below n₀ w W' → ∃ cur, W'.heap[gc]? = some (.cells cur TC (0, 0)) ∧ cur.toList.take (L.length * 35) = fl L) :
    SeqStopsK Fence.wide n Try.prog 46 #[.pointer (some ⟨Bs, 0, none⟩)] enc46 (Kp n₀ Bs) (fun ys => ys.map (·.1) = seen 0 L) (fun pre => pre.map (·.1) <+: seen 0 L) (seen 0 L).length w := fun l J Jx W hW hJ _ hY h0 =>
  it46 n l Bs n₀ gr v L hl hk J Jx (fun s X Y hs hg => hJ s X Y none hs hg (fun r e => nomatch e)) hY W (Nat.le_trans hn₀ hW.size) (Nat.lt_of_lt_of_le hBs hW.size) ((hW.cell (p := ⟨Bs, 0, none⟩) hBs).trans hb) (fun W' h => hgr W' ((hW.mono hn₀).trans h))
    (hform.imp_right fun ⟨gc, cap, e, h⟩ => ⟨gc, cap, e, fun W' hb => h W' ((hW.mono hn₀).trans hb)⟩) h0
/-- What the loop's own cells hold. -/
def IT (n₀ : Nat) (gr : Nat) (w : World) (pre : List P46) (W : World) : Prop :=
  (∃ v, Boxed W (n₀ + 1) 34 v ∧ W.ownsRow n₀ 5 1 v (chars (pre.map (·.1))).length (encs (Value.int .u8) (chars (pre.map (·.1)))) ∧ True) ∧ Boxed W (n₀ + 2) 38 (.pointer (some ⟨gr, 0, none⟩)) ∧ Below n₀ w W
theorem IT_own (n₀ gr B : Nat) (w : World) (h1 : n₀ ≤ w.heap.size) (h2 : n₀ ≤ B) : OwnFrom B (IT n₀ gr w) :=
  OwnFrom.and (Own.from (holdsRow_own n₀ (n₀ + 1) 34 5 1 (fun pre : List P46 => (chars (pre.map (·.1))).length) (fun pre => encs (Value.int .u8) (chars (pre.map (·.1)))) (fun pre v => True)) _)
    (OwnFrom.and (Own.from (boxed_own (n₀ + 2) 38 (fun _ => .pointer (some ⟨gr, 0, none⟩))) _) (ownFrom_below h1 h2))
theorem make_bytes (m : Nat) (hm : m < 100000) (w : World) : (Instr.makeSlice 34 (.int .i64 0) (.int .i64 (m : Int))).run Try.prog w = .ok (.slice (some ⟨w.heap.size, 0, none⟩) 0 m) (w.alloc (.cells (madeCells #[.int .u8 0] m) 5)) := by
  obtain ⟨i0, hi, hzz⟩ := Option.map_eq_some_iff.1 infoB
  simp only [Prod.mk.injEq] at hzz
  obtain ⟨hz0, hz1, hz2⟩ := hzz
  have h := run_make (P := Try.prog) w 34 5 i0 (.int .u8 0) Try.underlying34 hi hz0 .i64 .i64 (0 : Int) (m : Int) (by omega) (by omega) (by rw [hz2]; omega) (by omega)
  rw [hz1] at h
  simpa [Value.cells] using h
set_option maxRecDepth 100000 in
set_option maxHeartbeats 4000000 in
theorem Text_in (n : Nat) (hn : 3 ≤ n) {w0 w : World} {gr gm : Nat} {L : List Ce} {M : List Idt} {v : Value} (h : Rw w0 gr gm L M v w) (hl : L.length < 100000) :
    CallsIn Fence.wide n Try.prog 26 #[.pointer (some ⟨gr, 0, none⟩)] w fun e w' => ∃ v0_ : Value, e = .returned v0_ ∧ (Kd.int .u8).R 5 w' w.heap.size (fun _ => True) v0_ (textF L) ∧ Below w.heap.size w w' := by
  obtain ⟨m, hm⟩ : ∃ m : Nat, shown L = (m : Int) := ⟨_, rfl⟩
  have hml : m < 100000 := by have := shown_lt L; omega
  have kc : w.cell? ⟨gr, 2, none⟩ = some (.int .i64 (m : Int)) := by rw [← hm]; exact (blk_cell h.pb 2).trans rfl
  have hmk := make_bytes m hml
  refine callsIn_of_wp_marks Try.func26 rfl trivial ?_ rfl
  simp only [Try.ntmps26, List.size_toArray, List.length_cons, List.length_nil, Nat.reduceAdd, Nat.reduceSub, Array.replicate_succ, Array.replicate_zero, List.push_toArray, List.append_toArray, List.nil_append, List.cons_append]
  have h1 : 1 ≤ n := by omega
  gi_wp2_with (refine ⟨trivial, ?_⟩; gi_at_call 38; refine (mk46 (n - 1) gr _).mono ?_; rintro e w' ⟨rfl, rfl⟩)
  have hz34 : (Try.prog.info? 5).map (fun i => (i.zero, i.size, i.bytes)) = some (some (.int .u8 0), 1, 1) := infoB
  obtain ⟨i0, hi, hz0, hz1, hz2⟩ := info_parts hz34
  have b2 : Boxed ((w.alloc (.cells (madeCells #[.int .u8 0] m) 5)).alloc (.cells #[.slice (some ⟨w.heap.size, 0, none⟩) 0 m] 34)) (w.heap.size + 1) 34 (.slice (some ⟨w.heap.size, 0, none⟩) 0 m) := by
    have hb := Boxed.new (w.alloc (.cells (madeCells #[.int .u8 0] m) 5)) 34 (.slice (some ⟨w.heap.size, 0, none⟩) 0 m)
    rwa [World.size_alloc] at hb
  have b3 : Boxed (((w.alloc (.cells (madeCells #[.int .u8 0] m) 5)).alloc (.cells #[.slice (some ⟨w.heap.size, 0, none⟩) 0 m] 34)).alloc (.cells #[.pointer (some ⟨gr, 0, none⟩)] 38)) (w.heap.size + 1 + 1) 38 (.pointer (some ⟨gr, 0, none⟩)) := by
    have hb := Boxed.new ((w.alloc (.cells (madeCells #[.int .u8 0] m) 5)).alloc (.cells #[.slice (some ⟨w.heap.size, 0, none⟩) 0 m] 34)) 38 (.pointer (some ⟨gr, 0, none⟩))
    rwa [World.size_alloc, World.size_alloc] at hb
  have hr0 : (((w.alloc (.cells (madeCells #[.int .u8 0] m) 5)).alloc (.cells #[.slice (some ⟨w.heap.size, 0, none⟩) 0 m] 34)).alloc (.cells #[.pointer (some ⟨gr, 0, none⟩)] 38)).ownsRow w.heap.size 5 1 (.slice (some ⟨w.heap.size, 0, none⟩) 0 m) 0 [] :=
    ⟨rfl, .inr ⟨w.heap.size, m, madeCells #[.int .u8 0] m, rfl, Nat.le_refl _, blk_alloc (blk_alloc (blk_new w _) _) _, Nat.zero_le _, by simp only [maxLen]; omega, by rw [size_madeCells, Nat.mul_one], by simp⟩⟩
  have hB0 : Below w.heap.size w (((w.alloc (.cells (madeCells #[.int .u8 0] m) 5)).alloc (.cells #[.slice (some ⟨w.heap.size, 0, none⟩) 0 m] 34)).alloc (.cells #[.pointer (some ⟨gr, 0, none⟩)] 38)) :=
    below_alloc (below_alloc (below_alloc (Below.refl _ _) _) _) _
  have hs3 : (((w.alloc (.cells (madeCells #[.int .u8 0] m) 5)).alloc (.cells #[.slice (some ⟨w.heap.size, 0, none⟩) 0 m] 34)).alloc (.cells #[.pointer (some ⟨gr, 0, none⟩)] 38)).heap.size = w.heap.size + 3 := by simp
  have b2' := b2.alloc (.cells #[.pointer (some ⟨gr, 0, none⟩)] 38)
  obtain ⟨W0, hW0⟩ : ∃ W0, ((w.alloc (.cells (madeCells #[.int .u8 0] m) 5)).alloc (.cells #[.slice (some ⟨w.heap.size, 0, none⟩) 0 m] 34)).alloc (.cells #[.pointer (some ⟨gr, 0, none⟩)] 38) = W0 := ⟨_, rfl⟩
  rw [hW0] at b2' b3 hr0 hB0 hs3 ⊢
  clear hW0 b2
  have hgr : ∀ W', Below w.heap.size W0 W' → W'.cell? ⟨gr, 0, none⟩ = some v := fun W' hb => (blk_cell (blk_below h.pb (hB0.trans hb)) 0).trans rfl
  have hform : (v = .slice none 0 0 ∧ L = []) ∨ ∃ gc cap, v = .slice (some ⟨gc, 0, none⟩) L.length cap ∧ ∀ W', Below w.heap.size W0 W' → ∃ cur, W'.heap[gc]? = some (.cells cur TC (0, 0)) ∧ cur.toList.take (L.length * 35) = fl L := by
    rcases own_form h.row with h | ⟨gc, cap, cur, e, _, hg, _, _, _, ht⟩
    · exact Or.inl h
    · exact Or.inr ⟨gc, cap, e, fun W' hb => ⟨cur, blk_below hg (hB0.trans hb), ht⟩⟩
  have hZ := zero_ce
  have HZs : Aside0 ((ce c0).toArray.size = 35) := ⟨rfl⟩
  obtain ⟨Z, hZ1⟩ : ∃ Z : Array Value, (ce c0).toArray = Z := ⟨_, rfl⟩
  rw [hZ1] at hZ HZs
  have HZ := Aside0.mk hZ
  clear hZ hZ1
  refine wpIn_rangeFunc_ownH rfl h1 (gf := 46) (lb := #[.pointer (some ⟨w.heap.size + 1 + 1, 0, none⟩)]) rfl trivial (enters_of Try.func46 (by kernel_rfl) rfl)
    (stops46 (n - 1) (w.heap.size + 1 + 1) w.heap.size gr v L hl h.okc W0 (by omega) (by omega) b3.cell hgr hform)
    (fun h k => h.trans k) (fun W l o o' hl => Kp.put (by omega) (by omega) W l o o' hl) (Below.refl _ _) (fun _ => rfl)
    (IT w.heap.size gr w)
    (fun _ _ _ => False)
    (IT_own _ _ _ _ (Nat.le_refl _) (by omega))
    (fun _ _ _ _ _ hs _ _ => hs)
    ⟨⟨_, b2', hr0, trivial⟩, b3, hB0⟩
    (fun x a' W => ∃ Bx, w.heap.size + 1 + 1 < Bx ∧ W.heap[Bx]? = some (.cells (ce x.1.2).toArray TC (0, 0)) ∧ a' = { tmps := #[.pointer (some ⟨gr, 0, none⟩), undef, .slice none 0 0, .pointer (some ⟨w.heap.size + 1, 0, none⟩), undef, .pointer (some ⟨Bx, 0, none⟩), .pointer (some ⟨gr, 0, none⟩), .bool false, .pointer (some ⟨gr, 0, none⟩), .pointer (some ⟨gr, 0, none⟩), .pointer (some ⟨gr, 2, none⟩), .int .i64 (m : Int), .slice (some ⟨w.heap.size, 0, none⟩) 0 m, .pointer (some ⟨gr, 0, none⟩), .func (.func 46) #[] #[.pointer (some ⟨w.heap.size + 1 + 1, 0, none⟩)], .int .i64 (x.1.1 : Int), .agg (ce x.1.2).toArray, undef, undef, undef, undef, undef, undef], defers := [] })
    (fun x a' _ X Y row hs hg hr => by
      obtain ⟨Bx, h1, h2, h3⟩ := hs
      exact ⟨Bx, h1, blk_grown h2 hg (fun e => by
        obtain ⟨o, ho, hc⟩ := (hr Bx e.symm).2
        rw [h2] at ho; cases ho; cases hc), h3⟩)
    ?assign ?body ?done ?stop
  case assign =>
    rintro l pre x W K ⟨⟨v1, hv, hrow, _⟩, hbx, hB⟩ hK
    have hox := x.2.1
    obtain ⟨CE, hCE⟩ : ∃ C : Array Value, (ce x.1.2).toArray = C := ⟨_, rfl⟩
    have HCEs : Aside0 (CE.size = 35) := ⟨by rw [← hCE, List.size_toArray, ce_len hox]⟩
    have HC1 : Aside0 (CE.all (·.oneCell') = true) := ⟨by rw [← hCE]; exact all_oneCell_toArray (ce_one x.1.2)⟩
    simp [enc46]
    rw [hCE] at hK ⊢
    gi_wp2_with (first | (refine gi_alloc_as (lift_round _ l) rfl TC rfl Z HZ.out ?_) | (refine gi_store_new (lift_round _ l) rfl TC (.tmp 5) (.tmp 16) rfl W TC Z CE rfl rfl rfl (by rw [HCEs.out, HZs.out]) (by rw [HCEs.out]; exact size_ce) HC1.out ?_))
    refine hK _ _ ((KeepsOthers.alloc _ _).from _) ((Kp.refl _ _ W).alloc hB.size hbx.lt _) ⟨⟨v1, hv.alloc _, hrow.alloc _, trivial⟩, hbx.alloc _, hB.alloc hB.size _⟩ ⟨W.heap.size, hbx.lt, blk_new W _, ?_⟩
    rfl
  case body =>
    rintro l pre x a' W hl2 _ ⟨⟨v1, hv, hrow, _⟩, hbx, hB⟩ ⟨Bx, hBx, hbX, rfl⟩ hlt
    have hsl := seen_len 0 L
    have hcl : (chars (pre.map (·.1))).length = pre.length := by simp [chars]
    have hclb : (chars (pre.map (·.1))).length < 100000 := by omega
    clear hcl
    have hox := x.2.1
    have kch : W.cell? ⟨Bx, 33, none⟩ = some (.int .u8 x.1.2.ch) := by
      rw [blk_cell hbX, List.getElem?_toArray, ce, List.getElem?_append_right (by rw [iv_len hox]; omega), iv_len hox]
      rfl
    have hvc := hv.cell
    have hne := hbx.not_row (by decide) hrow
    have hbsz := hB.size
    have hcs : chars ((pre ++ [x]).map (·.1)) = chars (pre.map (·.1)) ++ [x.1.2.ch] := by simp [chars]
    gi_wp2_with (gi_at_builtin; refine wpListIn_append_own _ rfl _ _ 34 rfl w.heap.size 5 i0 (.int .u8 0) 1 1 Try.underlying34 hi hz0 hz1 hz2 rfl (by decide) _ _ _ rfl (hrow.alloc _) ⟨W.heap.size, 0, none⟩ 1 1 [.int .u8 x.1.2.ch] rfl rfl (cell_one_new _ _ _) (by simp [Value.oneCell']) (by simp only [maxLen]; omega) (by omega) (by simp; omega) ?_; intro v' w1 hown' hgrow _; obtain ⟨g', cap', rfl⟩ := ownsRow_succ hown'; obtain ⟨hv1, hv2, hr2, hk2, hb2⟩ := hv.appended (by decide) hrow hB.size (by omega) hown' hgrow; have hc1 := hv1.cell; have hf1 := hv1.frozen; have hbx2 := ((hbx.alloc (.cells #[.int .u8 x.1.2.ch] 5)).kept hgrow hne).other (B' := w.heap.size + 1) (by omega) (.slice (some ⟨g', 0, none⟩) ((chars (pre.map (·.1))).length + 1) cap'))
    refine ⟨hk2.from _, ⟨hb2, hbx2.trans hbx.symm⟩, ⟨⟨_, hv2, ?_, trivial⟩, hbx2, hB.trans hb2⟩⟩
    rw [hcs, List.length_append, List.length_singleton]
    have he : encs (Value.int .u8) (chars (pre.map (·.1)) ++ [x.1.2.ch]) = encs (Value.int .u8) (chars (pre.map (·.1))) ++ [.int .u8 x.1.2.ch] := by simp [encs]
    rw [he]
    exact hr2
  case done =>
    rintro D ys W hD hys ⟨⟨v1, hv, hrow, _⟩, hbx, hB⟩ hK
    rw [hys] at hrow
    have hvc := hv.cell
    gi_wp2
    refine ⟨by simp, .inl ⟨_, _, rfl, run_takeDeferred hK, ?_⟩⟩
    refine ⟨_, results_tmp rfl _ _ _, v1, rfl, Kd.R_of_own (ownsRow_putObj hrow _ hK rfl) (fun _ _ => trivial), hB.trans (belowK_b (w := w) (Nat.le_refl _) W D _ _ (by omega) hK rfl rfl)⟩
  case stop =>
    rintro D c pre W _ _ hf _
    exact hf.elim
end Go.Proofs.Ytkcdlilglgfkaaa.Rg
