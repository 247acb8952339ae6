/- Rows of cells: Fork. -/
import Derived.Test.YtkcdlilglgfkaaaRgEn
import Derived.Shelf.SlMaps.Clone
set_option linter.unusedVariables false
set_option linter.unusedSimpArgs false
namespace Go.Proofs.Ytkcdlilglgfkaaa.Rg
open Go Go.RowKit Go.Proofs.YtkcdlilglgfkaaaW.PrintWords Go.Proofs.YtkcdlilglgfkaaaW.PrintLast Go.Proofs.YtkcdlilglgfkaaaW.PrintMore Go.Proofs.Ytkcdlilglgfkaaa.PA Go.Proofs.Ytkcdlilglgfkaaa.Ar Go.Proofs.Ytkcdlilglgfkaaa.Sha
set_option maxRecDepth 100000 in
set_option maxHeartbeats 4000000 in
theorem MClone_calls (w : World) (b : Nat) (es : Array MapEntry) (clock : Nat) (hb : w.heap[b]? = some (.map es clock)) :
    Calls Try.prog 41 #[.map (some b)] w fun e w' => e = .returned (.map (some w.heap.size)) ∧ w' = w.alloc (.map es clock) := by
  have hu := Try.underlying76
  have hq := fun w => run_eql_map_nil_sl (P := Try.prog) w TM _ _ (some b) hu
  go_enter Try.func41, Try.ntmps41
  go_wp2
  rw [run_callFunc_extern Try.func48 (by kernel_rfl) (by kernel_rfl) (by kernel_rfl) (e := Extern.MapsClone.clone) (by kernel_rfl), run_maps_clone_sl w TM hb]
  simp only [Result.andThen]
  rw [Oper.upon_value]
  go_wp2
  rw [run_typeAssert_map_sl _ TM _ _ _ _ hu]
  simp only [Result.andThen]
  rw [Oper.upon_value]
  go_wp2
  go_ret
  exact ⟨rfl, rfl⟩
section
variable {w0 w w1 W : World} {gr gm : Nat} {L : List Ce} {M : List Idt} {v : Value}
def SFk (w w0 : World) (gr gm : Nat) (L : List Ce) (M : List Idt) (v : Value) (W : World) : Prop :=
  W.cell? ⟨gr, 0, none⟩ = some v ∧ W.cell? ⟨gr, 1, none⟩ = some (.map (some gm)) ∧ W.cell? ⟨gr, 2, none⟩ = some (.int .i64 (shown L)) ∧ Aside0 (Rw w0 gr gm L M v W ∧ Below w.heap.size w W)
theorem sfk_of (h : Rw w0 gr gm L M v W) (hb : Below w.heap.size w W) : SFk w w0 gr gm L M v W := ⟨(blk_cell h.pb 0).trans rfl, (blk_cell h.pb 1).trans rfl, (blk_cell h.pb 2).trans rfl, ⟨h, hb⟩⟩
theorem fk_rw {v1 : Value} {gm2 : Nat} (h : Rw w0 gr gm L M v W) (hb : Below w.heap.size w W) (hO : Own W w.heap.size v1 L) (hM : W.heap[gm2]? = some (.map (E 0 M).toArray M.length)) (hz : w.heap.size ≤ gm2) :
    Rw w W.heap.size gm2 L M v1 (W.alloc (.cells #[v1, .map (some gm2), .int .i64 (shown L)] TR)) :=
  ⟨below_alloc hb _, blk_new W _, Kd.R_below hO (below_alloc (Below.refl _ _) _), blk_alloc hM _, ⟨hb.size, hz⟩, h.oks, h.same⟩
set_option maxRecDepth 100000 in
set_option maxHeartbeats 4000000 in
theorem Fork_calls (h : Rw w0 gr gm L M v w) (hl : L.length < 100000) :
    Calls Try.prog 29 #[.pointer (some ⟨gr, 0, none⟩)] w fun e w' => ∃ gr' gm' v', e = .returned (.pointer (some ⟨gr', 0, none⟩)) ∧ Rw w gr' gm' L M v' w' := by
  have H := Aside0.mk h
  obtain ⟨A, c, rfl, hlc, hC⟩ := Kd.R_reads h.row
  have HCL : Aside0 (∀ W, Rw w0 gr gm L M (.slice A L.length c) W → Calls Try.prog 34 #[.slice A L.length c] W fun e w' => ∃ v1, e = .returned v1 ∧ Own w' W.heap.size v1 L ∧ Below W.heap.size W w') := ⟨fun W hW => Clone_calls W A c L (Kd.R_reads' hW.row).2.2 hl⟩
  clear h hlc hC
  go_enter Try.func29, Try.ntmps29
  go_upto_region 3 with fail
  -- [fork
  refine start_ (n := 17) (S := SFk w w0 gr gm L M (.slice A L.length c)) (ds := []) #[false, false, false, false, false, false, false, false, false, false, false, false, false, false, false, false, false] (by kernel_rfl) rfl rfl (sfk_of (H.out.step (pw_below_drewN (Below.refl _ _) 1)) (pw_below_drewN (Below.refl _ _) 1)) (fun hHeld => ?_)
  generalize w.drew = wd at hHeld ⊢
  clear H
  refine pure_ (i := 0) (N := some 5) (v := ?_) (a' := ?_) #[true, false, false, false, false, false, false, false, false, false, false, false, false, false, false, false, false] rfl rfl (by kernel_rfl) (fun _ _ _ h => h) (Or.inl ⟨by rfl, ?_⟩) ?_ ?_
  rotate_left
  · intro w'
    go_simp
    with_reducible rfl
  rotate_left
  · simp only [Act.put, List.setIfInBounds_toArray, List.set_cons_zero, List.set_cons_succ, i64_w, i32_w]
    rfl
  skip
  refine pure_ (i := 1) (N := some 6) (v := ?_) (a' := ?_) #[true, true, false, false, false, false, false, false, false, false, false, false, false, false, false, false, false] rfl rfl (by kernel_rfl) (fun _ _ _ h => h) (Or.inl ⟨by rfl, ?_⟩) ?_ ?_
  rotate_left
  · intro w'
    go_simp
    with_reducible rfl
  rotate_left
  · simp only [Act.put, List.setIfInBounds_toArray, List.set_cons_zero, List.set_cons_succ, i64_w, i32_w]
    rfl
  refine pure_ (i := 2) (N := some 7) (v := ?_) (a' := ?_) #[true, true, true, false, false, false, false, false, false, false, false, false, false, false, false, false, false] rfl rfl (by kernel_rfl) (fun _ _ _ h => h) (Or.inl ⟨by rfl, ?_⟩) ?_ ?_
  rotate_left
  · intro w'
    go_simp
    with_reducible rfl
  rotate_left
  · simp only [Act.put, List.setIfInBounds_toArray, List.set_cons_zero, List.set_cons_succ, i64_w, i32_w]
    rfl
  refine take_ (i := 3) (N := some 8) (v := ?_) (a' := ?_) #[true, true, true, true, false, false, false, false, false, false, false, false, false, false, false, false, false] rfl rfl (by kernel_rfl) (fun _ _ _ h => h) (Or.inl ⟨by rfl, ?_⟩) hHeld ?_ ?_
  rotate_left
  · rintro w' ⟨s0, s1, s2, _⟩
    go_simp
    with_reducible rfl
  rotate_left
  · simp only [Act.put, List.setIfInBounds_toArray, List.set_cons_zero, List.set_cons_succ, i64_w, i32_w]
    rfl
  refine pure_ (i := 5) (N := some 10) (v := ?_) (a' := ?_) #[true, true, true, true, false, true, false, false, false, false, false, false, false, false, false, false, false] rfl rfl (by kernel_rfl) (fun _ _ _ h => h) (Or.inl ⟨by rfl, ?_⟩) ?_ ?_
  rotate_left
  · intro w'
    go_simp
    with_reducible rfl
  rotate_left
  · simp only [Act.put, List.setIfInBounds_toArray, List.set_cons_zero, List.set_cons_succ, i64_w, i32_w]
    rfl
  refine pure_ (i := 6) (N := some 11) (v := ?_) (a' := ?_) #[true, true, true, true, false, true, true, false, false, false, false, false, false, false, false, false, false] rfl rfl (by kernel_rfl) (fun _ _ _ h => h) (Or.inl ⟨by rfl, ?_⟩) ?_ ?_
  rotate_left
  · intro w'
    go_simp
    with_reducible rfl
  rotate_left
  · simp only [Act.put, List.setIfInBounds_toArray, List.set_cons_zero, List.set_cons_succ, i64_w, i32_w]
    rfl
  refine pure_ (i := 7) (N := some 12) (v := ?_) (a' := ?_) #[true, true, true, true, false, true, true, true, false, false, false, false, false, false, false, false, false] rfl rfl (by kernel_rfl) (fun _ _ _ h => h) (Or.inl ⟨by rfl, ?_⟩) ?_ ?_
  rotate_left
  · intro w'
    go_simp
    with_reducible rfl
  rotate_left
  · simp only [Act.put, List.setIfInBounds_toArray, List.set_cons_zero, List.set_cons_succ, i64_w, i32_w]
    rfl
  refine take_ (i := 8) (N := some 13) (v := ?_) (a' := ?_) #[true, true, true, true, false, true, true, true, true, false, false, false, false, false, false, false, false] rfl rfl (by kernel_rfl) (fun _ _ _ h => h) (Or.inl ⟨by rfl, ?_⟩) hHeld ?_ ?_
  rotate_left
  · rintro w' ⟨s0, s1, s2, _⟩
    go_simp
    with_reducible rfl
  rotate_left
  · simp only [Act.put, List.setIfInBounds_toArray, List.set_cons_zero, List.set_cons_succ, i64_w, i32_w]
    rfl
  refine pure_ (i := 10) (N := some 15) (v := ?_) (a' := ?_) #[true, true, true, true, false, true, true, true, true, false, true, false, false, false, false, false, false] rfl rfl (by kernel_rfl) (fun _ _ _ h => h) (Or.inl ⟨by rfl, ?_⟩) ?_ ?_
  rotate_left
  · intro w'
    go_simp
    with_reducible rfl
  rotate_left
  · simp only [Act.put, List.setIfInBounds_toArray, List.set_cons_zero, List.set_cons_succ, i64_w, i32_w]
    rfl
  refine pure_ (i := 11) (N := some 16) (v := ?_) (a' := ?_) #[true, true, true, true, false, true, true, true, true, false, true, true, false, false, false, false, false] rfl rfl (by kernel_rfl) (fun _ _ _ h => h) (Or.inl ⟨by rfl, ?_⟩) ?_ ?_
  rotate_left
  · intro w'
    go_simp
    with_reducible rfl
  rotate_left
  · simp only [Act.put, List.setIfInBounds_toArray, List.set_cons_zero, List.set_cons_succ, i64_w, i32_w]
    rfl
  refine pure_ (i := 12) (N := some 17) (v := ?_) (a' := ?_) #[true, true, true, true, false, true, true, true, true, false, true, true, true, false, false, false, false] rfl rfl (by kernel_rfl) (fun _ _ _ h => h) (Or.inl ⟨by rfl, ?_⟩) ?_ ?_
  rotate_left
  · intro w'
    go_simp
    with_reducible rfl
  rotate_left
  · simp only [Act.put, List.setIfInBounds_toArray, List.set_cons_zero, List.set_cons_succ, i64_w, i32_w]
    rfl
  refine take_ (i := 13) (N := some 18) (v := ?_) (a' := ?_) #[true, true, true, true, false, true, true, true, true, false, true, true, true, true, false, false, false] rfl rfl (by kernel_rfl) (fun _ _ _ h => h) (Or.inl ⟨by rfl, ?_⟩) hHeld ?_ ?_
  rotate_left
  · rintro w' ⟨s0, s1, s2, _⟩
    go_simp
    with_reducible rfl
  rotate_left
  · simp only [Act.put, List.setIfInBounds_toArray, List.set_cons_zero, List.set_cons_succ, i64_w, i32_w]
    rfl
  refine one_ (i := 4) (N := some 9) #[true, true, true, true, true, true, true, true, true, false, true, true, true, true, false, false, false] rfl rfl (by kernel_rfl) (by decide) (fun K hK => ?_)
  refine goes_ Try.func34 (by kernel_rfl) rfl #[.slice A L.length c] (by rfl) rfl rfl (by first | rfl | (simp only [List.map_toArray, List.map_cons, List.map_nil]; done) | (simp only [List.map_toArray, List.map_cons, List.map_nil]; rfl)) ?_
  refine (HCL.out _ hHeld.2.2.2.out.1).mono ?_
  rintro e w4 ⟨v1, rfl, hO, hb⟩
  obtain ⟨A1, c1, rfl⟩ := Kd.R_slice hO
  refine ⟨_, rfl, ?_⟩
  have HO := Aside0.mk (own_low hO hHeld.2.2.2.out.2.size)
  have hS2 := sfk_of (hHeld.2.2.2.out.1.step hb) (below_step hHeld.2.2.2.out.2 hb)
  clear hb hO hHeld
  refine hK.out _ _ hS2 (fun hHeld => ?_)
  clear hK K hS2
  refine norm_ (a' := ?_) ?_ ?_
  rotate_left
  · show Act.put _ (some 9) _ = _
    simp only [Act.put, List.setIfInBounds_toArray, List.set_cons_zero, List.set_cons_succ, i64_w, i32_w]
    rfl
  refine one_ (i := 9) (N := some 14) #[true, true, true, true, true, true, true, true, true, true, true, true, true, true, false, false, false] rfl rfl (by kernel_rfl) (by decide) (fun K hK => ?_)
  refine goes_ Try.func41 (by kernel_rfl) rfl #[.map (some gm)] (by rfl) rfl rfl (by first | rfl | (simp only [List.map_toArray, List.map_cons, List.map_nil]; done) | (simp only [List.map_toArray, List.map_cons, List.map_nil]; rfl)) ?_
  refine (MClone_calls _ gm _ _ hHeld.2.2.2.out.1.mb).mono ?_
  rintro e w5 ⟨rfl, rfl⟩
  refine ⟨_, rfl, ?_⟩
  have hb : Below w4.heap.size w4 (w4.alloc (.map (E 0 M).toArray M.length)) := below_alloc (Below.refl _ _) _
  have HO2 := Aside0.mk (Kd.R_below HO.out hb)
  have HM2 : Aside0 ((w4.alloc (.map (E 0 M).toArray M.length)).heap[w4.heap.size]? = some (.map (E 0 M).toArray M.length)) := ⟨blk_new w4 _⟩
  have HZ2 : Aside0 (w.heap.size ≤ w4.heap.size ∧ w4.heap.size < (w4.alloc (.map (E 0 M).toArray M.length)).heap.size) := ⟨hHeld.2.2.2.out.2.size, by simp⟩
  have hS2 := sfk_of (hHeld.2.2.2.out.1.step hb) (below_step hHeld.2.2.2.out.2 hb)
  clear hb HO hHeld
  refine hK.out _ _ hS2 (fun hHeld => ?_)
  clear hK K hS2
  refine norm_ (a' := ?_) ?_ ?_
  rotate_left
  · show Act.put _ (some 14) _ = _
    simp only [Act.put, List.setIfInBounds_toArray, List.set_cons_zero, List.set_cons_succ, i64_w, i32_w]
    rfl
  generalize w4.alloc (.map (E 0 M).toArray M.length) = w5 at *
  generalize w4.heap.size = gm2 at *
  refine pure_ (i := 14) (N := some 19) (v := ?_) (a' := ?_) #[true, true, true, true, true, true, true, true, true, true, true, true, true, true, true, false, false] rfl rfl (by kernel_rfl) (fun _ _ _ h => h) (Or.inl ⟨by rfl, ?_⟩) ?_ ?_
  rotate_left
  · intro w'
    go_simp
    with_reducible rfl
  rotate_left
  · simp only [Act.put, List.setIfInBounds_toArray, List.set_cons_zero, List.set_cons_succ, i64_w, i32_w]
    rfl
  refine one_ (i := 15) (N := some 20) #[true, true, true, true, true, true, true, true, true, true, true, true, true, true, true, true, false] rfl rfl (by kernel_rfl) (by decide) (fun K hK => ?_)
  refine value_ (N := some 20) (w1 := w5.alloc (.cells #[.slice A1 L.length c1, .map (some gm2), .int .i64 (shown L)] TR)) (v := .pointer (some ⟨w5.heap.size, 0, none⟩)) (by rfl) rfl (by go_simp) ?_
  have hb : Below w5.heap.size w5 (w5.alloc (.cells #[.slice A1 L.length c1, .map (some gm2), .int .i64 (shown L)] TR)) := below_alloc (Below.refl _ _) _
  have HF := Aside0.mk (fk_rw hHeld.2.2.2.out.1 hHeld.2.2.2.out.2 HO2.out HM2.out HZ2.out.1)
  have hS2 := sfk_of (hHeld.2.2.2.out.1.step hb) (below_step hHeld.2.2.2.out.2 hb)
  clear hb hHeld
  refine hK.out _ _ hS2 (fun hHeld => ?_)
  clear hK K hS2
  refine norm_ (a' := ?_) ?_ ?_
  rotate_left
  · show Act.put _ (some 20) _ = _
    simp only [Act.put, List.setIfInBounds_toArray, List.set_cons_zero, List.set_cons_succ, i64_w, i32_w]
    rfl
  refine pure_ (i := 16) (N := some 2) (v := ?_) (a' := ?_) #[true, true, true, true, true, true, true, true, true, true, true, true, true, true, true, true, true] rfl rfl (by kernel_rfl) (fun _ _ _ h => h) (Or.inl ⟨by rfl, ?_⟩) ?_ ?_
  rotate_left
  · intro w'
    go_simp
    with_reducible rfl
  rotate_left
  · simp only [Act.put, List.setIfInBounds_toArray, List.set_cons_zero, List.set_cons_succ, i64_w, i32_w]
    rfl
  refine done_ (by kernel_rfl) ?_
  -- fork]
  go_wp2_with fail
  go_ret
  exact ⟨_, gm2, _, rfl, HF.out⟩
end
end Go.Proofs.Ytkcdlilglgfkaaa.Rg
