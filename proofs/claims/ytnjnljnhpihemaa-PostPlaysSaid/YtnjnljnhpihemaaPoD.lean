/- Posts: a row of letters without one of them. -/
import Derived.Test.YtnjnljnhpihemaaPoU
set_option linter.unusedVariables false
set_option linter.unusedSimpArgs false
namespace Go.Proofs.Ytnjnljnhpihemaa.Po
open Go Go.RowKit Go.Proofs.YtnjnljnhpihemaaW.PrintWords Go.Proofs.YtnjnljnhpihemaaW.PrintLast Go.Proofs.YtnjnljnhpihemaaW.PrintMore Go.Proofs.Ytnjnljnhpihemaa.PA
/-- A cell behind a row's end is nobody's. -/
theorem R_spare {α : Type} {d : Kd α} {e base n c g : Nat} {ok : Nat → Prop} {W : World} {xs : List α} (h : d.R e W base ok (.slice (some ⟨g, 0, none⟩) n c) xs) (i : Nat) (hi : xs.length * d.sz ≤ i) (u : Value) : d.R e (W.setCell ⟨g, i, none⟩ u) base ok (.slice (some ⟨g, 0, none⟩) n c) xs := by
  obtain ⟨h0, inner, ⟨hl, ho⟩, hr⟩ := h
  rcases ho with ⟨hv, _⟩ | ⟨g', cap', cur, hv, hb, hh, hm, hcm, hcs, ht⟩
  · cases hv
  injection hv with ha hn hc
  injection ha with ha
  injection ha with hg
  subst hg; subst hc; subst hn
  have hne : ∀ k, (fun k => ok k ∧ some k ≠ (Value.slice (some ⟨g, 0, none⟩) xs.length c).ownBlock) k → k ≠ g := fun k hk e => hk.2 (by rw [e]; rfl)
  refine ⟨h0, inner, ⟨hl, .inr ⟨g, c, cur.setIfInBounds i u, rfl, hb, blk_put hh i u rfl, hm, hcm, by simpa using hcs, ?_⟩⟩, hr.imp_ (fun x cs hp => Kd.M_far (p := ⟨g, i, none⟩) hp hne u)⟩
  rw [← ht, Array.toList_setIfInBounds, List.take_set_of_le (by simpa using hi)]
theorem info_row1 : (Try.prog.info? 23).map (·.size) = some 1 := by kernel_rfl
theorem grown_drew (w : World) (g : Nat) : w.grownBy w.drew (some g) := ⟨rfl, rfl, rfl, Nat.le_refl _, fun _ _ _ => rfl⟩
theorem grown_set {w w1 : World} {g : Nat} (h : w.grownBy w1 (some g)) (i : Nat) (v : Value) : w.grownBy (w1.setCell ⟨g, i, none⟩ v) (some g) :=
  ⟨h.os, h.tape, h.output, by simpa [World.setCell] using h.size, fun k hk hne => (Below.heap_setCell w1 ⟨g, i, none⟩ v k (fun e => hne (by rw [e]))).trans (h.block k hk hne)⟩
theorem grown_trans {w w1 w2 : World} {g : Nat} (h : w.grownBy w1 (some g)) (k : w1.grownBy w2 (some g)) : w.grownBy w2 (some g) :=
  ⟨k.os.trans h.os, k.tape.trans h.tape, k.output.trans h.output, Nat.le_trans h.size k.size, fun i hi hne => (k.block i (Nat.lt_of_lt_of_le hi h.size) hne).trans (h.block i hi hne)⟩
theorem clear_run (ty : TypeId) (w : World) (g m c2 : Nat) (v : Value) (hc : w.cell? ⟨g, m, none⟩ = some v) (hf : w.frozen? ⟨g, m, none⟩ = false) : (Builtin.clear_ #[22] ty #[.slice (some ⟨g, m, none⟩) 1 c2]).run Try.prog w = .ok (.tuple #[]) (w.setCell ⟨g, m, none⟩ (.slice none 0 0)) := by
  have hu := Try.underlying22
  have hi : (Try.prog.info? 23).map (·.zero) = some (some (.slice none 0 0)) := by kernel_rfl
  obtain ⟨i, h1, h2⟩ := Option.map_eq_some_iff.1 hi
  unfold Builtin.clear_
  have hz : (Builtin.zeroCells #[Value.slice none 0 0] 1).toList = [Value.slice none 0 0] := by simp [Builtin.zeroCells]
  have hst := run_storeCells_cells (P := Try.prog) g m [Value.slice none 0 0] 0 w (fun j hj => by
    obtain rfl : j = 0 := by simp at hj; omega
    simp [hc]) (fun j hj => by
    obtain rfl : j = 0 := by simp at hj; omega
    simpa using hf) (fun v hv => by rw [List.mem_singleton.1 hv]; rfl)
  have hs1 : w.setCells g (m + 0) [Value.slice none 0 0] = w.setCell ⟨g, m, none⟩ (.slice none 0 0) := by simp [World.setCells]
  rw [hs1] at hst
  simp [Sem.run_bind, run_underlying hu w, zeroValue, typeInfo, h1, h2, Value.cells, hz, hst]
/-- A cell within a row's room is there. -/
theorem R_room {α : Type} {d : Kd α} {e base n c g : Nat} {ok : Nat → Prop} {W : World} {xs : List α} (h : d.R e W base ok (.slice (some ⟨g, 0, none⟩) n c) xs) (i : Nat) (hi : i < c * d.sz) : (∃ v, W.cell? ⟨g, i, none⟩ = some v) ∧ W.frozen? ⟨g, i, none⟩ = false := by
  obtain ⟨h0, inner, ⟨hl, ho⟩, hr⟩ := h
  rcases ho with ⟨hv, _⟩ | ⟨g', cap', cur, hv, hb, hh, hm, hcm, hcs, ht⟩
  · cases hv
  injection hv with ha hn hc
  injection ha with ha
  injection ha with hg
  subst hg; subst hc
  exact ⟨⟨cur[i]'(by omega), by rw [blk_cell hh]; simp⟩, blk_frozen hh i⟩
/-- Letters' rows, behind an allocation: what they lie in is elder. -/
theorem rows_alloc {w : World} {base : Nat} {ok : Nat → Prop} {A : Option Addr} {n : Nat} {q : List (List Int)} {o : Obj} (h : ReadsRow (fun x cs => KR.M w base ok x cs) 1 w A n q) : ReadsRow (fun x cs => KR.M (w.alloc o) base (fun k => ok k ∧ k < w.heap.size) x cs) 1 (w.alloc o) A n q := by
  obtain ⟨h1, h2, h3⟩ := h
  refine ⟨h1, h2, fun hn => ?_⟩
  obtain ⟨ad, e, hc⟩ := h3 hn
  refine ⟨ad, e, fun j p hp => ?_⟩
  obtain ⟨c, hs, hM, hcell⟩ := hc j p hp
  refine ⟨c, hs, KR.M_mono (fun k hk => ⟨hk.1, hk.2.2.1⟩) (Kd.M_below (KR.M_bound hM) (below_alloc (Below.refl _ _) o)), fun i u hu => pw_cell_below (below_alloc (Below.refl _ _) o) (hcell i u hu)⟩
section
variable {base : Nat} {S : Nat → Prop} {w w0 : World} {q : List (List Int)} {A : Option Addr} {c : Nat}
set_option maxRecDepth 100000 in
set_option maxHeartbeats 4000000 in
theorem clone2_calls (hB : Below w0.heap.size w0 w) (h : Kd.R KR 23 w w0.heap.size S (.slice A q.length c) q) (hl : q.length ≤ 64) (hq : 0 < q.length) :
    Calls Try.prog 28 #[.slice A q.length c] w fun e w' => ∃ g c', e = .returned (.slice (some ⟨g, 0, none⟩) q.length c') ∧ w.heap.size ≤ g ∧ Kd.R KR 23 w' w0.heap.size (fun k => S k ∨ w.heap.size ≤ k) (.slice (some ⟨g, 0, none⟩) q.length c') q ∧ Below w.heap.size w w' := by
  obtain ⟨g0, cap, he, hg0, hg1, _⟩ := Kd.R_form h hq
  injection he with e1 e2 e3
  subst e1
  subst e3
  clear e2
  have heql := fun W : World => Lib.run_eql_slice_nil (P := Try.prog) W 22 23 (some ⟨g0, 0, none⟩) q.length c 0 0 Try.underlying22
  simp only [Option.isNone_some] at heql
  obtain ⟨A', c', hv, _, hrd⟩ := OwnRow.reads h.2
  have hA' : A' = some ⟨g0, 0, none⟩ := by injection hv with e _ _; exact e.symm
  have hc' : c' = c := by injection hv with _ _ e; exact e.symm
  subst hA'
  subst hc'
  clear hv
  have HRD := Aside0.mk hrd
  have HH := Aside0.mk h
  have HB := Aside0.mk hB
  have HL := Aside0.mk hl
  have HG1 := Aside0.mk hg1
  have HQ := Aside0.mk hq
  have HB0 : Aside0 (Below w0.heap.size w0 (w.alloc (.cells #[] 23))) := ⟨below_alloc hB _⟩
  have HO : Aside0 (Kd.R KR 23 (w.alloc (.cells #[] 23)) w0.heap.size (fun k => S k ∨ w.heap.size ≤ k) (.slice (some ⟨w.heap.size, 0, none⟩) 0 0) []) :=
    ⟨⟨fun k hk => Or.inr (by simp [Value.ownBlock] at hk; omega), [], ⟨by simp [KR, Kd.slice], .inr ⟨w.heap.size, 0, #[], rfl, hB.size, blk_new w _, Nat.le_refl _, by decide, by simp [KR, Kd.slice], by simp⟩⟩, Reps.none _ _⟩⟩
  clear hrd h hB hl hg0 hg1 hq
  go_enter Try.func28, Try.ntmps28
  go_wp2_with ((with_reducible refine gate_builtin (b := .append) (xs := #[.tmp 5, .tmp 6]) rfl ?_); at_builtin; refine Kd.R_append_rows KR (w0 := w0) w0.heap.size rfl (.tmp 5) (.tmp 6) 22 23 (.slice none 0 0) 24 rfl Try.underlying22 info_row rfl (by decide) (by decide) (.slice (some ⟨w.heap.size, 0, none⟩) 0 0) ([] : List (List Int)) q (some ⟨g0, 0, none⟩) q.length c' (fun k => S k ∨ w.heap.size ≤ k) (fun k => (S k ∧ some k ≠ (Value.slice (some ⟨g0, 0, none⟩) q.length c').ownBlock) ∧ k < w.heap.size) rfl rfl HO.out (rows_alloc HRD.out) (fun _ _ h => h) (fun k hk => ⟨Or.inl hk.1.1, fun e => by simp [Value.ownBlock] at e; have := hk.2; omega⟩) (fun k hk => Or.inr (by simp at hk; omega)) HB0.out HB0.out.size (by have := HL.out; simp; omega) ?_; intro v7 w7 ho hb hg hat; rw [List.nil_append] at ho; have HO7 := Aside0.mk ho; have HG7 := Aside0.mk hg; have HAT := Aside0.mk hat; clear ho hb hg hat)
  obtain ⟨g, c2, rfl, hgb, _⟩ := Kd.R_form HO7.out HQ.out
  have hgw : w.heap.size ≤ g := by
    rcases HAT.out with h | ⟨k, h, hk⟩
    · simp [Value.ownBlock] at h; omega
    · simp [Value.ownBlock] at h hk; omega
  have hbw : Below w.heap.size w w7 := pw_below_grown (below_alloc (Below.refl w.heap.size w) (.cells #[] 23)) _ (below_alloc (Below.refl w.heap.size w) (.cells #[] 23)).size HG7.out (fun k hk => by simp [Value.ownBlock] at hk; omega)
  go_ret
  exact ⟨g, c2, rfl, hgw, HO7.out, hbw⟩
set_option maxRecDepth 100000 in
set_option maxHeartbeats 4000000 in
theorem delete_calls {g k : Nat} (hB : Below w0.heap.size w0 w) (h : Kd.R KR 23 w w0.heap.size S (.slice (some ⟨g, 0, none⟩) q.length c) q) (hk : k < q.length) (hl : q.length ≤ 64) :
    Calls Try.prog 27 #[.slice (some ⟨g, 0, none⟩) q.length c, .int .i64 (k : Int), .int .i64 ((k + 1 : Nat) : Int)] w fun e w' => ∃ c', e = .returned (.slice (some ⟨g, 0, none⟩) (q.length - 1) c') ∧ Kd.R KR 23 w' w0.heap.size S (.slice (some ⟨g, 0, none⟩) (q.length - 1) c') (q.eraseIdx k) ∧ w.grownBy w' (some g) := by
  have hu := Try.underlying22
  have HH := Aside0.mk h
  have HB := Aside0.mk hB
  obtain ⟨_, hqc, _⟩ := Kd.R_reads' h
  have HC := Aside0.mk hqc
  have HL := Aside0.mk hl
  clear h hB
  have hsz : (Try.prog.info? 23).map (·.size) = some 1 := info_row1
  have HT : Aside0 (∀ W : World, (Instr.slice 22 (.slice (some ⟨g, 0, none⟩) q.length c) none (some (.int .i64 (k : Int))) none).run Try.prog W = .ok (.slice (some ⟨g, 0, none⟩) k c) W) := ⟨fun W => by
    have h1 : (k : Int) ≤ (c : Int) := by omega
    have h0 : (0 : Int) ≤ (k : Int) := by omega
    go_simp⟩
  obtain ⟨A1, hA1⟩ : ∃ A1, A1 = if c = k + 1 then some (⟨g, 0, none⟩ : Addr) else (some (⟨g, 0, none⟩ : Addr)).map (·.add ((k + 1) * 1)) := ⟨_, rfl⟩
  have HD : Aside0 (∀ W : World, (Instr.slice 22 (.slice (some ⟨g, 0, none⟩) q.length c) (some (.int .i64 ((k : Int) + 1))) none none).run Try.prog W = .ok (.slice A1 (q.length - (k + 1)) (c - (k + 1))) W) := ⟨fun W => by
    have h1 : (k : Int) + 1 ≤ (q.length : Int) := by omega
    have h0 : (0 : Int) ≤ (k : Int) + 1 := by omega
    rw [hA1]
    go_simp⟩
  have HA1 := Aside0.mk hA1
  have HK := Aside0.mk hk
  go_enter Try.func27, Try.ntmps27
  go_wp2_with fail
  -- [del
  refine start_ (n := 8) (S := fun _ => True) (ds := []) #[false, false, false, false, false, false, false, false] (by kernel_rfl) rfl rfl trivial (fun hHeld => ?_)
  have HHd := Aside0.mk (Kd.R_drew HH.out)
  have HBd := Aside0.mk (below_drew HB.out)
  have HWd := Aside0.mk (grown_drew w g)
  generalize w.drew = wd at HHd HBd HWd hHeld ⊢
  refine pure_ (i := 0) (N := some 20) (v := ?_) (a' := ?_) #[true, false, false, false, false, false, false, false] rfl rfl (by kernel_rfl) (fun _ _ _ h => h) (Or.inl ⟨by rfl, ?_⟩) ?_ ?_
  rotate_left
  · intro w'
    go_simp
    with_reducible rfl
  rotate_left
  · simp only [Act.put, List.setIfInBounds_toArray, List.set_cons_zero, List.set_cons_succ, i64_w, i32_w]
    rfl
  refine pure_ (i := 1) (N := some 21) (v := ?_) (a' := ?_) #[true, true, false, false, false, false, false, false] rfl rfl (by kernel_rfl) (fun _ _ _ h => h) (Or.inl ⟨by rfl, ?_⟩) ?_ ?_
  rotate_left
  · intro w'
    go_simp
    with_reducible rfl
  rotate_left
  · simp only [Act.put, List.setIfInBounds_toArray, List.set_cons_zero, List.set_cons_succ, i64_w, i32_w]
    rfl
  refine pure_ (i := 2) (N := some 22) (v := .slice (some ⟨g, 0, none⟩) k c) (a' := ?_) #[true, true, true, false, false, false, false, false] rfl rfl (by kernel_rfl) (fun _ _ _ h => h) (Or.inl ⟨by rfl, ?_⟩) ?_ ?_
  · intro w'
    have hs := HT.out w'
    go_simp
  rotate_left
  · simp only [Act.put, List.setIfInBounds_toArray, List.set_cons_zero, List.set_cons_succ, i64_w, i32_w]
    rfl
  refine pure_ (i := 3) (N := some 23) (v := ?_) (a' := ?_) #[true, true, true, true, false, false, false, false] rfl rfl (by kernel_rfl) (fun _ _ _ h => h) (Or.inl ⟨by rfl, ?_⟩) ?_ ?_
  rotate_left
  · intro w'
    go_simp
    with_reducible rfl
  rotate_left
  · simp only [Act.put, List.setIfInBounds_toArray, List.set_cons_zero, List.set_cons_succ, i64_w, i32_w]
    rfl
  refine pure_ (i := 4) (N := some 24) (v := ?_) (a' := ?_) #[true, true, true, true, true, false, false, false] rfl rfl (by kernel_rfl) (fun _ _ _ h => h) (Or.inl ⟨by rfl, ?_⟩) ?_ ?_
  rotate_left
  · intro w'
    go_simp
    with_reducible rfl
  rotate_left
  · simp only [Act.put, List.setIfInBounds_toArray, List.set_cons_zero, List.set_cons_succ, i64_w, i32_w]
    rfl
  refine pure_ (i := 5) (N := some 25) (v := .slice A1 (q.length - (k + 1)) (c - (k + 1))) (a' := ?_) #[true, true, true, true, true, true, false, false] rfl rfl (by kernel_rfl) (fun _ _ _ h => h) (Or.inl ⟨by rfl, ?_⟩) ?_ ?_
  · intro w'
    have hs := HD.out w'
    go_simp
  rotate_left
  · simp only [Act.put, List.setIfInBounds_toArray, List.set_cons_zero, List.set_cons_succ, i64_w, i32_w]
    rfl
  refine one_ (i := 6) (N := some 26) #[true, true, true, true, true, true, true, false] rfl rfl (by kernel_rfl) (by decide) (fun K hK => ?_)
  refine Kd.R_delete_step KR (w0 := w0) w0.heap.size (by rfl) (.tmp 22) (.tmp 25) 22 23 rfl Try.underlying22 info_row1 (k := k) rfl rfl HA1.out rfl HHd.out HK.out HBd.out HBd.out.size ?_
  intro w7 ho hb hg
  have HO7 := Aside0.mk ho
  have HG7 := Aside0.mk (grown_trans HWd.out hg)
  clear ho hb hg
  refine hK.out _ _ trivial (fun hHeld => ?_)
  clear hK K
  refine norm_ (a' := ?_) ?_ ?_
  rotate_left
  · show Act.put _ (some 26) _ = _
    simp only [Act.put, List.setIfInBounds_toArray, List.set_cons_zero, List.set_cons_succ, i64_w, i32_w]
    rfl
  refine pure_ (i := 7) (N := some 0) (v := ?_) (a' := ?_) #[true, true, true, true, true, true, true, true] rfl rfl (by kernel_rfl) (fun _ _ _ h => h) (Or.inl ⟨by rfl, ?_⟩) ?_ ?_
  rotate_left
  · intro w'
    go_simp
    with_reducible rfl
  rotate_left
  · simp only [Act.put, List.setIfInBounds_toArray, List.set_cons_zero, List.set_cons_succ, i64_w, i32_w]
    rfl
  refine done_ (by kernel_rfl) ?_
  -- del]
  obtain ⟨⟨cv, hcv⟩, hfz⟩ := R_room HO7.out (q.length - 1) (by have := HC.out; have h1 : (KR).sz = 1 := rfl; rw [h1]; omega)
  have hclr := fun ty => clear_run ty w7 g (q.length - 1) (c - (q.length - 1)) cv hcv hfz
  have hone : q.length - (q.length - 1) = 1 := by omega
  go_wp2_with fail
  go_ret
  exact ⟨c, rfl, R_spare HO7.out (q.length - 1) (by rw [List.length_eraseIdx_of_lt HK.out]; have h1 : (KR).sz = 1 := rfl; rw [h1]; omega) _, grown_set HG7.out _ _⟩
end
end Go.Proofs.Ytnjnljnhpihemaa.Po
