/- Rows of cells: Remove. -/
import Derived.Test.YtkcdlilglgfkaaaRgF
import Derived.Test.YtkcdlilglgfkaaaRgI
set_option linter.unusedVariables false
set_option linter.unusedSimpArgs false
namespace Go.Proofs.Ytkcdlilglgfkaaa.Rg
open Go Go.RowKit Go.Proofs.YtkcdlilglgfkaaaW.PrintWords Go.Proofs.YtkcdlilglgfkaaaW.PrintLast Go.Proofs.YtkcdlilglgfkaaaW.PrintMore Go.Proofs.Ytkcdlilglgfkaaa.PA Go.Proofs.Ytkcdlilglgfkaaa.Ar Go.Proofs.Ytkcdlilglgfkaaa.Sha
def goneC (x : Ce) : Ce := { x with gone := true }
def goneR (x : Re) : Re := { x with gone := true }
theorem ce_gone {x : Ce} (h : okC x) (B : List Value) : (ce x ++ B).set 34 (.bool true) = ce (goneC x) ++ B := by
  rw [List.set_append_left _ _ (by rw [ce_len h]; omega)]
  congr 1
  rw [ce, List.set_append_right _ _ (by rw [iv_len h]; omega), iv_len h]
  rfl
theorem re_gone {x : Re} (h : okR x) (B : List Value) : (re x ++ B).set 67 (.bool true) = re (goneR x) ++ B := by
  rw [List.set_append_left _ _ (by rw [re_len h]; omega)]
  congr 1
  rw [re, List.set_append_right _ _ (by rw [iv_len h.1]; omega), iv_len h.1, List.set_append_right _ _ (by rw [iv_len h.2]; omega), iv_len h.2]
  rfl
theorem fl_gone : ∀ {L : List Ce} {j : Nat} {x : Ce}, (∀ y ∈ L, okC y) → L[j]? = some x → (fl L).set (j * 35 + 34) (.bool true) = fl (L.set j (goneC x))
  | [], j, x, _, hj => by simp at hj
  | y :: r, 0, x, hk, hj => by
    obtain rfl : y = x := by simpa using hj
    rw [fl, List.flatMap_cons, Nat.zero_mul, Nat.zero_add, ce_gone (hk y (by simp))]
    rfl
  | y :: r, j + 1, x, hk, hj => by
    have h := fl_gone (L := r) (fun z hz => hk z (by simp [hz])) (by simpa using hj)
    have hl := ce_len (hk y (by simp))
    rw [List.set_cons_succ, fl, List.flatMap_cons, List.set_append_right _ _ (by rw [hl, Nat.succ_mul]; omega), hl, show (j + 1) * 35 + 34 - 35 = j * 35 + 34 by omega]
    rw [fl, List.flatMap_cons]
    congr 1
theorem fr_gone : ∀ {L : List Re} {j : Nat} {x : Re}, (∀ y ∈ L, okR y) → L[j]? = some x → (fr L).set (j * 68 + 67) (.bool true) = fr (L.set j (goneR x))
  | [], j, x, _, hj => by simp at hj
  | y :: r, 0, x, hk, hj => by
    obtain rfl : y = x := by simpa using hj
    rw [fr, List.flatMap_cons, Nat.zero_mul, Nat.zero_add, re_gone (hk y (by simp))]
    rfl
  | y :: r, j + 1, x, hk, hj => by
    have h := fr_gone (L := r) (fun z hz => hk z (by simp [hz])) (by simpa using hj)
    have hl := re_len (hk y (by simp))
    rw [List.set_cons_succ, fr, List.flatMap_cons, List.set_append_right _ _ (by rw [hl, Nat.succ_mul]; omega), hl, show (j + 1) * 68 + 67 - 68 = j * 68 + 67 by omega]
    rw [fr, List.flatMap_cons]
    congr 1
theorem ok_set {L : List Ce} {j : Nat} {x : Ce} (hk : ∀ y ∈ L, okC y) (hj : L[j]? = some x) : ∀ y ∈ L.set j (goneC x), okC y := fun y hy => by
  rcases List.mem_or_eq_of_mem_set hy with hy | rfl
  · exact hk y hy
  · exact hk x (List.mem_of_getElem? hj)
theorem ok_setR {L : List Re} {j : Nat} {x : Re} (hk : ∀ y ∈ L, okR y) (hj : L[j]? = some x) : ∀ y ∈ L.set j (goneR x), okR y := fun y hy => by
  rcases List.mem_or_eq_of_mem_set hy with hy | rfl
  · exact hk y hy
  · exact hk x (List.mem_of_getElem? hj)
theorem own_gone {w : World} {base gc cap : Nat} {L : List Ce} {j : Nat} {x : Ce} (h : Own w base (.slice (some ⟨gc, 0, none⟩) L.length cap) L) (hj : L[j]? = some x) :
    Own (w.setCell ⟨gc, j * 35 + 34, none⟩ (.bool true)) base (.slice (some ⟨gc, 0, none⟩) L.length cap) (L.set j (goneC x)) := by
  have hk := (own_raw h).2
  rcases own_form h with ⟨h1, _⟩ | ⟨g, cap', cur, h1, hb, hg, hlc, hcm, hcs, ht⟩
  · cases h1
  · injection h1 with h1 _ h3
    obtain rfl : gc = g := by simpa using h1
    subst h3
    obtain ⟨⟨hs0, _⟩, _⟩ := own_raw h
    refine raw_own ⟨by rw [fl_len (ok_set hk hj)], Or.inr ⟨gc, cap, cur.setIfInBounds (j * 35 + 34) (.bool true), by rw [List.length_set], hb, blk_set hg _ _, by rw [List.length_set]; exact hlc, hcm, by rw [Array.size_setIfInBounds]; exact hcs, ?_⟩⟩ (ok_set hk hj)
    rw [List.length_set, Array.toList_setIfInBounds, List.take_set, ht, fl_gone hk hj]
theorem ownD_gone {w : World} {base gc cap : Nat} {L : List Re} {j : Nat} {x : Re} (h : OwnD w base (.slice (some ⟨gc, 0, none⟩) L.length cap) L) (hj : L[j]? = some x) :
    OwnD (w.setCell ⟨gc, j * 68 + 67, none⟩ (.bool true)) base (.slice (some ⟨gc, 0, none⟩) L.length cap) (L.set j (goneR x)) := by
  have hk := h.okr
  rcases ownD_form h with ⟨h1, _⟩ | ⟨g, cap', cur, h1, hb, hg, hlc, hcm, hcs, ht⟩
  · cases h1
  · injection h1 with h1 _ h3
    obtain rfl : gc = g := by simpa using h1
    subst h3
    obtain ⟨⟨hs0, _⟩, _⟩ := ownD_raw h
    refine raw_ownD ⟨by rw [fr_len (ok_setR hk hj)], Or.inr ⟨gc, cap, cur.setIfInBounds (j * 68 + 67) (.bool true), by rw [List.length_set], hb, blk_set hg _ _, by rw [List.length_set]; exact hlc, hcm, by rw [Array.size_setIfInBounds]; exact hcs, ?_⟩⟩ (ok_setR hk hj)
    rw [List.length_set, Array.toList_setIfInBounds, List.take_set, ht, fr_gone hk hj]
theorem set_gone {L : List Ce} {j : Nat} {x : Ce} (hj : L[j]? = some x) (h : x.gone = true) : L.set j (goneC x) = L := by
  have : goneC x = x := by cases x; simp only [goneC] at *; rw [h]
  rw [this]
  obtain ⟨hlt, e⟩ := List.getElem?_eq_some_iff.1 hj
  rw [← e, List.set_getElem_self]
theorem shown_set : ∀ {L : List Ce} {j : Nat} {x : Ce}, L[j]? = some x → x.gone = false → shown (L.set j (goneC x)) = shown L - 1
  | [], j, x, hj, _ => by simp at hj
  | y :: r, 0, x, hj, h => by
    obtain rfl : y = x := by simpa using hj
    simp only [shown, List.set_cons_zero, goneC, List.filter_cons, h, Bool.not_true, Bool.not_false, if_true, List.length_cons]
    simp
  | y :: r, j + 1, x, hj, h => by
    have := shown_set (L := r) (j := j) (x := x) (by simpa using hj) h
    simp only [shown, List.set_cons_succ, List.filter_cons] at this ⊢
    split <;> (try simp only [List.length_cons]) <;> omega
theorem same_set {L : List Ce} {j : Nat} {x : Ce} (hj : L[j]? = some x) (y : Idt) : (∃ c ∈ L.set j (goneC x), c.id = y) ↔ ∃ c ∈ L, c.id = y := by
  have e : (L.set j (goneC x)).map (·.id) = L.map (·.id) := by
    rw [List.map_set]
    obtain ⟨hlt, e⟩ := List.getElem?_eq_some_iff.1 hj
    have : (goneC x).id = (L.map (·.id))[j]'(by rw [List.length_map]; exact hlt) := by rw [List.getElem_map, e]; rfl
    rw [this, List.set_getElem_self]
  have h1 : ∀ l : List Ce, (∃ c ∈ l, c.id = y) ↔ y ∈ l.map (·.id) := fun l => by simp
  rw [h1, h1, e]
section
variable {w0 w w1 : World} {gr gm : Nat} {L : List Ce} {M : List Idt} {v : Value}
/-- What a Remove leaves. -/
def RemPost (w0 w : World) (gr gm : Nat) (L : List Ce) (M : List Idt) (v : Value) (y : Idt) (e : Ending) (w' : World) : Prop :=
  ∃ c : Int, e = .returned (.int .i64 c) ∧ ((c = 22 ∧ y ∉ M ∧ Below w.heap.size w w') ∨
    (c = 0 ∧ y ∈ M ∧ ∃ j x, L[j]? = some x ∧ x.id = y ∧ Rw w0 gr gm (L.set j (goneC x)) M v w' ∧ Kept w w' (fun k => k = gr ∨ k = gm ∨ v.ownBlock = some k)))
/-- The box of the call. -/
structure Iy (w : World) (g : Nat) (y : Idt) (W : World) : Prop where
  below : Below w.heap.size w W
  ba : W.heap[g]? = some (.cells (iv y).toArray TI (0, 0))
theorem Iy.step {g : Nat} {y : Idt} {W : World} (h : Iy w g y W) (hb : Below W.heap.size W w1) : Iy w g y w1 := ⟨h.below.trans (hb.mono h.below.size), blk_below h.ba hb⟩
def SY (w w0 : World) (gr gm : Nat) (L : List Ce) (M : List Idt) (v : Value) (y : Idt) (g : Nat) (D : List Value) (W : World) : Prop :=
  W.cell? ⟨gr, 0, none⟩ = some v ∧ W.rangeAt g 0 D ∧ Aside0 (Iy w g y W ∧ Rw w0 gr gm L M v W)
theorem sy_of {g : Nat} {y : Idt} {W : World} {D : List Value} (hD : iv y = D) (h1 : Iy w g y W) (h2 : Rw w0 gr gm L M v W) : SY w w0 gr gm L M v y g D W :=
  ⟨(blk_cell h2.pb 0).trans rfl, fun j u hu => by rw [blk_cell h1.ba, hD, List.getElem?_toArray, Nat.zero_add]; exact hu, ⟨h1, h2⟩⟩
theorem wrap_sub (n : Nat) (h : n < 200000) : wrap64 ((n : Int) - 1) = (n : Int) - 1 := by unfold wrap64; omega
theorem rw_gone {gc cap : Nat} {j : Nat} {x : Ce} (h : Rw w0 gr gm L M (.slice (some ⟨gc, 0, none⟩) L.length cap) w) (hj : L[j]? = some x) (hx : x.gone = false) (hn : gc ≠ gr ∧ gc ≠ gm ∧ gm ≠ gr ∧ w0.heap.size ≤ gc) (s : Int) (hs : s = shown L - 1) :
    Rw w0 gr gm (L.set j (goneC x)) M (.slice (some ⟨gc, 0, none⟩) L.length cap) ((w.setCell ⟨gc, j * 35 + 34, none⟩ (.bool true)).setCell ⟨gr, 2, none⟩ (.int .i64 s)) := by
  have hpb : (w.setCell ⟨gc, j * 35 + 34, none⟩ (.bool true)).heap[gr]? = some (.cells #[.slice (some ⟨gc, 0, none⟩) L.length cap, .map (some gm), .int .i64 (shown L)] TR (0, 0)) := (Below.heap_setCell w ⟨gc, _, none⟩ _ gr hn.1.symm).trans h.pb
  refine ⟨below_cell (below_cell h.below hn.2.2.2) h.g0.1, ?_, ?_, ?_, h.g0, h.oks, fun y => (h.same y).trans (same_set hj y).symm⟩
  · rw [hs, shown_set hj hx |>.symm]
    exact blk_set hpb 2 _
  · exact own_step (own_gone h.row hj) (fun k hk _ => Below.heap_setCell _ ⟨gr, 2, none⟩ _ k (fun e => by
      have e : k = gr := e
      subst e
      exact absurd (Ty.ne hk ⟨_, hpb⟩) (by decide)))
  · exact (Below.heap_setCell _ ⟨gr, 2, none⟩ _ gm hn.2.2.1).trans ((Below.heap_setCell w ⟨gc, _, none⟩ _ gm hn.2.1.symm).trans h.mb)
set_option maxRecDepth 100000 in
set_option maxHeartbeats 4000000 in
theorem Remove_calls (h : Rw w0 gr gm L M v w) (hl : L.length < 99999) (y : Idt) (hy : okI y) :
    Calls Try.prog 27 #[.pointer (some ⟨gr, 0, none⟩), .agg (iv y).toArray] w fun e w' => RemPost w0 w gr gm L M v y e w' := by
  have huI := Try.underlying28
  have HY := Aside0.mk hy
  have HL := Aside0.mk hl
  have HIY : Aside0 (Iy w w.heap.size y (w.alloc (.cells (iv y).toArray TI))) := ⟨⟨below_alloc (Below.refl _ _) _, blk_new w _⟩⟩
  have HSI : Aside0 ((Try.prog.info? TI).map (·.size) = some (iv y).length) := ⟨by rw [iv_len hy.2.1]; exact size_id⟩
  obtain ⟨D, hD⟩ : ∃ D, iv y = D := ⟨_, rfl⟩
  have HD := Aside0.mk hD
  have HR := Aside0.mk (h.step HIY.out.below)
  have hba := HIY.out.ba
  rw [hD] at hba
  have BA := Aside0.mk hba
  rw [hD] at HSI HIY HR ⊢
  have hlt : gr < w.heap.size := blk_lt h.pb
  clear hD hy hl h hba
  go_enter Try.func27, Try.ntmps27
  go_upto_region 3 with fail
  obtain ⟨wa, hwa⟩ : ∃ W, w.alloc (.cells D.toArray TI) = W := ⟨_, rfl⟩
  rw [hwa] at HIY HR BA ⊢
  obtain ⟨g, hg⟩ : ∃ g, w.heap.size = g := ⟨_, rfl⟩
  rw [hg] at HIY BA hlt ⊢
  have HLK : Aside0 (∀ W : World, W.heap[gm]? = some (.map (E 0 M).toArray M.length) → (Instr.lookup TM (.map (some gm)) (.agg D.toArray) false).run Try.prog W = .ok (.bool (decide (y ∈ M))) W) := ⟨fun W hm => by rw [← HD.out]; exact lookup_run hm HY.out HR.out.oks⟩
  have hlk := fun k => HLK.out (wa.drewN k) HR.out.mb
  have hld := fun k => loadVar_row (wa.drewN k) g TI TI D.toArray _ BA.out huI rfl (by rw [List.size_toArray]; exact HSI.out)
  have kp : wa.cell? ⟨gr, 1, none⟩ = some (.map (some gm)) := (blk_cell HR.out.pb 1).trans rfl
  have HG := Aside0.mk hg
  clear hwa hg
  by_cases h3 : y ∈ M
  rotate_left
  · have t3 : decide (y ∈ M) = false := decide_eq_false h3
    rw [t3] at hlk
    have H3 := Aside0.mk h3
    clear h3 t3
    refine wp_region_quiet_lit (by kernel_rfl) (by kernel_rfl) ?_
    repeat (first | (refine quiet_load TI (.tmp 3) rfl (by rfl) g rfl D.toArray (fun w' hc => by obtain ⟨k, rfl⟩ := hc; exact hld k) ?_; simp only [Act.put, List.setIfInBounds_toArray, List.set_cons_zero, List.set_cons_succ]) | go_big_quiet_step (fail))
    refine wpQuiet_nil ?_
    intro _ hw'
    obtain ⟨nq, hw''⟩ := hw'
    subst hw''
    go_wp2_with fail
    go_ret
    exact ⟨22, rfl, Or.inl ⟨rfl, H3.out, (HIY.out.step (pw_below_drewN (Below.refl _ _) nq)).below⟩⟩
  · have t3 : decide (y ∈ M) = true := decide_eq_true h3
    rw [t3] at hlk
    have H3 := Aside0.mk h3
    clear h3 t3
    refine wp_region_quiet_lit (by kernel_rfl) (by kernel_rfl) ?_
    repeat (first | (refine quiet_load TI (.tmp 3) rfl (by rfl) g rfl D.toArray (fun w' hc => by obtain ⟨k, rfl⟩ := hc; exact hld k) ?_; simp only [Act.put, List.setIfInBounds_toArray, List.set_cons_zero, List.set_cons_succ]) | go_big_quiet_step (fail))
    refine wpQuiet_nil ?_
    intro _ hw'
    obtain ⟨nq, hw''⟩ := hw'
    subst hw''
    have HIYb := Aside0.mk (HIY.out.step (pw_below_drewN (Below.refl wa.heap.size wa) nq))
    have HRb := Aside0.mk (HR.out.step (pw_below_drewN (Below.refl wa.heap.size wa) nq))
    clear hlk hld HIY HR BA kp HLK
    generalize wa.drewN nq = wb at *
    obtain ⟨gc, cap, rfl⟩ : ∃ gc cap, v = .slice (some ⟨gc, 0, none⟩) L.length cap := by
      rcases own_form HRb.out.row with ⟨_, hn⟩ | ⟨gc, cap, _, hv, _⟩
      · obtain ⟨c, hc, _⟩ := (HRb.out.same y).1 H3.out
        rw [hn] at hc
        cases hc
      · exact ⟨gc, cap, hv⟩
    have HSY := Aside0.mk (fun (W : World) (h1 : Iy w g y W) (h2 : Rw w0 gr gm L M (.slice (some ⟨gc, 0, none⟩) L.length cap) W) => sy_of HD.out h1 h2)
    have HPL : Aside0 (∀ W, Rw w0 gr gm L M (.slice (some ⟨gc, 0, none⟩) L.length cap) W → Calls Try.prog 35 #[.pointer (some ⟨gr, 0, none⟩), .agg D.toArray] W fun e w' => ∃ r, e = .returned (.int .i64 r) ∧ Pos L y r ∧ Below W.heap.size W w') := ⟨fun W hW => by rw [← HD.out]; exact place_calls hW (by have := HL.out; omega) y HY.out.2.1⟩
    go_upto_region 5 with fail
    -- [rm
    refine start_ (n := 9) (S := SY w w0 gr gm L M (.slice (some ⟨gc, 0, none⟩) L.length cap) y g D) (ds := []) #[false, false, false, false, false, false, false, false, false] (by kernel_rfl) rfl rfl (HSY.out _ (HIYb.out.step (pw_below_drewN (Below.refl _ _) 1)) (HRb.out.step (pw_below_drewN (Below.refl _ _) 1))) (fun hHeld => ?_)
    generalize wb.drew = wd at hHeld ⊢
    clear HIYb HRb
    refine pure_ (i := 0) (N := some 17) (v := ?_) (a' := ?_) #[true, false, false, false, false, false, false, false, false] rfl rfl (by kernel_rfl) (fun _ _ _ h => h) (Or.inl ⟨by rfl, ?_⟩) ?_ ?_
    rotate_left
    · intro w'
      go_simp
      with_reducible rfl
    rotate_left
    · simp only [Act.put, List.setIfInBounds_toArray, List.set_cons_zero, List.set_cons_succ, i64_w, i32_w]
      rfl
    refine pure_ (i := 1) (N := some 18) (v := ?_) (a' := ?_) #[true, true, false, false, false, false, false, false, false] rfl rfl (by kernel_rfl) (fun _ _ _ h => h) (Or.inl ⟨by rfl, ?_⟩) ?_ ?_
    rotate_left
    · intro w'
      go_simp
      with_reducible rfl
    rotate_left
    · simp only [Act.put, List.setIfInBounds_toArray, List.set_cons_zero, List.set_cons_succ, i64_w, i32_w]
      rfl
    refine pure_ (i := 2) (N := some 19) (v := ?_) (a' := ?_) #[true, true, true, false, false, false, false, false, false] rfl rfl (by kernel_rfl) (fun _ _ _ h => h) (Or.inl ⟨by rfl, ?_⟩) ?_ ?_
    rotate_left
    · intro w'
      go_simp
      with_reducible rfl
    rotate_left
    · simp only [Act.put, List.setIfInBounds_toArray, List.set_cons_zero, List.set_cons_succ, i64_w, i32_w]
      rfl
    refine take_ (i := 3) (N := some 20) (v := ?_) (a' := ?_) #[true, true, true, true, false, false, false, false, false] rfl rfl (by kernel_rfl) (fun _ _ _ h => h) (Or.inl ⟨by rfl, ?_⟩) hHeld ?_ ?_
    rotate_left
    · rintro w' ⟨h0, _, _⟩
      go_simp
      with_reducible rfl
    rotate_left
    · simp only [Act.put, List.setIfInBounds_toArray, List.set_cons_zero, List.set_cons_succ, i64_w, i32_w]
      rfl
    refine pure_ (i := 4) (N := some 21) (v := ?_) (a' := ?_) #[true, true, true, true, true, false, false, false, false] rfl rfl (by kernel_rfl) (fun _ _ _ h => h) (Or.inl ⟨by rfl, ?_⟩) ?_ ?_
    rotate_left
    · intro w'
      go_simp
      with_reducible rfl
    rotate_left
    · simp only [Act.put, List.setIfInBounds_toArray, List.set_cons_zero, List.set_cons_succ, i64_w, i32_w]
      rfl
    refine take_ (i := 5) (N := some 22) (v := .agg D.toArray) (a' := ?_) #[true, true, true, true, true, true, false, false, false] rfl rfl (by kernel_rfl) (fun _ _ _ h => h) (yieldsIf_load_mid (by rfl) TI (.tmp 3) rfl g 0 rfl D _ (fun w' hS => hS.2.1) huI rfl HSI.out) hHeld ?_ ?_
    rotate_left
    · simp only [Act.put, List.setIfInBounds_toArray, List.set_cons_zero, List.set_cons_succ, i64_w, i32_w]
      rfl
    refine one_ (i := 6) (N := some 23) #[true, true, true, true, true, true, true, false, false] rfl rfl (by kernel_rfl) (by decide) (fun K hK => ?_)
    refine goes_ Try.func35 (by kernel_rfl) rfl #[.pointer (some ⟨gr, 0, none⟩), .agg D.toArray] (by rfl) rfl rfl (by first | rfl | (simp only [List.map_toArray, List.map_cons, List.map_nil]; done) | (simp only [List.map_toArray, List.map_cons, List.map_nil]; rfl)) ?_
    refine (HPL.out _ hHeld.2.2.out.2).mono ?_
    rintro e w2 ⟨r, rfl, hpos, hb2⟩
    refine ⟨_, rfl, ?_⟩
    obtain ⟨j, x, rfl, hj, hx⟩ : ∃ (j : Nat) (x : Ce), r = (j : Int) ∧ L[j]? = some x ∧ x.id = y := by
      rcases hpos with ⟨_, hn⟩ | hp
      · obtain ⟨c, hc, he⟩ := (hHeld.2.2.out.2.same y).1 H3.out
        exact absurd he (hn c hc)
      · exact hp
    have hS2 := HSY.out _ (hHeld.2.2.out.1.step hb2) (hHeld.2.2.out.2.step hb2)
    have hjl : (j : Int) < (L.length : Int) := by have := (List.getElem?_eq_some_iff.1 hj).1; omega
    have hj0 : (0 : Int) ≤ (j : Int) := by omega
    have HJ := Aside0.mk hj
    have HXY := Aside0.mk hx
    clear hb2 hHeld hpos hj hx
    refine hK.out _ _ hS2 (fun hHeld => ?_)
    clear hK K hS2
    refine norm_ (a' := ?_) ?_ ?_
    rotate_left
    · show Act.put _ (some 23) _ = _
      simp only [Act.put, List.setIfInBounds_toArray, List.set_cons_zero, List.set_cons_succ, i64_w, i32_w]
      rfl
    have hsC := size_ce
    have huCs := Try.underlying40
    refine pure_ (i := 7) (N := some 24) (v := .pointer (some ⟨gc, j * 35, none⟩)) (a' := ?_) #[true, true, true, true, true, true, true, true, false] rfl rfl (by kernel_rfl) (fun _ _ _ h => h) (Or.inl ⟨by rfl, ?_⟩) ?_ ?_
    · intro w'
      go_simp
      try simp
    rotate_left
    · simp only [Act.put, List.setIfInBounds_toArray, List.set_cons_zero, List.set_cons_succ, i64_w, i32_w]
      rfl
    refine pure_ (i := 8) (N := some 5) (v := ?_) (a' := ?_) #[true, true, true, true, true, true, true, true, true] rfl rfl (by kernel_rfl) (fun _ _ _ h => h) (Or.inl ⟨by rfl, ?_⟩) ?_ ?_
    rotate_left
    · intro w'
      go_simp
      with_reducible rfl
    rotate_left
    · simp only [Act.put, List.setIfInBounds_toArray, List.set_cons_zero, List.set_cons_succ, i64_w, i32_w]
      rfl
    refine done_ (by kernel_rfl) ?_
    have HIc := Aside0.mk hHeld.2.2.out.1
    have HRc := Aside0.mk hHeld.2.2.out.2
    clear hHeld HSY HPL HSI
    obtain ⟨bg, hbg⟩ : ∃ b, x.gone = b := ⟨_, rfl⟩
    have HBG := Aside0.mk hbg
    have hok := HRc.out.okc x (List.mem_of_getElem? HJ.out)
    obtain ⟨cur, hbc, hgc, ht⟩ : ∃ cur, w0.heap.size ≤ gc ∧ w2.heap[gc]? = some (.cells cur TC (0, 0)) ∧ cur.toList.take (L.length * 35) = fl L := by
      rcases own_form HRc.out.row with ⟨hv, _⟩ | ⟨gc', cap', cur, hv, h1, h2, _, _, _, h3⟩
      · cases hv
      · injection hv with hv
        obtain rfl : gc = gc' := by simpa using hv
        exact ⟨cur, h1, h2, h3⟩
    -- rm]
    have hne : gc ≠ gr ∧ gc ≠ gm ∧ gm ≠ gr ∧ w0.heap.size ≤ gc := by
      refine ⟨fun e => ?_, fun e => ?_, fun e => ?_, hbc⟩
      · subst e; exact absurd (Ty.ne ⟨_, hgc⟩ ⟨_, HRc.out.pb⟩) (by decide)
      · subst e; rw [HRc.out.mb] at hgc; cases hgc
      · subst e; have := HRc.out.mb; rw [HRc.out.pb] at this; cases this
    have HNE := Aside0.mk hne
    have hgone : w2.cell? ⟨gc, j * 35 + 34, none⟩ = some (.bool bg) := by
      rw [blk_cell hgc, ← hbg]
      exact cur_at HRc.out.okc ht HJ.out 34 _ (by rw [ce, List.getElem?_append_right (by rw [iv_len hok]; omega), iv_len hok]; rfl)
    have hsh : w2.cell? ⟨gr, 2, none⟩ = some (.int .i64 (shown L)) := (blk_cell HRc.out.pb 2).trans rfl
    have hsh2 : (w2.setCell ⟨gc, j * 35 + 34, none⟩ (.bool true)).cell? ⟨gr, 2, none⟩ = some (.int .i64 (shown L)) := (blk_cell ((Below.heap_setCell w2 ⟨gc, _, none⟩ _ gr hne.1.symm).trans HRc.out.pb) 2).trans rfl
    have hf1 : w2.frozen? ⟨gc, j * 35 + 34, none⟩ = false := blk_frozen hgc _
    have hf2 : (w2.setCell ⟨gc, j * 35 + 34, none⟩ (.bool true)).frozen? ⟨gr, 2, none⟩ = false := blk_frozen ((Below.heap_setCell w2 ⟨gc, _, none⟩ _ gr hne.1.symm).trans HRc.out.pb) _
    clear hbg hok ht hbc hne hgc
    cases bg with
    | true =>
      go_wp2_with fail
      go_ret
      exact ⟨0, rfl, Or.inr ⟨rfl, H3.out, j, x, HJ.out, HXY.out, by rw [set_gone HJ.out HBG.out]; exact HRc.out, Kept.of_below HIc.out.below _⟩⟩
    | false =>
      go_wp2_with fail
      go_ret
      refine ⟨0, rfl, Or.inr ⟨rfl, H3.out, j, x, HJ.out, HXY.out, rw_gone HRc.out HJ.out HBG.out HNE.out _ ?_, ?_⟩⟩
      · unfold wrap64; have := shown_lt L; have := HL.out; have : 0 ≤ shown L := by unfold shown; omega
        omega
      · refine ((Kept.of_below HIc.out.below _).setCell (Or.inl (Or.inr (Or.inr rfl))) _).setCell (Or.inl (Or.inl rfl)) _
end
end Go.Proofs.Ytkcdlilglgfkaaa.Rg
