/- Rows of cells: the document's row: its cells as a kind; Find. -/
import Derived.Test.YtkcdlilglgfkaaaRgN
set_option linter.unusedVariables false
set_option linter.unusedSimpArgs false
namespace Go.Proofs.Ytkcdlilglgfkaaa.Rg
open Go Go.RowKit Go.Proofs.YtkcdlilglgfkaaaW.PrintWords Go.Proofs.YtkcdlilglgfkaaaW.PrintLast Go.Proofs.YtkcdlilglgfkaaaW.PrintMore Go.Proofs.Ytkcdlilglgfkaaa.PA Go.Proofs.Ytkcdlilglgfkaaa.Ar Go.Proofs.Ytkcdlilglgfkaaa.Sha
structure Re where
  id : Idt
  after : Idt
  ch : Int
  gone : Bool
def re (x : Re) : List Value := iv x.id ++ (iv x.after ++ [.int .u8 x.ch, .bool x.gone])
def okR (x : Re) : Prop := x.id.2.length = 32 ∧ x.after.2.length = 32
theorem re_len {x : Re} (h : okR x) : (re x).length = 68 := by rw [re, List.length_append, List.length_append, iv_len h.1, iv_len h.2]; rfl
theorem re_one (x : Re) : ∀ u ∈ re x, u.oneCell' = true := by
  intro u hu
  rcases List.mem_append.1 hu with hu | hu
  · exact iv_one x.id u hu
  · rcases List.mem_append.1 hu with hu | hu
    · exact iv_one x.after u hu
    · simp at hu; rcases hu with rfl | rfl <;> rfl
def KD : Kd Re where
  sz := 68
  E := []
  K := fun _ x cs => cs = re x ∧ okR x
  M := fun _ _ _ x cs => cs = re x ∧ okR x
  K_len := fun h => by rw [h.1, re_len h.2]
  K_one := fun h u hu => by rw [h.1] at hu; exact re_one _ u hu
  K_below := fun _ h => h
  K_of_M := fun h => h
  M_mono := fun _ h => h
  M_bound := fun h => h
  M_move := fun _ h => h
  M_lower := fun _ h => h
abbrev TD : TypeId := 52
abbrev TDs : TypeId := 36
abbrev TE : TypeId := 48
abbrev TF : TypeId := 26
def fr (L : List Re) : List Value := L.flatMap re
theorem fr_app (L M : List Re) : fr (L ++ M) = fr L ++ fr M := List.flatMap_append
theorem fr_len : ∀ {L : List Re}, (∀ x ∈ L, okR x) → (fr L).length = L.length * 68
  | [], _ => rfl
  | x :: r, h => by
    rw [fr, List.flatMap_cons, List.length_append, re_len (h x (by simp)), List.length_cons]
    have := fr_len (L := r) (fun y hy => h y (by simp [hy]))
    rw [fr] at this
    omega
theorem reps_fr : ∀ {L : List Re} {cs : List Value}, Reps (fun x c => c = re x ∧ okR x) 68 L cs → cs = fr L ∧ ∀ x ∈ L, okR x
  | [], cs, h => by
    have := h.1
    exact ⟨List.eq_nil_of_length_eq_zero (by simpa using this), fun x hx => by simp at hx⟩
  | x :: r, cs, h => by
    have h0 := h.2 0 x rfl
    have h1 : Reps (fun x c => c = re x ∧ okR x) 68 r (cs.drop 68) := ⟨by rw [List.length_drop, h.1, List.length_cons]; omega, fun j p hp => by
      have := h.2 (j + 1) p (by simpa using hp)
      rw [Nat.succ_mul, Nat.add_comm] at this
      rwa [← List.drop_drop] at this⟩
    obtain ⟨e1, e2⟩ := reps_fr h1
    refine ⟨?_, fun y hy => by rcases List.mem_cons.1 hy with rfl | hy; exact h0.2; exact e2 y hy⟩
    have e0 := h0.1
    rw [Nat.zero_mul, List.drop_zero] at e0
    rw [fr, List.flatMap_cons, ← fr, ← e1, ← e0, List.take_append_drop]
theorem fr_reps : ∀ {L : List Re}, (∀ x ∈ L, okR x) → Reps (fun x c => c = re x ∧ okR x) 68 L (fr L)
  | [], _ => Reps.none _ _
  | x :: r, h => Reps.front (c := re x) ⟨rfl, h x (by simp)⟩ (re_len (h x (by simp))) (fr_reps (fun y hy => h y (by simp [hy]))) rfl
/-- A row of the document's cells, made at or behind a place. -/
abbrev OwnD (w : World) (base : Nat) (v : Value) (L : List Re) : Prop := Kd.R KD TD w base (fun _ => True) v L
section
variable {w w1 : World} {base : Nat} {v : Value} {L : List Re}
theorem ownD_raw (h : OwnD w base v L) : w.ownsRow base TD 68 v L.length (fr L) ∧ ∀ x ∈ L, okR x := by
  obtain ⟨_, inner, ho, hr⟩ := h
  obtain ⟨rfl, hk⟩ := reps_fr hr
  exact ⟨ho, hk⟩
theorem raw_ownD (h : w.ownsRow base TD 68 v L.length (fr L)) (hk : ∀ x ∈ L, okR x) : OwnD w base v L := ⟨fun _ _ => trivial, fr L, h, fr_reps hk⟩
theorem ownD_form (h : OwnD w base v L) : (v = .slice none 0 0 ∧ L = []) ∨ ∃ g cap cur, v = .slice (some ⟨g, 0, none⟩) L.length cap ∧ base ≤ g ∧ w.heap[g]? = some (.cells cur TD (0, 0)) ∧ L.length ≤ cap ∧ cap ≤ maxLen ∧ cur.size = cap * 68 ∧ cur.toList.take (L.length * 68) = fr L := by
  obtain ⟨⟨_, ho⟩, _⟩ := ownD_raw h
  rcases ho with ⟨h1, h2⟩ | ho
  · exact Or.inl ⟨h1, List.eq_nil_of_length_eq_zero h2⟩
  · exact Or.inr ho
theorem ownD_low (h : OwnD w base v L) {b : Nat} (hb : b ≤ base) : OwnD w b v L := by
  obtain ⟨⟨h0, ho⟩, hk⟩ := ownD_raw h
  refine raw_ownD ⟨h0, ?_⟩ hk
  rcases ho with h1 | ⟨g, cap, cur, h1, h2, h3⟩
  · exact Or.inl h1
  · exact Or.inr ⟨g, cap, cur, h1, Nat.le_trans hb h2, h3⟩
theorem ownD_below (h : OwnD w base v L) (hb : Below w.heap.size w w1) : OwnD w1 base v L := Kd.R_below h hb
theorem OwnD.okr (h : OwnD w base v L) : ∀ x ∈ L, okR x := (ownD_raw h).2
end
theorem size_re : (Try.prog.info? TD).map (·.size) = some 68 := by kernel_rfl
theorem at_re : ∀ {L : List Re} {j : Nat} {x : Re}, (∀ y ∈ L, okR y) → L[j]? = some x → ∀ (i : Nat) (v : Value), (re x)[i]? = some v → (fr L)[j * 68 + i]? = some v
  | [], j, x, _, hj, _, _, _ => by simp at hj
  | y :: r, 0, x, hk, hj, i, v, hi => by
    obtain rfl : y = x := by simpa using hj
    rw [fr, List.flatMap_cons, Nat.zero_mul, Nat.zero_add, List.getElem?_append_left (List.getElem?_eq_some_iff.1 hi).1]
    exact hi
  | y :: r, j + 1, x, hk, hj, i, v, hi => by
    have h := at_re (L := r) (fun z hz => hk z (by simp [hz])) (by simpa using hj) i v hi
    have hl := re_len (hk y (by simp))
    rw [fr, List.flatMap_cons, List.getElem?_append_right (by rw [hl, Nat.succ_mul]; omega), hl, show (j + 1) * 68 + i - 68 = j * 68 + i by omega]
    exact h
theorem curD_at {L : List Re} {cur : Array Value} {j : Nat} {x : Re} (hk : ∀ y ∈ L, okR y) (ht : cur.toList.take (L.length * 68) = fr L) (hj : L[j]? = some x) (i : Nat) (v : Value) (hi : (re x)[i]? = some v) : cur[j * 68 + i]? = some v := by
  have h := at_re hk hj i v hi
  rw [← ht, List.getElem?_take] at h
  split at h
  · simpa using h
  · cases h
theorem re_id {x : Re} (j : Nat) (v : Value) (hj : (iv x.id)[j]? = some v) : (re x)[j]? = some v := by
  rw [re, List.getElem?_append_left (List.getElem?_eq_some_iff.1 hj).1]
  exact hj
theorem re_after {x : Re} (h : okR x) (j : Nat) (v : Value) (hj : (iv x.after)[j]? = some v) : (re x)[33 + j]? = some v := by
  rw [re, List.getElem?_append_right (by rw [iv_len h.1]; omega), iv_len h.1, Nat.add_sub_cancel_left, List.getElem?_append_left (List.getElem?_eq_some_iff.1 hj).1]
  exact hj
theorem loadVar_at {P : Program} (w : World) (g o : Nat) (ty T : TypeId) (cur : Array Value) (cs : List Value) (d : TypeDesc) (hg : w.heap[g]? = some (.cells cur T (0, 0))) (hc : ∀ j v, cs[j]? = some v → cur[o + j]? = some v) (hu : P.underlying ty = some d) (hd : d.isRow = true) (hi : (P.info? ty).map (·.size) = some cs.length) :
    (loadVar ty ⟨g, o, none⟩).run P w = .ok (.agg cs.toArray) w :=
  run_loadVar_mid (P := P) w g o ty cs d (fun j v hv => by rw [blk_cell hg]; exact hc j v hv) hu hd hi
theorem quiet_load_at {P : Program} {ops : Array Oper} {Cl : World → Prop} {Q : Act → Prop} {rest : List Oper} {o : Oper} {a : Act} (ty : TypeId) (x : Operand) (ho : o.op = .load ty x) (hw : Region.wanted o (yielded ops a.tmps) = true)
    (g f : Nat) (hx : a.eval x = .pointer (some ⟨g, f, none⟩)) (cs : Array Value) (hr : ∀ w, Cl w → (loadVar ty ⟨g, f, none⟩).run P w = .ok (.agg cs) w) (h : wpQuiet P ops Cl Q rest (a.put o.dst (.agg cs))) : wpQuiet P ops Cl Q (o :: rest) a :=
  BigFrame.wpQuiet_want hw fun K hK => ⟨.agg cs, fun w hc => by
    unfold Oper.quietAt execOp
    simp only [ho, hx, Instr.loadAt, Instr.sureAddr, Sem.run_bind, Sem.run_pure, Result.andThen_ok, hr w hc]
    exact ⟨rfl, rfl⟩, hK _ h⟩
/-- Where the first cell of an id stands; -1: nowhere. -/
def PosR (L : List Re) (y : Idt) (r : Int) : Prop := (r = -1 ∧ ∀ x ∈ L, x.id ≠ y) ∨ ∃ (j : Nat) (x : Re), r = (j : Int) ∧ L[j]? = some x ∧ x.id = y ∧ ∀ x ∈ L.take j, x.id ≠ y
set_option maxRecDepth 100000 in
set_option maxHeartbeats 4000000 in
theorem Find_calls (w : World) (v : Value) (L : List Re) (h : OwnD w 0 v L) (hl : L.length < 100000) (y : Idt) (hy : y.2.length = 32) :
    Calls Try.prog 21 #[.agg #[v], .agg (iv y).toArray] w fun e w' => ∃ r, e = .returned (.int .i64 r) ∧ PosR L y r ∧ Below w.heap.size w w' := by
  have huI := Try.underlying26
  have HLY : Aside0 ((Try.prog.info? TF).map (·.size) = some (iv y).toArray.size) := ⟨by rw [List.size_toArray, iv_len hy]; exact size_ref⟩
  obtain ⟨D, hD⟩ : ∃ D, (iv y).toArray = D := ⟨_, rfl⟩
  rcases ownD_form h with ⟨rfl, rfl⟩ | ⟨g, cap, cur, rfl, hbg, hg, hlc, hcm, hcs, ht⟩
  · clear h hy
    rw [hD] at HLY ⊢
    clear hD
    have HB : Aside0 (Below w.heap.size w ((w.alloc (.cells #[.slice none 0 0] TE)).alloc (.cells D TF))) := ⟨below_alloc (below_alloc (Below.refl _ _) _) _⟩
    have hb0 : ((w.alloc (.cells #[.slice none 0 0] TE)).alloc (.cells D TF)).cell? ⟨w.heap.size, 0, none⟩ = some (.slice none 0 0) := (blk_cell (blk_alloc (blk_new w _) _) 0).trans rfl
    go_enter Try.func21, Try.ntmps21
    go_wp2_with fail
    generalize (w.alloc (.cells #[.slice none 0 0] TE)).alloc (.cells D TF) = w1 at *
    go_loopw [5] (fun i wr => i = .int .i64 0 ∧ wr = w1) (fun i _ => 0)
    case atStart => exact ⟨rfl, rfl⟩
    case round =>
      obtain ⟨rfl, rfl⟩ := hrel
      go_wp2_with fail
      go_ret
      exact ⟨_, rfl, Or.inl ⟨rfl, fun x hx => by simp at hx⟩, HB.out⟩
  · have HT := Aside0.mk (And.intro h.okr ht)
    have HY := Aside0.mk hy
    have heq := Aside0.mk (fun W x hx => run_eqRef W x y hx hy)
    rw [hD] at HLY ⊢ heq
    have hbl : Below w.heap.size w ((w.alloc (.cells #[.slice (some ⟨g, 0, none⟩) L.length cap] TE)).alloc (.cells D TF)) := below_alloc (below_alloc (Below.refl _ _) _) _
    have HB := Aside0.mk hbl
    have hb0 : ((w.alloc (.cells #[.slice (some ⟨g, 0, none⟩) L.length cap] TE)).alloc (.cells D TF)).cell? ⟨w.heap.size, 0, none⟩ = some (.slice (some ⟨g, 0, none⟩) L.length cap) := (blk_cell (blk_alloc (blk_new w _) _) 0).trans rfl
    have HBD : Aside0 (((w.alloc (.cells #[.slice (some ⟨g, 0, none⟩) L.length cap] TE)).alloc (.cells D TF)).heap[w.heap.size + 1]? = some (.cells D TF (0, 0))) := ⟨new_at _ _ _ (by simp)⟩
    have HG := Aside0.mk (blk_below hg hbl)
    clear h hy hD hg hbg hlc hcm hcs ht hbl
    go_enter Try.func21, Try.ntmps21
    go_wp2_with fail
    generalize (w.alloc (.cells #[.slice (some ⟨g, 0, none⟩) L.length cap] TE)).alloc (.cells D TF) = w1 at *
    go_loopw [5] (fun i wr => ∃ j nq : Nat, j ≤ L.length ∧ i = .int .i64 j ∧ wr = w1.drewN nq ∧ Aside0 (∀ x ∈ L.take j, x.id ≠ y)) (fun i _ => L.length - (intOf i).toNat)
    case atStart => exact ⟨0, 0, by omega, rfl, rfl, ⟨fun x hx => by simp at hx⟩⟩
    case round =>
      obtain ⟨j, nq0, hj, rfl, rfl, HN⟩ := hrel
      by_cases hlt : j < L.length
      · obtain ⟨x, hx⟩ : ∃ x, L[j]? = some x := ⟨_, List.getElem?_eq_getElem hlt⟩
        have HX := Aside0.mk hx
        have hox := HT.out.1 x (List.mem_of_getElem? hx)
        have HEQ := Aside0.mk (fun W => heq.out W x.id hox.1)
        have hld := fun k => loadVar_at ((w1.drewN nq0).drewN k) g (j * 68) TF TD cur (iv x.id) _ HG.out (fun i v hi => curD_at HT.out.1 HT.out.2 hx i v (re_id i v hi)) huI rfl (by rw [iv_len hox.1]; exact size_ref)
        have hldy := fun k => loadVar_row ((w1.drewN nq0).drewN k) (w.heap.size + 1) TF TF D _ HBD.out huI rfl HLY.out
        obtain ⟨F, hF⟩ : ∃ F, (iv x.id).toArray = F := ⟨_, rfl⟩
        rw [hF] at hld HEQ
        clear hx hox hF
        obtain ⟨b, hb⟩ : ∃ b, decide (x.id = y) = b := ⟨_, rfl⟩
        rw [hb] at HEQ
        have HBB := Aside0.mk hb
        clear hb
        have hev := HEQ.out
        cases b with
        | true =>
          go_upto_region 4 with fail
          refine wp_region_quiet_lit (by kernel_rfl) (by kernel_rfl) ?_
          repeat (first | (refine quiet_load_at TF (.tmp 17) rfl (by rfl) g (j * 68) rfl F (fun w' hc => by obtain ⟨k, rfl⟩ := hc; exact hld k) ?_; simp only [Act.put, List.setIfInBounds_toArray, List.set_cons_zero, List.set_cons_succ]) | (refine quiet_load TF (.tmp 3) rfl (by rfl) (w.heap.size + 1) rfl D (fun w' hc => by obtain ⟨k, rfl⟩ := hc; exact hldy k) ?_; simp only [Act.put, List.setIfInBounds_toArray, List.set_cons_zero, List.set_cons_succ]) | go_big_quiet_step (fail))
          refine wpQuiet_nil ?_
          intro _ hw'
          obtain ⟨nq, hw''⟩ := hw'
          subst hw''
          go_wp2_with fail
          go_ret
          exact ⟨_, rfl, Or.inr ⟨j, x, rfl, HX.out, of_decide_eq_true HBB.out, HN.out⟩, pw_below_drewN (pw_below_drewN HB.out _) _⟩
        | false =>
          go_upto_region 4 with fail
          refine wp_region_quiet_lit (by kernel_rfl) (by kernel_rfl) ?_
          repeat (first | (refine quiet_load_at TF (.tmp 17) rfl (by rfl) g (j * 68) rfl F (fun w' hc => by obtain ⟨k, rfl⟩ := hc; exact hld k) ?_; simp only [Act.put, List.setIfInBounds_toArray, List.set_cons_zero, List.set_cons_succ]) | (refine quiet_load TF (.tmp 3) rfl (by rfl) (w.heap.size + 1) rfl D (fun w' hc => by obtain ⟨k, rfl⟩ := hc; exact hldy k) ?_; simp only [Act.put, List.setIfInBounds_toArray, List.set_cons_zero, List.set_cons_succ]) | go_big_quiet_step (fail))
          refine wpQuiet_nil ?_
          intro _ hw'
          obtain ⟨nq, hw''⟩ := hw'
          subst hw''
          go_wp2_with fail
          go_roundw
          case rel =>
            refine ⟨j + 1, nq0 + nq, by omega, by go_num, by first | rfl | rw [World.drewN_drewN] | simp, ⟨fun z hz => ?_⟩⟩
            rw [List.take_add_one, HX.out] at hz
            rcases List.mem_append.1 hz with hz | hz
            · exact HN.out z hz
            · obtain rfl : z = x := by simpa using hz
              exact of_decide_eq_false HBB.out
          case measure => simp [intOf]; omega
      · obtain rfl : j = L.length := by omega
        go_wp2_with fail
        go_ret
        refine ⟨_, rfl, Or.inl ⟨rfl, fun x hx => HN.out x ?_⟩, pw_below_drewN HB.out _⟩
        rwa [List.take_of_length_le (Nat.le_refl _)]
end Go.Proofs.Ytkcdlilglgfkaaa.Rg
