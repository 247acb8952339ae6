/- Rows of cells: cells as a kind; slices.Insert. -/
import Derived.Test.YtkcdlilglgfkaaaRgK
import Derived.Test.YtkcdlilglgfkaaaWShare
import Derived.Lib.AppendZerosOnto
import Derived.Lib.Overlaps
import Derived.Laws.Externs
import Derived.Laws.CopyRow
import Derived.Laws.CopyOwn
import Derived.Laws.AppendOwn
set_option linter.unusedVariables false
set_option linter.unusedSimpArgs false
namespace Go.Proofs.Ytkcdlilglgfkaaa.Rg
open Go Go.RowKit Go.Proofs.YtkcdlilglgfkaaaW.PrintWords Go.Proofs.YtkcdlilglgfkaaaW.PrintLast Go.Proofs.YtkcdlilglgfkaaaW.PrintMore Go.Proofs.Ytkcdlilglgfkaaa.PA Go.Proofs.Ytkcdlilglgfkaaa.Ar Go.Proofs.Ytkcdlilglgfkaaa.Sha
structure Ce where
  id : Idt
  ch : Int
  gone : Bool
def ce (x : Ce) : List Value := iv x.id ++ [.int .u8 x.ch, .bool x.gone]
def okC (x : Ce) : Prop := x.id.2.length = 32
theorem ce_len {x : Ce} (h : okC x) : (ce x).length = 35 := by rw [ce, List.length_append, iv_len h]; rfl
theorem ce_one (x : Ce) : ∀ u ∈ ce x, u.oneCell' = true := by
  intro u hu
  rcases List.mem_append.1 hu with hu | hu
  · exact iv_one x.id u hu
  · simp at hu; rcases hu with rfl | rfl <;> rfl
def KC : Kd Ce where
  sz := 35
  E := []
  K := fun _ x cs => cs = ce x ∧ okC x
  M := fun _ _ _ x cs => cs = ce x ∧ okC x
  K_len := fun h => by rw [h.1, ce_len h.2]
  K_one := fun h u hu => by rw [h.1] at hu; exact ce_one _ u hu
  K_below := fun _ h => h
  K_of_M := fun h => h
  M_mono := fun _ h => h
  M_bound := fun h => h
  M_move := fun _ h => h
  M_lower := fun _ h => h
abbrev TC : TypeId := 43
abbrev TCs : TypeId := 40
def fl (L : List Ce) : List Value := L.flatMap ce
theorem fl_app (L M : List Ce) : fl (L ++ M) = fl L ++ fl M := List.flatMap_append
theorem fl_len : ∀ {L : List Ce}, (∀ x ∈ L, okC x) → (fl L).length = L.length * 35
  | [], _ => rfl
  | x :: r, h => by
    rw [fl, List.flatMap_cons, List.length_append, ce_len (h x (by simp)), List.length_cons]
    have := fl_len (L := r) (fun y hy => h y (by simp [hy]))
    rw [fl] at this
    omega
theorem fl_one (L : List Ce) : ∀ u ∈ fl L, u.oneCell' = true := by
  intro u hu
  obtain ⟨x, _, hx⟩ := List.mem_flatMap.1 hu
  exact ce_one x u hx
theorem fl_take {L : List Ce} (h : ∀ x ∈ L, okC x) (i : Nat) (hi : i ≤ L.length) : (fl L).take (i * 35) = fl (L.take i) := by
  have h2 := fl_len (L := L.take i) (fun x hx => h x (List.mem_of_mem_take hx))
  rw [List.length_take, Nat.min_eq_left hi] at h2
  conv => lhs; rw [← List.take_append_drop i L, fl_app, ← h2]
  exact List.take_left' rfl
theorem fl_drop {L : List Ce} (h : ∀ x ∈ L, okC x) (i : Nat) (hi : i ≤ L.length) : (fl L).drop (i * 35) = fl (L.drop i) := by
  have h2 := fl_len (L := L.take i) (fun x hx => h x (List.mem_of_mem_take hx))
  rw [List.length_take, Nat.min_eq_left hi] at h2
  conv => lhs; rw [← List.take_append_drop i L, fl_app, ← h2]
  exact List.drop_left' rfl
theorem reps_fl : ∀ {L : List Ce} {cs : List Value}, Reps (fun x c => c = ce x ∧ okC x) 35 L cs → cs = fl L ∧ ∀ x ∈ L, okC x
  | [], cs, h => by
    have := h.1
    exact ⟨List.eq_nil_of_length_eq_zero (by simpa using this), fun x hx => by simp at hx⟩
  | x :: r, cs, h => by
    have h0 := h.2 0 x rfl
    have h1 : Reps (fun x c => c = ce x ∧ okC x) 35 r (cs.drop 35) := ⟨by rw [List.length_drop, h.1, List.length_cons]; omega, fun j p hp => by
      have := h.2 (j + 1) p (by simpa using hp)
      rw [Nat.succ_mul, Nat.add_comm] at this
      rwa [← List.drop_drop] at this⟩
    obtain ⟨e1, e2⟩ := reps_fl h1
    refine ⟨?_, fun y hy => by rcases List.mem_cons.1 hy with rfl | hy; exact h0.2; exact e2 y hy⟩
    have e0 := h0.1
    rw [Nat.zero_mul, List.drop_zero] at e0
    rw [fl, List.flatMap_cons, ← fl, ← e1, ← e0, List.take_append_drop]
theorem fl_reps : ∀ {L : List Ce}, (∀ x ∈ L, okC x) → Reps (fun x c => c = ce x ∧ okC x) 35 L (fl L)
  | [], _ => Reps.none _ _
  | x :: r, h => Reps.front (c := ce x) ⟨rfl, h x (by simp)⟩ (ce_len (h x (by simp))) (fl_reps (fun y hy => h y (by simp [hy]))) rfl
/-- A row of cells of the call's own. -/
abbrev Own (w : World) (base : Nat) (v : Value) (L : List Ce) : Prop := Kd.R KC TC w base (fun _ => True) v L
section
variable {w w1 : World} {base : Nat} {v : Value} {L : List Ce}
theorem own_raw (h : Own w base v L) : w.ownsRow base TC 35 v L.length (fl L) ∧ ∀ x ∈ L, okC x := by
  obtain ⟨_, inner, ho, hr⟩ := h
  obtain ⟨rfl, hk⟩ := reps_fl hr
  exact ⟨ho, hk⟩
theorem raw_own (h : w.ownsRow base TC 35 v L.length (fl L)) (hk : ∀ x ∈ L, okC x) : Own w base v L := ⟨fun _ _ => trivial, fl L, h, fl_reps hk⟩
theorem own_form (h : Own w base v L) : (v = .slice none 0 0 ∧ L = []) ∨ ∃ g cap cur, v = .slice (some ⟨g, 0, none⟩) L.length cap ∧ base ≤ g ∧ w.heap[g]? = some (.cells cur TC (0, 0)) ∧ L.length ≤ cap ∧ cap ≤ maxLen ∧ cur.size = cap * 35 ∧ cur.toList.take (L.length * 35) = fl L := by
  obtain ⟨⟨_, ho⟩, _⟩ := own_raw h
  rcases ho with ⟨h1, h2⟩ | ho
  · exact Or.inl ⟨h1, List.eq_nil_of_length_eq_zero h2⟩
  · exact Or.inr ho
end
def z0 : Idt := (0, List.replicate 32 0)
def c0 : Ce := ⟨z0, 0, false⟩
theorem zcell : (Try.prog.info? TC).map (fun i => (i.zero, i.size, i.bytes)) = some (some (.agg (ce c0).toArray), KC.sz, 48) := by kernel_rfl
theorem zsize : (Try.prog.info? TC).map (·.size) = some 35 := by kernel_rfl
/-- copy, of elements of 35 cells. -/
theorem copy_run (w : World) (ty : TypeId) (g o dLen dCap : Nat) (a : Addr) (sLen sCap : Nat) (cur : Array Value) (t : TypeId) (cs : List Value) (n : Nat)
    (hg : w.heap[g]? = some (.cells cur t (0, 0))) (hn : Nat.min sLen dLen = n) (hl : cs.length = n * 35)
    (hsrc : ∀ j v, cs[j]? = some v → w.cell? (a.add j) = some v) (hfit : o + cs.length ≤ cur.size) (h1 : ∀ v ∈ cs, v.oneCell' = true) :
    (Builtin.copy_ #[TCs, TCs] ty #[.slice (some ⟨g, o, none⟩) dLen dCap, .slice (some a) sLen sCap]).run Try.prog w = .ok (goInt n) (w.setRow g (splice cur.toList o cs).toArray) := by
  have hu := Try.underlying40
  have hls := run_loadCells_list (P := Try.prog) w a cs hsrc
  rw [hl] at hls
  have hst := run_storeCells_at Try.prog g o t cs 0 cur w hg (by simpa using hfit) h1
  obtain ⟨i, hq, hi⟩ := Option.map_eq_some_iff.1 zsize
  simp [Builtin.copy_, run_underlying hu, Builtin.lenOf, Builtin.firstCells, sizeOf, typeInfo, hq, hi, hn, hls, hst, splice]
theorem slice_from_run {g o m c k : Nat} (hk : k ≤ m) {A1 : Option Addr} (hA : A1 = if c = k then some (⟨g, o, none⟩ : Addr) else (some (⟨g, o, none⟩ : Addr)).map (·.add (k * 35))) (W : World) : (Instr.slice TCs (.slice (some ⟨g, o, none⟩) m c) (some (.int .i64 (k : Int))) none none).run Try.prog W = .ok (.slice A1 (m - k) (c - k)) W := by
  have hu := Try.underlying40
  have hz := zsize
  have h1 : (k : Int) ≤ (m : Int) := by omega
  have h0 : (0 : Int) ≤ (k : Int) := by omega
  rw [hA]
  go_simp
/-- A row of one cell, read. -/
theorem one_cell {w : World} {gv : Nat} {x : Ce} (hx : okC x) (hv : w.heap[gv]? = some (.cells (ce x).toArray TC (0, 0))) : KC.C w (some ⟨gv, 0, none⟩) 1 [x] := by
  refine ⟨rfl, by decide, fun _ => ⟨_, rfl, fun j p hp => ?_⟩⟩
  have hj : j = 0 := by have := (List.getElem?_eq_some_iff.1 hp).1; simp at this; exact this
  subst hj
  obtain rfl : x = p := by simpa using hp
  refine ⟨ce x, ce_len hx, ⟨rfl, hx⟩, fun i u hu => ?_⟩
  have hadd : ∀ i, (⟨gv, 0, none⟩ : Addr).add i = ⟨gv, i, none⟩ := fun i => by unfold Addr.add; split <;> simp_all
  rw [Nat.zero_mul, Nat.zero_add, hadd, blk_cell hv]
  simpa using hu
section
variable {w w1 : World} {base : Nat} {v : Value} {L : List Ce} {x : Ce} {gv : Nat}
set_option maxRecDepth 100000 in
set_option maxHeartbeats 4000000 in
theorem ins_end (hO : Own w base v L) (hb : base ≤ w.heap.size) (hx : okC x) (hv : w.heap[gv]? = some (.cells (ce x).toArray TC (0, 0))) (hl : L.length < 100000) :
    Calls Try.prog 36 #[v, .int .i64 (L.length : Int), .slice (some ⟨gv, 0, none⟩) 1 1] w fun e w' => ∃ v', e = .returned v' ∧ Own w' base v' (L ++ [x]) ∧ w.grownBy w' v.ownBlock ∧ (v'.ownBlock = v.ownBlock ∨ ∃ b, v'.ownBlock = some b ∧ w.heap.size ≤ b) := by
  have HO := Aside0.mk hO
  have HB := Aside0.mk hb
  have HL := Aside0.mk hl
  have HC := Aside0.mk (one_cell hx hv)
  rcases own_form hO with ⟨rfl, rfl⟩ | ⟨g, cap, cur, rfl, hbg, hg, hlc, hcm, hcs, ht⟩
  · clear hO hx hv hb
    go_enter Try.func36, Try.ntmps36
    go_wp2_with ((with_reducible refine gate_builtin (b := .append) (xs := #[.tmp 23, .tmp 24]) rfl ?_); at_builtin; refine Kd.R_append_rows KC (w0 := w) base rfl (.tmp 23) (.tmp 24) TCs TC (.agg (ce c0).toArray) 48 rfl Try.underlying40 zcell (by simp [Value.cells, ce, iv, nums, KC, c0, z0]) (by decide) (by decide) (.slice none 0 0) ([] : List Ce) [x] (some ⟨gv, 0, none⟩) 1 1 (fun _ => True) (fun _ => False) rfl rfl HO.out HC.out (fun _ _ h => h) (fun _ h => h.elim) (fun _ _ => trivial) (Below.refl _ _) HB.out (by have := HL.out; omega) ?_; intro v1 w1 ho hb hg hat; have HO1 := Aside0.mk ho; have HG1 := Aside0.mk hg; have HAT := Aside0.mk hat; clear ho hb hg hat)
    go_ret
    exact ⟨_, rfl, HO1.out, HG1.out, HAT.out⟩
  · have hsl := slice_from_run (g := g) (o := 0) (c := cap) (Nat.le_refl L.length) rfl
    generalize (if cap = L.length then some (⟨g, 0, none⟩ : Addr) else (some (⟨g, 0, none⟩ : Addr)).map (·.add (L.length * 35))) = A1 at hsl
    clear hO hx hv hb hbg hg hlc hcm hcs ht
    go_enter Try.func36, Try.ntmps36
    go_wp2_with ((with_reducible refine gate_builtin (b := .append) (xs := #[.tmp 23, .tmp 24]) rfl ?_); at_builtin; refine Kd.R_append_rows KC (w0 := w) base rfl (.tmp 23) (.tmp 24) TCs TC (.agg (ce c0).toArray) 48 rfl Try.underlying40 zcell (by simp [Value.cells, ce, iv, nums, KC, c0, z0]) (by decide) (by decide) (.slice (some ⟨g, 0, none⟩) L.length cap) L [x] (some ⟨gv, 0, none⟩) 1 1 (fun _ => True) (fun _ => False) rfl rfl HO.out HC.out (fun _ _ h => h) (fun _ h => h.elim) (fun _ _ => trivial) (Below.refl _ _) HB.out (by have := HL.out; omega) ?_; intro v1 w1 ho hb hg hat; have HO1 := Aside0.mk ho; have HG1 := Aside0.mk hg; have HAT := Aside0.mk hat; clear ho hb hg hat)
    go_ret
    exact ⟨_, rfl, HO1.out, HG1.out, HAT.out⟩
end
end Go.Proofs.Ytkcdlilglgfkaaa.Rg
