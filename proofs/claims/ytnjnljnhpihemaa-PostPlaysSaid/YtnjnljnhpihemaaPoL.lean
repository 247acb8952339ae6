/- Posts: what an entry, and a row that is laid into it, leave. -/
import Derived.Test.YtnjnljnhpihemaaPoS
set_option linter.unusedVariables false
set_option linter.unusedSimpArgs false
namespace Go.Proofs.Ytnjnljnhpihemaa.Po
open Go Go.RowKit Go.Proofs.YtnjnljnhpihemaaW.PrintWords Go.Proofs.YtnjnljnhpihemaaW.PrintLast Go.Proofs.YtnjnljnhpihemaaW.PrintMore Go.Proofs.Ytnjnljnhpihemaa.PA
theorem set_same {w : World} {g : Nat} {o o' : Obj} (h : w.heap[g]? = some o') : (ChangeMaps.setBlock w g o).heap[g]? = some o := by
  have hl : g < w.heap.size := (Array.getElem?_eq_some_iff.1 h).1
  show (w.heap.setIfInBounds g o)[g]? = some o
  simp [hl]
theorem set_other {w : World} {g k : Nat} {o : Obj} (hk : k ≠ g) : (ChangeMaps.setBlock w g o).heap[k]? = w.heap[k]? := by
  show (w.heap.setIfInBounds g o)[k]? = w.heap[k]?
  rw [Array.getElem?_setIfInBounds]
  simp [hk.symm]
theorem set_size {w : World} {g : Nat} {o : Obj} : (ChangeMaps.setBlock w g o).heap.size = w.heap.size := by
  show (w.heap.setIfInBounds g o).size = w.heap.size
  simp
theorem below_set {B : Nat} {w w1 : World} {g : Nat} {o : Obj} (h : Below B w w1) (hB : B ≤ g) : Below B w (ChangeMaps.setBlock w1 g o) :=
  ⟨h.os, h.tape, h.output, by rw [set_size]; exact h.size, fun i hi => (set_other (by omega)).trans (h.block i hi)⟩
section
variable {w0 : World} {gp gm : Nat} {n : Int} {L : List (Int × Int × Value)} {Q : Int → Int → List (List Int)} {S S' : Nat → Prop} {w w1 w6 : World} {a b : Int}
/-- Rows stay where the map alone is written. -/
theorem R_set_map {base : Nat} {v : Value} {q : List (List Int)} {es : Array MapEntry} {ck : Nat} {o : Obj} (h : Kd.R KR 23 w base S v q) (hm : w.heap[gm]? = some (.map es ck)) : Kd.R KR 23 (ChangeMaps.setBlock w gm o) base S v q :=
  Kd.R_mono (Kd.R_step (Kd.R_bound h) (fun k hk hl => by
    obtain ⟨_, _, _, q, _, cells, hc⟩ := hk
    exact set_other (fun e => by rw [e, hm] at hc; cases hc))) (fun _ hk => hk.1)
/-- A row of letters stays where another such row's block is written. -/
theorem R_beside {base : Nat} {v : Value} {q : List (List Int)} {g : Nat} {cells : Array Value} (h : Kd.R KR 23 w base S v q) (hb : w.heap[g]? = some (.cells cells 23 (0, 0))) (hne : v.ownBlock ≠ some g) : Kd.R KR 23 w base (fun k => S k ∧ k ≠ g) v q := by
  obtain ⟨h0, inner, ho, hr⟩ := h
  refine ⟨fun k hk => ⟨h0 k hk, fun e => hne (e ▸ hk)⟩, inner, ho, hr.imp_ (fun x cs hp => ?_)⟩
  refine KR.M_mono (fun k hk => ?_) (Kd.M_types (d := KR) hp hb (fun q hq => by
    have : q = 5 := by simpa [KR, Kd.slice, Kd.int, Kd.scalar] using hq
    rw [this]; decide))
  exact ⟨⟨hk.1.1, hk.2⟩, hk.1.2⟩
def upd (Q : Int → Int → List (List Int)) (a b : Int) (q : List (List Int)) : Int → Int → List (List Int) := fun x y => if x = a ∧ y = b then q else Q x y
theorem upd_same {q : List (List Int)} : upd Q a b q a b = q := by unfold upd; rw [if_pos ⟨rfl, rfl⟩]
theorem upd_self : upd Q a b (Q a b) = Q := by
  funext x y
  unfold upd
  split
  · rename_i h; rw [h.1, h.2]
  · rfl
theorem Ps.own_blk (h : Ps w0 gp gm n L Q S w) {x : Int × Int × Value} (hx : x ∈ L) {k : Nat} (hk : x.2.2.ownBlock = some k) : w0.heap.size ≤ k ∧ k < w.heap.size ∧ S k ∧ ∃ cells, w.heap[k]? = some (.cells cells 23 (0, 0)) :=
  ⟨Kd.R_base (h.rows x hx) k hk, Kd.R_lt (h.rows x hx) k hk, (h.rows x hx).1 k hk, Kd.R_typed (h.rows x hx) k hk⟩
/-- A row laid into its entry. -/
theorem Ps.put (h : Ps w0 gp gm n L Q S w) {j : Nat} {v v1 : Value} {q : List (List Int)} (hj : L[j]? = some (a, b, v)) (hg : w.grownBy w6 v.ownBlock) (hS : ∀ k, S k → S' k) (hR : Kd.R KR 23 w6 w0.heap.size S' v1 q)
    (hat : v1.ownBlock = v.ownBlock ∨ (∃ k, v1.ownBlock = some k ∧ w.heap.size ≤ k) ∨ v1.ownBlock = none) : Ps w0 gp gm n (L.set j (a, b, v1)) (upd Q a b q) S' (mapW w6 gm (L.set j (a, b, v1))) := by
  have hjl := (List.getElem?_eq_some_iff.1 hj).1
  have hmem := List.mem_of_getElem? hj
  have hgm : some gm ≠ v.ownBlock := fun e => by
    obtain ⟨_, _, _, cells, hc⟩ := h.own_blk hmem e.symm
    rw [h.mb] at hc; cases hc
  have hgp : some gp ≠ v.ownBlock := fun e => by
    obtain ⟨_, _, _, cells, hc⟩ := h.own_blk hmem e.symm
    rw [h.pb] at hc
    injection hc with hc
    injection hc with _ hc
    exact absurd hc (by decide)
  have hm6 : w6.heap[gm]? = some (.map (E 0 L).toArray L.length) := (hg.block gm (Array.getElem?_eq_some_iff.1 h.mb).1 hgm).trans h.mb
  have hp6 : w6.heap[gp]? = some (.cells #[.int .i64 n, .map (some gm)] TP (0, 0)) := (hg.block gp (blk_lt h.pb) hgp).trans h.pb
  have hne : gp ≠ gm := fun e => by have := h.pb; rw [e, h.mb] at this; cases this
  have hset : ∀ i x, (L.set j (a, b, v1))[i]? = some x → (i = j ∧ x = (a, b, v1)) ∨ (i ≠ j ∧ L[i]? = some x) := fun i x hi => by
    rw [List.getElem?_set] at hi
    by_cases e : j = i
    · subst e
      simp [hjl] at hi
      exact Or.inl ⟨rfl, hi.symm⟩
    · rw [if_neg e] at hi
      exact Or.inr ⟨fun e2 => e e2.symm, hi⟩
  have hrows : ∀ i x, i ≠ j → L[i]? = some x → Kd.R KR 23 w6 w0.heap.size S' x.2.2 (Q x.1 x.2.1) := fun i x hij hx => by
    have hr := h.rows x (List.mem_of_getElem? hx)
    cases hv : v.ownBlock with
    | none => exact Kd.R_mono (Kd.R_grown hr hg (fun k _ => by rw [hv]; exact fun e => by cases e)) hS
    | some k0 =>
      obtain ⟨_, _, _, cells, hc⟩ := h.own_blk hmem hv
      have hap := h.apart j i _ _ (fun e => hij e.symm) hj hx k0 hv
      exact Kd.R_mono (Kd.R_grown (R_beside hr hc hap) hg (fun k hk => by rw [hv]; exact fun e => hk.2 (Option.some.inj e))) (fun k hk => hS k hk.1)
  have hown : ∀ i x, i ≠ j → L[i]? = some x → ∀ k, x.2.2.ownBlock = some k → v1.ownBlock ≠ some k := fun i x hij hx k hk e => by
    rcases hat with hat | ⟨k1, hk1, hle⟩ | hat
    · rw [hat] at e
      exact h.apart i j _ _ hij hx hj k hk e
    · rw [hk1] at e
      obtain rfl := Option.some.inj e
      have := (h.own_blk (List.mem_of_getElem? hx) hk).2.1
      omega
    · rw [hat] at e; cases e
  refine ⟨below_set (pw_below_grown h.below v.ownBlock h.below.size hg (fun k hk => (h.own_blk hmem hk).1)) h.g0.1, (set_other hne).trans hp6, set_same hm6, h.g0, ?_, ?_, ?_, ?_, ?_⟩
  · intro x hx
    obtain ⟨i, hi⟩ := List.getElem?_of_mem hx
    rcases hset i x hi with ⟨_, rfl⟩ | ⟨_, hi2⟩
    · exact (h.sm (a, b, v) hmem)
    · exact h.sm x (List.mem_of_getElem? hi2)
  · intro x hx
    obtain ⟨i, hi⟩ := List.getElem?_of_mem hx
    rcases hset i x hi with ⟨_, rfl⟩ | ⟨hij, hi2⟩
    · rw [show upd Q a b q (a, b, v1).1 (a, b, v1).2.1 = q from upd_same]
      exact R_set_map hR hm6
    · have hq : upd Q a b q x.1 x.2.1 = Q x.1 x.2.1 := by
        unfold upd
        rw [if_neg (fun e => hij (h.keys i j _ _ hi2 hj e.1 e.2))]
      rw [hq]
      exact R_set_map (hrows i x hij hi2) hm6
  · intro a' b' hn
    have h1 : ¬ (a' = a ∧ b' = b) := fun e => hn (a, b, v1) (List.mem_of_getElem? (by rw [List.getElem?_set]; simp [hjl] : (L.set j (a, b, v1))[j]? = some (a, b, v1))) ⟨e.1.symm, e.2.symm⟩
    unfold upd
    rw [if_neg h1]
    refine h.nil0 a' b' (fun x hx e => ?_)
    obtain ⟨i, hi⟩ := List.getElem?_of_mem hx
    by_cases hij : i = j
    · subst hij
      rw [hj] at hi
      obtain rfl := Option.some.inj hi
      exact h1 ⟨e.1.symm, e.2.symm⟩
    · exact hn x (List.mem_of_getElem? (by rw [List.getElem?_set, if_neg (fun e => hij e.symm)]; exact hi : (L.set j (a, b, v1))[i]? = some x)) e
  · intro i i2 x y hne2 hi hi2 k hk
    rcases hset i x hi with ⟨rfl, rfl⟩ | ⟨h1, h2⟩
    · rcases hset i2 y hi2 with ⟨rfl, rfl⟩ | ⟨h3, h4⟩
      · exact absurd rfl hne2
      · exact fun e => hown i2 y h3 h4 k e hk
    · rcases hset i2 y hi2 with ⟨rfl, rfl⟩ | ⟨h3, h4⟩
      · exact hown i x h1 h2 k hk
      · exact h.apart i i2 x y hne2 h2 h4 k hk
  · intro i i2 x y hi hi2 e1 e2
    rcases hset i x hi with ⟨rfl, rfl⟩ | ⟨h1, h2⟩
    · rcases hset i2 y hi2 with ⟨rfl, rfl⟩ | ⟨h3, h4⟩
      · rfl
      · exact h.keys i i2 _ _ hj h4 e1 e2
    · rcases hset i2 y hi2 with ⟨rfl, rfl⟩ | ⟨h3, h4⟩
      · exact h.keys i i2 _ _ h2 hj e1 e2
      · exact h.keys i i2 x y h2 h4 e1 e2
/-- The map and the box stay where a row of the post is written. -/
theorem Ps.apart_row (h : Ps w0 gp gm n L Q S w) {v : Value} (hx : (a, b, v) ∈ L) : some gm ≠ v.ownBlock ∧ some gp ≠ v.ownBlock := by
  refine ⟨fun e => ?_, fun e => ?_⟩
  · obtain ⟨_, _, _, cells, hc⟩ := h.own_blk hx e.symm
    rw [h.mb] at hc; cases hc
  · obtain ⟨_, _, _, cells, hc⟩ := h.own_blk hx e.symm
    rw [h.pb] at hc
    injection hc with hc
    injection hc with _ hc
    exact absurd hc (by decide)
/-- The entry of a way: it is there afterwards. -/
theorem Ps.entry (h : Ps w0 gp gm n L Q S w) (ha : small a) (hb : small b) : ∃ (j : Nat) (v : Value) (L' : List (Int × Int × Value)), (∀ W : World, W.heap[gm]? = some (.map (E 0 L).toArray L.length) → (Instr.mapEntry TM (.map (some gm)) (.agg #[.int .i64 a, .int .i64 b])).run Try.prog W = .ok (.tuple #[v, .int .i64 (j : Int)]) (mapW W gm L')) ∧
    L'[j]? = some (a, b, v) ∧ (v.ownBlock = none ∨ (a, b, v) ∈ L) ∧ ∀ W, Ps w0 gp gm n L Q S W → Ps w0 gp gm n L' Q S (mapW W gm L') := by
  rcases h.find ha hb with ⟨h1, h2⟩ | ⟨j, v, hj, h2⟩
  · refine ⟨L.length, Value.slice none 0 0, L ++ [(a, b, Value.slice none 0 0)], fun W hm => entry_none hm ha hb (h2 W), by simp, Or.inl rfl, fun W hW => ?_⟩
    have hne : gp ≠ gm := fun e => by have := h.pb; rw [e, h.mb] at this; cases this
    have hget : ∀ i x, (L ++ [(a, b, Value.slice none 0 0)])[i]? = some x → L[i]? = some x ∨ (i = L.length ∧ x = (a, b, .slice none 0 0)) := fun i x hi => by
      rcases Nat.lt_or_ge i L.length with hl | hl
      · rw [List.getElem?_append_left hl] at hi; exact Or.inl hi
      · rw [List.getElem?_append_right hl] at hi
        have : i - L.length = 0 := by
          rcases Nat.eq_zero_or_pos (i - L.length) with h | h
          · exact h
          · rw [List.getElem?_eq_none (by simp; omega)] at hi; cases hi
        rw [this] at hi
        exact Or.inr ⟨by omega, by simpa using hi.symm⟩
    refine ⟨below_set hW.below hW.g0.1, (set_other hne).trans hW.pb, set_same hW.mb, hW.g0, ?_, ?_, ?_, ?_, ?_⟩
    · intro x hx
      rcases List.mem_append.1 hx with hx | hx
      · exact hW.sm x hx
      · rw [List.mem_singleton.1 hx]; exact ⟨ha, hb⟩
    · intro x hx
      rcases List.mem_append.1 hx with hx | hx
      · exact R_set_map (hW.rows x hx) hW.mb
      · rw [List.mem_singleton.1 hx]
        rw [show Q (a, b, Value.slice none 0 0).1 (a, b, Value.slice none 0 0).2.1 = [] from h.nil0 a b h1]
        exact Kd.R_nil _ _ _ _ _
    · exact fun a' b' hn => hW.nil0 a' b' (fun x hx => hn x (List.mem_append_left _ hx))
    · intro i i2 x y hne2 hi hi2 k hk
      rcases hget i x hi with hi | ⟨_, rfl⟩
      · rcases hget i2 y hi2 with hi2 | ⟨_, rfl⟩
        · exact hW.apart i i2 x y hne2 hi hi2 k hk
        · simp [Value.ownBlock]
      · simp [Value.ownBlock] at hk
    · intro i i2 x y hi hi2 e1 e2
      rcases hget i x hi with hi | ⟨rfl, rfl⟩
      · rcases hget i2 y hi2 with hi2 | ⟨rfl, rfl⟩
        · exact hW.keys i i2 x y hi hi2 e1 e2
        · exact absurd ⟨e1, e2⟩ (h1 x (List.mem_of_getElem? hi))
      · rcases hget i2 y hi2 with hi2 | ⟨rfl, rfl⟩
        · exact absurd ⟨e1.symm, e2.symm⟩ (h1 y (List.mem_of_getElem? hi2))
        · rfl
  · refine ⟨j, v, L, fun W hm => entry_some hm ha hb hj (h2 W), hj, Or.inr (List.mem_of_getElem? hj), fun W hW => ?_⟩
    have hne : gp ≠ gm := fun e => by have := h.pb; rw [e, h.mb] at this; cases this
    exact ⟨below_set hW.below hW.g0.1, (set_other hne).trans hW.pb, set_same hW.mb, hW.g0, hW.sm, fun x hx => R_set_map (hW.rows x hx) hW.mb, hW.nil0, hW.apart, hW.keys⟩
end
end Go.Proofs.Ytnjnljnhpihemaa.Po
