/- Posts: what stands, New, Len, look. -/
import Derived.Test.YtnjnljnhpihemaaPoK
import Derived.RegionTactic
import Derived.BigRegion
import Derived.Deep.MidRow
set_option linter.unusedVariables false
set_option linter.unusedSimpArgs false
namespace Go.Proofs.Ytnjnljnhpihemaa.Po
open Go Go.RowKit Go.Proofs.YtnjnljnhpihemaaW.PrintWords Go.Proofs.YtnjnljnhpihemaaW.PrintLast Go.Proofs.YtnjnljnhpihemaaW.PrintMore Go.Proofs.Ytnjnljnhpihemaa.PA
abbrev KR : Kd (List Int) := Kd.slice 5 (Kd.int .u8)
abbrev TP : TypeId := 51
/-- A post: its box, its map, a row of letters for each way that was gone. -/
structure Ps (w0 : World) (gp gm : Nat) (n : Int) (L : List (Int × Int × Value)) (Q : Int → Int → List (List Int)) (S : Nat → Prop) (w : World) : Prop where
  below : Below w0.heap.size w0 w
  pb : w.heap[gp]? = some (.cells #[.int .i64 n, .map (some gm)] TP (0, 0))
  mb : w.heap[gm]? = some (.map (E 0 L).toArray L.length)
  g0 : w0.heap.size ≤ gm ∧ w0.heap.size ≤ gp
  sm : Smalls L
  rows : ∀ x ∈ L, Kd.R KR 23 w w0.heap.size S x.2.2 (Q x.1 x.2.1)
  nil0 : ∀ a b, (∀ x ∈ L, ¬ (x.1 = a ∧ x.2.1 = b)) → Q a b = []
  apart : ∀ (i j : Nat) (x y : Int × Int × Value), i ≠ j → L[i]? = some x → L[j]? = some y → ∀ k, x.2.2.ownBlock = some k → y.2.2.ownBlock ≠ some k
  keys : ∀ (i j : Nat) (x y : Int × Int × Value), L[i]? = some x → L[j]? = some y → x.1 = y.1 → x.2.1 = y.2.1 → i = j
theorem Ps.step {w0 : World} {gp gm : Nat} {n : Int} {L : List (Int × Int × Value)} {Q : Int → Int → List (List Int)} {S : Nat → Prop} {w w1 : World} (h : Ps w0 gp gm n L Q S w) (hb : Below w.heap.size w w1) : Ps w0 gp gm n L Q S w1 :=
  ⟨h.below.trans (hb.mono h.below.size), blk_below h.pb hb, blk_below h.mb hb, h.g0, h.sm, fun x hx => Kd.R_below (h.rows x hx) hb, h.nil0, h.apart, h.keys⟩
theorem make_run (w : World) : (Instr.makeMap TM none).run Try.prog w = .ok (.map (some w.heap.size)) (w.alloc (.map #[] 0)) := by
  have hu := Try.underlying49
  unfold Instr.makeMap
  simp [Sem.run_bind, run_underlying hu w]
set_option maxRecDepth 100000 in
set_option maxHeartbeats 4000000 in
theorem New_calls (n : Int) (h1 : 1 ≤ n) (h2 : n ≤ 8) (w : World) :
    Calls Try.prog 7 #[.int .i64 n] w fun e w' => ∃ gp gm, e = .returned (.tuple #[.pointer (some ⟨gp, 0, none⟩), .int .i64 0]) ∧ Ps w gp gm n [] (fun _ _ => []) (fun _ => False) w' := by
  have b1 : decide (n < 1) = false := decide_eq_false (by omega)
  have b2 : decide (8 < n) = false := decide_eq_false (by omega)
  have b3 : (n < 1) = False := eq_false (by omega)
  have b4 : (8 < n) = False := eq_false (by omega)
  have mk := make_run
  go_enter Try.func7, Try.ntmps7
  go_wp2
  go_ret2
  refine ⟨w.heap.size + 1, w.heap.size, rfl, ⟨below_alloc (below_alloc (Below.refl _ _) _) _, by simpa using blk_new (w.alloc (.map #[] 0)) (.cells #[.int .i64 n, .map (some w.heap.size)] TP), blk_alloc (blk_new w _) _, ⟨Nat.le_refl _, by omega⟩, fun x hx => by simp at hx, fun x hx => by simp at hx, fun _ _ _ => rfl, fun i j x y _ hi => by simp at hi, fun i j x y hi => by simp at hi⟩⟩
section
variable {w0 : World} {gp gm : Nat} {n : Int} {L : List (Int × Int × Value)} {Q : Int → Int → List (List Int)} {S : Nat → Prop} {w w1 : World} {a b : Int}
/-- Where a way is, in every world. -/
theorem Ps.find (h : Ps w0 gp gm n L Q S w) (ha : small a) (hb : small b) :
    ((∀ x ∈ L, ¬ (x.1 = a ∧ x.2.1 = b)) ∧ ∀ W, (Instr.findKey 53 (key a b) (E 0 L)).run Try.prog W = .ok none W) ∨
      ∃ (j : Nat) (v : Value), L[j]? = some (a, b, v) ∧ ∀ W, (Instr.findKey 53 (key a b) (E 0 L)).run Try.prog W = .ok (some (j, v)) W := by
  rcases at_key L w a b ha hb h.sm with ⟨h1, _⟩ | ⟨j, v, hj, _⟩
  · refine Or.inl ⟨h1, fun W => ?_⟩
    rcases at_key L W a b ha hb h.sm with ⟨_, h2⟩ | ⟨j, v, hj, _⟩
    · exact h2
    · exact absurd ⟨rfl, rfl⟩ (h1 _ (List.mem_of_getElem? hj))
  · refine Or.inr ⟨j, v, hj, fun W => ?_⟩
    rcases at_key L W a b ha hb h.sm with ⟨h1, _⟩ | ⟨j2, v2, hj2, h2⟩
    · exact absurd ⟨rfl, rfl⟩ (h1 _ (List.mem_of_getElem? hj))
    · obtain rfl := h.keys j j2 _ _ hj hj2 rfl rfl
      rw [hj] at hj2
      obtain rfl : v = v2 := by simpa using hj2
      exact h2
/-- What a look-up tells. -/
theorem Ps.looks (h : Ps w0 gp gm n L Q S w) (ha : small a) (hb : small b) :
    ∃ A c, (∀ W : World, W.heap[gm]? = some (.map (E 0 L).toArray L.length) → (Instr.lookup TM (.map (some gm)) (.agg #[.int .i64 a, .int .i64 b]) false).run Try.prog W = .ok (.slice A (Q a b).length c) W) ∧
      (Q a b).length ≤ c ∧ (∀ W, Ps w0 gp gm n L Q S W → Kd.R KR 23 W w0.heap.size S (.slice A (Q a b).length c) (Q a b)) := by
  rcases h.find ha hb with ⟨h1, h2⟩ | ⟨j, v, hj, h2⟩
  · have hq := h.nil0 a b h1
    rw [hq]
    exact ⟨none, 0, fun W hm => lookup_none hm ha hb (h2 W), Nat.le_refl _, fun W hW => Kd.R_nil _ _ _ _ _⟩
  · have hr := h.rows _ (List.mem_of_getElem? hj)
    obtain ⟨A, c, hv, hc, _⟩ := Kd.R_reads hr
    simp only at hv
    subst hv
    exact ⟨A, c, fun W hm => lookup_some hm ha hb (h2 W), hc, fun W hW => hW.rows _ (List.mem_of_getElem? hj)⟩
theorem Ps.c0 (h : Ps w0 gp gm n L Q S w) : w.cell? ⟨gp, 0, none⟩ = some (.int .i64 n) := (blk_cell h.pb 0).trans rfl
theorem Ps.c1 (h : Ps w0 gp gm n L Q S w) : w.cell? ⟨gp, 1, none⟩ = some (.map (some gm)) := (blk_cell h.pb 1).trans rfl
set_option maxRecDepth 100000 in
set_option maxHeartbeats 4000000 in
theorem Len_calls (h : Ps w0 gp gm n L Q S w) (ha : small a) (hb : small b) :
    Calls Try.prog 12 #[.pointer (some ⟨gp, 0, none⟩), .int .i64 a, .int .i64 b] w fun e w' => e = .returned (.int .i64 ((Q a b).length : Int)) ∧ w' = w := by
  obtain ⟨A, c, hl, hc, _⟩ := h.looks ha hb
  have hlk := hl w h.mb
  have c1 := h.c1
  clear hl hc ha hb h
  go_enter Try.func12, Try.ntmps12
  go_wp2
  go_ret
  exact ⟨rfl, rfl⟩
set_option maxRecDepth 100000 in
set_option maxHeartbeats 4000000 in
theorem look_ok (h : Ps w0 gp gm n L Q S w) (a0 : 0 ≤ a) (a1 : a < n) (b0 : 0 ≤ b) (b1 : b < n) (hab : a ≠ b) :
    Calls Try.prog 19 #[.pointer (some ⟨gp, 0, none⟩), .agg #[.int .i64 a, .int .i64 b]] w fun e w' => e = .returned (.int .i64 0) ∧ Below w.heap.size w w' := by
  have c0 := pw_cell_below (below_alloc (Below.refl w.heap.size w) (.cells #[.int .i64 a, .int .i64 b] 53)) h.c0
  have t1 : decide (a < 0) = false := decide_eq_false (by omega)
  have t2 : decide (n ≤ a) = false := decide_eq_false (by omega)
  have t3 : decide (b < 0) = false := decide_eq_false (by omega)
  have t4 : decide (n ≤ b) = false := decide_eq_false (by omega)
  have t5 : (a == b) = false := beq_eq_false_iff_ne.mpr hab
  have hlt : gp < w.heap.size := blk_lt h.pb
  clear h a0 a1 b0 b1 hab
  go_enter Try.func19, Try.ntmps19
  go_upto_region 3 with (fail)
  go_quiet (fail)
  go_wp2
  go_ret
  exact ⟨rfl, pw_below_drewN (below_alloc (Below.refl _ _) _) _⟩
end
end Go.Proofs.Ytnjnljnhpihemaa.Po
