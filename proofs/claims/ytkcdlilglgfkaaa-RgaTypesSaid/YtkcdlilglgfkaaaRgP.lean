/- Rows of cells: where one stands. -/
import Derived.Test.YtkcdlilglgfkaaaRgE
set_option linter.unusedVariables false
set_option linter.unusedSimpArgs false
namespace Go.Proofs.Ytkcdlilglgfkaaa.Rg
open Go Go.RowKit Go.Proofs.YtkcdlilglgfkaaaW.PrintWords Go.Proofs.YtkcdlilglgfkaaaW.PrintLast Go.Proofs.YtkcdlilglgfkaaaW.PrintMore Go.Proofs.Ytkcdlilglgfkaaa.PA Go.Proofs.Ytkcdlilglgfkaaa.Ar Go.Proofs.Ytkcdlilglgfkaaa.Sha
theorem size_ce : (Try.prog.info? TC).map (·.size) = some 35 := by kernel_rfl
theorem ce_id {x : Ce} (j : Nat) (v : Value) (hj : (iv x.id)[j]? = some v) : (ce x).toArray[0 + j]? = some v := by
  rw [List.getElem?_toArray, Nat.zero_add, ce, List.getElem?_append_left (List.getElem?_eq_some_iff.1 hj).1]
  exact hj
theorem at_ce : ∀ {L : List Ce} {j : Nat} {x : Ce}, (∀ y ∈ L, okC y) → L[j]? = some x → ∀ (i : Nat) (v : Value), (ce x)[i]? = some v → (fl L)[j * 35 + i]? = some v
  | [], j, x, _, hj, _, _, _ => by simp at hj
  | y :: r, 0, x, hk, hj, i, v, hi => by
    obtain rfl : y = x := by simpa using hj
    rw [fl, List.flatMap_cons, Nat.zero_mul, Nat.zero_add, List.getElem?_append_left (List.getElem?_eq_some_iff.1 hi).1]
    exact hi
  | y :: r, j + 1, x, hk, hj, i, v, hi => by
    have h := at_ce (L := r) (fun z hz => hk z (by simp [hz])) (by simpa using hj) i v hi
    have hl := ce_len (hk y (by simp))
    rw [fl, List.flatMap_cons, List.getElem?_append_right (by rw [hl, Nat.succ_mul]; omega), hl, show (j + 1) * 35 + i - 35 = j * 35 + i by omega]
    exact h
theorem cur_at {L : List Ce} {cur : Array Value} {j : Nat} {x : Ce} (hk : ∀ y ∈ L, okC y) (ht : cur.toList.take (L.length * 35) = fl L) (hj : L[j]? = some x) (i : Nat) (v : Value) (hi : (ce x)[i]? = some v) : cur[j * 35 + i]? = some v := by
  have h := at_ce hk hj i v hi
  rw [← ht, List.getElem?_take] at h
  split at h
  · simpa using h
  · cases h
set_option maxRecDepth 100000 in
set_option maxHeartbeats 4000000 in
theorem pred_calls (w : World) (B : Nat) (y : Idt) (hy : y.2.length = 32) (hB : w.heap[B]? = some (.cells (iv y).toArray 28 (0, 0))) (x : Ce) (hx : okC x) :
    Calls Try.prog 43 #[.agg (ce x).toArray, .pointer (some ⟨B, 0, none⟩)] w fun e w' => e = .returned (.bool (decide (x.id = y))) ∧ Below w.heap.size w w' := by
  have heq := fun W => run_eqId W x.id y hx hy
  have huI := Try.underlying28
  have HLX : Aside0 ((Try.prog.info? 28).map (·.size) = some (iv x.id).length) := ⟨by rw [iv_len hx]; exact size_id⟩
  have HLY : Aside0 ((Try.prog.info? 28).map (·.size) = some (iv y).toArray.size) := ⟨by rw [List.size_toArray, iv_len hy]; exact size_id⟩
  have HCX := Aside0.mk (ce_id (x := x))
  have HB := Aside0.mk hB
  have HX := Aside0.mk hx
  obtain ⟨C, hC⟩ : ∃ C, (ce x).toArray = C := ⟨_, rfl⟩
  obtain ⟨D, hD⟩ : ∃ D, (iv y).toArray = D := ⟨_, rfl⟩
  obtain ⟨F, hF⟩ : ∃ F, (iv x.id).toArray = F := ⟨_, rfl⟩
  rw [hC] at HCX ⊢
  rw [hD] at heq HLY HB
  rw [hF] at heq
  have HF := Aside0.mk hF
  clear hC hD hF hx hy hB
  go_enter Try.func43, Try.ntmps43
  go_wp2_with (first | ((with_reducible refine gate_ (Op.load 28 (.tmp 4)) rfl ?_); refine wpList_load_at rfl 28 (.tmp 4) rfl w.heap.size 0 rfl _ _ (blk_new w _) _ HCX.out _ huI rfl HLX.out ?_; rw [HF.out]) | ((with_reducible refine gate_ (Op.load 28 (.tmp 1)) rfl ?_); refine wpList_load_row rfl 28 (.tmp 1) rfl B rfl _ _ _ _ (blk_alloc HB.out _) huI rfl HLY.out ?_))
  go_ret
  exact ⟨rfl, below_alloc (Below.refl _ _) _⟩
/-- Where the first cell of an id stands; -1: nowhere. -/
def Pos (L : List Ce) (y : Idt) (r : Int) : Prop := (r = -1 ∧ ∀ x ∈ L, x.id ≠ y) ∨ ∃ (j : Nat) (x : Ce), r = (j : Int) ∧ L[j]? = some x ∧ x.id = y
set_option maxRecDepth 100000 in
set_option maxHeartbeats 4000000 in
theorem idx_calls (w : World) (g cap : Nat) (cur : Array Value) (L : List Ce) (hg : w.heap[g]? = some (.cells cur TC (0, 0))) (ht : cur.toList.take (L.length * 35) = fl L) (hk : ∀ x ∈ L, okC x) (hl : L.length < 100000) (B : Nat) (y : Idt) (hy : y.2.length = 32) (hB : w.heap[B]? = some (.cells (iv y).toArray 28 (0, 0))) :
    Calls Try.prog 42 #[.slice (some ⟨g, 0, none⟩) L.length cap, .func (.func 43) #[] #[.pointer (some ⟨B, 0, none⟩)]] w fun e w' => ∃ r, e = .returned (.int .i64 r) ∧ Pos L y r ∧ Below w.heap.size w w' := by
  have HG := Aside0.mk hg
  have HT := Aside0.mk (And.intro hk ht)
  have HB := Aside0.mk hB
  have HY := Aside0.mk hy
  have huC := Try.underlying43
  have eg : ∀ (args : Array Value) (w : World), (callFunc 43 args).run Try.prog w = .ok (.enter 43 args) w := fun args w => enters_ Try.func43 (by kernel_rfl) rfl args w
  have hsC := size_ce
  clear hg ht hk hy hB
  go_enter Try.func42, Try.ntmps42
  go_wp2_with fail
  go_loopw [8] (fun i wr => ∃ j : Nat, j ≤ L.length ∧ i = .int .i64 j ∧ Aside0 (Below w.heap.size w wr) ∧ Aside0 (∀ x ∈ L.take j, x.id ≠ y)) (fun i _ => L.length - (intOf i).toNat)
  case atStart => exact ⟨0, by omega, rfl, ⟨Below.refl _ _⟩, ⟨fun x hx => by simp at hx⟩⟩
  case round =>
    obtain ⟨j, hj, rfl, HW, HN⟩ := hrel
    by_cases hlt : j < L.length
    · obtain ⟨x, hx⟩ : ∃ x, L[j]? = some x := ⟨_, List.getElem?_eq_getElem hlt⟩
      have HX := Aside0.mk hx
      have hox := HT.out.1 x (List.mem_of_getElem? hx)
      have HPC := Aside0.mk (pred_calls wr B y HY.out (blk_below HB.out HW.out) x hox)
      have HG2 := Aside0.mk (blk_below HG.out HW.out)
      have HAT := Aside0.mk (cur_at HT.out.1 HT.out.2 hx)
      have HSC : Aside0 ((Try.prog.info? TC).map (·.size) = some (ce x).length) := ⟨by rw [ce_len hox]; exact size_ce⟩
      clear hx hox
      by_cases he : x.id = y
      · have hd : decide (x.id = y) = true := decide_eq_true he
        rw [hd] at HPC
        have HE := Aside0.mk he
        clear hd he
        go_wp2_with (first | ((with_reducible refine gate_ (Op.load TC (.tmp 14)) rfl ?_); refine wpList_load_at rfl TC (.tmp 14) rfl g (j * 35) rfl _ _ HG2.out _ HAT.out _ huC rfl HSC.out ?_) | (go_at_call 43; refine HPC.out.mono ?_; rintro e w2 ⟨rfl, hb⟩; have HB2 := Aside0.mk (HW.out.trans (hb.mono HW.out.size)); clear hb))
        go_ret
        exact ⟨_, rfl, Or.inr ⟨j, x, rfl, HX.out, HE.out⟩, HB2.out⟩
      · have hd : decide (x.id = y) = false := decide_eq_false he
        rw [hd] at HPC
        have HE := Aside0.mk he
        clear hd he
        go_wp2_with (first | ((with_reducible refine gate_ (Op.load TC (.tmp 14)) rfl ?_); refine wpList_load_at rfl TC (.tmp 14) rfl g (j * 35) rfl _ _ HG2.out _ HAT.out _ huC rfl HSC.out ?_) | (go_at_call 43; refine HPC.out.mono ?_; rintro e w2 ⟨rfl, hb⟩; have HB2 := Aside0.mk (HW.out.trans (hb.mono HW.out.size)); clear hb))
        go_roundw
        case rel =>
          refine ⟨j + 1, by omega, by go_num, HB2, ⟨fun z hz => ?_⟩⟩
          rw [List.take_add_one, HX.out] at hz
          rcases List.mem_append.1 hz with hz | hz
          · exact HN.out z hz
          · obtain rfl : z = x := by simpa using hz
            exact HE.out
        case measure => simp [intOf]; omega
    · obtain rfl : j = L.length := by omega
      go_wp2_with fail
      go_ret
      refine ⟨_, rfl, Or.inl ⟨rfl, fun x hx => HN.out x ?_⟩, HW.out⟩
      rwa [List.take_of_length_le (Nat.le_refl _)]
end Go.Proofs.Ytkcdlilglgfkaaa.Rg
