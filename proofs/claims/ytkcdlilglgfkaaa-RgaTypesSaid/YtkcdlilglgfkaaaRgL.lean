/- Rows of cells: which of two hashes is ahead, told by both. -/
import Derived.Test.YtkcdlilglgfkaaaArE
import Derived.Test.YtkcdlilglgfkaaaPAx0
import Derived.RegionTactic
import Derived.BigRegion
import Derived.BigQuiet
import Derived.LoopTactic
import Derived.WalkSpells
import Derived.Lib.Hide
import Derived.Test.YtkcdlilglgfkaaaWMore
import Derived.Test.YtkcdlilglgfkaaaWLast
set_option linter.unusedVariables false
set_option linter.unusedSimpArgs false
namespace Go.Proofs.Ytkcdlilglgfkaaa.Sha
open Go Go.RowKit Go.Proofs.YtkcdlilglgfkaaaW.PrintWords Go.Proofs.YtkcdlilglgfkaaaW.PrintLast Go.Proofs.Ytkcdlilglgfkaaa.Ar Go.Proofs.Ytkcdlilglgfkaaa.PA
theorem new_at (w : World) (o : Obj) (n : Nat) (h : n = w.heap.size) : (w.alloc o).heap[n]? = some o := by subst h; exact blk_new w o
/-- a is ahead of b. -/
def lessF : List Int → List Int → Bool
  | x :: a, y :: b => if x = y then lessF a b else decide (x < y)
  | _, _ => false
theorem lessF_same : ∀ a : List Int, lessF a a = false
  | [] => rfl
  | x :: a => by rw [lessF, if_pos rfl]; exact lessF_same a
theorem lessF_at : ∀ (a b : List Int) (k : Nat), k < a.length → k < b.length → a.take k = b.take k → rd a (k : Int) ≠ rd b (k : Int) → lessF a b = decide (rd a (k : Int) < rd b (k : Int))
  | [], _, k, h, _, _, _ => by simp at h
  | _ :: _, [], k, _, h, _, _ => by simp at h
  | x :: a, y :: b, 0, _, _, _, hne => by
    have : x ≠ y := by simpa [rd] using hne
    rw [lessF, if_neg this]; simp [rd]
  | x :: a, y :: b, k + 1, h1, h2, ht, hne => by
    simp only [List.take_succ_cons, List.cons.injEq] at ht
    have e : ∀ (z : Int) (l : List Int), rd (z :: l) ((k + 1 : Nat) : Int) = rd l (k : Int) := fun z l => by simp [rd]
    rw [lessF, if_pos ht.1, e, e]
    rw [e, e] at hne
    exact lessF_at a b k (by simpa using h1) (by simpa using h2) ht.2 hne
theorem szB : ∀ w, (sizeOf 5).run Try.prog w = .ok 1 w := fun _ => by kernel_rfl
theorem take_more (a b : List Int) (k : Nat) (ha : a.length = 32) (hb : b.length = 32) (hk : k < 32) (ht : a.take k = b.take k) (e : rd a (k : Int) = rd b (k : Int)) : a.take (k + 1) = b.take (k + 1) := by
  have e2 : ∀ (z : List Int), z.length = 32 → z.take (k + 1) = z.take k ++ [rd z (k : Int)] := fun z hz => by
    rw [List.take_succ_eq_append_getElem (by omega), rd, List.getD_eq_getElem?_getD, Int.toNat_natCast, List.getElem?_eq_getElem (by omega)]; rfl
  rw [e2 a ha, e2 b hb, ht, e]
theorem take_all (a b : List Int) (ha : a.length = 32) (hb : b.length = 32) (ht : a.take 32 = b.take 32) : a = b := by
  rwa [List.take_of_length_le (by omega), List.take_of_length_le (by omega)] at ht
structure Le (w : World) (C D : Array Value) (wr : World) : Prop where
  below : Below w.heap.size w wr
  ba : wr.heap[w.heap.size]? = some (.cells C 23 (0, 0))
  bb : wr.heap[w.heap.size + 1]? = some (.cells D 23 (0, 0))
theorem Le.drewN {w : World} {C D : Array Value} {wr : World} (h : Le w C D wr) (n : Nat) : Le w C D (wr.drewN n) := ⟨pw_below_drewN h.below n, h.ba, h.bb⟩
theorem Le.at_ {w : World} {C D : Array Value} {wr wq : World} {n : Nat} (h : Le w C D wr) (hq : wr.drewN n = wq) : Le w C D wq := hq ▸ h.drewN n
set_option maxRecDepth 100000 in
set_option maxHeartbeats 4000000 in
theorem Less_calls (w : World) (a b : List Int) (ha : a.length = 32) (hb : b.length = 32) :
    Calls Try.prog 31 #[.agg (ns .u8 a), .agg (ns .u8 b)] w fun e w' => e = .returned (.bool (lessF a b)) ∧ Below w.heap.size w w' := by
  have heq : ∀ W, (Op.equalIn 10000 23 (.agg (ns .u8 a)) (.agg (ns .u8 b))).run Try.prog W = .ok (a == b) W := fun W => run_equalIn_ns (P := Try.prog) W 9998 23 5 32 .u8 Try.underlying23 Try.underlying5 szB a b ha hb
  obtain ⟨C, hC⟩ : ∃ C, ns .u8 a = C := ⟨_, rfl⟩
  obtain ⟨D, hD⟩ : ∃ D, ns .u8 b = D := ⟨_, rfl⟩
  have HCS : Aside0 (C.size = 32) := ⟨by rw [← hC, ns_size]; exact ha⟩
  have HDS : Aside0 (D.size = 32) := ⟨by rw [← hD, ns_size]; exact hb⟩
  rw [hC, hD]
  rw [hC, hD] at heq
  have HC := Aside0.mk hC
  have HD := Aside0.mk hD
  have HA := Aside0.mk ha
  have HB := Aside0.mk hb
  clear hC hD ha hb
  by_cases hab : a = b
  · have hd : (a == b) = true := by rw [hab]; exact beq_self_eq_true _
    rw [hd] at heq
    have HL : Aside0 (lessF a b = false) := ⟨by rw [hab]; exact lessF_same b⟩
    rw [HL.out]
    clear hd hab
    go_enter Try.func31, Try.ntmps31
    go_wp2_with (first | ((with_reducible refine gate_ (Op.load 23 (.tmp 2)) rfl ?_); refine wpList_load_row rfl 23 (.tmp 2) rfl w.heap.size rfl _ C _ _ (blk_alloc (blk_new w _) _) Try.underlying23 rfl (by rw [HCS.out]; kernel_rfl) ?_) | ((with_reducible refine gate_ (Op.load 23 (.tmp 3)) rfl ?_); refine wpList_load_row rfl 23 (.tmp 3) rfl (w.heap.size + 1) rfl _ D _ _ (new_at _ _ _ (by simp)) Try.underlying23 rfl (by rw [HDS.out]; kernel_rfl) ?_))
    go_ret
    exact ⟨rfl, below_alloc (below_alloc (Below.refl _ _) _) _⟩
  · have hd : (a == b) = false := by rw [beq_eq_false_iff_ne]; exact hab
    rw [hd] at heq
    have HAB := Aside0.mk hab
    clear hd hab
    go_enter Try.func31, Try.ntmps31
    go_wp2_with (first | ((with_reducible refine gate_ (Op.load 23 (.tmp 2)) rfl ?_); refine wpList_load_row rfl 23 (.tmp 2) rfl w.heap.size rfl _ C _ _ (blk_alloc (blk_new w _) _) Try.underlying23 rfl (by rw [HCS.out]; kernel_rfl) ?_) | ((with_reducible refine gate_ (Op.load 23 (.tmp 3)) rfl ?_); refine wpList_load_row rfl 23 (.tmp 3) rfl (w.heap.size + 1) rfl _ D _ _ (new_at _ _ _ (by simp)) Try.underlying23 rfl (by rw [HDS.out]; kernel_rfl) ?_))
    go_loopw [5] (fun i wr => ∃ k : Nat, k < 32 ∧ a.take k = b.take k ∧ i = .int .i64 k ∧ Le w C D wr) (fun i _ => 32 - (intOf i).toNat)
    case atStart => exact ⟨0, by omega, rfl, rfl, ⟨below_alloc (below_alloc (Below.refl _ _) _) _, blk_alloc (blk_new w _) _, new_at _ _ _ (by simp)⟩⟩
    case round =>
      obtain ⟨k, hk, ht, rfl, hm⟩ := hrel
      have c0 : wr.cell? ⟨w.heap.size, k, none⟩ = some (.int .u8 (rd a (k : Int))) := by rw [blk_cell hm.ba, ← HC.out]; exact ns_get _ _ k (by rw [HA.out]; exact hk)
      have c1 : wr.cell? ⟨w.heap.size + 1, k, none⟩ = some (.int .u8 (rd b (k : Int))) := by rw [blk_cell hm.bb, ← HD.out]; exact ns_get _ _ k (by rw [HB.out]; exact hk)
      have HM := Aside0.mk hm
      have HT := Aside0.mk ht
      clear hm ht heq
      by_cases e : rd a (k : Int) = rd b (k : Int)
      · have hk2 : k + 1 < 32 := by
          rcases Nat.lt_or_ge (k + 1) 32 with h | h
          · exact h
          · obtain rfl : k = 31 := by omega
            exact absurd (take_all a b HA.out HB.out (take_more a b 31 HA.out HB.out (by omega) HT.out e)) HAB.out
        have HT2 := Aside0.mk (take_more a b k HA.out HB.out hk HT.out e)
        rw [e] at c0
        clear e
        go_wp2
        go_quiet (fail)
        generalize hq : wr.drewN nq = wq
        have HM := Aside0.mk (HM.out.at_ hq)
        clear hq c0 c1
        go_wp2
        go_roundw
        case rel => exact ⟨k + 1, hk2, HT2.out, by go_num, HM.out⟩
        case measure => simp [intOf]; omega
      · have HL := Aside0.mk (lessF_at a b k (by rw [HA.out]; exact hk) (by rw [HB.out]; exact hk) HT.out e)
        go_wp2
        go_quiet (fail)
        generalize hq : wr.drewN nq = wq
        have HM := Aside0.mk (HM.out.at_ hq)
        have c0 := cell_at hq c0
        have c1 := cell_at hq c1
        clear hq
        go_wp2
        go_quiet (fail)
        go_wp2
        go_ret
        exact ⟨by rw [HL.out]; rfl, (HM.out.drewN _).below⟩
set_option maxRecDepth 100000 in
set_option maxHeartbeats 4000000 in
theorem RLess_calls (w : World) (a b : List Int) (ha : a.length = 32) (hb : b.length = 32) :
    Calls Try.prog 32 #[.agg (ns .u8 a), .agg (ns .u8 b)] w fun e w' => e = .returned (.bool (lessF a b)) ∧ Below w.heap.size w w' := by
  obtain ⟨C, hC⟩ : ∃ C, ns .u8 a = C := ⟨_, rfl⟩
  obtain ⟨D, hD⟩ : ∃ D, ns .u8 b = D := ⟨_, rfl⟩
  rw [hC, hD]
  have HC := Aside0.mk hC
  have HD := Aside0.mk hD
  have HA := Aside0.mk ha
  have HB := Aside0.mk hb
  clear hC hD ha hb
  go_enter Try.func32, Try.ntmps32
  go_wp2_with fail
  go_loopw [5] (fun i wr => ∃ k : Nat, k ≤ 32 ∧ a.take k = b.take k ∧ i = .int .i64 k ∧ Le w C D wr) (fun i _ => 32 - (intOf i).toNat)
  case atStart => exact ⟨0, by omega, rfl, rfl, ⟨below_alloc (below_alloc (Below.refl _ _) _) _, blk_alloc (blk_new w _) _, new_at _ _ _ (by simp)⟩⟩
  case round =>
    obtain ⟨k, hk, ht, rfl, hm⟩ := hrel
    by_cases hlt : k < 32
    · have c0 : wr.cell? ⟨w.heap.size, k, none⟩ = some (.int .u8 (rd a (k : Int))) := by rw [blk_cell hm.ba, ← HC.out]; exact ns_get _ _ k (by rw [HA.out]; exact hlt)
      have c1 : wr.cell? ⟨w.heap.size + 1, k, none⟩ = some (.int .u8 (rd b (k : Int))) := by rw [blk_cell hm.bb, ← HD.out]; exact ns_get _ _ k (by rw [HB.out]; exact hlt)
      have HM := Aside0.mk hm
      have HT := Aside0.mk ht
      clear hm ht
      by_cases e : rd a (k : Int) = rd b (k : Int)
      · have HT2 := Aside0.mk (take_more a b k HA.out HB.out hlt HT.out e)
        rw [e] at c0
        clear e
        go_wp2
        go_quiet (fail)
        generalize hq : wr.drewN nq = wq
        have HM := Aside0.mk (HM.out.at_ hq)
        clear hq c0 c1
        go_wp2
        go_roundw
        case rel => exact ⟨k + 1, by omega, HT2.out, by go_num, HM.out⟩
        case measure => simp [intOf]; omega
      · have HL := Aside0.mk (lessF_at a b k (by rw [HA.out]; exact hlt) (by rw [HB.out]; exact hlt) HT.out e)
        go_wp2
        go_quiet (fail)
        generalize hq : wr.drewN nq = wq
        have HM := Aside0.mk (HM.out.at_ hq)
        have c0 := cell_at hq c0
        have c1 := cell_at hq c1
        clear hq
        go_wp2
        go_quiet (fail)
        go_wp2
        go_ret
        exact ⟨by rw [HL.out]; rfl, (HM.out.drewN _).below⟩
    · obtain rfl : k = 32 := by omega
      rw [show ((32 : Nat) : Int) = 32 from rfl]
      have HL : Aside0 (lessF a b = false) := ⟨by rw [take_all a b HA.out HB.out ht]; exact lessF_same b⟩
      have HM := Aside0.mk hm
      clear hm ht hlt hk
      go_wp2
      go_ret
      exact ⟨by rw [HL.out]; rfl, HM.out.below⟩
end Go.Proofs.Ytkcdlilglgfkaaa.Sha
