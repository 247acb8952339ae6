/- Rows of cells: the iterator over what is shown. -/
import Derived.RangeFuncBox
import Derived.RangeFuncNested
import Derived.RangeFuncBound
import Derived.RangeFuncCalls
import Derived.RangeFuncLeaves
import Derived.Shelf.Abstract
import Derived.WalkKit
import Derived.OwnWalkIn
import Derived.TacticsInMore
import Derived.LoopNIn
import Derived.LoopIn
import Derived.Sort.BigQuietIn
import Derived.Test.YtkcdlilglgfkaaaRgM
set_option linter.unusedVariables false
set_option linter.unusedSimpArgs false
namespace Go.Proofs.Ytkcdlilglgfkaaa.Rg
open Go Go.RowKit Go.BigFrame Go.Shelf Go.Proofs Go.Proofs.YtkcdlilglgfkaaaW.PrintWords Go.Proofs.YtkcdlilglgfkaaaW.PrintMore Go.Proofs.Ytkcdlilglgfkaaa.Ar Go.Proofs.Ytkcdlilglgfkaaa.Sha
attribute [local go_sem] Oper.semAt_some
/-- An operation that is no defer statement goes as everywhere. -/
def Lift (P : Program) (F : Fence) : Prop := ∀ (n : Nat) (o : Oper) (a : Act) (w : World) (K : Act → World → Prop) (Q : Exit → Act → World → Prop), (∀ c, o.op ≠ .defer c) → Oper.wp P o a w K Q → Oper.wpIn F n P o a w K Q
theorem lift_wide (P : Program) : Lift P Fence.wide := by
  intro n o a w K Q hnd h
  unfold Oper.wpIn
  refine ⟨fun _ _ => trivial, ?_⟩
  rw [Oper.semAt_eq _ _ _ hnd]
  unfold Oper.wp at h
  generalize (execOp a.eval o).run P w = r at *
  cases r with
  | ok x w' =>
    cases x with
    | enter f args => exact ⟨fun hd => Bool.noConfusion (show false = true from hd), callsIn_wide.2 h⟩
    | row r args => exact ⟨fun hd => Bool.noConfusion (show false = true from hd), fun c cs _ => let ⟨v, w', r, s⟩ := h c cs; ⟨v, w', r, stepsIn_wide.2 s⟩⟩
    | round => exact h.elim
    | _ => exact h
  | halt x w' => cases x <;> exact h
theorem lift_round (P : Program) (l : Nat) : Lift P (Fence.wide.inRound l) := by
  intro n o a w K Q hnd h
  unfold Oper.wpIn
  refine ⟨fun _ _ => trivial, ?_⟩
  rw [Oper.semAt_eq _ _ _ hnd]
  unfold Oper.wp at h
  generalize (execOp a.eval o).run P w = r at *
  cases r with
  | ok x w' =>
    cases x with
    | enter f args => exact ⟨fun hd => Bool.noConfusion (show false = true from hd), CallsIn.inRound l (callsIn_wide.2 h)⟩
    | row r args => exact ⟨fun hd => Bool.noConfusion (show false = true from hd), fun c cs _ => let ⟨v, w', r, s⟩ := h c cs; ⟨v, w', r, stepsIn_wide.2 s⟩⟩
    | round => exact h.elim
    | _ => exact h
  | halt x w' => cases x <;> exact h
section
variable {P : Program} {F : Fence} {n : Nat} {ops : Array Oper} {rest : List Oper} {o : Oper} {a : Act} {w : World} {Q : Exit → Act → World → Prop}
theorem gi_load_at (hF : Lift P F) (hgd : o.guard = none) (ty : TypeId) (x : Operand) (ho : o.op = .load ty x)
    (g off : Nat) (hx : a.eval x = .pointer (some ⟨g, off, none⟩)) (T : TypeId) (cur : Array Value) (hg : w.heap[g]? = some (.cells cur T (0, 0))) (cs : List Value) (hc : ∀ j v, cs[j]? = some v → cur[off + j]? = some v) (d : TypeDesc)
    (hu : P.underlying ty = some d) (hd : d.isRow = true) (hi : (P.info? ty).map (·.size) = some cs.length)
    (h : wpListIn F n P ops Q rest (a.put o.dst (.agg cs.toArray)) w) : wpListIn F n P ops Q (o :: rest) a w :=
  wpListIn_plain hgd fun K hK => hF _ _ _ _ _ _ (by rw [ho]; intro c e; cases e) (wp_load_at ty x ho g off hx T cur hg cs hc d hu hd hi (hK _ _ h))
theorem gi_alloc_as (hF : Lift P F) (hgd : o.guard = none) (T : TypeId) (ho : o.op = .alloc T) (Z : Array Value)
    (hz : ∀ w : World, (zeroValue T).run P w = .ok (.agg Z) w) (h : wpListIn F n P ops Q rest (a.put o.dst (.pointer (some ⟨w.heap.size, 0, none⟩))) (w.alloc (.cells Z T))) : wpListIn F n P ops Q (o :: rest) a w :=
  wpListIn_plain hgd fun K hK => hF _ _ _ _ _ _ (by rw [ho]; intro c e; cases e) (by
    have hr : (Instr.alloc T true (.tuple #[])).run P w = .ok (.pointer (some ⟨w.heap.size, 0, none⟩)) (w.alloc (.cells Z T)) := by
      unfold Instr.alloc
      rw [Sem.run_bind, hz w]
      rfl
    unfold Oper.wp execOp
    simp only [ho, Sem.run_bind, hr, Result.andThen_ok]
    exact hK _ _ h)
theorem gi_store_new (hF : Lift P F) (hgd : o.guard = none) (ty : TypeId) (x y : Operand) (ho : o.op = .store ty x y)
    (w0 : World) (T : TypeId) (c cells : Array Value) (hw : w = w0.alloc (.cells c T)) (hx : a.eval x = .pointer (some ⟨w0.heap.size, 0, none⟩)) (hy : a.eval y = .agg cells) (hs : cells.size = c.size)
    (hi : (P.info? ty).map (·.size) = some cells.size) (h1 : cells.all (·.oneCell') = true) (h : wpListIn F n P ops Q rest (a.put o.dst undef) (w0.alloc (.cells cells T))) : wpListIn F n P ops Q (o :: rest) a w := by
  subst hw
  refine wpListIn_plain hgd fun K hK => hF _ _ _ _ _ _ (by rw [ho]; intro c e; cases e) (wp_store_at ty x y ho w0.heap.size 0 cells hx hy T c (blk_new w0 _) (by omega) hi h1 ?_)
  have e : splice c.toList 0 cells.toList = cells.toList := by simp [splice, hs]
  rw [e, Array.toArray_toList, World.setRow_alloc_new]
  exact hK _ _ h
end
theorem zero_ce (w : World) : (zeroValue TC).run Try.prog w = .ok (.agg (ce c0).toArray) w := by
  obtain ⟨i, h1, h2⟩ := Option.map_eq_some_iff.1 zcell
  simp only [Prod.mk.injEq] at h2
  simp [zeroValue, typeInfo, h1, h2.1]
theorem below_drewN' (n : Nat) (w : World) (d : Nat) : Below n w (w.drewN d) := ⟨rfl, rfl, rfl, Nat.le_refl _, fun _ _ => rfl⟩
/-- What a round keeps: what lay below n₀, and the box of the row. -/
def Kp (n₀ Bs : Nat) (W W' : World) : Prop := Below n₀ W W' ∧ W'.heap[Bs]? = W.heap[Bs]?
theorem Kp.trans {n₀ Bs : Nat} {A B C : World} (h : Kp n₀ Bs A B) (k : Kp n₀ Bs B C) : Kp n₀ Bs A C := ⟨h.1.trans k.1, k.2.trans h.2⟩
theorem Kp.refl (n₀ Bs : Nat) (w : World) : Kp n₀ Bs w w := ⟨Below.refl _ _, rfl⟩
theorem Kp.cell {n₀ Bs : Nat} {A B : World} (h : Kp n₀ Bs A B) : B.cell? ⟨Bs, 0, none⟩ = A.cell? ⟨Bs, 0, none⟩ := by simp only [World.cell?, h.2]
theorem Kp.alloc {n₀ Bs : Nat} {A B : World} (h : Kp n₀ Bs A B) (hn : n₀ ≤ A.heap.size) (hb : Bs < B.heap.size) (o : Obj) : Kp n₀ Bs A (B.alloc o) := ⟨h.1.alloc (Nat.le_trans hn h.1.size) o, (Below.heap_alloc B o Bs hb).trans h.2⟩
theorem Kp.put {n₀ Bs : Nat} {w : World} (hn : n₀ ≤ w.heap.size) (hB : Bs < w.heap.size) (W : World) (l : Nat) (o o' : Obj) (hl : w.heap.size ≤ l) (h : W.heap[l]? = some o) (h1 : o.isCells = false) (h2 : o.isWalk = false) : Kp n₀ Bs W (W.putObj l o') :=
  ⟨belowK_b hn W l o o' hl h h1 h2, (grownBy_putObj' W l o').block Bs (by have := (Array.getElem?_eq_some_iff.1 h).1; omega) (by simp; omega)⟩
/-- What is shown, each with its place among what is shown. -/
def seen : Nat → List Ce → List (Nat × Ce)
  | _, [] => []
  | n, c :: r => if c.gone then seen n r else (n, c) :: seen (n + 1) r
theorem seen_len : ∀ (n : Nat) (L : List Ce), (seen n L).length ≤ L.length
  | _, [] => Nat.le_refl _
  | n, c :: r => by
    rw [seen]
    split
    · have := seen_len n r; simp; omega
    · have := seen_len (n + 1) r; simp; omega
abbrev P46 := { p : Nat × Ce // okC p.2 ∧ p.1 < 100000 }
def enc46 (x : P46) : Array Value := #[Value.int .i64 (x.1.1 : Int), Value.agg (ce x.1.2).toArray]
theorem grown_alloc (w : World) (o : Obj) : w.grownBy (w.alloc o) none := grown_of_below (below_alloc (Below.refl _ _) o) none
set_option maxRecDepth 100000 in
set_option maxHeartbeats 4000000 in
theorem it46 (n : Nat) (l Bs n₀ gr : Nat) (v : Value) (L : List Ce) (hl : L.length < 100000) (hk : ∀ x ∈ L, okC x)
    (J Jx : List P46 → World → Prop) (hJ : ∀ s W W', J s W → W.grownBy W' none → J s W')
    (hY : ∀ pre x W, J pre W → pre.length < (seen 0 L).length → YieldAt Fence.wide (n - 1) Try.prog l (enc46 x) W fun e W' =>
      (e = .returned (.bool true) ∧ J (pre ++ [x]) W' ∧ Kp n₀ Bs W W') ∨ (e = .returned (.bool false) ∧ Jx (pre ++ [x]) W'))
    (W : World) (hn0 : n₀ ≤ W.heap.size) (hB : Bs < W.heap.size) (hBs : W.cell? ⟨Bs, 0, none⟩ = some (.pointer (some ⟨gr, 0, none⟩))) (hgr : ∀ W', Below n₀ W W' → W'.cell? ⟨gr, 0, none⟩ = some v)
    (hform : (v = .slice none 0 0 ∧ L = []) ∨ ∃ gc cap, v = .slice (some ⟨gc, 0, none⟩) L.length cap ∧ ∀ W', Below n₀ W W' → ∃ cur, W'.heap[gc]? = some (.cells cur TC (0, 0)) ∧ cur.toList.take (L.length * 35) = fl L) (h0 : J [] W) :
    CallsIn Fence.wide n Try.prog 46 #[.func (.yield l) #[] #[], .pointer (some ⟨Bs, 0, none⟩)] W fun e W' => (∃ v, e = .returned v) ∧
      ((∃ ys, ys.map (·.1) = seen 0 L ∧ J ys W') ∨ (∃ pre, pre.map (·.1) <+: seen 0 L ∧ Jx pre W')) := by
  have hgr0 := hgr W (Below.refl _ _)
  have hZ := zero_ce
  have HZs : Aside0 ((ce c0).toArray.size = 35) := ⟨rfl⟩
  have huC := Try.underlying43
  obtain ⟨Z, hZ1⟩ : ∃ Z : Array Value, (ce c0).toArray = Z := ⟨_, rfl⟩
  rw [hZ1] at hZ HZs
  have HZ := Aside0.mk hZ
  have HUC := Aside0.mk huC
  have HK := Aside0.mk hk
  clear hZ hZ1 huC hk
  refine callsIn_of_wp Try.func46 rfl trivial ?_ rfl
  simp only [Try.ntmps46, List.size_toArray, List.length_cons, List.length_nil, Nat.reduceAdd, Nat.reduceSub, Array.replicate_succ, Array.replicate_zero, List.push_toArray, List.append_toArray, List.nil_append, List.cons_append]
  rcases hform with ⟨rfl, rfl⟩ | ⟨gc, cap, rfl, hrow⟩
  · gi_wp2
    gi_loopw [11] (fun i wr => i = .int .i64 0 ∧ J [] wr) (fun i _ => 0)
    case atStart => exact ⟨rfl, h0⟩
    case round =>
      obtain ⟨rfl, hJ0⟩ := hrel
      gi_wp2
      go_end0
      exact ⟨⟨_, rfl⟩, .inl ⟨[], rfl, hJ0⟩⟩
  · have HROW := Aside0.mk hrow
    have HJ := Aside0.mk hJ
    have HY := Aside0.mk hY
    clear hrow hJ hY hgr
    gi_wp2
    gi_loopw [3, 11] (fun s3 i wr => ∃ (k m : Nat) (pre : List P46), k ≤ L.length ∧ m ≤ k ∧ i = .int .i64 k ∧ s3 = .int .i64 m ∧ Aside0 (seen 0 L = pre.map (·.1) ++ seen m (L.drop k)) ∧ Aside0 (J pre wr) ∧ Aside0 (Kp n₀ Bs W wr))
      (fun _ i _ => L.length - (intOf i).toNat)
    case atStart => exact ⟨0, 0, [], Nat.zero_le _, Nat.zero_le _, rfl, rfl, ⟨by simp⟩, ⟨h0⟩, ⟨Kp.refl _ _ _⟩⟩
    case round =>
      obtain ⟨k, m, pre, hk, hm, rfl, rfl, HS, HJs, HN⟩ := hrel
      by_cases hlt : k < L.length
      · obtain ⟨x, hx⟩ : ∃ x, L[k]? = some x := ⟨_, List.getElem?_eq_getElem hlt⟩
        have hox := HK.out x (List.mem_of_getElem? hx)
        obtain ⟨cur, hg, ht⟩ := HROW.out wr HN.out.1
        have HG := Aside0.mk hg
        have HAT := Aside0.mk (cur_at HK.out ht hx)
        have HD : Aside0 (L.drop k = x :: L.drop (k + 1)) := ⟨by
          rw [List.drop_eq_getElem_cons hlt]
          rw [(List.getElem?_eq_some_iff.1 hx).2]⟩
        have HSC : Aside0 ((Try.prog.info? TC).map (·.size) = some (ce x).length) := ⟨by rw [ce_len hox]; exact size_ce⟩
        obtain ⟨CE, hCE⟩ : ∃ C : Array Value, (ce x).toArray = C := ⟨_, rfl⟩
        have HCEs : Aside0 (CE.size = 35) := ⟨by rw [← hCE, List.size_toArray, ce_len hox]⟩
        have HC1 : Aside0 (CE.all (·.oneCell') = true) := ⟨by rw [← hCE]; exact all_oneCell_toArray (ce_one x)⟩
        have HCW : Aside0 (∀ (j : Nat) (u : Value), (ce x)[j]? = some u → CE[0 + j]? = some u) := ⟨fun j u hj => by rw [← hCE, Nat.zero_add]; simpa using hj⟩
        have hCg : CE[34]? = some (.bool x.gone) := by
          rw [← hCE, List.getElem?_toArray, ce, List.getElem?_append_right (by rw [iv_len hox]; omega), iv_len hox]
          rfl
        have kg : (wr.alloc (.cells CE TC)).cell? ⟨wr.heap.size, 34, none⟩ = some (.bool x.gone) := (blk_cell (blk_new wr _) 34).trans hCg
        have HJ1 := Aside0.mk (HJ.out pre wr (wr.alloc (.cells CE TC)) HJs.out (grown_alloc _ _))
        have HN1 := Aside0.mk (HN.out.alloc hn0 (Nat.lt_of_lt_of_le hB HN.out.1.size) (.cells CE TC))
        have HCE := Aside0.mk hCE
        have HOX := Aside0.mk hox
        clear hg ht hCE hCg hx hox HN
        cases hgn : x.gone with
        | true =>
          rw [hgn] at kg
          have HGN := Aside0.mk hgn
          clear hgn
          gi_wp2_with (first | (refine gi_load_at (lift_wide _) rfl TC (.tmp 13) rfl gc (k * 35) rfl _ _ HG.out _ HAT.out _ HUC.out rfl HSC.out ?_; rw [HCE.out]) | (refine gi_alloc_as (lift_wide _) rfl TC rfl Z HZ.out ?_) | (refine gi_store_new (lift_wide _) rfl TC (.tmp 5) (.tmp 14) rfl wr TC Z CE rfl rfl rfl (by rw [HCEs.out, HZs.out]) (by rw [HCEs.out]; exact size_ce) HC1.out ?_))
          go_roundw
          case rel => exact ⟨k + 1, m, pre, hlt, by omega, by go_num, rfl, ⟨by rw [HS.out, HD.out, seen, if_pos HGN.out]⟩, HJ1, HN1⟩
          case measure => simp [intOf]; omega
        | false =>
          rw [hgn] at kg
          have hsn : seen 0 L = (pre ++ [(⟨(m, x), HOX.out, by omega⟩ : P46)]).map (·.1) ++ seen (m + 1) (L.drop (k + 1)) := by
            rw [HS.out, HD.out, seen, if_neg (by rw [hgn]; decide)]
            simp
          have HS1 := Aside0.mk hsn
          obtain ⟨fn, tmps, assign, body, hy, hR⟩ := HY.out pre ⟨(m, x), HOX.out, by omega⟩ (wr.alloc (.cells CE TC)) HJ1.out (by rw [hsn]; simp)
          dsimp only [enc46] at hy
          rw [HCE.out] at hy
          have HR := Aside0.mk hR
          clear hgn hsn hR
          gi_wp2_with (first | (refine gi_load_at (lift_wide _) rfl TC (.tmp 13) rfl gc (k * 35) rfl _ _ HG.out _ HAT.out _ HUC.out rfl HSC.out ?_; rw [HCE.out]) | (refine gi_alloc_as (lift_wide _) rfl TC rfl Z HZ.out ?_) | (refine gi_store_new (lift_wide _) rfl TC (.tmp 5) (.tmp 14) rfl wr TC Z CE rfl rfl rfl (by rw [HCEs.out, HZs.out]) (by rw [HCEs.out]; exact size_ce) HC1.out ?_) | (refine gi_load_at (lift_wide _) rfl TC (.tmp 5) rfl wr.heap.size 0 rfl _ _ (blk_new wr _) _ HCW.out _ HUC.out rfl HSC.out ?_; rw [HCE.out]))
          refine ⟨fun h => (by cases h), HR.out.mono ?_⟩
          rintro e W3 (⟨rfl, hJ3, hk3⟩ | ⟨rfl, hJx3⟩)
          · have HJ3 := Aside0.mk hJ3
            have HK3 := Aside0.mk (HN1.out.trans hk3)
            clear hJ3 hk3 hy
            gi_wp2
            go_roundw
            case rel => exact ⟨k + 1, m + 1, _, hlt, by omega, by go_num, by go_num, HS1, HJ3, HK3⟩
            case measure => simp [intOf]; omega
          · gi_wp2
            refine bodyPost_ret (results_none rfl _ _ _) rfl ?_
            exact ⟨⟨_, rfl⟩, .inr ⟨_, ⟨_, HS1.out.symm⟩, hJx3⟩⟩
      · obtain rfl : k = L.length := by omega
        gi_wp2
        go_end0
        refine ⟨⟨_, rfl⟩, .inl ⟨pre, ?_, HJs.out⟩⟩
        rw [HS.out, List.drop_of_length_le (Nat.le_refl _)]
        simp [seen]
end Go.Proofs.Ytkcdlilglgfkaaa.Rg
