/- Own texts of this claim. -/
import Derived.RangeFuncBox
import Derived.RangeFuncNested
import Derived.RangeFuncBound
import Derived.RangeFuncCalls
import Derived.RangeFuncLeaves
import Derived.Shelf.Abstract
import Derived.WalkKit
import Derived.OwnWalkIn
import Derived.TacticsInMore
import Derived.LoopNIn
import Derived.LoopIn
import Derived.Sort.BigQuietIn
import Derived.Test.YtpnnjefhchppfaaProg
import Derived.Test.YtpnnjefhchppfaaCg23
set_option linter.unusedVariables false
set_option linter.unusedSimpArgs false
namespace Go.Proofs.Ytpnnjefhchppfaa.ColS
open Go Go.RowKit Go.BigFrame Go.Shelf Go.Proofs Go.Proofs.YtpnnjefhchppfaaW.PrintWords
attribute [local go_sem] Oper.semAt_some
def st {α : Type} [DecidableEq α] : List α → List (α × Nat)
  | [] => []
  | x :: xs => match st xs with
    | [] => [(x, 1)]
    | (y, n) :: r => if x = y then (y, n + 1) :: r else (x, 1) :: (y, n) :: r

theorem st_head {α : Type} [DecidableEq α] (x : α) (xs : List α) : ∃ n r, st (x :: xs) = (x, n) :: r := by
  simp only [st]
  split
  · exact ⟨_, _, rfl⟩
  · split
    · rename_i h; subst h; exact ⟨_, _, rfl⟩
    · exact ⟨_, _, rfl⟩
theorem st_rep {α : Type} [DecidableEq α] (x : α) (ys : List α) (hy : ∀ y, ys.head? = some y → y ≠ x) : ∀ n, st (List.replicate (n + 1) x ++ ys) = (x, n + 1) :: st ys
  | 0 => by
    cases ys with
    | nil => simp [st]
    | cons y t =>
      obtain ⟨n, r, hr⟩ := st_head y t
      have : y ≠ x := hy y rfl
      simp only [List.replicate, List.cons_append, List.nil_append]
      rw [st, hr]
      simp [Ne.symm this]
  | n + 1 => by
    rw [List.replicate_succ, List.cons_append, st, st_rep x ys hy n]
    simp
theorem st_length {α : Type} [DecidableEq α] : ∀ l : List α, (st l).length ≤ l.length
  | [] => by simp [st]
  | x :: xs => by
    have := st_length xs
    simp only [st]
    split
    · simp
    · rename_i h
      rw [h] at this
      split
      · simp at this ⊢; omega
      · simp at this ⊢; omega
theorem st_mem {α : Type} [DecidableEq α] : ∀ (l : List α) (p : α × Nat), p ∈ st l → p.1 ∈ l ∧ p.2 ≤ l.length
  | [], p, h => by simp [st] at h
  | x :: xs, p, h => by
    have ih := st_mem xs
    simp only [st] at h
    split at h
    · simp at h; subst h; simp
    · rename_i y n r hr
      rw [hr] at ih
      have h0 := ih (y, n) (by simp)
      split at h
      · rename_i hxy
        rcases List.mem_cons.1 h with rfl | h
        · simp only [List.length_cons]; exact ⟨by rw [← hxy]; simp, by have := h0.2; simp at this; omega⟩
        · have := ih p (by simp [h]); exact ⟨by simp [this.1], by simp; omega⟩
      · rcases List.mem_cons.1 h with rfl | h
        · simp
        · have := ih p (by simpa using h); exact ⟨by simp [this.1], by simp; omega⟩

theorem st_drop {α : Type} [DecidableEq α] (l : List α) (i k : Nat) (hik : i < k) (hk : k ≤ l.length) (x : α) (hx : ∀ j, i ≤ j → j < k → l[j]? = some x) (hend : l[k]? ≠ some x) :
    st (l.drop i) = (x, k - i) :: st (l.drop k) := by
  have e : l.drop i = List.replicate (k - i - 1 + 1) x ++ l.drop k := by
    apply List.ext_getElem?
    intro j
    rw [List.getElem?_drop]
    rcases Nat.lt_or_ge j (k - i) with hj | hj
    · rw [List.getElem?_append_left (by simp; omega), List.getElem?_replicate, if_pos (by omega), hx _ (by omega) (by omega)]
    · rw [List.getElem?_append_right (by simp; omega), List.getElem?_drop]
      congr 1
      simp; omega
  have h2 := st_rep x (l.drop k) (fun y hy => by
    rw [List.head?_drop] at hy
    intro e; rw [e] at hy; exact hend hy) (k - i - 1)
  rw [e, h2]
  congr 2
  omega

theorem below_drewN' (n : Nat) (w : World) (d : Nat) : Below n w (w.drewN d) := ⟨rfl, rfl, rfl, Nat.le_refl _, fun _ _ => rfl⟩
theorem grownBy_drewN' (w : World) (d : Nat) : w.grownBy (w.drewN d) none := ⟨rfl, rfl, rfl, Nat.le_refl _, fun _ _ _ => rfl⟩
def Kp (n₀ Bs : Nat) (W W' : World) : Prop := Below n₀ W W' ∧ W'.heap[Bs]? = W.heap[Bs]?
theorem Kp.trans {n₀ Bs : Nat} {A B C : World} (h : Kp n₀ Bs A B) (k : Kp n₀ Bs B C) : Kp n₀ Bs A C := ⟨h.1.trans k.1, k.2.trans h.2⟩
theorem Kp.drewN (n₀ Bs : Nat) (w : World) (d : Nat) : Kp n₀ Bs w (w.drewN d) := ⟨below_drewN' _ _ _, rfl⟩
theorem Kp.refl (n₀ Bs : Nat) (w : World) : Kp n₀ Bs w w := ⟨Below.refl _ _, rfl⟩
theorem Kp.cell {n₀ Bs : Nat} {A B : World} (h : Kp n₀ Bs A B) : B.cell? ⟨Bs, 0, none⟩ = A.cell? ⟨Bs, 0, none⟩ := by simp only [World.cell?, h.2]
theorem Kp.put {n₀ Bs : Nat} {w : World} (hn : n₀ ≤ w.heap.size) (hB : Bs < w.heap.size) (W : World) (l : Nat) (o o' : Obj) (hl : w.heap.size ≤ l) (h : W.heap[l]? = some o) (h1 : o.isCells = false) (h2 : o.isWalk = false) : Kp n₀ Bs W (W.putObj l o') :=
  ⟨belowK_b hn W l o o' hl h h1 h2, (grownBy_putObj' W l o').block Bs (by have := (Array.getElem?_eq_some_iff.1 h).1; omega) (by simp; omega)⟩
abbrev P57 := { p : Int × Nat // (Lit.int .i64 p.1).wf = true ∧ p.2 ≤ 4503599627370496 }
def enc57 (x : P57) : Array Value := #[Value.int .i64 x.1.1, Value.int .i64 (x.1.2 : Int)]

set_option maxRecDepth 100000 in
set_option maxHeartbeats 4000000 in
theorem it57 (n : Nat) (l Bs n₀ cap : Nat) (A : Option Addr) (xs : List Int) (hreach : xs.length ≤ 4503599627370496) (hwf : ∀ x ∈ xs, (Lit.int .i64 x).wf = true)
    (J Jx : List P57 → World → Prop) (hJ : ∀ s W W', J s W → W.grownBy W' none → J s W')
    (hY : ∀ pre x W, J pre W → pre.length < (st xs).length → YieldAt Fence.wide (n - 1) Try.prog l (enc57 x) W fun e W' =>
      (e = .returned (.bool true) ∧ J (pre ++ [x]) W' ∧ Kp n₀ Bs W W') ∨ (e = .returned (.bool false) ∧ Jx (pre ++ [x]) W'))
    (W : World) (hn0 : n₀ ≤ W.heap.size) (hBs : W.cell? ⟨Bs, 0, none⟩ = some (.slice A xs.length cap)) (hc : ∀ W', Below n₀ W W' → (Kd.int .i64).C W' A xs.length xs) (h0 : J [] W) :
    CallsIn Fence.wide n Try.prog 64 #[.func (.yield l) #[] #[], .pointer (some ⟨Bs, 0, none⟩)] W fun e W' => (∃ v, e = .returned v) ∧
      ((∃ ys, ys.map (·.1) = st xs ∧ J ys W') ∨ (∃ pre, pre.map (·.1) <+: st xs ∧ Jx pre W')) := by
  refine callsIn_of_wp Try.func64 rfl trivial ?_ rfl
  simp only [Try.ntmps64, List.size_toArray, List.length_cons, List.length_nil, Nat.reduceAdd, Nat.reduceSub, Array.replicate_succ, Array.replicate_zero, List.push_toArray, List.append_toArray, List.nil_append, List.cons_append]
  gi_wp2
  gi_loopw [3] (fun i wr => ∃ (k : Nat) (pre : List P57), k ≤ xs.length ∧ i = .int .i64 k ∧ st xs = pre.map (·.1) ++ st (xs.drop k) ∧ J pre wr ∧ Kp n₀ Bs W wr)
    (fun i _ => xs.length - (intOf i).toNat)
  case atStart => exact ⟨0, [], Nat.zero_le _, rfl, by simp, h0, Kp.refl _ _ _⟩
  case round =>
    obtain ⟨k, pre, hk, rfl, hst, hJs, hnx⟩ := hrel
    have hbx : wr.cell? ⟨Bs, 0, none⟩ = some (.slice A xs.length cap) := hnx.cell.trans hBs
    by_cases hlt : k < xs.length
    · have hx0 : xs[k]? = some xs[k] := List.getElem?_eq_getElem hlt
      obtain ⟨x0, hx0e⟩ : ∃ x0, x0 = xs[k] := ⟨_, rfl⟩
      rw [← hx0e] at hx0
      have hx0m : x0 ∈ xs := by rw [hx0e]; exact List.getElem_mem hlt
      clear hx0e
      gi_wp2
      gi_loopw [4] (fun j wr' => ∃ (m d : Nat), k ≤ m ∧ m ≤ xs.length ∧ j = .int .i64 m ∧ (∀ q, k ≤ q → q < m → xs[q]? = some x0) ∧ wr' = wr.drewN d)
        (fun j _ => xs.length - (intOf j).toNat)
      case atStart => exact ⟨k, 0, Nat.le_refl _, hk, rfl, fun q h1 h2 => by omega, rfl⟩
      case round =>
        obtain ⟨m, d, hkm, hm, rfl, hsame, rfl⟩ := hrel
        have hbx1 : (wr.drewN d).cell? ⟨Bs, 0, none⟩ = some (.slice A xs.length cap) := hbx
        have hC := hc (wr.drewN d) (hnx.1.trans (below_drewN' n₀ wr d))
        obtain ⟨ad, c1, rfl, hc1, hK1, hcell1⟩ := Kd.C_get hC (0 : Int) (k : Int) (by omega) (by omega)
        have hcx0 : wr.cell? (ad.add k) = some (.int .i64 x0) := by
          obtain rfl : c1 = [.int .i64 (xs.getD k 0)] := hK1
          have := hcell1 0 _ rfl
          rw [show (Kd.int .i64).sz = 1 from rfl] at this
          simpa [List.getD_eq_getElem?_getD, hx0] using this
        by_cases hmlt : m < xs.length
        · have hcm : wr.cell? (ad.add m) = some (.int .i64 xs[m]) := by
            obtain ⟨ad', c2, e2, hc2, hK2, hcell2⟩ := Kd.C_get hC (0 : Int) (m : Int) (by omega) (by omega)
            obtain rfl : ad = ad' := Option.some.inj e2
            obtain rfl : c2 = [.int .i64 (xs.getD m 0)] := hK2
            have := hcell2 0 _ rfl
            rw [show (Kd.int .i64).sz = 1 from rfl] at this
            simpa [List.getD_eq_getElem?_getD, hmlt] using this
          gi_wp2
          gi_big_quiet_th (skip)
          gi_wp2
          · have hxm : xs[m] = x0 := by simp_all
            go_roundw
            case rel => exact ⟨m + 1, d + nq, by omega, hmlt, by simp, fun q h1 h2 => by
              rcases Nat.lt_or_ge q m with h | h
              · exact hsame q h1 h
              · obtain rfl : q = m := by omega
                rw [List.getElem?_eq_getElem hmlt, hxm], rfl⟩
            case measure => simp [intOf]; omega
          · have hxm : xs[m] ≠ x0 := by
              intro h
              simp_all
            have hm0 : m ≠ k := by
              rintro rfl
              rw [List.getElem?_eq_getElem hmlt] at hx0; exact hxm (Option.some.inj hx0)
            have hkm' : k < m := by omega
            have hst' : st xs = (pre ++ [(⟨(x0, m - k), hwf x0 hx0m, by omega⟩ : P57)]).map (·.1) ++ st (xs.drop m) := by
              rw [hst, st_drop xs k m hkm' hm x0 hsame (by rw [List.getElem?_eq_getElem hmlt]; exact fun h => hxm (Option.some.inj h))]
              simp
            have hJ2 := hJ pre wr (wr.drewN (d + nq)) hJs (grownBy_drewN' wr (d + nq))
            obtain ⟨fn, tmps, assign, body, hy, hR⟩ := hY pre ⟨(x0, m - k), hwf x0 hx0m, by omega⟩ (wr.drewN (d + nq)) hJ2 (by rw [hst']; simp)
            have hsub : ((m - k : Nat) : Int) = (m : Int) - (k : Int) := by omega
            dsimp only [enc57] at hy
            rw [hsub] at hy
            gi_wp2
            rw [hy, Oper.uponIn_round]
            refine ⟨fun h => (by cases h), hR.mono ?_⟩
            rintro e W3 (⟨rfl, hJ3, hk3⟩ | ⟨rfl, hJx3⟩)
            · gi_wp2
              go_roundw
              case rel => exact ⟨m, _, hm, by simp, hst', hJ3, (hnx.trans (Kp.drewN n₀ Bs wr (d + nq))).trans hk3⟩
              case measure => simp [intOf]; omega
            · gi_wp2
              refine bodyPost_ret (results_none rfl _ _ _) rfl ?_
              exact ⟨⟨_, rfl⟩, .inr ⟨_, ⟨_, hst'.symm⟩, hJx3⟩⟩
        · gi_wp2
          gi_big_quiet_th (skip)
          gi_wp2
          have hm0 : m ≠ k := by
            rintro rfl
            omega
          have hkm' : k < m := by omega
          have hst' : st xs = (pre ++ [(⟨(x0, m - k), hwf x0 hx0m, by omega⟩ : P57)]).map (·.1) ++ st (xs.drop m) := by
            rw [hst, st_drop xs k m hkm' hm x0 hsame (by rw [List.getElem?_eq_none (by omega)]; simp)]
            simp
          have hJ2 := hJ pre wr (wr.drewN (d + nq)) hJs (grownBy_drewN' wr (d + nq))
          obtain ⟨fn, tmps, assign, body, hy, hR⟩ := hY pre ⟨(x0, m - k), hwf x0 hx0m, by omega⟩ (wr.drewN (d + nq)) hJ2 (by rw [hst']; simp)
          have hsub : ((m - k : Nat) : Int) = (m : Int) - (k : Int) := by omega
          dsimp only [enc57] at hy
          rw [hsub] at hy
          gi_wp2
          rw [hy, Oper.uponIn_round]
          refine ⟨fun h => (by cases h), hR.mono ?_⟩
          rintro e W3 (⟨rfl, hJ3, hk3⟩ | ⟨rfl, hJx3⟩)
          · gi_wp2
            go_roundw
            case rel => exact ⟨m, _, hm, by simp, hst', hJ3, (hnx.trans (Kp.drewN n₀ Bs wr (d + nq))).trans hk3⟩
            case measure => simp [intOf]; omega
          · gi_wp2
            refine bodyPost_ret (results_none rfl _ _ _) rfl ?_
            exact ⟨⟨_, rfl⟩, .inr ⟨_, ⟨_, hst'.symm⟩, hJx3⟩⟩
    · obtain rfl : k = xs.length := by omega
      gi_wp2
      go_end0
      refine ⟨⟨_, rfl⟩, .inl ⟨pre, ?_, hJs⟩⟩
      rw [hst]
      simp [st]

set_option maxHeartbeats 1000000 in
/-- column.stretches(l): the row is boxed; the function value captures the box. -/
theorem mk57 (n : Nat) (A : Option Addr) (len cap : Nat) (w : World) :
    CallsIn Fence.wide n Try.prog 51 #[.slice A len cap] w fun e w' => e = .returned (.func (.func 64) #[] #[.pointer (some ⟨w.heap.size, 0, none⟩)]) ∧ w' = w.alloc (.cells #[.slice A len cap] 49) := by
  refine callsIn_of_wp Try.func51 rfl trivial ?_ rfl
  simp only [Try.ntmps51, List.size_toArray, List.length_cons, List.length_nil, Nat.reduceAdd, Nat.reduceSub, Array.replicate_succ, Array.replicate_zero, List.push_toArray, List.append_toArray, List.nil_append, List.cons_append]
  gi_wp2
  go_ret
  exact ⟨rfl, rfl⟩

theorem stops57 (n Bs n₀ cap : Nat) (A : Option Addr) (xs : List Int) (hreach : xs.length ≤ 4503599627370496) (hwf : ∀ x ∈ xs, (Lit.int .i64 x).wf = true) (w : World) (hBs : Bs < w.heap.size) (hn₀ : n₀ ≤ w.heap.size)
    (hb : w.cell? ⟨Bs, 0, none⟩ = some (.slice A xs.length cap)) (hc : ∀ W', Below n₀ w W' → (Kd.int .i64).C W' A xs.length xs) :
    SeqStopsK Fence.wide n Try.prog 64 #[.pointer (some ⟨Bs, 0, none⟩)] enc57 (Kp n₀ Bs) (fun ys => ys.map (·.1) = st xs) (fun pre => pre.map (·.1) <+: st xs) (st xs).length w := fun l J Jx W hW hJ _ hY h0 =>
  it57 n l Bs n₀ cap A xs hreach hwf J Jx (fun s X Y hs hg => hJ s X Y none hs hg (fun r e => nomatch e)) hY W (Nat.le_trans hn₀ hW.size) ((hW.cell (p := ⟨Bs, 0, none⟩) hBs).trans hb) (fun W' h => hc W' ((hW.mono hn₀).trans h)) h0

end Go.Proofs.Ytpnnjefhchppfaa.ColS

