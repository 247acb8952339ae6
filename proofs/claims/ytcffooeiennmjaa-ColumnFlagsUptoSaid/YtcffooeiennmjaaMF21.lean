/- Own texts of this claim, one behind the other (wip/tools/merge.py). -/
import Derived.Test.YtcffooeiennmjaaWWords
import Derived.Test.YtcffooeiennmjaaWLast
import Derived.Test.YtcffooeiennmjaaProg
import Derived.Below
import Derived.Deep.Draws
import Derived.Deep.AppendLies
import Derived.Maps.AppendAt
import Derived.OwnWalk
import Derived.Laws.BytesArg
import Derived.Laws.MakeOwn
import Derived.Laws.OwnMore
import Derived.Deep.OwnRows
import Derived.Tactics
import Derived.Lib.ConvBytes
import Derived.Laws.Slices
import Derived.WalkKit
import Derived.KernelRfl
import Derived.RowKit3
import Derived.Deep.LoopGhost
import Derived.Deep.QuietTactic
import Derived.BigQuiet
import Derived.WideLaws
import Derived.Deep.DeepCutAuto
import Derived.Deep.CutBlock
import Derived.Deep.RegionHeld3
import Derived.Laws.Rows
import Derived.Lib.AppendStr
import Derived.ArgAppend
import Derived.Laws.IdiomCopy
import Derived.OrdersHeld
import Derived.Laws.BitsLemmas
import Derived.RowKit
import Derived.Test.YtcffooeiennmjaaWTab
import Derived.Test.YtcffooeiennmjaaWFour
import Derived.Test.YtcffooeiennmjaaWQPut
import Derived.Test.YtcffooeiennmjaaWApart
import Derived.Test.YtcffooeiennmjaaWArr
import Derived.Test.YtcffooeiennmjaaWZeros
import Derived.Test.YtcffooeiennmjaaWFoot
import Derived.Test.YtcffooeiennmjaaWKept
import Derived.Test.YtcffooeiennmjaaWShare
import Derived.Test.YtcffooeiennmjaaWN
import Derived.Test.YtcffooeiennmjaaWFootNe
import Derived.Test.YtcffooeiennmjaaWAt
import Derived.Test.YtcffooeiennmjaaWEqStruct
import Derived.Test.YtcffooeiennmjaaWRepsOne
import Derived.Test.YtcffooeiennmjaaWInv
import Derived.Test.YtcffooeiennmjaaWInvWords
import Derived.Test.YtcffooeiennmjaaWGuard
import Derived.Test.YtcffooeiennmjaaWNEv
import Derived.Test.YtcffooeiennmjaaWMore
import Derived.RangeFuncBox
import Derived.RangeFuncNested
import Derived.RangeFuncBound
import Derived.RangeFuncCalls
import Derived.RangeFuncLeaves
import Derived.Shelf.Abstract
import Derived.OwnWalkIn
import Derived.TacticsInMore
import Derived.LoopNIn
import Derived.LoopIn
import Derived.Sort.BigQuietIn
import Derived.Laws.BitsAllLaws
import Derived.Laws.Bits64
/- Own words beside the printed ones: a row made with a capacity of its own; what is held in a region of open order may grow. -/
set_option linter.unusedVariables false
set_option linter.unusedSimpArgs false
namespace Go.Proofs.YtcffooeiennmjaaW.PrintWords
open Go.RowKit
namespace Kd
section
variable {α : Type} {P : Program} {ops : Array Oper} {rest : List Oper} {o : Oper} {a : Act} {Q : Exit → Act → World → Prop}
/-- make([]T, 0, c): an empty row of the call's own. -/
theorem R_make0 (d : Kd α) {w0 W : World} (base e : Nat) (hgd : o.guard = none) {N : Tmp} (hd : o.dst = some N) (t : TypeId) (x y : Operand) (ho : o.op = .makeSlice t x y) (n : Int) (hx : a.eval x = .int .i64 0) (hy : a.eval y = .int .i64 n)
    (ht : P.underlying t = some (.slice e)) (z : Value) (bytes : Nat) (hinfo : (P.info? e).map (fun i => (i.zero, i.size, i.bytes)) = some (some z, d.sz, bytes)) (hz : z.cells.size = d.sz) (hs0 : 0 < d.sz) (hb0 : 0 < bytes)
    {ok okp : Nat → Prop} (_hok : ∀ k, okp k → ok k) (hfresh : ok W.heap.size) (h0 : 0 ≤ n) (hl : n.toNat * bytes ≤ 281474976710656) (HB : Below base w0 W) (hbase : base ≤ W.heap.size)
    (h : ∀ v1 w1, d.R e w1 base ok v1 [] → Below base w0 w1 → W.grownBy w1 none → (∃ b, v1.ownBlock = some b ∧ W.heap.size ≤ b) → wpList P ops Q rest (a.put o.dst v1) w1) : wpList P ops Q (o :: rest) a W := by
  obtain ⟨m, rfl⟩ := Int.eq_ofNat_of_zero_le h0
  simp only [Int.toNat_natCast] at hl
  obtain ⟨i0, hi, hzz⟩ := Option.map_eq_some_iff.1 hinfo
  simp only [Prod.mk.injEq] at hzz
  obtain ⟨hz0, hz1, hz2⟩ := hzz
  have hm : m ≤ 281474976710656 := Nat.le_trans (Nat.le_mul_of_pos_right _ hb0) hl
  have hr := run_make (P := P) W t e i0 z ht hi hz0 .i64 .i64 (0 : Int) (m : Int) (by omega) (by omega)
    (by
      have h3 : ((i0.bytes * m : Nat) : Int) ≤ 281474976710656 := by rw [hz2, Nat.mul_comm]; omega
      rwa [Int.natCast_mul] at h3) (by omega)
  simp only [Int.toNat_natCast] at hr
  rw [hz1] at hr
  have hrun : (execOp a.eval o).run P W = .ok (.value (.slice (some ⟨W.heap.size, 0, none⟩) 0 m)) (W.alloc (.cells (madeCells z.cells (m * d.sz)) e)) := by
    simp [execOp, ho, hx, hy, hr]
  refine event_run hgd hrun (h _ _ ⟨fun k hk => ?_, [], ⟨by simp, .inr ⟨W.heap.size, m, madeCells z.cells (m * d.sz), rfl, hbase, heap_alloc_new W _, Nat.zero_le _, by simp only [maxLen]; omega, by rw [size_madeCells], by simp⟩⟩, Reps.none _ _⟩ (HB.alloc hbase _) (World.grownBy_alloc W _ none) ⟨W.heap.size, by simp [Value.ownBlock], Nat.le_refl _⟩)
  have : W.heap.size = k := by simpa [Value.ownBlock] using hk
  subst this
  exact hfresh
end
end Kd
end Go.Proofs.YtcffooeiennmjaaW.PrintWords
namespace Go.Proofs.YtcffooeiennmjaaW.PrintLast
section
variable {P : Program} {ops : Array Oper} {Q : Exit → Act → World → Prop} {md : Region.Mode} {S S' : World → Prop}
theorem widen_all (hS : ∀ w, S' w → S w) : ∀ (fuel : Nat) (l : Array Bool) (a : Act) (w : World), S' w → wpAnyLast P md ops Q S' [] fuel l a w → wpAnyLast P md ops Q S [] fuel l a w
  | 0, _, _, _, _, h => h
  | fuel + 1, _, _, _, hw, h => ⟨h.1, fun i hi => wpOp_mono (fun a' w' h' => ⟨fun hd _ => hS _ (h'.1 hd hw), widen_all hS fuel _ a' w' (h'.1 (by simp) hw) h'.2⟩) (h.2 i hi)⟩
/-- From here on more is held. -/
theorem widen_ {fuel : Nat} {l : Array Bool} {a : Act} {w : World} (hS : ∀ w, S' w → S w) (hw : S' w) (h : S' w → wpAnyLast P md ops Q S' [] fuel l a w) : wpAnyLast P md ops Q S [] fuel l a w :=
  widen_all hS fuel l a w hw (h hw)
end
end Go.Proofs.YtcffooeiennmjaaW.PrintLast

-- Written by a program of this session (wip/tools/myprint.py), out of the translation's print. Lean checks it.
namespace Go.Proofs.Ytcffooeiennmjaa.PA
open Go.RowKit Go.Proofs.YtcffooeiennmjaaW.PrintWords Go.Proofs.YtcffooeiennmjaaW.PrintLast Go.Proofs.YtcffooeiennmjaaW.PrintMore
attribute [local go_sem] max2_int min2_int max_two min_two max_three min_three max_four min_four   -- for this text's walks alone
set_option linter.unusedVariables false
set_option linter.unusedSimpArgs false



def errW : Option Int → Value
  | none => .nilIface
  | some c => .iface 0 (.int .i64 c)
theorem errW_none : errW none = .nilIface := rfl
theorem errW_some (c : Int) : errW (some c) = .iface 0 (.int .i64 c) := rfl

theorem info2 : (Try.prog.info? 2).map (fun i => (i.zero, i.size, i.bytes)) = some (some (.int .i64 0), 1, 8) := by kernel_rfl
theorem info3 : (Try.prog.info? 3).map (fun i => (i.zero, i.size, i.bytes)) = some (some (.int .i64 0), 1, 8) := by kernel_rfl
theorem info4 : (Try.prog.info? 4).map (fun i => (i.zero, i.size, i.bytes)) = some (some (.bool false), 1, 1) := by kernel_rfl
theorem info5 : (Try.prog.info? 5).map (fun i => (i.zero, i.size, i.bytes)) = some (some (.int .u8 0), 1, 1) := by kernel_rfl
theorem info82 : (Try.prog.info? 82).map (fun i => (i.zero, i.size, i.bytes)) = some (some (.agg #[(.int .i64 0), (.int .i64 0)]), 2, 16) := by kernel_rfl
-- the values' own types
/-! #### struct type 82 -/
structure S82 where
  f0 : Int
  f1 : Int
def z82 : S82 := ⟨(0 : Int), (0 : Int)⟩
def k82 : Kd S82 := Kd.iso (Kd.pair (Kd.int .i64) (Kd.int .i64)) (fun x : S82 => (x.f0, x.f1))
theorem k82_open {w : World} {x : S82} {cs : List Value} (h : k82.K w x cs) : cs = [.int .i64 x.f0, .int .i64 x.f1] := by
  obtain ⟨_, _, rfl, rfl, rfl⟩ := h
  exact rfl
theorem k82_openM {w : World} {base : Nat} {ok : Nat → Prop} {x : S82} {cs : List Value} (h : k82.M w base ok x cs) : cs = [.int .i64 x.f0, .int .i64 x.f1] := by
  obtain ⟨_, _, rfl, rfl, rfl⟩ := h
  exact rfl
theorem k82_mk (w : World) (x : S82)  : k82.K w x [.int .i64 x.f0, .int .i64 x.f1] := ⟨[.int .i64 x.f0], [.int .i64 x.f1], rfl, rfl, rfl⟩
theorem k82_mkM (w : World) (base : Nat) (ok : Nat → Prop) (x : S82)  : k82.M w base ok x [.int .i64 x.f0, .int .i64 x.f1] := ⟨[.int .i64 x.f0], [.int .i64 x.f1], rfl, rfl, rfl⟩
def rd_T82 (xs : List S82) (i : Int) : S82 := xs.getD i.toNat z82
theorem at_T82 {w : World} {A : Option Addr} {n : Nat} {xs : List S82} (h : Kd.C k82 w A n xs) (i : Int) (h0 : 0 ≤ i) (h1 : i < n) : ∃ ad , A = some ad ∧ w.cell? (ad.add (i.toNat * 2)) = some (.int .i64 (rd_T82 xs i).f0) ∧ w.cell? ⟨(ad.add (i.toNat * 2)).block, (ad.add (i.toNat * 2)).off + 1, none⟩ = some (.int .i64 (rd_T82 xs i).f1) := by
  obtain ⟨ad, c, e, _, hK, hc0⟩ := Kd.C_get h z82 i h0 h1
  have hc : ∀ j u, c[j]? = some u → w.cell? (ad.add (i.toNat * 2 + j)) = some u := hc0
  obtain rfl := k82_open hK
  exact ⟨ad, e, hc 0 _ rfl, by rw [← add_field _ _ 1 (by omega)]; exact hc 1 _ rfl⟩

end Go.Proofs.Ytcffooeiennmjaa.PA

-- Written by a program of this session (wip/tools/myprint.py), out of the translation's print. Lean checks it.
namespace Go.Proofs.Ytcffooeiennmjaa.PA
open Go.RowKit Go.Proofs.YtcffooeiennmjaaW.PrintWords Go.Proofs.YtcffooeiennmjaaW.PrintLast Go.Proofs.YtcffooeiennmjaaW.PrintMore
attribute [local go_sem] max2_int min2_int max_two min_two max_three min_three max_four min_four   -- for this text's walks alone
set_option linter.unusedVariables false
set_option linter.unusedSimpArgs false

/-! ### leb_GetUint: function 22 -/
mutual
def leb_GetUint.l0 : Nat → Int → List Int → Int → Int → Option (Int × Int × Int)
  | 0, _, _, _, _ => none
  | k + 1, x2, x7, x8, x9 => if x9 < x8 then (if 0 ≤ x9 then (if x9 < (x7.length : Int) then (if x9 = 9 then (if (rd x7 x9) > 1 then (leb_GetUint.j1 k x2 x9 (rd x7 x9) x7 x8 x9 true) else (if x9 > 0 then (leb_GetUint.j1 k x2 x9 (rd x7 x9) x7 x8 x9 ((rd x7 x9) == 0)) else (leb_GetUint.j1 k x2 x9 (rd x7 x9) x7 x8 x9 false))) else (if x9 > 0 then (leb_GetUint.j1 k x2 x9 (rd x7 x9) x7 x8 x9 ((rd x7 x9) == 0)) else (leb_GetUint.j1 k x2 x9 (rd x7 x9) x7 x8 x9 false))) else (none)) else (none)) else (some (0, 0, 3))
def leb_GetUint.j1 : Nat → Int → Int → Int → List Int → Int → Int → Bool → Option (Int × Int × Int)
  | 0, _, _, _, _, _, _, _ => none
  | k + 1, x2, x5, x6, x7, x8, x9, x27 => if x27 = true then (some (0, 0, 4)) else (if 0 ≤ (IntKind.u64.wrap (wrap64 (7 * x5))) then (if x6 < 128 then (some (Go.bits .or .u64 x2 (shl .u64 (IntKind.u64.wrap (Go.bits .andNot .u8 x6 128)) (IntKind.u64.wrap (wrap64 (7 * x5)))), wrap64 (x5 + 1), 0)) else (leb_GetUint.l0 k (Go.bits .or .u64 x2 (shl .u64 (IntKind.u64.wrap (Go.bits .andNot .u8 x6 128)) (IntKind.u64.wrap (wrap64 (7 * x5))))) x7 x8 (wrap64 (x9 + 1)))) else (none))
end
def leb_GetUint.f (k : Nat) (l0 : List Int) : Option (Int × Int × Int) := leb_GetUint.l0 k 0 l0 (l0.length : Int) 0
theorem leb_GetUint.mono_l : ∀ k, (∀ y0 y1 y2 y3, LeO (leb_GetUint.l0 k y0 y1 y2 y3) (leb_GetUint.l0 (k + 1) y0 y1 y2 y3)) ∧ (∀ y0 y1 y2 y3 y4 y5 y6, LeO (leb_GetUint.j1 k y0 y1 y2 y3 y4 y5 y6) (leb_GetUint.j1 (k + 1) y0 y1 y2 y3 y4 y5 y6))
  | 0 => ⟨fun _ _ _ _ r h => by simp [leb_GetUint.l0] at h, fun _ _ _ _ _ _ _ r h => by simp [leb_GetUint.j1] at h⟩
  | k + 1 => by
    obtain ⟨ih0, ih1⟩ := leb_GetUint.mono_l k
    refine ⟨?_, ?_⟩
    · intro y0 y1 y2 y3
      unfold leb_GetUint.l0
      repeat' first
      | (with_reducible exact ih0 _ _ _ _)
      | (with_reducible exact ih1 _ _ _ _ _ _ _)
      | (with_reducible exact LeO.refl _)
      | (with_reducible exact LeO.none _)
      | (with_reducible refine LeO.ite ?_ ?_)
      | (with_reducible refine LeO.bind ?_ (fun _ => ?_))
      | exact ih0 _ _ _ _
      | exact ih1 _ _ _ _ _ _ _
      | exact LeO.none _
      | refine LeO.ite ?_ ?_
      | refine LeO.bind ?_ (fun _ => ?_)
    · intro y0 y1 y2 y3 y4 y5 y6
      unfold leb_GetUint.j1
      repeat' first
      | (with_reducible exact ih0 _ _ _ _)
      | (with_reducible exact ih1 _ _ _ _ _ _ _)
      | (with_reducible exact LeO.refl _)
      | (with_reducible exact LeO.none _)
      | (with_reducible refine LeO.ite ?_ ?_)
      | (with_reducible refine LeO.bind ?_ (fun _ => ?_))
      | exact ih0 _ _ _ _
      | exact ih1 _ _ _ _ _ _ _
      | exact LeO.none _
      | refine LeO.ite ?_ ?_
      | refine LeO.bind ?_ (fun _ => ?_)
theorem leb_GetUint.mono : ∀ a0 k, LeO (leb_GetUint.f k a0) (leb_GetUint.f (k + 1) a0) := by
  intro a0 k
  obtain ⟨ih0, ih1⟩ := leb_GetUint.mono_l k
  unfold leb_GetUint.f
  repeat' first
      | (with_reducible exact ih0 _ _ _ _)
      | (with_reducible exact ih1 _ _ _ _ _ _ _)
      | (with_reducible exact LeO.refl _)
      | (with_reducible exact LeO.none _)
      | (with_reducible refine LeO.ite ?_ ?_)
      | (with_reducible refine LeO.bind ?_ (fun _ => ?_))
      | exact ih0 _ _ _ _
      | exact ih1 _ _ _ _ _ _ _
      | exact LeO.none _
      | refine LeO.ite ?_ ?_
      | refine LeO.bind ?_ (fun _ => ?_)
set_option maxHeartbeats 8000000 in
set_option maxRecDepth 100000 in
theorem leb_GetUint.calls (k : Nat) (A0 : Option Addr) (c0 : Nat) (l0 : List Int) (r1 : Int) (r2 : Int) (r3 : Int) (w : World) (hr0 : Kd.C (Kd.int .u8) w A0 l0.length l0) (hc0 : l0.length ≤ c0) (h : leb_GetUint.f k l0 = some (r1, r2, r3)) :
    Calls Try.prog 22 #[.slice A0 l0.length c0] w fun e w' => e = .returned (.tuple #[.int .u64 r1, .int .i64 r2, .int .i64 r3]) ∧ Drawn0 w w' := by
  have HR0 := Aside0.mk hr0
  have HC0 := Aside0.mk hc0
  clear hr0 hc0
  have H : (leb_GetUint.l0 k 0 l0 (l0.length : Int) 0) = some (r1, r2, r3) := h
  clear h
  have H' := Aside0.mk H
  clear H
  go_enter Try.func22, Try.ntmps22
  go_wp2
  go_loopg [2, 9] k (fun kq v2 v9 w' => ∃ (x2_1 : Int) (x9_1 : Int), v2 = .int .u64 x2_1 ∧ v9 = .int .i64 x9_1 ∧ Aside0 (leb_GetUint.l0 kq x2_1 l0 (l0.length : Int) x9_1 = some (r1, r2, r3)) ∧ Aside0 (kq ≤ k) ∧ Drawn0 w w')
  case atStart => exact ⟨(0), (0), (by first | rfl | (simp; done) | (simp [*]; done)), (by first | rfl | (simp; done) | (simp [*]; done)), H', ⟨Nat.le_refl _⟩, by repeat (first | exact Drawn0.refl _ | apply Drawn0.step)⟩
  case round =>
    clear H'
    obtain ⟨x2_1, x9_1, rfl, rfl, HA, HK1, ⟨m1, rfl⟩⟩ := hrel
    cases gk with
    | zero => exact absurd HA.out (by simp [leb_GetUint.l0])
    | succ k1 =>
      have H := HA.out
      clear HA
      simp only [leb_GetUint.l0] at H
      by_cases c2 : x9_1 < (l0.length : Int)
      · rw [if_pos c2] at H
        have c2b0 : decide (x9_1 < (l0.length : Int)) = true := decide_eq_true c2
        clear c2
        by_cases c3 : 0 ≤ x9_1
        · rw [if_pos c3] at H
          have c3b0 : decide (0 ≤ x9_1) = true := decide_eq_true c3
          clear c3
          by_cases c4 : x9_1 < (l0.length : Int)
          · rw [if_pos c4] at H
            have c4b0 : decide (x9_1 < (l0.length : Int)) = true := decide_eq_true c4
            clear c4
            have HC5 := Aside0.mk H
            clear H
            have p122 : 0 ≤ (x9_1 : Int) := of_decide_eq_true (by first | (with_reducible assumption) | assumption)
            have q122 : x9_1 < (l0.length : Int) := of_decide_eq_true (by first | (with_reducible assumption) | assumption)
            obtain ⟨ad122, e122, hx122_0⟩ := Kd.at_int HR0.out x9_1 p122 q122
            cases e122
            replace p122 := eq_true p122
            replace q122 := eq_true q122
            go_upto_region 4 with (fail)
            go_cut [27] (fun v27 wc => ∃ (kq : Nat) (x27_4 : Bool), v27 = .bool x27_4 ∧ Aside0 (leb_GetUint.j1 kq x2_1 x9_1 (rd l0 x9_1) l0 (l0.length : Int) x9_1 x27_4 = some (r1, r2, r3)) ∧ Aside0 (kq ≤ k1) ∧ Drawn0 w wc)
            case first =>
              have H := HC5.out
              clear HC5
              by_cases c6 : x9_1 = 9
              · rw [if_pos c6] at H
                have c6b0 : (x9_1 == 9) = true := beq_iff_eq.mpr c6
                have c6b1 : (x9_1 != 9) = false := bne_eq_false_iff_eq.mpr c6
                clear c6
                (first | rw [c6b0] | (simp only [i64_w, i32_w]; rw [c6b0]) | skip)
                by_cases c7 : (rd l0 x9_1) > 1
                · rw [if_pos c7] at H
                  have c7b0 : decide (1 < (rd l0 x9_1)) = true := decide_eq_true c7
                  clear c7
                  have H' := Aside0.mk H
                  clear H
                  go_wp2
                  go_meet
                  case rel => exact ⟨_, (true), (by first | rfl | (simp; done) | (simp [*]; done)), H', ⟨by have := HK1.out; first | omega | exact Nat.le_refl _⟩, by repeat (first | exact Drawn0.refl _ | apply Drawn0.step)⟩
                · rw [if_neg c7] at H
                  have c7b0 : decide (1 < (rd l0 x9_1)) = false := decide_eq_false c7
                  clear c7
                  by_cases c8 : x9_1 > 0
                  · rw [if_pos c8] at H
                    have c8b0 : decide (0 < x9_1) = true := decide_eq_true c8
                    clear c8
                    have H' := Aside0.mk H
                    clear H
                    go_wp2
                    go_meet
                    case rel => exact ⟨_, (((rd l0 x9_1) == 0)), (by first | rfl | (simp; done) | (simp [*]; done)), H', ⟨by have := HK1.out; first | omega | exact Nat.le_refl _⟩, by repeat (first | exact Drawn0.refl _ | apply Drawn0.step)⟩
                  · rw [if_neg c8] at H
                    have c8b0 : decide (0 < x9_1) = false := decide_eq_false c8
                    clear c8
                    have H' := Aside0.mk H
                    clear H
                    go_wp2
                    go_meet
                    case rel => exact ⟨_, (false), (by first | rfl | (simp; done) | (simp [*]; done)), H', ⟨by have := HK1.out; first | omega | exact Nat.le_refl _⟩, by repeat (first | exact Drawn0.refl _ | apply Drawn0.step)⟩
              · rw [if_neg c6] at H
                have c6b0 : (x9_1 == 9) = false := beq_eq_false_iff_ne.mpr c6
                have c6b1 : (x9_1 != 9) = true := bne_iff_ne.mpr c6
                (first | rw [c6b0] | (simp only [i64_w, i32_w]; rw [c6b0]) | skip)
                by_cases c9 : x9_1 > 0
                · rw [if_pos c9] at H
                  have c9b0 : decide (0 < x9_1) = true := decide_eq_true c9
                  clear c9
                  have H' := Aside0.mk H
                  clear H
                  go_wp2
                  go_meet
                  case rel => exact ⟨_, (((rd l0 x9_1) == 0)), (by first | rfl | (simp; done) | (simp [*]; done)), H', ⟨by have := HK1.out; first | omega | exact Nat.le_refl _⟩, by repeat (first | exact Drawn0.refl _ | apply Drawn0.step)⟩
                · rw [if_neg c9] at H
                  have c9b0 : decide (0 < x9_1) = false := decide_eq_false c9
                  clear c9
                  have H' := Aside0.mk H
                  clear H
                  go_wp2
                  go_meet
                  case rel => exact ⟨_, (false), (by first | rfl | (simp; done) | (simp [*]; done)), H', ⟨by have := HK1.out; first | omega | exact Nat.le_refl _⟩, by repeat (first | exact Drawn0.refl _ | apply Drawn0.step)⟩
            case rest =>
              clear HC5
              try clear p1
              try clear q1
              try clear hx1
              try clear c2
              try clear c2b0
              try clear p2
              try clear c3
              try clear c3b0
              try clear c4
              try clear c4b0
              try clear c6
              try clear c6b0
              try clear c6b1
              try clear c7
              try clear c7b0
              try clear c8
              try clear c8b0
              try clear c9
              try clear c9b0
              try clear hx122_0
              try clear p122
              try clear q122
              obtain ⟨kq, x27_4, rfl, HA, HJ4, ⟨mc4, rfl⟩⟩ := hcut
              cases kq with
              | zero => exact absurd HA.out (by simp [leb_GetUint.j1])
              | succ kj4 =>
                have H := HA.out
                clear HA
                simp only [leb_GetUint.j1] at H
                by_cases c10 : x27_4 = true
                · subst c10
                  have H1 : (some (0, 0, 4)) = some (r1, r2, r3) := by rw [if_pos rfl] at H; exact H
                  clear H
                  have H := H1
                  clear H1
                  simp only [Option.some.injEq, Prod.mk.injEq] at H
                  obtain ⟨rfl, rfl, rfl⟩ := H
                  go_wp2
                  go_ret3
                  exact ⟨by first | rfl | (simp; done) | (simp [*]; done), by repeat (first | exact Drawn0.refl _ | apply Drawn0.step)⟩
                · replace c10 := Bool.eq_false_iff.mpr c10
                  subst c10
                  have H1 : (if 0 ≤ (IntKind.u64.wrap (wrap64 (7 * x9_1))) then (if (rd l0 x9_1) < 128 then (some (Go.bits .or .u64 x2_1 (shl .u64 (IntKind.u64.wrap (Go.bits .andNot .u8 (rd l0 x9_1) 128)) (IntKind.u64.wrap (wrap64 (7 * x9_1)))), wrap64 (x9_1 + 1), 0)) else (leb_GetUint.l0 kj4 (Go.bits .or .u64 x2_1 (shl .u64 (IntKind.u64.wrap (Go.bits .andNot .u8 (rd l0 x9_1) 128)) (IntKind.u64.wrap (wrap64 (7 * x9_1))))) l0 (l0.length : Int) (wrap64 (x9_1 + 1)))) else (none)) = some (r1, r2, r3) := by rw [if_neg (show ¬ (false = true) by decide)] at H; exact H
                  clear H
                  have H := H1
                  clear H1
                  obtain ⟨ji11, hji11⟩ : ∃ j_ : Int, (IntKind.u64.wrap (wrap64 (7 * x9_1))) = j_ := ⟨_, rfl⟩
                  replace H : (if 0 ≤ (ji11) then (if (rd l0 x9_1) < 128 then (some (Go.bits .or .u64 x2_1 (shl .u64 (IntKind.u64.wrap (Go.bits .andNot .u8 (rd l0 x9_1) 128)) (ji11)), wrap64 (x9_1 + 1), 0)) else (leb_GetUint.l0 kj4 (Go.bits .or .u64 x2_1 (shl .u64 (IntKind.u64.wrap (Go.bits .andNot .u8 (rd l0 x9_1) 128)) (ji11))) l0 (l0.length : Int) (wrap64 (x9_1 + 1)))) else (none)) = some (r1, r2, r3) := by first | (rw [hji11] at H; exact H) | (simp only [hji11] at H ⊢; exact H)
                  by_cases c12 : 0 ≤ (ji11)
                  · rw [if_pos c12] at H
                    have c12b0 := eq_true c12
                    have c12b1 : decide (0 ≤ (ji11)) = true := decide_eq_true c12
                    clear c12
                    obtain ⟨ji13, hji13⟩ : ∃ j_ : Int, (shl .u64 (IntKind.u64.wrap (Go.bits .andNot .u8 (rd l0 x9_1) 128)) (ji11)) = j_ := ⟨_, rfl⟩
                    replace H : (if (rd l0 x9_1) < 128 then (some (Go.bits .or .u64 x2_1 (ji13), wrap64 (x9_1 + 1), 0)) else (leb_GetUint.l0 kj4 (Go.bits .or .u64 x2_1 (ji13)) l0 (l0.length : Int) (wrap64 (x9_1 + 1)))) = some (r1, r2, r3) := by first | (rw [hji13] at H; exact H) | (simp only [hji13] at H ⊢; exact H)
                    have hji13_ : (IntKind.u64.wrap ((IntKind.u64.wrap (Go.bits .andNot .u8 (rd l0 x9_1) 128)) * 2 ^ min (ji11).toNat 64)) = ji13 := hji13
                    have hji13z : (ji11) ≤ 64 → (IntKind.u64.wrap ((IntKind.u64.wrap (Go.bits .andNot .u8 (rd l0 x9_1) 128)) * 2 ^ (ji11).toNat)) = ji13 := shl_small hji13
                    by_cases c14 : (rd l0 x9_1) < 128
                    · rw [if_pos c14] at H
                      have c14b0 : decide ((rd l0 x9_1) < 128) = true := decide_eq_true c14
                      clear c14
                      simp only [Option.some.injEq, Prod.mk.injEq] at H
                      obtain ⟨rfl, rfl, rfl⟩ := H
                      go_wp2
                      go_ret3
                      exact ⟨by first | rfl | (simp; done) | (simp only [← hji11, ← hji13] <;> (first | rfl | simp)) | (simp [*]; done), by repeat (first | exact Drawn0.refl _ | apply Drawn0.step)⟩
                    · rw [if_neg c14] at H
                      have c14b0 : decide ((rd l0 x9_1) < 128) = false := decide_eq_false c14
                      clear c14
                      have H' := Aside0.mk H
                      clear H
                      go_wp2
                      go_roundg kj4
                      case measure => have := HK1.out; have := HJ4.out; omega
                      case rel => exact ⟨(Go.bits .or .u64 x2_1 (ji13)), (wrap64 (x9_1 + 1)), (by first | rfl | (simp; done) | (simp only [← hji13] <;> (first | rfl | simp)) | (simp [*]; done)), (by first | rfl | (simp; done) | (simp [*]; done)), H', ⟨by have := HK1.out; have := HJ4.out; omega⟩, by repeat (first | exact Drawn0.refl _ | apply Drawn0.step)⟩
                  · rw [if_neg c12] at H
                    exact absurd H (by simp)
          · rw [if_neg c4] at H
            exact absurd H (by simp)
        · rw [if_neg c3] at H
          exact absurd H (by simp)
      · rw [if_neg c2] at H
        have c2b0 : decide (x9_1 < (l0.length : Int)) = false := decide_eq_false c2
        clear c2
        simp only [Option.some.injEq, Prod.mk.injEq] at H
        obtain ⟨rfl, rfl, rfl⟩ := H
        go_wp2
        go_ret3
        exact ⟨by first | rfl | (simp; done) | (simp [*]; done), by repeat (first | exact Drawn0.refl _ | apply Drawn0.step)⟩

end Go.Proofs.Ytcffooeiennmjaa.PA

-- Written by a program of this session (wip/tools/myprint.py), out of the translation's print. Lean checks it.
namespace Go.Proofs.Ytcffooeiennmjaa.PA
open Go.RowKit Go.Proofs.YtcffooeiennmjaaW.PrintWords Go.Proofs.YtcffooeiennmjaaW.PrintLast Go.Proofs.YtcffooeiennmjaaW.PrintMore
attribute [local go_sem] max2_int min2_int max_two min_two max_three min_three max_four min_four   -- for this text's walks alone
set_option linter.unusedVariables false
set_option linter.unusedSimpArgs false

/-! ### leb_GetInt: function 23 -/
mutual
def leb_GetInt.l0 : Nat → List Int → Int → List Int → Int → Int → Option (Int × Int × Int)
  | 0, _, _, _, _, _ => none
  | k + 1, x0, x2, x9, x10, x11 => if x11 < x10 then (if 0 ≤ x11 then (if x11 < (x9.length : Int) then (if x11 = 9 then (if (rd x9 x11) = 0 then (leb_GetInt.j1 k x0 x2 x11 (rd x9 x11) x9 x10 x11 false) else (leb_GetInt.j1 k x0 x2 x11 (rd x9 x11) x9 x10 x11 ((rd x9 x11) != 127))) else (leb_GetInt.j1 k x0 x2 x11 (rd x9 x11) x9 x10 x11 false)) else (none)) else (none)) else (some (0, 0, 3))
def leb_GetInt.j1 : Nat → List Int → Int → Int → Int → List Int → Int → Int → Bool → Option (Int × Int × Int)
  | 0, _, _, _, _, _, _, _, _ => none
  | k + 1, x0, x2, x5, x6, x9, x10, x11, x25 => if x25 = true then (some (0, 0, 4)) else (if 0 ≤ (IntKind.u64.wrap (wrap64 (7 * x5))) then (if x6 ≥ 128 then (leb_GetInt.l0 k x0 (Go.bits .or .i64 x2 (shl .i64 (wrap64 (Go.bits .andNot .u8 x6 128)) (IntKind.u64.wrap (wrap64 (7 * x5))))) x9 x10 (wrap64 (x11 + 1))) else (if x5 > 0 then (if 0 ≤ (wrap64 (x5 - 1)) then (if (wrap64 (x5 - 1)) < (x0.length : Int) then (leb_GetInt.j2 k (Go.bits .or .i64 x2 (shl .i64 (wrap64 (Go.bits .andNot .u8 x6 128)) (IntKind.u64.wrap (wrap64 (7 * x5))))) x5 x6 (Go.bits .and .u8 (rd x0 (wrap64 (x5 - 1))) 64)) else (none)) else (none)) else (leb_GetInt.j2 k (Go.bits .or .i64 x2 (shl .i64 (wrap64 (Go.bits .andNot .u8 x6 128)) (IntKind.u64.wrap (wrap64 (7 * x5))))) x5 x6 0))) else (none))
def leb_GetInt.j2 : Nat → Int → Int → Int → Int → Option (Int × Int × Int)
  | 0, _, _, _, _ => none
  | k + 1, x2, x5, x6, x7 => if x5 > 0 then (if x6 = 0 then (if x7 = 0 then (leb_GetInt.j3 k x2 x5 x6 true) else (if x6 = 127 then (leb_GetInt.j3 k x2 x5 x6 (x7 != 0)) else (leb_GetInt.j3 k x2 x5 x6 false))) else (if x6 = 127 then (leb_GetInt.j3 k x2 x5 x6 (x7 != 0)) else (leb_GetInt.j3 k x2 x5 x6 false))) else (leb_GetInt.j3 k x2 x5 x6 false)
def leb_GetInt.j3 : Nat → Int → Int → Int → Bool → Option (Int × Int × Int)
  | 0, _, _, _, _ => none
  | k + 1, x2, x5, x6, x62 => if x62 = true then (some (0, 0, 4)) else (if (Go.bits .and .u8 x6 64) = 0 then (some (x2, wrap64 (x5 + 1), 0)) else (if (IntKind.u64.wrap (wrap64 (7 * (wrap64 (x5 + 1))))) < 64 then (if 0 ≤ (IntKind.u64.wrap (wrap64 (7 * (wrap64 (x5 + 1))))) then (some (Go.bits .or .i64 x2 (shl .i64 (-1) (IntKind.u64.wrap (wrap64 (7 * (wrap64 (x5 + 1)))))), wrap64 (x5 + 1), 0)) else (none)) else (some (x2, wrap64 (x5 + 1), 0))))
end
def leb_GetInt.f (k : Nat) (l0 : List Int) : Option (Int × Int × Int) := leb_GetInt.l0 k l0 0 l0 (l0.length : Int) 0
theorem leb_GetInt.mono_l : ∀ k, (∀ y0 y1 y2 y3 y4, LeO (leb_GetInt.l0 k y0 y1 y2 y3 y4) (leb_GetInt.l0 (k + 1) y0 y1 y2 y3 y4)) ∧ (∀ y0 y1 y2 y3 y4 y5 y6 y7, LeO (leb_GetInt.j1 k y0 y1 y2 y3 y4 y5 y6 y7) (leb_GetInt.j1 (k + 1) y0 y1 y2 y3 y4 y5 y6 y7)) ∧ (∀ y0 y1 y2 y3, LeO (leb_GetInt.j2 k y0 y1 y2 y3) (leb_GetInt.j2 (k + 1) y0 y1 y2 y3)) ∧ (∀ y0 y1 y2 y3, LeO (leb_GetInt.j3 k y0 y1 y2 y3) (leb_GetInt.j3 (k + 1) y0 y1 y2 y3))
  | 0 => ⟨fun _ _ _ _ _ r h => by simp [leb_GetInt.l0] at h, fun _ _ _ _ _ _ _ _ r h => by simp [leb_GetInt.j1] at h, fun _ _ _ _ r h => by simp [leb_GetInt.j2] at h, fun _ _ _ _ r h => by simp [leb_GetInt.j3] at h⟩
  | k + 1 => by
    obtain ⟨ih0, ih1, ih2, ih3⟩ := leb_GetInt.mono_l k
    refine ⟨?_, ?_, ?_, ?_⟩
    · intro y0 y1 y2 y3 y4
      unfold leb_GetInt.l0
      repeat' first
      | (with_reducible exact ih0 _ _ _ _ _)
      | (with_reducible exact ih1 _ _ _ _ _ _ _ _)
      | (with_reducible exact ih2 _ _ _ _)
      | (with_reducible exact ih3 _ _ _ _)
      | (with_reducible exact LeO.refl _)
      | (with_reducible exact LeO.none _)
      | (with_reducible refine LeO.ite ?_ ?_)
      | (with_reducible refine LeO.bind ?_ (fun _ => ?_))
      | exact ih0 _ _ _ _ _
      | exact ih1 _ _ _ _ _ _ _ _
      | exact ih2 _ _ _ _
      | exact ih3 _ _ _ _
      | exact LeO.none _
      | refine LeO.ite ?_ ?_
      | refine LeO.bind ?_ (fun _ => ?_)
    · intro y0 y1 y2 y3 y4 y5 y6 y7
      unfold leb_GetInt.j1
      repeat' first
      | (with_reducible exact ih0 _ _ _ _ _)
      | (with_reducible exact ih1 _ _ _ _ _ _ _ _)
      | (with_reducible exact ih2 _ _ _ _)
      | (with_reducible exact ih3 _ _ _ _)
      | (with_reducible exact LeO.refl _)
      | (with_reducible exact LeO.none _)
      | (with_reducible refine LeO.ite ?_ ?_)
      | (with_reducible refine LeO.bind ?_ (fun _ => ?_))
      | exact ih0 _ _ _ _ _
      | exact ih1 _ _ _ _ _ _ _ _
      | exact ih2 _ _ _ _
      | exact ih3 _ _ _ _
      | exact LeO.none _
      | refine LeO.ite ?_ ?_
      | refine LeO.bind ?_ (fun _ => ?_)
    · intro y0 y1 y2 y3
      unfold leb_GetInt.j2
      repeat' first
      | (with_reducible exact ih0 _ _ _ _ _)
      | (with_reducible exact ih1 _ _ _ _ _ _ _ _)
      | (with_reducible exact ih2 _ _ _ _)
      | (with_reducible exact ih3 _ _ _ _)
      | (with_reducible exact LeO.refl _)
      | (with_reducible exact LeO.none _)
      | (with_reducible refine LeO.ite ?_ ?_)
      | (with_reducible refine LeO.bind ?_ (fun _ => ?_))
      | exact ih0 _ _ _ _ _
      | exact ih1 _ _ _ _ _ _ _ _
      | exact ih2 _ _ _ _
      | exact ih3 _ _ _ _
      | exact LeO.none _
      | refine LeO.ite ?_ ?_
      | refine LeO.bind ?_ (fun _ => ?_)
    · intro y0 y1 y2 y3
      unfold leb_GetInt.j3
      repeat' first
      | (with_reducible exact ih0 _ _ _ _ _)
      | (with_reducible exact ih1 _ _ _ _ _ _ _ _)
      | (with_reducible exact ih2 _ _ _ _)
      | (with_reducible exact ih3 _ _ _ _)
      | (with_reducible exact LeO.refl _)
      | (with_reducible exact LeO.none _)
      | (with_reducible refine LeO.ite ?_ ?_)
      | (with_reducible refine LeO.bind ?_ (fun _ => ?_))
      | exact ih0 _ _ _ _ _
      | exact ih1 _ _ _ _ _ _ _ _
      | exact ih2 _ _ _ _
      | exact ih3 _ _ _ _
      | exact LeO.none _
      | refine LeO.ite ?_ ?_
      | refine LeO.bind ?_ (fun _ => ?_)
theorem leb_GetInt.mono : ∀ a0 k, LeO (leb_GetInt.f k a0) (leb_GetInt.f (k + 1) a0) := by
  intro a0 k
  obtain ⟨ih0, ih1, ih2, ih3⟩ := leb_GetInt.mono_l k
  unfold leb_GetInt.f
  repeat' first
      | (with_reducible exact ih0 _ _ _ _ _)
      | (with_reducible exact ih1 _ _ _ _ _ _ _ _)
      | (with_reducible exact ih2 _ _ _ _)
      | (with_reducible exact ih3 _ _ _ _)
      | (with_reducible exact LeO.refl _)
      | (with_reducible exact LeO.none _)
      | (with_reducible refine LeO.ite ?_ ?_)
      | (with_reducible refine LeO.bind ?_ (fun _ => ?_))
      | exact ih0 _ _ _ _ _
      | exact ih1 _ _ _ _ _ _ _ _
      | exact ih2 _ _ _ _
      | exact ih3 _ _ _ _
      | exact LeO.none _
      | refine LeO.ite ?_ ?_
      | refine LeO.bind ?_ (fun _ => ?_)
set_option maxHeartbeats 8000000 in
set_option maxRecDepth 100000 in
theorem leb_GetInt.calls (k : Nat) (A0 : Option Addr) (c0 : Nat) (l0 : List Int) (r1 : Int) (r2 : Int) (r3 : Int) (w : World) (hr0 : Kd.C (Kd.int .u8) w A0 l0.length l0) (hc0 : l0.length ≤ c0) (h : leb_GetInt.f k l0 = some (r1, r2, r3)) :
    Calls Try.prog 23 #[.slice A0 l0.length c0] w fun e w' => e = .returned (.tuple #[.int .i64 r1, .int .i64 r2, .int .i64 r3]) ∧ Drawn0 w w' := by
  have HR0 := Aside0.mk hr0
  have HC0 := Aside0.mk hc0
  clear hr0 hc0
  have H : (leb_GetInt.l0 k l0 0 l0 (l0.length : Int) 0) = some (r1, r2, r3) := h
  clear h
  have H' := Aside0.mk H
  clear H
  go_enter Try.func23, Try.ntmps23
  go_wp2
  go_loopg [2, 11] k (fun kq v2 v11 w' => ∃ (x2_1 : Int) (x11_1 : Int), v2 = .int .i64 x2_1 ∧ v11 = .int .i64 x11_1 ∧ Aside0 (leb_GetInt.l0 kq l0 x2_1 l0 (l0.length : Int) x11_1 = some (r1, r2, r3)) ∧ Aside0 (kq ≤ k) ∧ Drawn0 w w')
  case atStart => exact ⟨(0), (0), (by first | rfl | (simp; done) | (simp [*]; done)), (by first | rfl | (simp; done) | (simp [*]; done)), H', ⟨Nat.le_refl _⟩, by repeat (first | exact Drawn0.refl _ | apply Drawn0.step)⟩
  case round =>
    clear H'
    obtain ⟨x2_1, x11_1, rfl, rfl, HA, HK1, ⟨m1, rfl⟩⟩ := hrel
    cases gk with
    | zero => exact absurd HA.out (by simp [leb_GetInt.l0])
    | succ k1 =>
      have H := HA.out
      clear HA
      simp only [leb_GetInt.l0] at H
      by_cases c2 : x11_1 < (l0.length : Int)
      · rw [if_pos c2] at H
        have c2b0 : decide (x11_1 < (l0.length : Int)) = true := decide_eq_true c2
        clear c2
        by_cases c3 : 0 ≤ x11_1
        · rw [if_pos c3] at H
          have c3b0 : decide (0 ≤ x11_1) = true := decide_eq_true c3
          clear c3
          by_cases c4 : x11_1 < (l0.length : Int)
          · rw [if_pos c4] at H
            have c4b0 : decide (x11_1 < (l0.length : Int)) = true := decide_eq_true c4
            clear c4
            have HC5 := Aside0.mk H
            clear H
            have p185 : 0 ≤ (x11_1 : Int) := of_decide_eq_true (by first | (with_reducible assumption) | assumption)
            have q185 : x11_1 < (l0.length : Int) := of_decide_eq_true (by first | (with_reducible assumption) | assumption)
            obtain ⟨ad185, e185, hx185_0⟩ := Kd.at_int HR0.out x11_1 p185 q185
            cases e185
            replace p185 := eq_true p185
            replace q185 := eq_true q185
            go_upto_region 4 with (fail)
            go_cut [25] (fun v25 wc => ∃ (kq : Nat) (x25_4 : Bool), v25 = .bool x25_4 ∧ Aside0 (leb_GetInt.j1 kq l0 x2_1 x11_1 (rd l0 x11_1) l0 (l0.length : Int) x11_1 x25_4 = some (r1, r2, r3)) ∧ Aside0 (kq ≤ k1) ∧ Drawn0 w wc)
            case first =>
              have H := HC5.out
              clear HC5
              by_cases c6 : x11_1 = 9
              · rw [if_pos c6] at H
                have c6b0 : (x11_1 == 9) = true := beq_iff_eq.mpr c6
                have c6b1 : (x11_1 != 9) = false := bne_eq_false_iff_eq.mpr c6
                clear c6
                (first | rw [c6b0] | (simp only [i64_w, i32_w]; rw [c6b0]) | skip)
                by_cases c7 : (rd l0 x11_1) = 0
                · rw [if_pos c7] at H
                  have c7b0 : ((rd l0 x11_1) == 0) = true := beq_iff_eq.mpr c7
                  have c7b1 : ((rd l0 x11_1) != 0) = false := bne_eq_false_iff_eq.mpr c7
                  clear c7
                  have H' := Aside0.mk H
                  clear H
                  go_wp2
                  go_meet
                  case rel => exact ⟨_, (false), (by first | rfl | (simp; done) | (simp [*]; done)), H', ⟨by have := HK1.out; first | omega | exact Nat.le_refl _⟩, by repeat (first | exact Drawn0.refl _ | apply Drawn0.step)⟩
                · rw [if_neg c7] at H
                  have c7b0 : ((rd l0 x11_1) == 0) = false := beq_eq_false_iff_ne.mpr c7
                  have c7b1 : ((rd l0 x11_1) != 0) = true := bne_iff_ne.mpr c7
                  have H' := Aside0.mk H
                  clear H
                  go_wp2
                  go_meet
                  case rel => exact ⟨_, (((rd l0 x11_1) != 127)), (by first | rfl | (simp; done) | (simp [*]; done)), H', ⟨by have := HK1.out; first | omega | exact Nat.le_refl _⟩, by repeat (first | exact Drawn0.refl _ | apply Drawn0.step)⟩
              · rw [if_neg c6] at H
                have c6b0 : (x11_1 == 9) = false := beq_eq_false_iff_ne.mpr c6
                have c6b1 : (x11_1 != 9) = true := bne_iff_ne.mpr c6
                (first | rw [c6b0] | (simp only [i64_w, i32_w]; rw [c6b0]) | skip)
                have H' := Aside0.mk H
                clear H
                go_wp2
                go_meet
                case rel => exact ⟨_, (false), (by first | rfl | (simp; done) | (simp [*]; done)), H', ⟨by have := HK1.out; first | omega | exact Nat.le_refl _⟩, by repeat (first | exact Drawn0.refl _ | apply Drawn0.step)⟩
            case rest =>
              clear HC5
              try clear p1
              try clear q1
              try clear hx1
              try clear c2
              try clear c2b0
              try clear p2
              try clear c3
              try clear c3b0
              try clear c4
              try clear c4b0
              try clear c6
              try clear c6b0
              try clear c6b1
              try clear c7
              try clear c7b0
              try clear c7b1
              try clear hx185_0
              try clear p185
              try clear q185
              obtain ⟨kq, x25_4, rfl, HA, HJ4, ⟨mc4, rfl⟩⟩ := hcut
              cases kq with
              | zero => exact absurd HA.out (by simp [leb_GetInt.j1])
              | succ kj4 =>
                have H := HA.out
                clear HA
                simp only [leb_GetInt.j1] at H
                by_cases c8 : x25_4 = true
                · subst c8
                  have H1 : (some (0, 0, 4)) = some (r1, r2, r3) := by rw [if_pos rfl] at H; exact H
                  clear H
                  have H := H1
                  clear H1
                  simp only [Option.some.injEq, Prod.mk.injEq] at H
                  obtain ⟨rfl, rfl, rfl⟩ := H
                  go_wp2
                  go_ret3
                  exact ⟨by first | rfl | (simp; done) | (simp [*]; done), by repeat (first | exact Drawn0.refl _ | apply Drawn0.step)⟩
                · replace c8 := Bool.eq_false_iff.mpr c8
                  subst c8
                  have H1 : (if 0 ≤ (IntKind.u64.wrap (wrap64 (7 * x11_1))) then (if (rd l0 x11_1) ≥ 128 then (leb_GetInt.l0 kj4 l0 (Go.bits .or .i64 x2_1 (shl .i64 (wrap64 (Go.bits .andNot .u8 (rd l0 x11_1) 128)) (IntKind.u64.wrap (wrap64 (7 * x11_1))))) l0 (l0.length : Int) (wrap64 (x11_1 + 1))) else (if x11_1 > 0 then (if 0 ≤ (wrap64 (x11_1 - 1)) then (if (wrap64 (x11_1 - 1)) < (l0.length : Int) then (leb_GetInt.j2 kj4 (Go.bits .or .i64 x2_1 (shl .i64 (wrap64 (Go.bits .andNot .u8 (rd l0 x11_1) 128)) (IntKind.u64.wrap (wrap64 (7 * x11_1))))) x11_1 (rd l0 x11_1) (Go.bits .and .u8 (rd l0 (wrap64 (x11_1 - 1))) 64)) else (none)) else (none)) else (leb_GetInt.j2 kj4 (Go.bits .or .i64 x2_1 (shl .i64 (wrap64 (Go.bits .andNot .u8 (rd l0 x11_1) 128)) (IntKind.u64.wrap (wrap64 (7 * x11_1))))) x11_1 (rd l0 x11_1) 0))) else (none)) = some (r1, r2, r3) := by rw [if_neg (show ¬ (false = true) by decide)] at H; exact H
                  clear H
                  have H := H1
                  clear H1
                  obtain ⟨ji9, hji9⟩ : ∃ j_ : Int, (IntKind.u64.wrap (wrap64 (7 * x11_1))) = j_ := ⟨_, rfl⟩
                  replace H : (if 0 ≤ (ji9) then (if (rd l0 x11_1) ≥ 128 then (leb_GetInt.l0 kj4 l0 (Go.bits .or .i64 x2_1 (shl .i64 (wrap64 (Go.bits .andNot .u8 (rd l0 x11_1) 128)) (ji9))) l0 (l0.length : Int) (wrap64 (x11_1 + 1))) else (if x11_1 > 0 then (if 0 ≤ (wrap64 (x11_1 - 1)) then (if (wrap64 (x11_1 - 1)) < (l0.length : Int) then (leb_GetInt.j2 kj4 (Go.bits .or .i64 x2_1 (shl .i64 (wrap64 (Go.bits .andNot .u8 (rd l0 x11_1) 128)) (ji9))) x11_1 (rd l0 x11_1) (Go.bits .and .u8 (rd l0 (wrap64 (x11_1 - 1))) 64)) else (none)) else (none)) else (leb_GetInt.j2 kj4 (Go.bits .or .i64 x2_1 (shl .i64 (wrap64 (Go.bits .andNot .u8 (rd l0 x11_1) 128)) (ji9))) x11_1 (rd l0 x11_1) 0))) else (none)) = some (r1, r2, r3) := by first | (rw [hji9] at H; exact H) | (simp only [hji9] at H ⊢; exact H)
                  by_cases c10 : 0 ≤ (ji9)
                  · rw [if_pos c10] at H
                    have c10b0 := eq_true c10
                    have c10b1 : decide (0 ≤ (ji9)) = true := decide_eq_true c10
                    clear c10
                    obtain ⟨ji11, hji11⟩ : ∃ j_ : Int, (shl .i64 (wrap64 (Go.bits .andNot .u8 (rd l0 x11_1) 128)) (ji9)) = j_ := ⟨_, rfl⟩
                    replace H : (if (rd l0 x11_1) ≥ 128 then (leb_GetInt.l0 kj4 l0 (Go.bits .or .i64 x2_1 (ji11)) l0 (l0.length : Int) (wrap64 (x11_1 + 1))) else (if x11_1 > 0 then (if 0 ≤ (wrap64 (x11_1 - 1)) then (if (wrap64 (x11_1 - 1)) < (l0.length : Int) then (leb_GetInt.j2 kj4 (Go.bits .or .i64 x2_1 (ji11)) x11_1 (rd l0 x11_1) (Go.bits .and .u8 (rd l0 (wrap64 (x11_1 - 1))) 64)) else (none)) else (none)) else (leb_GetInt.j2 kj4 (Go.bits .or .i64 x2_1 (ji11)) x11_1 (rd l0 x11_1) 0))) = some (r1, r2, r3) := by first | (rw [hji11] at H; exact H) | (simp only [hji11] at H ⊢; exact H)
                    have hji11_ : (IntKind.i64.wrap ((wrap64 (Go.bits .andNot .u8 (rd l0 x11_1) 128)) * 2 ^ min (ji9).toNat 64)) = ji11 := hji11
                    have hji11z : (ji9) ≤ 64 → (IntKind.i64.wrap ((wrap64 (Go.bits .andNot .u8 (rd l0 x11_1) 128)) * 2 ^ (ji9).toNat)) = ji11 := shl_small hji11
                    have hji11y : (wrap64 ((wrap64 (Go.bits .andNot .u8 (rd l0 x11_1) 128)) * 2 ^ min (ji9).toNat 64)) = ji11 := (i64_w _).symm.trans hji11_
                    have hji11x : (ji9) ≤ 64 → (wrap64 ((wrap64 (Go.bits .andNot .u8 (rd l0 x11_1) 128)) * 2 ^ (ji9).toNat)) = ji11 := fun h_ => (i64_w _).symm.trans (hji11z h_)
                    by_cases c12 : (rd l0 x11_1) ≥ 128
                    · rw [if_pos c12] at H
                      have c12b0 : decide (128 ≤ (rd l0 x11_1)) = true := decide_eq_true c12
                      clear c12
                      have H' := Aside0.mk H
                      clear H
                      go_wp2
                      go_roundg kj4
                      case measure => have := HK1.out; have := HJ4.out; omega
                      case rel => exact ⟨(Go.bits .or .i64 x2_1 (ji11)), (wrap64 (x11_1 + 1)), (by first | rfl | (simp; done) | (simp only [← hji11] <;> (first | rfl | simp)) | (simp [*]; done)), (by first | rfl | (simp; done) | (simp [*]; done)), H', ⟨by have := HK1.out; have := HJ4.out; omega⟩, by repeat (first | exact Drawn0.refl _ | apply Drawn0.step)⟩
                    · rw [if_neg c12] at H
                      have c12b0 : decide (128 ≤ (rd l0 x11_1)) = false := decide_eq_false c12
                      clear c12
                      have HC13 := Aside0.mk H
                      clear H
                      go_upto_if 38 with (fail)
                      go_cut [7] (fun v7 wc => ∃ (kq : Nat) (x7_12 : Int), v7 = .int .u8 x7_12 ∧ Aside0 (leb_GetInt.j2 kq (Go.bits .or .i64 x2_1 (ji11)) x11_1 (rd l0 x11_1) x7_12 = some (r1, r2, r3)) ∧ Aside0 (kq ≤ kj4) ∧ Drawn0 w wc)
                      case first =>
                        have H := HC13.out
                        clear HC13
                        by_cases c14 : x11_1 > 0
                        · rw [if_pos c14] at H
                          have c14b0 : decide (0 < x11_1) = true := decide_eq_true c14
                          clear c14
                          (first | rw [c14b0] | (simp only [i64_w, i32_w]; rw [c14b0]) | skip)
                          obtain ⟨ji15, hji15⟩ : ∃ j_ : Int, (wrap64 (x11_1 - 1)) = j_ := ⟨_, rfl⟩
                          replace H : (if 0 ≤ (ji15) then (if (ji15) < (l0.length : Int) then (leb_GetInt.j2 kj4 (Go.bits .or .i64 x2_1 (ji11)) x11_1 (rd l0 x11_1) (Go.bits .and .u8 (rd l0 (ji15)) 64)) else (none)) else (none)) = some (r1, r2, r3) := by first | (rw [hji15] at H; exact H) | (simp only [hji15] at H ⊢; exact H)
                          have hji15w : (IntKind.i64.wrap (x11_1 - 1)) = ji15 := (i64_w _).trans hji15
                          by_cases c16 : 0 ≤ (ji15)
                          · rw [if_pos c16] at H
                            have c16b0 : decide (0 ≤ (ji15)) = true := decide_eq_true c16
                            clear c16
                            by_cases c17 : (ji15) < (l0.length : Int)
                            · rw [if_pos c17] at H
                              have c17b0 : decide ((ji15) < (l0.length : Int)) = true := decide_eq_true c17
                              clear c17
                              have H' := Aside0.mk H
                              clear H
                              have p186 : 0 ≤ ((ji15) : Int) := of_decide_eq_true (by first | (with_reducible assumption) | assumption)
                              have q186 : (ji15) < (l0.length : Int) := of_decide_eq_true (by first | (with_reducible assumption) | assumption)
                              obtain ⟨ad186, e186, hx186_0⟩ := Kd.at_int HR0.out (ji15) p186 q186
                              obtain rfl : ad185 = ad186 := (by injection e186)
                              replace p186 := eq_true p186
                              replace q186 := eq_true q186
                              go_wp2
                              go_meet
                              case rel => exact ⟨_, (Go.bits .and .u8 (rd l0 (ji15)) 64), (by first | rfl | (simp; done) | (simp only [← hji15] <;> (first | rfl | simp)) | (simp [*]; done)), H', ⟨by have := HK1.out; have := HJ4.out; first | omega | exact Nat.le_refl _⟩, by repeat (first | exact Drawn0.refl _ | apply Drawn0.step)⟩
                            · rw [if_neg c17] at H
                              exact absurd H (by simp)
                          · rw [if_neg c16] at H
                            exact absurd H (by simp)
                        · rw [if_neg c14] at H
                          have c14b0 : decide (0 < x11_1) = false := decide_eq_false c14
                          clear c14
                          (first | rw [c14b0] | (simp only [i64_w, i32_w]; rw [c14b0]) | skip)
                          have H' := Aside0.mk H
                          clear H
                          go_wp2
                          go_meet
                          case rel => exact ⟨_, (0), (by first | rfl | (simp; done) | (simp [*]; done)), H', ⟨by have := HK1.out; have := HJ4.out; first | omega | exact Nat.le_refl _⟩, by repeat (first | exact Drawn0.refl _ | apply Drawn0.step)⟩
                      case rest =>
                        clear HC13
                        try clear c1
                        try clear p1
                        try clear q1
                        try clear hx1
                        try clear c2
                        try clear c2b0
                        try clear p2
                        try clear c3
                        try clear c3b0
                        try clear c4
                        try clear c4b0
                        try clear c6
                        try clear c6b0
                        try clear c6b1
                        try clear p6
                        try clear c7
                        try clear c7b0
                        try clear c7b1
                        try clear c8
                        try clear c10
                        try clear c10b0
                        try clear c10b1
                        try clear c12
                        try clear c12b0
                        try clear c14
                        try clear c14b0
                        try clear c16
                        try clear c16b0
                        try clear c17
                        try clear c17b0
                        try clear hx185_0
                        try clear hx186_0
                        try clear p1
                        try clear p185
                        try clear p186
                        try clear p2
                        try clear q1
                        try clear q185
                        try clear q186
                        obtain ⟨kq, x7_12, rfl, HA, HJ12, ⟨mc12, rfl⟩⟩ := hcut
                        cases kq with
                        | zero => exact absurd HA.out (by simp [leb_GetInt.j2])
                        | succ kj12 =>
                          have H := HA.out
                          clear HA
                          simp only [leb_GetInt.j2] at H
                          have HC18 := Aside0.mk H
                          clear H
                          go_upto_region 11 with (fail)
                          go_cut [62] (fun v62 wc => ∃ (kq : Nat) (x62_17 : Bool), v62 = .bool x62_17 ∧ Aside0 (leb_GetInt.j3 kq (Go.bits .or .i64 x2_1 (ji11)) x11_1 (rd l0 x11_1) x62_17 = some (r1, r2, r3)) ∧ Aside0 (kq ≤ kj12) ∧ Drawn0 w wc)
                          case first =>
                            have H := HC18.out
                            clear HC18
                            by_cases c19 : x11_1 > 0
                            · rw [if_pos c19] at H
                              have c19b0 : decide (0 < x11_1) = true := decide_eq_true c19
                              clear c19
                              (first | rw [c19b0] | (simp only [i64_w, i32_w]; rw [c19b0]) | skip)
                              by_cases c20 : (rd l0 x11_1) = 0
                              · rw [if_pos c20] at H
                                have c20b0 : ((rd l0 x11_1) == 0) = true := beq_iff_eq.mpr c20
                                have c20b1 : ((rd l0 x11_1) != 0) = false := bne_eq_false_iff_eq.mpr c20
                                clear c20
                                by_cases c21 : x7_12 = 0
                                · rw [if_pos c21] at H
                                  have c21b0 : (x7_12 == 0) = true := beq_iff_eq.mpr c21
                                  have c21b1 : (x7_12 != 0) = false := bne_eq_false_iff_eq.mpr c21
                                  clear c21
                                  have H' := Aside0.mk H
                                  clear H
                                  go_wp2
                                  go_meet
                                  case rel => exact ⟨_, (true), (by first | rfl | (simp; done) | (simp [*]; done)), H', ⟨by have := HK1.out; have := HJ4.out; have := HJ12.out; first | omega | exact Nat.le_refl _⟩, by repeat (first | exact Drawn0.refl _ | apply Drawn0.step)⟩
                                · rw [if_neg c21] at H
                                  have c21b0 : (x7_12 == 0) = false := beq_eq_false_iff_ne.mpr c21
                                  have c21b1 : (x7_12 != 0) = true := bne_iff_ne.mpr c21
                                  by_cases c22 : (rd l0 x11_1) = 127
                                  · rw [if_pos c22] at H
                                    have c22b0 : ((rd l0 x11_1) == 127) = true := beq_iff_eq.mpr c22
                                    have c22b1 : ((rd l0 x11_1) != 127) = false := bne_eq_false_iff_eq.mpr c22
                                    clear c22
                                    have H' := Aside0.mk H
                                    clear H
                                    go_wp2
                                    go_meet
                                    case rel => exact ⟨_, ((x7_12 != 0)), (by first | rfl | (simp; done) | (simp [*]; done)), H', ⟨by have := HK1.out; have := HJ4.out; have := HJ12.out; first | omega | exact Nat.le_refl _⟩, by repeat (first | exact Drawn0.refl _ | apply Drawn0.step)⟩
                                  · rw [if_neg c22] at H
                                    have c22b0 : ((rd l0 x11_1) == 127) = false := beq_eq_false_iff_ne.mpr c22
                                    have c22b1 : ((rd l0 x11_1) != 127) = true := bne_iff_ne.mpr c22
                                    have H' := Aside0.mk H
                                    clear H
                                    go_wp2
                                    go_meet
                                    case rel => exact ⟨_, (false), (by first | rfl | (simp; done) | (simp [*]; done)), H', ⟨by have := HK1.out; have := HJ4.out; have := HJ12.out; first | omega | exact Nat.le_refl _⟩, by repeat (first | exact Drawn0.refl _ | apply Drawn0.step)⟩
                              · rw [if_neg c20] at H
                                have c20b0 : ((rd l0 x11_1) == 0) = false := beq_eq_false_iff_ne.mpr c20
                                have c20b1 : ((rd l0 x11_1) != 0) = true := bne_iff_ne.mpr c20
                                by_cases c23 : (rd l0 x11_1) = 127
                                · rw [if_pos c23] at H
                                  have c23b0 : ((rd l0 x11_1) == 127) = true := beq_iff_eq.mpr c23
                                  have c23b1 : ((rd l0 x11_1) != 127) = false := bne_eq_false_iff_eq.mpr c23
                                  clear c23
                                  have H' := Aside0.mk H
                                  clear H
                                  go_wp2
                                  go_meet
                                  case rel => exact ⟨_, ((x7_12 != 0)), (by first | rfl | (simp; done) | (simp [*]; done)), H', ⟨by have := HK1.out; have := HJ4.out; have := HJ12.out; first | omega | exact Nat.le_refl _⟩, by repeat (first | exact Drawn0.refl _ | apply Drawn0.step)⟩
                                · rw [if_neg c23] at H
                                  have c23b0 : ((rd l0 x11_1) == 127) = false := beq_eq_false_iff_ne.mpr c23
                                  have c23b1 : ((rd l0 x11_1) != 127) = true := bne_iff_ne.mpr c23
                                  have H' := Aside0.mk H
                                  clear H
                                  go_wp2
                                  go_meet
                                  case rel => exact ⟨_, (false), (by first | rfl | (simp; done) | (simp [*]; done)), H', ⟨by have := HK1.out; have := HJ4.out; have := HJ12.out; first | omega | exact Nat.le_refl _⟩, by repeat (first | exact Drawn0.refl _ | apply Drawn0.step)⟩
                            · rw [if_neg c19] at H
                              have c19b0 : decide (0 < x11_1) = false := decide_eq_false c19
                              clear c19
                              (first | rw [c19b0] | (simp only [i64_w, i32_w]; rw [c19b0]) | skip)
                              have H' := Aside0.mk H
                              clear H
                              go_wp2
                              go_meet
                              case rel => exact ⟨_, (false), (by first | rfl | (simp; done) | (simp [*]; done)), H', ⟨by have := HK1.out; have := HJ4.out; have := HJ12.out; first | omega | exact Nat.le_refl _⟩, by repeat (first | exact Drawn0.refl _ | apply Drawn0.step)⟩
                          case rest =>
                            clear HC18
                            try clear c1
                            try clear p1
                            try clear q1
                            try clear hx1
                            try clear c2
                            try clear c2b0
                            try clear p2
                            try clear c3
                            try clear c3b0
                            try clear c4
                            try clear c4b0
                            try clear c6
                            try clear c6b0
                            try clear c6b1
                            try clear p6
                            try clear c7
                            try clear c7b0
                            try clear c7b1
                            try clear c8
                            try clear c10
                            try clear c10b0
                            try clear c10b1
                            try clear c12
                            try clear c12b0
                            try clear c14
                            try clear c14b0
                            try clear c16
                            try clear c16b0
                            try clear c17
                            try clear c17b0
                            try clear p18
                            try clear q18
                            try clear hx18
                            try clear c19
                            try clear c19b0
                            try clear c20
                            try clear c20b0
                            try clear c20b1
                            try clear c21
                            try clear c21b0
                            try clear c21b1
                            try clear c22
                            try clear c22b0
                            try clear c22b1
                            try clear c23
                            try clear c23b0
                            try clear c23b1
                            try clear hx185_0
                            try clear hx186_0
                            try clear p1
                            try clear p185
                            try clear p186
                            try clear p2
                            try clear p6
                            try clear q1
                            try clear q185
                            try clear q186
                            obtain ⟨kq, x62_17, rfl, HA, HJ17, ⟨mc17, rfl⟩⟩ := hcut
                            cases kq with
                            | zero => exact absurd HA.out (by simp [leb_GetInt.j3])
                            | succ kj17 =>
                              have H := HA.out
                              clear HA
                              simp only [leb_GetInt.j3] at H
                              by_cases c24 : x62_17 = true
                              · subst c24
                                have H1 : (some (0, 0, 4)) = some (r1, r2, r3) := by rw [if_pos rfl] at H; exact H
                                clear H
                                have H := H1
                                clear H1
                                simp only [Option.some.injEq, Prod.mk.injEq] at H
                                obtain ⟨rfl, rfl, rfl⟩ := H
                                go_wp2
                                go_ret3
                                exact ⟨by first | rfl | (simp; done) | (simp only [← hji9, ← hji11] <;> (first | rfl | simp)) | (simp [*]; done), by repeat (first | exact Drawn0.refl _ | apply Drawn0.step)⟩
                              · replace c24 := Bool.eq_false_iff.mpr c24
                                subst c24
                                have H1 : (if (Go.bits .and .u8 (rd l0 x11_1) 64) = 0 then (some ((Go.bits .or .i64 x2_1 (ji11)), wrap64 (x11_1 + 1), 0)) else (if (IntKind.u64.wrap (wrap64 (7 * (wrap64 (x11_1 + 1))))) < 64 then (if 0 ≤ (IntKind.u64.wrap (wrap64 (7 * (wrap64 (x11_1 + 1))))) then (some (Go.bits .or .i64 (Go.bits .or .i64 x2_1 (ji11)) (shl .i64 (-1) (IntKind.u64.wrap (wrap64 (7 * (wrap64 (x11_1 + 1)))))), wrap64 (x11_1 + 1), 0)) else (none)) else (some ((Go.bits .or .i64 x2_1 (ji11)), wrap64 (x11_1 + 1), 0)))) = some (r1, r2, r3) := by rw [if_neg (show ¬ (false = true) by decide)] at H; exact H
                                clear H
                                have H := H1
                                clear H1
                                by_cases c25 : (Go.bits .and .u8 (rd l0 x11_1) 64) = 0
                                · rw [if_pos c25] at H
                                  have c25b0 : ((Go.bits .and .u8 (rd l0 x11_1) 64) == 0) = true := beq_iff_eq.mpr c25
                                  have c25b1 : ((Go.bits .and .u8 (rd l0 x11_1) 64) != 0) = false := bne_eq_false_iff_eq.mpr c25
                                  clear c25
                                  simp only [Option.some.injEq, Prod.mk.injEq] at H
                                  obtain ⟨rfl, rfl, rfl⟩ := H
                                  go_wp2
                                  go_ret3
                                  exact ⟨by first | rfl | (simp; done) | (simp only [← hji9, ← hji11] <;> (first | rfl | simp)) | (simp [*]; done), by repeat (first | exact Drawn0.refl _ | apply Drawn0.step)⟩
                                · rw [if_neg c25] at H
                                  have c25b0 : ((Go.bits .and .u8 (rd l0 x11_1) 64) == 0) = false := beq_eq_false_iff_ne.mpr c25
                                  have c25b1 : ((Go.bits .and .u8 (rd l0 x11_1) 64) != 0) = true := bne_iff_ne.mpr c25
                                  by_cases c26 : (IntKind.u64.wrap (wrap64 (7 * (wrap64 (x11_1 + 1))))) < 64
                                  · rw [if_pos c26] at H
                                    have c26b0 : decide ((IntKind.u64.wrap (wrap64 (7 * (wrap64 (x11_1 + 1))))) < 64) = true := decide_eq_true c26
                                    clear c26
                                    obtain ⟨ji27, hji27⟩ : ∃ j_ : Int, (IntKind.u64.wrap (wrap64 (7 * (wrap64 (x11_1 + 1))))) = j_ := ⟨_, rfl⟩
                                    replace H : (if 0 ≤ (ji27) then (some (Go.bits .or .i64 (Go.bits .or .i64 x2_1 (ji11)) (shl .i64 (-1) (ji27)), wrap64 (x11_1 + 1), 0)) else (none)) = some (r1, r2, r3) := by first | (rw [hji27] at H; exact H) | (simp only [hji27] at H ⊢; exact H)
                                    (try rw [hji27] at c26b0)
                                    by_cases c28 : 0 ≤ (ji27)
                                    · rw [if_pos c28] at H
                                      have c28b0 := eq_true c28
                                      have c28b1 : decide (0 ≤ (ji27)) = true := decide_eq_true c28
                                      clear c28
                                      obtain ⟨ji29, hji29⟩ : ∃ j_ : Int, (shl .i64 (-1) (ji27)) = j_ := ⟨_, rfl⟩
                                      replace H : (some (Go.bits .or .i64 (Go.bits .or .i64 x2_1 (ji11)) (ji29), wrap64 (x11_1 + 1), 0)) = some (r1, r2, r3) := by first | (rw [hji29] at H; exact H) | (simp only [hji29] at H ⊢; exact H)
                                      have hji29_ : (IntKind.i64.wrap ((-1) * 2 ^ min (ji27).toNat 64)) = ji29 := hji29
                                      have hji29z : (ji27) ≤ 64 → (IntKind.i64.wrap ((-1) * 2 ^ (ji27).toNat)) = ji29 := shl_small hji29
                                      have hji29m : (wrap64 (-2 ^ min (ji27).toNat 64)) = ji29 := by have h_ := (i64_w _).symm.trans hji29_; rw [Int.neg_one_mul] at h_; exact h_
                                      have hji29y : (wrap64 ((-1) * 2 ^ min (ji27).toNat 64)) = ji29 := (i64_w _).symm.trans hji29_
                                      have hji29x : (ji27) ≤ 64 → (wrap64 ((-1) * 2 ^ (ji27).toNat)) = ji29 := fun h_ => (i64_w _).symm.trans (hji29z h_)
                                      simp only [Option.some.injEq, Prod.mk.injEq] at H
                                      obtain ⟨rfl, rfl, rfl⟩ := H
                                      go_wp2
                                      go_ret3
                                      exact ⟨by first | rfl | (simp; done) | (simp only [← hji9, ← hji11, ← hji27, ← hji29] <;> (first | rfl | simp)) | (simp [*]; done), by repeat (first | exact Drawn0.refl _ | apply Drawn0.step)⟩
                                    · rw [if_neg c28] at H
                                      exact absurd H (by simp)
                                  · rw [if_neg c26] at H
                                    have c26b0 : decide ((IntKind.u64.wrap (wrap64 (7 * (wrap64 (x11_1 + 1))))) < 64) = false := decide_eq_false c26
                                    clear c26
                                    simp only [Option.some.injEq, Prod.mk.injEq] at H
                                    obtain ⟨rfl, rfl, rfl⟩ := H
                                    go_wp2
                                    go_ret3
                                    exact ⟨by first | rfl | (simp; done) | (simp only [← hji9, ← hji11] <;> (first | rfl | simp)) | (simp [*]; done), by repeat (first | exact Drawn0.refl _ | apply Drawn0.step)⟩
                  · rw [if_neg c10] at H
                    exact absurd H (by simp)
          · rw [if_neg c4] at H
            exact absurd H (by simp)
        · rw [if_neg c3] at H
          exact absurd H (by simp)
      · rw [if_neg c2] at H
        have c2b0 : decide (x11_1 < (l0.length : Int)) = false := decide_eq_false c2
        clear c2
        simp only [Option.some.injEq, Prod.mk.injEq] at H
        obtain ⟨rfl, rfl, rfl⟩ := H
        go_wp2
        go_ret3
        exact ⟨by first | rfl | (simp; done) | (simp [*]; done), by repeat (first | exact Drawn0.refl _ | apply Drawn0.step)⟩

end Go.Proofs.Ytcffooeiennmjaa.PA

-- Written by a program of this session (wip/tools/myprint.py), out of the translation's print. Lean checks it.
namespace Go.Proofs.Ytcffooeiennmjaa.PA
open Go.RowKit Go.Proofs.YtcffooeiennmjaaW.PrintWords Go.Proofs.YtcffooeiennmjaaW.PrintLast Go.Proofs.YtcffooeiennmjaaW.PrintMore
attribute [local go_sem] max2_int min2_int max_two min_two max_three min_three max_four min_four   -- for this text's walks alone
set_option linter.unusedVariables false
set_option linter.unusedSimpArgs false

/-! ### column_bounded: function 47 -/
def column_bounded.f (a0 : Int) : Option (Int) := some (mx 0 (mn a0 65536))
set_option maxHeartbeats 8000000 in
set_option maxRecDepth 100000 in
theorem column_bounded.calls (a0 : Int) (r : Int) (w : World) (h : column_bounded.f a0 = some r) :
    Calls Try.prog 47 #[.int .i64 a0] w fun e w' => e = .returned (.int .i64 r) ∧ Below w.heap.size w w' := by
  have HB := Aside0.mk (Below.refl w.heap.size w)
  have H : (some (mx 0 (mn a0 65536))) = some r := h
  clear h
  obtain ⟨ji2, hji2⟩ : ∃ j_ : Int, (mn a0 65536) = j_ := ⟨_, rfl⟩
  replace H : (some (mx 0 (ji2))) = some r := by first | (rw [hji2] at H; exact H) | (simp only [hji2] at H ⊢; exact H)
  (try (have hji2h : ji2 ≤ 65536 := by (rw [← hji2]; unfold mn; (repeat' split) <;> omega)))
  (try (have hji2g : ji2 ≤ 64 := by omega))
  have hji2_ : (if 65536 < a0 then 65536 else a0) = ji2 := hji2
  obtain ⟨ji3, hji3⟩ : ∃ j_ : Int, (mx 0 (ji2)) = j_ := ⟨_, rfl⟩
  replace H : (some ji3) = some r := by first | (rw [hji3] at H; exact H) | (simp only [hji3] at H ⊢; exact H)
  have hji3_ : (if 0 < (ji2) then (ji2) else 0) = ji3 := hji3
  obtain rfl := Option.some.inj H
  go_enter Try.func47, Try.ntmps47
  go_wp2
  go_ret
  exact ⟨by first | rfl | (simp [errW_none, errW_some] <;> rfl) | (simp only [← hji2, ← hji3]; first | rfl | (simp [errW_none, errW_some] <;> rfl)) | (simp [*, errW_none, errW_some] <;> rfl), by repeat (first | (with_reducible first | exact HB.out | apply below_alloc | apply pw_below_drewN | apply below_drew1) | exact HB.out)⟩

end Go.Proofs.Ytcffooeiennmjaa.PA

-- Written by a program of this session (wip/tools/myprint.py), out of the translation's print. Lean checks it.
namespace Go.Proofs.Ytcffooeiennmjaa.PA
open Go.RowKit Go.Proofs.YtcffooeiennmjaaW.PrintWords Go.Proofs.YtcffooeiennmjaaW.PrintLast Go.Proofs.YtcffooeiennmjaaW.PrintMore
attribute [local go_sem] max2_int min2_int max_two min_two max_three min_three max_four min_four   -- for this text's walks alone
set_option linter.unusedVariables false
set_option linter.unusedSimpArgs false

/-! ### stemmaref03_Same: function 29 -/
def stemmaref03_Same.l0 : Nat → List Int → List Int → Int → Option (Bool)
  | 0, _, _, _ => none
  | k + 1, x0, x1, x5 => if x5 < (x0.length : Int) then (if 0 ≤ x5 then (if x5 < (x1.length : Int) then (if (rd x0 x5) = (rd x1 x5) then (stemmaref03_Same.l0 k x0 x1 (wrap64 (x5 + 1))) else (some false)) else (none)) else (none)) else (some true)
def stemmaref03_Same.f (k : Nat) (l0 : List Int) (l1 : List Int) : Option (Bool) := if (l0.length : Int) = (l1.length : Int) then (stemmaref03_Same.l0 k l0 l1 0) else (some false)
theorem stemmaref03_Same.mono_l : ∀ k, (∀ y0 y1 y2, LeO (stemmaref03_Same.l0 k y0 y1 y2) (stemmaref03_Same.l0 (k + 1) y0 y1 y2))
  | 0 => fun _ _ _ r h => by simp [stemmaref03_Same.l0] at h
  | k + 1 => by
    have ih0 := stemmaref03_Same.mono_l k
    · intro y0 y1 y2
      unfold stemmaref03_Same.l0
      repeat' first
      | (with_reducible exact ih0 _ _ _)
      | (with_reducible exact LeO.refl _)
      | (with_reducible exact LeO.none _)
      | (with_reducible refine LeO.ite ?_ ?_)
      | (with_reducible refine LeO.bind ?_ (fun _ => ?_))
      | exact ih0 _ _ _
      | exact LeO.none _
      | refine LeO.ite ?_ ?_
      | refine LeO.bind ?_ (fun _ => ?_)
theorem stemmaref03_Same.mono : ∀ a0 a1 k, LeO (stemmaref03_Same.f k a0 a1) (stemmaref03_Same.f (k + 1) a0 a1) := by
  intro a0 a1 k
  have ih0 := stemmaref03_Same.mono_l k
  unfold stemmaref03_Same.f
  repeat' first
      | (with_reducible exact ih0 _ _ _)
      | (with_reducible exact LeO.refl _)
      | (with_reducible exact LeO.none _)
      | (with_reducible refine LeO.ite ?_ ?_)
      | (with_reducible refine LeO.bind ?_ (fun _ => ?_))
      | exact ih0 _ _ _
      | exact LeO.none _
      | refine LeO.ite ?_ ?_
      | refine LeO.bind ?_ (fun _ => ?_)
set_option maxHeartbeats 8000000 in
set_option maxRecDepth 100000 in
theorem stemmaref03_Same.calls (k : Nat) (A0 : Option Addr) (c0 : Nat) (l0 : List Int) (A1 : Option Addr) (c1 : Nat) (l1 : List Int) (r : Bool) (w : World) (hr0 : Kd.C (Kd.int .i64) w A0 l0.length l0) (hc0 : l0.length ≤ c0) (hr1 : Kd.C (Kd.int .i64) w A1 l1.length l1) (hc1 : l1.length ≤ c1) (h : stemmaref03_Same.f k l0 l1 = some r) :
    Calls Try.prog 29 #[.slice A0 l0.length c0, .slice A1 l1.length c1] w fun e w' => e = .returned (.bool r) ∧ Drawn0 w w' := by
  have HR0 := Aside0.mk hr0
  have HC0 := Aside0.mk hc0
  clear hr0 hc0
  have HR1 := Aside0.mk hr1
  have HC1 := Aside0.mk hc1
  clear hr1 hc1
  have H : (if (l0.length : Int) = (l1.length : Int) then (stemmaref03_Same.l0 k l0 l1 0) else (some false)) = some r := h
  clear h
  by_cases c3 : (l0.length : Int) = (l1.length : Int)
  · rw [if_pos c3] at H
    have c3b0 : ((l0.length : Int) == (l1.length : Int)) = true := beq_iff_eq.mpr c3
    have c3b1 : ((l0.length : Int) != (l1.length : Int)) = false := bne_eq_false_iff_eq.mpr c3
    have c3b2 : (l0.length == l1.length) = true := by first | simpa using c3 | (simp at c3 ⊢; omega)
    clear c3
    have H' := Aside0.mk H
    clear H
    go_enter Try.func29, Try.ntmps29
    go_wp2
    repeat (go_quiet (fail); try go_wp2)
    go_loopg [5] k (fun kq v5 w' => ∃ (x5_1 : Int), v5 = .int .i64 x5_1 ∧ Aside0 (stemmaref03_Same.l0 kq l0 l1 x5_1 = some r) ∧ Aside0 (kq ≤ k) ∧ Drawn0 w w')
    case atStart => exact ⟨(0), (by first | rfl | (simp; done) | (simp [*]; done)), H', ⟨Nat.le_refl _⟩, by repeat (first | exact Drawn0.refl _ | apply Drawn0.step)⟩
    case round =>
      clear H'
      try clear c1
      try clear c2
      try clear p2
      try clear c3
      try clear c3b0
      try clear c3b1
      try clear c3b2
      obtain ⟨x5_1, rfl, HA, HK1, ⟨m1, rfl⟩⟩ := hrel
      cases gk with
      | zero => exact absurd HA.out (by simp [stemmaref03_Same.l0])
      | succ k1 =>
        have H := HA.out
        clear HA
        simp only [stemmaref03_Same.l0] at H
        by_cases c4 : x5_1 < (l0.length : Int)
        · rw [if_pos c4] at H
          have c4b0 : decide (x5_1 < (l0.length : Int)) = true := decide_eq_true c4
          clear c4
          by_cases c5 : 0 ≤ x5_1
          · rw [if_pos c5] at H
            have c5b0 : decide (0 ≤ x5_1) = true := decide_eq_true c5
            clear c5
            by_cases c6 : x5_1 < (l1.length : Int)
            · rw [if_pos c6] at H
              have c6b0 : decide (x5_1 < (l1.length : Int)) = true := decide_eq_true c6
              clear c6
              by_cases c7 : (rd l0 x5_1) = (rd l1 x5_1)
              · rw [if_pos c7] at H
                have c7b0 : ((rd l0 x5_1) == (rd l1 x5_1)) = true := beq_iff_eq.mpr c7
                have c7b1 : ((rd l0 x5_1) != (rd l1 x5_1)) = false := bne_eq_false_iff_eq.mpr c7
                clear c7
                have H' := Aside0.mk H
                clear H
                have p333 : 0 ≤ (x5_1 : Int) := of_decide_eq_true (by first | (with_reducible assumption) | assumption)
                have q333 : x5_1 < (l0.length : Int) := of_decide_eq_true (by first | (with_reducible assumption) | assumption)
                obtain ⟨ad333, e333, hx333_0⟩ := Kd.at_int HR0.out x5_1 p333 q333
                cases e333
                replace p333 := eq_true p333
                replace q333 := eq_true q333
                have p334 : 0 ≤ (x5_1 : Int) := of_decide_eq_true (by first | (with_reducible assumption) | assumption)
                have q334 : x5_1 < (l1.length : Int) := of_decide_eq_true (by first | (with_reducible assumption) | assumption)
                obtain ⟨ad334, e334, hx334_0⟩ := Kd.at_int HR1.out x5_1 p334 q334
                cases e334
                replace p334 := eq_true p334
                replace q334 := eq_true q334
                go_wp2
                repeat (go_quiet (fail); try go_wp2)
                go_roundg k1
                case measure => have := HK1.out; omega
                case rel => exact ⟨(wrap64 (x5_1 + 1)), (by first | rfl | (simp; done) | (simp [*]; done)), H', ⟨by have := HK1.out; omega⟩, by repeat (first | exact Drawn0.refl _ | apply Drawn0.step)⟩
              · rw [if_neg c7] at H
                have c7b0 : ((rd l0 x5_1) == (rd l1 x5_1)) = false := beq_eq_false_iff_ne.mpr c7
                have c7b1 : ((rd l0 x5_1) != (rd l1 x5_1)) = true := bne_iff_ne.mpr c7
                obtain rfl := Option.some.inj H
                have p333 : 0 ≤ (x5_1 : Int) := of_decide_eq_true (by first | (with_reducible assumption) | assumption)
                have q333 : x5_1 < (l0.length : Int) := of_decide_eq_true (by first | (with_reducible assumption) | assumption)
                obtain ⟨ad333, e333, hx333_0⟩ := Kd.at_int HR0.out x5_1 p333 q333
                cases e333
                replace p333 := eq_true p333
                replace q333 := eq_true q333
                have p334 : 0 ≤ (x5_1 : Int) := of_decide_eq_true (by first | (with_reducible assumption) | assumption)
                have q334 : x5_1 < (l1.length : Int) := of_decide_eq_true (by first | (with_reducible assumption) | assumption)
                obtain ⟨ad334, e334, hx334_0⟩ := Kd.at_int HR1.out x5_1 p334 q334
                cases e334
                replace p334 := eq_true p334
                replace q334 := eq_true q334
                go_wp2
                repeat (go_quiet (fail); try go_wp2)
                go_ret
                exact ⟨by first | rfl | (simp; done) | (simp [*]; done), by repeat (first | exact Drawn0.refl _ | apply Drawn0.step)⟩
            · rw [if_neg c6] at H
              exact absurd H (by simp)
          · rw [if_neg c5] at H
            exact absurd H (by simp)
        · rw [if_neg c4] at H
          have c4b0 : decide (x5_1 < (l0.length : Int)) = false := decide_eq_false c4
          clear c4
          obtain rfl := Option.some.inj H
          go_wp2
          repeat (go_quiet (fail); try go_wp2)
          go_ret
          exact ⟨by first | rfl | (simp; done) | (simp [*]; done), by repeat (first | exact Drawn0.refl _ | apply Drawn0.step)⟩
  · rw [if_neg c3] at H
    have c3b0 : ((l0.length : Int) == (l1.length : Int)) = false := beq_eq_false_iff_ne.mpr c3
    have c3b1 : ((l0.length : Int) != (l1.length : Int)) = true := bne_iff_ne.mpr c3
    have c3b2 : (l0.length == l1.length) = false := by first | simpa using c3 | (simp at c3 ⊢; omega)
    obtain rfl := Option.some.inj H
    go_enter Try.func29, Try.ntmps29
    go_wp2
    repeat (go_quiet (fail); try go_wp2)
    go_ret
    exact ⟨by first | rfl | (simp; done) | (simp [*]; done), by repeat (first | exact Drawn0.refl _ | apply Drawn0.step)⟩

end Go.Proofs.Ytcffooeiennmjaa.PA

/- column.stretches: the iterator over a row's stretches, in the fence. -/
set_option linter.unusedVariables false
set_option linter.unusedSimpArgs false
namespace Go.Proofs.Ytcffooeiennmjaa.ColS
open Go Go.RowKit Go.BigFrame Go.Shelf Go.Proofs Go.Proofs.YtcffooeiennmjaaW.PrintWords
attribute [local go_sem] Oper.semAt_some

/-- A row's stretches of one and the same thing. -/
def st {α : Type} [DecidableEq α] : List α → List (α × Nat)
  | [] => []
  | x :: xs => match st xs with
    | [] => [(x, 1)]
    | (y, n) :: r => if x = y then (y, n + 1) :: r else (x, 1) :: (y, n) :: r

theorem st_head {α : Type} [DecidableEq α] (x : α) (xs : List α) : ∃ n r, st (x :: xs) = (x, n) :: r := by
  simp only [st]
  split
  · exact ⟨_, _, rfl⟩
  · split
    · rename_i h; subst h; exact ⟨_, _, rfl⟩
    · exact ⟨_, _, rfl⟩
theorem st_rep {α : Type} [DecidableEq α] (x : α) (ys : List α) (hy : ∀ y, ys.head? = some y → y ≠ x) : ∀ n, st (List.replicate (n + 1) x ++ ys) = (x, n + 1) :: st ys
  | 0 => by
    cases ys with
    | nil => simp [st]
    | cons y t =>
      obtain ⟨n, r, hr⟩ := st_head y t
      have : y ≠ x := hy y rfl
      simp only [List.replicate, List.cons_append, List.nil_append]
      rw [st, hr]
      simp [Ne.symm this]
  | n + 1 => by
    rw [List.replicate_succ, List.cons_append, st, st_rep x ys hy n]
    simp
theorem st_length {α : Type} [DecidableEq α] : ∀ l : List α, (st l).length ≤ l.length
  | [] => by simp [st]
  | x :: xs => by
    have := st_length xs
    simp only [st]
    split
    · simp
    · rename_i h
      rw [h] at this
      split
      · simp at this ⊢; omega
      · simp at this ⊢; omega
theorem st_mem {α : Type} [DecidableEq α] : ∀ (l : List α) (p : α × Nat), p ∈ st l → p.1 ∈ l ∧ p.2 ≤ l.length
  | [], p, h => by simp [st] at h
  | x :: xs, p, h => by
    have ih := st_mem xs
    simp only [st] at h
    split at h
    · simp at h; subst h; simp
    · rename_i y n r hr
      rw [hr] at ih
      have h0 := ih (y, n) (by simp)
      split at h
      · rename_i hxy
        rcases List.mem_cons.1 h with rfl | h
        · simp only [List.length_cons]; exact ⟨by rw [← hxy]; simp, by have := h0.2; simp at this; omega⟩
        · have := ih p (by simp [h]); exact ⟨by simp [this.1], by simp; omega⟩
      · rcases List.mem_cons.1 h with rfl | h
        · simp
        · have := ih p (by simpa using h); exact ⟨by simp [this.1], by simp; omega⟩

/-- At a place i a stretch stands up to k. -/
theorem st_drop {α : Type} [DecidableEq α] (l : List α) (i k : Nat) (hik : i < k) (hk : k ≤ l.length) (x : α) (hx : ∀ j, i ≤ j → j < k → l[j]? = some x) (hend : l[k]? ≠ some x) :
    st (l.drop i) = (x, k - i) :: st (l.drop k) := by
  have e : l.drop i = List.replicate (k - i - 1 + 1) x ++ l.drop k := by
    apply List.ext_getElem?
    intro j
    rw [List.getElem?_drop]
    rcases Nat.lt_or_ge j (k - i) with hj | hj
    · rw [List.getElem?_append_left (by simp; omega), List.getElem?_replicate, if_pos (by omega), hx _ (by omega) (by omega)]
    · rw [List.getElem?_append_right (by simp; omega), List.getElem?_drop]
      congr 1
      simp; omega
  have h2 := st_rep x (l.drop k) (fun y hy => by
    rw [List.head?_drop] at hy
    intro e; rw [e] at hy; exact hend hy) (k - i - 1)
  rw [e, h2]
  congr 2
  omega

theorem below_drewN' (n : Nat) (w : World) (d : Nat) : Below n w (w.drewN d) := ⟨rfl, rfl, rfl, Nat.le_refl _, fun _ _ => rfl⟩
theorem grownBy_drewN' (w : World) (d : Nat) : w.grownBy (w.drewN d) none := ⟨rfl, rfl, rfl, Nat.le_refl _, fun _ _ _ => rfl⟩
/-- What a round keeps: what lay below n₀, and the box of the row. -/
def Kp (n₀ Bs : Nat) (W W' : World) : Prop := Below n₀ W W' ∧ W'.heap[Bs]? = W.heap[Bs]?
theorem Kp.trans {n₀ Bs : Nat} {A B C : World} (h : Kp n₀ Bs A B) (k : Kp n₀ Bs B C) : Kp n₀ Bs A C := ⟨h.1.trans k.1, k.2.trans h.2⟩
theorem Kp.drewN (n₀ Bs : Nat) (w : World) (d : Nat) : Kp n₀ Bs w (w.drewN d) := ⟨below_drewN' _ _ _, rfl⟩
theorem Kp.refl (n₀ Bs : Nat) (w : World) : Kp n₀ Bs w w := ⟨Below.refl _ _, rfl⟩
theorem Kp.cell {n₀ Bs : Nat} {A B : World} (h : Kp n₀ Bs A B) : B.cell? ⟨Bs, 0, none⟩ = A.cell? ⟨Bs, 0, none⟩ := by simp only [World.cell?, h.2]
theorem Kp.put {n₀ Bs : Nat} {w : World} (hn : n₀ ≤ w.heap.size) (hB : Bs < w.heap.size) (W : World) (l : Nat) (o o' : Obj) (hl : w.heap.size ≤ l) (h : W.heap[l]? = some o) (h1 : o.isCells = false) (h2 : o.isWalk = false) : Kp n₀ Bs W (W.putObj l o') :=
  ⟨belowK_b hn W l o o' hl h h1 h2, (grownBy_putObj' W l o').block Bs (by have := (Array.getElem?_eq_some_iff.1 h).1; omega) (by simp; omega)⟩
/-- What a round may be handed. -/
abbrev P57 := { p : Int × Nat // (Lit.int .i64 p.1).wf = true ∧ p.2 ≤ 4503599627370496 }
def enc57 (x : P57) : Array Value := #[Value.int .i64 x.1.1, Value.int .i64 (x.1.2 : Int)]

set_option maxRecDepth 100000 in
set_option maxHeartbeats 4000000 in
theorem it57 (n : Nat) (l Bs n₀ cap : Nat) (A : Option Addr) (xs : List Int) (hreach : xs.length ≤ 4503599627370496) (hwf : ∀ x ∈ xs, (Lit.int .i64 x).wf = true)
    (J Jx : List P57 → World → Prop) (hJ : ∀ s W W', J s W → W.grownBy W' none → J s W')
    (hY : ∀ pre x W, J pre W → pre.length < (st xs).length → YieldAt Fence.wide (n - 1) Try.prog l (enc57 x) W fun e W' =>
      (e = .returned (.bool true) ∧ J (pre ++ [x]) W' ∧ Kp n₀ Bs W W') ∨ (e = .returned (.bool false) ∧ Jx (pre ++ [x]) W'))
    (W : World) (hn0 : n₀ ≤ W.heap.size) (hBs : W.cell? ⟨Bs, 0, none⟩ = some (.slice A xs.length cap)) (hc : ∀ W', Below n₀ W W' → (Kd.int .i64).C W' A xs.length xs) (h0 : J [] W) :
    CallsIn Fence.wide n Try.prog 57 #[.func (.yield l) #[] #[], .pointer (some ⟨Bs, 0, none⟩)] W fun e W' => (∃ v, e = .returned v) ∧
      ((∃ ys, ys.map (·.1) = st xs ∧ J ys W') ∨ (∃ pre, pre.map (·.1) <+: st xs ∧ Jx pre W')) := by
  refine callsIn_of_wp Try.func57 rfl trivial ?_ rfl
  simp only [Try.ntmps57, List.size_toArray, List.length_cons, List.length_nil, Nat.reduceAdd, Nat.reduceSub, Array.replicate_succ, Array.replicate_zero, List.push_toArray, List.append_toArray, List.nil_append, List.cons_append]
  gi_wp2
  gi_loopw [3] (fun i wr => ∃ (k : Nat) (pre : List P57), k ≤ xs.length ∧ i = .int .i64 k ∧ st xs = pre.map (·.1) ++ st (xs.drop k) ∧ J pre wr ∧ Kp n₀ Bs W wr)
    (fun i _ => xs.length - (intOf i).toNat)
  case atStart => exact ⟨0, [], Nat.zero_le _, rfl, by simp, h0, Kp.refl _ _ _⟩
  case round =>
    obtain ⟨k, pre, hk, rfl, hst, hJs, hnx⟩ := hrel
    have hbx : wr.cell? ⟨Bs, 0, none⟩ = some (.slice A xs.length cap) := hnx.cell.trans hBs
    by_cases hlt : k < xs.length
    · have hx0 : xs[k]? = some xs[k] := List.getElem?_eq_getElem hlt
      obtain ⟨x0, hx0e⟩ : ∃ x0, x0 = xs[k] := ⟨_, rfl⟩
      rw [← hx0e] at hx0
      have hx0m : x0 ∈ xs := by rw [hx0e]; exact List.getElem_mem hlt
      clear hx0e
      gi_wp2
      gi_loopw [4] (fun j wr' => ∃ (m d : Nat), k ≤ m ∧ m ≤ xs.length ∧ j = .int .i64 m ∧ (∀ q, k ≤ q → q < m → xs[q]? = some x0) ∧ wr' = wr.drewN d)
        (fun j _ => xs.length - (intOf j).toNat)
      case atStart => exact ⟨k, 0, Nat.le_refl _, hk, rfl, fun q h1 h2 => by omega, rfl⟩
      case round =>
        obtain ⟨m, d, hkm, hm, rfl, hsame, rfl⟩ := hrel
        have hbx1 : (wr.drewN d).cell? ⟨Bs, 0, none⟩ = some (.slice A xs.length cap) := hbx
        have hC := hc (wr.drewN d) (hnx.1.trans (below_drewN' n₀ wr d))
        obtain ⟨ad, c1, rfl, hc1, hK1, hcell1⟩ := Kd.C_get hC (0 : Int) (k : Int) (by omega) (by omega)
        have hcx0 : wr.cell? (ad.add k) = some (.int .i64 x0) := by
          obtain rfl : c1 = [.int .i64 (xs.getD k 0)] := hK1
          have := hcell1 0 _ rfl
          rw [show (Kd.int .i64).sz = 1 from rfl] at this
          simpa [List.getD_eq_getElem?_getD, hx0] using this
        by_cases hmlt : m < xs.length
        · have hcm : wr.cell? (ad.add m) = some (.int .i64 xs[m]) := by
            obtain ⟨ad', c2, e2, hc2, hK2, hcell2⟩ := Kd.C_get hC (0 : Int) (m : Int) (by omega) (by omega)
            obtain rfl : ad = ad' := Option.some.inj e2
            obtain rfl : c2 = [.int .i64 (xs.getD m 0)] := hK2
            have := hcell2 0 _ rfl
            rw [show (Kd.int .i64).sz = 1 from rfl] at this
            simpa [List.getD_eq_getElem?_getD, hmlt] using this
          gi_wp2
          gi_big_quiet_th (skip)
          gi_wp2
          · have hxm : xs[m] = x0 := by simp_all
            go_roundw
            case rel => exact ⟨m + 1, d + nq, by omega, hmlt, by simp, fun q h1 h2 => by
              rcases Nat.lt_or_ge q m with h | h
              · exact hsame q h1 h
              · obtain rfl : q = m := by omega
                rw [List.getElem?_eq_getElem hmlt, hxm], rfl⟩
            case measure => simp [intOf]; omega
          · have hxm : xs[m] ≠ x0 := by
              intro h
              simp_all
            have hm0 : m ≠ k := by
              rintro rfl
              rw [List.getElem?_eq_getElem hmlt] at hx0; exact hxm (Option.some.inj hx0)
            have hkm' : k < m := by omega
            have hst' : st xs = (pre ++ [(⟨(x0, m - k), hwf x0 hx0m, by omega⟩ : P57)]).map (·.1) ++ st (xs.drop m) := by
              rw [hst, st_drop xs k m hkm' hm x0 hsame (by rw [List.getElem?_eq_getElem hmlt]; exact fun h => hxm (Option.some.inj h))]
              simp
            have hJ2 := hJ pre wr (wr.drewN (d + nq)) hJs (grownBy_drewN' wr (d + nq))
            obtain ⟨fn, tmps, assign, body, hy, hR⟩ := hY pre ⟨(x0, m - k), hwf x0 hx0m, by omega⟩ (wr.drewN (d + nq)) hJ2 (by rw [hst']; simp)
            have hsub : ((m - k : Nat) : Int) = (m : Int) - (k : Int) := by omega
            dsimp only [enc57] at hy
            rw [hsub] at hy
            gi_wp2
            rw [hy, Oper.uponIn_round]
            refine ⟨fun h => (by cases h), hR.mono ?_⟩
            rintro e W3 (⟨rfl, hJ3, hk3⟩ | ⟨rfl, hJx3⟩)
            · gi_wp2
              go_roundw
              case rel => exact ⟨m, _, hm, by simp, hst', hJ3, (hnx.trans (Kp.drewN n₀ Bs wr (d + nq))).trans hk3⟩
              case measure => simp [intOf]; omega
            · gi_wp2
              refine bodyPost_ret (results_none rfl _ _ _) rfl ?_
              exact ⟨⟨_, rfl⟩, .inr ⟨_, ⟨_, hst'.symm⟩, hJx3⟩⟩
        · gi_wp2
          gi_big_quiet_th (skip)
          gi_wp2
          have hm0 : m ≠ k := by
            rintro rfl
            omega
          have hkm' : k < m := by omega
          have hst' : st xs = (pre ++ [(⟨(x0, m - k), hwf x0 hx0m, by omega⟩ : P57)]).map (·.1) ++ st (xs.drop m) := by
            rw [hst, st_drop xs k m hkm' hm x0 hsame (by rw [List.getElem?_eq_none (by omega)]; simp)]
            simp
          have hJ2 := hJ pre wr (wr.drewN (d + nq)) hJs (grownBy_drewN' wr (d + nq))
          obtain ⟨fn, tmps, assign, body, hy, hR⟩ := hY pre ⟨(x0, m - k), hwf x0 hx0m, by omega⟩ (wr.drewN (d + nq)) hJ2 (by rw [hst']; simp)
          have hsub : ((m - k : Nat) : Int) = (m : Int) - (k : Int) := by omega
          dsimp only [enc57] at hy
          rw [hsub] at hy
          gi_wp2
          rw [hy, Oper.uponIn_round]
          refine ⟨fun h => (by cases h), hR.mono ?_⟩
          rintro e W3 (⟨rfl, hJ3, hk3⟩ | ⟨rfl, hJx3⟩)
          · gi_wp2
            go_roundw
            case rel => exact ⟨m, _, hm, by simp, hst', hJ3, (hnx.trans (Kp.drewN n₀ Bs wr (d + nq))).trans hk3⟩
            case measure => simp [intOf]; omega
          · gi_wp2
            refine bodyPost_ret (results_none rfl _ _ _) rfl ?_
            exact ⟨⟨_, rfl⟩, .inr ⟨_, ⟨_, hst'.symm⟩, hJx3⟩⟩
    · obtain rfl : k = xs.length := by omega
      gi_wp2
      go_end0
      refine ⟨⟨_, rfl⟩, .inl ⟨pre, ?_, hJs⟩⟩
      rw [hst]
      simp [st]

set_option maxHeartbeats 1000000 in
/-- column.stretches(l): the row is boxed; the function value captures the box. -/
theorem mk57 (n : Nat) (A : Option Addr) (len cap : Nat) (w : World) :
    CallsIn Fence.wide n Try.prog 52 #[.slice A len cap] w fun e w' => e = .returned (.func (.func 57) #[] #[.pointer (some ⟨w.heap.size, 0, none⟩)]) ∧ w' = w.alloc (.cells #[.slice A len cap] 40) := by
  refine callsIn_of_wp Try.func52 rfl trivial ?_ rfl
  simp only [Try.ntmps52, List.size_toArray, List.length_cons, List.length_nil, Nat.reduceAdd, Nat.reduceSub, Array.replicate_succ, Array.replicate_zero, List.push_toArray, List.append_toArray, List.nil_append, List.cons_append]
  gi_wp2
  go_ret
  exact ⟨rfl, rfl⟩

theorem stops57 (n Bs n₀ cap : Nat) (A : Option Addr) (xs : List Int) (hreach : xs.length ≤ 4503599627370496) (hwf : ∀ x ∈ xs, (Lit.int .i64 x).wf = true) (w : World) (hBs : Bs < w.heap.size) (hn₀ : n₀ ≤ w.heap.size)
    (hb : w.cell? ⟨Bs, 0, none⟩ = some (.slice A xs.length cap)) (hc : ∀ W', Below n₀ w W' → (Kd.int .i64).C W' A xs.length xs) :
    SeqStopsK Fence.wide n Try.prog 57 #[.pointer (some ⟨Bs, 0, none⟩)] enc57 (Kp n₀ Bs) (fun ys => ys.map (·.1) = st xs) (fun pre => pre.map (·.1) <+: st xs) (st xs).length w := fun l J Jx W hW hJ _ hY h0 =>
  it57 n l Bs n₀ cap A xs hreach hwf J Jx (fun s X Y hs hg => hJ s X Y none hs hg (fun r e => nomatch e)) hY W (Nat.le_trans hn₀ hW.size) ((hW.cell (p := ⟨Bs, 0, none⟩) hBs).trans hb) (fun W' h => hc W' ((hW.mono hn₀).trans h)) h0

/-- What a round may be handed. -/
abbrev P58 := { p : Bool × Nat // p.2 ≤ 4503599627370496 }
def enc58 (x : P58) : Array Value := #[Value.bool x.1.1, Value.int .i64 (x.1.2 : Int)]

set_option maxRecDepth 100000 in
set_option maxHeartbeats 4000000 in
theorem it58 (n : Nat) (l Bs n₀ cap : Nat) (A : Option Addr) (xs : List Bool) (hreach : xs.length ≤ 4503599627370496)
    (J Jx : List P58 → World → Prop) (hJ : ∀ s W W', J s W → W.grownBy W' none → J s W')
    (hY : ∀ pre x W, J pre W → pre.length < (st xs).length → YieldAt Fence.wide (n - 1) Try.prog l (enc58 x) W fun e W' =>
      (e = .returned (.bool true) ∧ J (pre ++ [x]) W' ∧ Kp n₀ Bs W W') ∨ (e = .returned (.bool false) ∧ Jx (pre ++ [x]) W'))
    (W : World) (hn0 : n₀ ≤ W.heap.size) (hBs : W.cell? ⟨Bs, 0, none⟩ = some (.slice A xs.length cap)) (hc : ∀ W', Below n₀ W W' → (Kd.bool).C W' A xs.length xs) (h0 : J [] W) :
    CallsIn Fence.wide n Try.prog 58 #[.func (.yield l) #[] #[], .pointer (some ⟨Bs, 0, none⟩)] W fun e W' => (∃ v, e = .returned v) ∧
      ((∃ ys, ys.map (·.1) = st xs ∧ J ys W') ∨ (∃ pre, pre.map (·.1) <+: st xs ∧ Jx pre W')) := by
  refine callsIn_of_wp Try.func58 rfl trivial ?_ rfl
  simp only [Try.ntmps58, List.size_toArray, List.length_cons, List.length_nil, Nat.reduceAdd, Nat.reduceSub, Array.replicate_succ, Array.replicate_zero, List.push_toArray, List.append_toArray, List.nil_append, List.cons_append]
  gi_wp2
  gi_loopw [3] (fun i wr => ∃ (k : Nat) (pre : List P58), k ≤ xs.length ∧ i = .int .i64 k ∧ st xs = pre.map (·.1) ++ st (xs.drop k) ∧ J pre wr ∧ Kp n₀ Bs W wr)
    (fun i _ => xs.length - (intOf i).toNat)
  case atStart => exact ⟨0, [], Nat.zero_le _, rfl, by simp, h0, Kp.refl _ _ _⟩
  case round =>
    obtain ⟨k, pre, hk, rfl, hst, hJs, hnx⟩ := hrel
    have hbx : wr.cell? ⟨Bs, 0, none⟩ = some (.slice A xs.length cap) := hnx.cell.trans hBs
    by_cases hlt : k < xs.length
    · have hx0 : xs[k]? = some xs[k] := List.getElem?_eq_getElem hlt
      obtain ⟨x0, hx0e⟩ : ∃ x0 : Bool, x0 = xs[k] := ⟨_, rfl⟩
      rw [← hx0e] at hx0
      have hx0m : x0 ∈ xs := by rw [hx0e]; exact List.getElem_mem hlt
      clear hx0e
      gi_wp2
      gi_loopw [4] (fun j wr' => ∃ (m d : Nat), k ≤ m ∧ m ≤ xs.length ∧ j = .int .i64 m ∧ (∀ q, k ≤ q → q < m → xs[q]? = some x0) ∧ wr' = wr.drewN d)
        (fun j _ => xs.length - (intOf j).toNat)
      case atStart => exact ⟨k, 0, Nat.le_refl _, hk, rfl, fun q h1 h2 => by omega, rfl⟩
      case round =>
        obtain ⟨m, d, hkm, hm, rfl, hsame, rfl⟩ := hrel
        have hbx1 : (wr.drewN d).cell? ⟨Bs, 0, none⟩ = some (.slice A xs.length cap) := hbx
        have hC := hc (wr.drewN d) (hnx.1.trans (below_drewN' n₀ wr d))
        obtain ⟨ad, c1, rfl, hc1, hK1, hcell1⟩ := Kd.C_get hC false (k : Int) (by omega) (by omega)
        have hcx0 : wr.cell? (ad.add k) = some (.bool x0) := by
          obtain rfl : c1 = [.bool (xs.getD k false)] := hK1
          have := hcell1 0 _ rfl
          rw [show (Kd.bool).sz = 1 from rfl] at this
          simpa [List.getD_eq_getElem?_getD, hx0] using this
        by_cases hmlt : m < xs.length
        · have hcm : wr.cell? (ad.add m) = some (.bool xs[m]) := by
            obtain ⟨ad', c2, e2, hc2, hK2, hcell2⟩ := Kd.C_get hC false (m : Int) (by omega) (by omega)
            obtain rfl : ad = ad' := Option.some.inj e2
            obtain rfl : c2 = [.bool (xs.getD m false)] := hK2
            have := hcell2 0 _ rfl
            rw [show (Kd.bool).sz = 1 from rfl] at this
            simpa [List.getD_eq_getElem?_getD, hmlt] using this
          gi_wp2
          gi_big_quiet_th (skip)
          gi_wp2
          · have hxm : xs[m] = x0 := by simp_all
            go_roundw
            case rel => exact ⟨m + 1, d + nq, by omega, hmlt, by simp, fun q h1 h2 => by
              rcases Nat.lt_or_ge q m with h | h
              · exact hsame q h1 h
              · obtain rfl : q = m := by omega
                rw [List.getElem?_eq_getElem hmlt, hxm], rfl⟩
            case measure => simp [intOf]; omega
          · have hxm : xs[m] ≠ x0 := by
              intro h
              simp_all
            have hm0 : m ≠ k := by
              rintro rfl
              rw [List.getElem?_eq_getElem hmlt] at hx0; exact hxm (Option.some.inj hx0)
            have hkm' : k < m := by omega
            have hst' : st xs = (pre ++ [(⟨(x0, m - k), by omega⟩ : P58)]).map (·.1) ++ st (xs.drop m) := by
              rw [hst, st_drop xs k m hkm' hm x0 hsame (by rw [List.getElem?_eq_getElem hmlt]; exact fun h => hxm (Option.some.inj h))]
              simp
            have hJ2 := hJ pre wr (wr.drewN (d + nq)) hJs (grownBy_drewN' wr (d + nq))
            obtain ⟨fn, tmps, assign, body, hy, hR⟩ := hY pre ⟨(x0, m - k), by omega⟩ (wr.drewN (d + nq)) hJ2 (by rw [hst']; simp)
            have hsub : ((m - k : Nat) : Int) = (m : Int) - (k : Int) := by omega
            dsimp only [enc58] at hy
            rw [hsub] at hy
            gi_wp2
            rw [hy, Oper.uponIn_round]
            refine ⟨fun h => (by cases h), hR.mono ?_⟩
            rintro e W3 (⟨rfl, hJ3, hk3⟩ | ⟨rfl, hJx3⟩)
            · gi_wp2
              go_roundw
              case rel => exact ⟨m, _, hm, by simp, hst', hJ3, (hnx.trans (Kp.drewN n₀ Bs wr (d + nq))).trans hk3⟩
              case measure => simp [intOf]; omega
            · gi_wp2
              refine bodyPost_ret (results_none rfl _ _ _) rfl ?_
              exact ⟨⟨_, rfl⟩, .inr ⟨_, ⟨_, hst'.symm⟩, hJx3⟩⟩
        · gi_wp2
          gi_big_quiet_th (skip)
          gi_wp2
          have hm0 : m ≠ k := by
            rintro rfl
            omega
          have hkm' : k < m := by omega
          have hst' : st xs = (pre ++ [(⟨(x0, m - k), by omega⟩ : P58)]).map (·.1) ++ st (xs.drop m) := by
            rw [hst, st_drop xs k m hkm' hm x0 hsame (by rw [List.getElem?_eq_none (by omega)]; simp)]
            simp
          have hJ2 := hJ pre wr (wr.drewN (d + nq)) hJs (grownBy_drewN' wr (d + nq))
          obtain ⟨fn, tmps, assign, body, hy, hR⟩ := hY pre ⟨(x0, m - k), by omega⟩ (wr.drewN (d + nq)) hJ2 (by rw [hst']; simp)
          have hsub : ((m - k : Nat) : Int) = (m : Int) - (k : Int) := by omega
          dsimp only [enc58] at hy
          rw [hsub] at hy
          gi_wp2
          rw [hy, Oper.uponIn_round]
          refine ⟨fun h => (by cases h), hR.mono ?_⟩
          rintro e W3 (⟨rfl, hJ3, hk3⟩ | ⟨rfl, hJx3⟩)
          · gi_wp2
            go_roundw
            case rel => exact ⟨m, _, hm, by simp, hst', hJ3, (hnx.trans (Kp.drewN n₀ Bs wr (d + nq))).trans hk3⟩
            case measure => simp [intOf]; omega
          · gi_wp2
            refine bodyPost_ret (results_none rfl _ _ _) rfl ?_
            exact ⟨⟨_, rfl⟩, .inr ⟨_, ⟨_, hst'.symm⟩, hJx3⟩⟩
    · obtain rfl : k = xs.length := by omega
      gi_wp2
      go_end0
      refine ⟨⟨_, rfl⟩, .inl ⟨pre, ?_, hJs⟩⟩
      rw [hst]
      simp [st]

set_option maxHeartbeats 1000000 in
/-- column.stretches(l): the row is boxed; the function value captures the box. -/
theorem mk58 (n : Nat) (A : Option Addr) (len cap : Nat) (w : World) :
    CallsIn Fence.wide n Try.prog 55 #[.slice A len cap] w fun e w' => e = .returned (.func (.func 58) #[] #[.pointer (some ⟨w.heap.size, 0, none⟩)]) ∧ w' = w.alloc (.cells #[.slice A len cap] 61) := by
  refine callsIn_of_wp Try.func55 rfl trivial ?_ rfl
  simp only [Try.ntmps55, List.size_toArray, List.length_cons, List.length_nil, Nat.reduceAdd, Nat.reduceSub, Array.replicate_succ, Array.replicate_zero, List.push_toArray, List.append_toArray, List.nil_append, List.cons_append]
  gi_wp2
  go_ret
  exact ⟨rfl, rfl⟩

theorem stops58 (n Bs n₀ cap : Nat) (A : Option Addr) (xs : List Bool) (hreach : xs.length ≤ 4503599627370496) (w : World) (hBs : Bs < w.heap.size) (hn₀ : n₀ ≤ w.heap.size)
    (hb : w.cell? ⟨Bs, 0, none⟩ = some (.slice A xs.length cap)) (hc : ∀ W', Below n₀ w W' → (Kd.bool).C W' A xs.length xs) :
    SeqStopsK Fence.wide n Try.prog 58 #[.pointer (some ⟨Bs, 0, none⟩)] enc58 (Kp n₀ Bs) (fun ys => ys.map (·.1) = st xs) (fun pre => pre.map (·.1) <+: st xs) (st xs).length w := fun l J Jx W hW hJ _ hY h0 =>
  it58 n l Bs n₀ cap A xs hreach J Jx (fun s X Y hs hg => hJ s X Y none hs hg (fun r e => nomatch e)) hY W (Nat.le_trans hn₀ hW.size) ((hW.cell (p := ⟨Bs, 0, none⟩) hBs).trans hb) (fun W' h => hc W' ((hW.mono hn₀).trans h)) h0
end Go.Proofs.Ytcffooeiennmjaa.ColS

/- Numbers as bytes in groups of seven bits: what is laid, what is taken off, that there is one way alone. Plain lists and numbers, no program. -/
set_option linter.unusedVariables false
set_option linter.unusedSimpArgs false
namespace Go.Proofs.Ytcffooeiennmjaa.LebT
/-! numbers as bytes: what is laid -/
def putU (n : Nat) : List Int := if n < 128 then [(n : Int)] else ((n % 128 : Nat) + 128 : Int) :: putU (n / 128)
termination_by n
decreasing_by omega
def putI (x : Int) : List Int := if 63 < x ∨ x < -64 then (x % 128 + 128) :: putI (x / 128) else [x % 128]
termination_by x.natAbs
decreasing_by omega

theorem putU_small {n : Nat} (h : n < 128) : putU n = [(n : Int)] := by rw [putU, if_pos h]
theorem putU_big {n : Nat} (h : ¬ n < 128) : putU n = ((n % 128 : Nat) + 128 : Int) :: putU (n / 128) := by rw [putU, if_neg h]
theorem putI_small {x : Int} (h : ¬ (63 < x ∨ x < -64)) : putI x = [x % 128] := by rw [putI, if_neg h]
theorem putI_big {x : Int} (h : 63 < x ∨ x < -64) : putI x = (x % 128 + 128) :: putI (x / 128) := by rw [putI, if_pos h]
theorem putU_ne (n : Nat) : putU n ≠ [] := by
  by_cases h : n < 128
  · rw [putU_small h]; simp
  · rw [putU_big h]; simp
theorem putU_len_pos (n : Nat) : 0 < (putU n).length := List.length_pos_iff.2 (putU_ne n)
theorem putI_ne (x : Int) : putI x ≠ [] := by
  by_cases h : 63 < x ∨ x < -64
  · rw [putI_big h]; simp
  · rw [putI_small h]; simp
theorem putI_len_pos (x : Int) : 0 < (putI x).length := List.length_pos_iff.2 (putI_ne x)
theorem putU_len (d : Nat) : ∀ n, n < 128 ^ (d + 1) → (putU n).length ≤ d + 1 := by
  induction d with
  | zero => intro n h; rw [putU_small (by omega)]; simp
  | succ d ih =>
    intro n h
    by_cases hs : n < 128
    · rw [putU_small hs]; simp
    · rw [putU_big hs]
      have := ih (n / 128) (by rw [Nat.div_lt_iff_lt_mul (by omega)]; rw [Nat.pow_succ] at h; exact h)
      simp only [List.length_cons]; omega
theorem putU_len64 {n : Nat} (h : n < 18446744073709551616) : (putU n).length ≤ 10 := putU_len 9 n (by omega)
/-- The length tells how great the number is. -/
theorem putU_len_iff (d : Nat) : ∀ n, (putU n).length ≤ d + 1 ↔ n < 128 ^ (d + 1) := by
  induction d with
  | zero =>
    intro n
    constructor
    · intro h
      by_cases hs : n < 128
      · simpa using hs
      · rw [putU_big hs] at h
        have := putU_len_pos (n / 128)
        simp only [List.length_cons] at h; omega
    · intro h; rw [putU_small (by omega)]; simp
  | succ d ih =>
    intro n
    by_cases hs : n < 128
    · rw [putU_small hs]
      have : 128 ≤ 128 ^ (d + 1 + 1) := by rw [Nat.pow_succ]; have := Nat.pow_pos (n := d + 1) (show 0 < 128 by omega); omega
      simp; omega
    · rw [putU_big hs]
      simp only [List.length_cons]
      have := ih (n / 128)
      rw [Nat.div_lt_iff_lt_mul (by omega), ← Nat.pow_succ] at this
      omega
theorem putI_len (d : Nat) : ∀ x : Int, -(64 * 128 ^ d) ≤ x → x < 64 * 128 ^ d → (putI x).length ≤ d + 1 := by
  induction d with
  | zero => intro x h h1; rw [putI_small (by omega)]; simp
  | succ d ih =>
    intro x h h1
    by_cases hs : 63 < x ∨ x < -64
    · rw [putI_big hs]
      have e : (128 : Int) ^ (d + 1) = 128 ^ d * 128 := by rw [Int.pow_succ]
      rw [e] at h h1
      generalize (128 : Int) ^ d = p at *
      have := ih (x / 128) (by omega) (by omega)
      simp only [List.length_cons]; omega
    · rw [putI_small hs]; simp
theorem putI_len64 {x : Int} (h : -9223372036854775808 ≤ x) (h1 : x < 9223372036854775808) : (putI x).length ≤ 10 := putI_len 9 x (by omega) (by omega)
def isByte (x : Int) : Prop := 0 ≤ x ∧ x < 256
theorem putU_bytes (n : Nat) : ∀ x ∈ putU n, isByte x := by
  induction n using Nat.strongRecOn with
  | _ n ih =>
    by_cases hs : n < 128
    · rw [putU_small hs]; intro x hx; simp at hx; subst hx; unfold isByte; omega
    · rw [putU_big hs]
      intro x hx
      rcases List.mem_cons.1 hx with rfl | hx
      · unfold isByte; omega
      · exact ih (n / 128) (by omega) x hx
theorem putI_bytes (m : Nat) : ∀ y : Int, y.natAbs = m → ∀ x ∈ putI y, isByte x := by
  induction m using Nat.strongRecOn with
  | _ m ih =>
    intro y hy
    by_cases hs : 63 < y ∨ y < -64
    · rw [putI_big hs]
      intro x hx
      rcases List.mem_cons.1 hx with rfl | hx
      · unfold isByte; omega
      · exact ih (y / 128).natAbs (by omega) (y / 128) rfl x hx
    · rw [putI_small hs]; intro x hx; simp at hx; subst hx; unfold isByte; omega
/-! what is taken off -/
/-- From byte i on, n gathered so far. -/
def gU (i : Nat) (n : Nat) : List Int → Int × Int × Int
  | [] => (0, 0, 3)
  | x :: r => if (i = 9 ∧ 1 < x) ∨ (0 < i ∧ x = 0) then (0, 0, 4) else if x < 128 then (((n + x.toNat * 128 ^ i : Nat) : Int), i + 1, 0) else gU (i + 1) (n + (x.toNat % 128) * 128 ^ i) r
/-- What was laid is taken off. -/
theorem gU_put (m : Nat) : ∀ (i n : Nat) (r : List Int), (0 < i → 0 < m) → n < 128 ^ i → n + m * 128 ^ i < 18446744073709551616 → gU i n (putU m ++ r) = (((n + m * 128 ^ i : Nat) : Int), ((i + (putU m).length : Nat) : Int), 0) := by
  induction m using Nat.strongRecOn with
  | _ m ih =>
    intro i n r hm hn h
    by_cases hs : m < 128
    · rw [putU_small hs]
      simp only [List.cons_append, List.nil_append, gU]
      rw [if_neg, if_pos (by omega)]
      · simp
      · rintro (⟨rfl, h1⟩ | ⟨h0, h1⟩)
        · omega
        · have := hm h0; omega
    · rw [putU_big hs]
      simp only [List.cons_append, gU]
      have hi : i ≠ 9 := by rintro rfl; omega
      rw [if_neg (by omega), if_neg (by omega)]
      have e1 : (((m % 128 : Nat) : Int) + 128).toNat % 128 = m % 128 := by omega
      rw [e1]
      have hp : 128 ^ (i + 1) = 128 ^ i * 128 := Nat.pow_succ ..
      have hdm : m % 128 + m / 128 * 128 = m := by omega
      have e2 : n + m % 128 * 128 ^ i + m / 128 * 128 ^ (i + 1) = n + m * 128 ^ i := by
        rw [hp]
        generalize 128 ^ i = p at *
        have : m / 128 * (p * 128) = m / 128 * 128 * p := by rw [Nat.mul_comm p, Nat.mul_assoc]
        rw [this, Nat.add_assoc, ← Nat.add_mul, hdm]
      rw [ih (m / 128) (by omega) (i + 1) _ r (by omega) (by
        rw [hp]
        have : m % 128 * 128 ^ i ≤ 127 * 128 ^ i := Nat.mul_le_mul_right _ (by omega)
        omega) (by rw [e2]; exact h)]
      rw [e2]
      simp only [List.length_cons]
      simp; omega

/-- What is taken off is what is laid for it. -/
theorem gU_only : ∀ (b : List Int) (i n : Nat) (v k : Int), (∀ x ∈ b, isByte x) → i ≤ 9 → n < 128 ^ i → gU i n b = (v, k, 0) →
    ∃ (m j : Nat), v = ((n + m * 128 ^ i : Nat) : Int) ∧ k = ((i + j : Nat) : Int) ∧ 0 < j ∧ j ≤ b.length ∧ putU m = b.take j ∧ (0 < i → 0 < m) ∧ n + m * 128 ^ i < 18446744073709551616
  | [], i, n, v, k, _, _, _, h => by simp [gU] at h
  | x :: r, i, n, v, k, hb, hi, hn, h => by
    have hx := hb x List.mem_cons_self
    unfold isByte at hx
    simp only [gU] at h
    by_cases c1 : (i = 9 ∧ 1 < x) ∨ (0 < i ∧ x = 0)
    · rw [if_pos c1] at h; simp at h
    · rw [if_neg c1] at h
      by_cases c2 : x < 128
      · rw [if_pos c2] at h
        simp only [Prod.mk.injEq, and_true] at h
        refine ⟨x.toNat, 1, h.1.symm, by omega, by omega, by simp, ?_, by omega, ?_⟩
        · rw [putU_small (by omega)]; simp; omega
        · by_cases h9 : i = 9
          · subst h9; omega
          · have : 128 ^ i ≤ 128 ^ 8 := Nat.pow_le_pow_right (by omega) (by omega)
            have h2 : x.toNat * 128 ^ i ≤ 127 * 128 ^ i := Nat.mul_le_mul_right _ (by omega)
            omega
      · rw [if_neg c2] at h
        have h9 : i ≠ 9 := by omega
        have hp : 128 ^ (i + 1) = 128 ^ i * 128 := Nat.pow_succ ..
        have hm1 : x.toNat % 128 * 128 ^ i ≤ 127 * 128 ^ i := Nat.mul_le_mul_right _ (by omega)
        obtain ⟨m, j, h1, h2, h3, h4, h5, h6, h7⟩ := gU_only r (i + 1) _ v k (fun y hy => hb y (List.mem_cons_of_mem _ hy)) (by omega) (by rw [hp]; omega) h
        have e : n + x.toNat % 128 * 128 ^ i + m * 128 ^ (i + 1) = n + (x.toNat % 128 + m * 128) * 128 ^ i := by
          rw [hp, Nat.add_mul, Nat.add_assoc]
          congr 2
          rw [Nat.mul_comm (128 ^ i), Nat.mul_assoc]
        rw [e] at h1 h7
        have hm0 := h6 (by omega)
        refine ⟨x.toNat % 128 + m * 128, j + 1, h1, by omega, by omega, by simp; omega, ?_, fun _ => by omega, h7⟩
        rw [putU_big (by omega), List.take_succ_cons, ← h5]
        congr 1
        · omega
        · congr 1; omega
/-- The errors: cut, or the form. -/
theorem gU_errs : ∀ (b : List Int) (i n : Nat), (gU i n b).2.2 = 0 ∨ gU i n b = (0, 0, 3) ∨ gU i n b = (0, 0, 4)
  | [], i, n => by simp [gU]
  | x :: r, i, n => by
    simp only [gU]
    split
    · simp
    · split
      · simp
      · exact gU_errs r _ _

/-- From byte i on, n gathered so far; s: had the byte ahead the bit 64. -/
def gI (i : Nat) (n : Nat) (s : Bool) : List Int → Int × Int × Int
  | [] => (0, 0, 3)
  | x :: r => if i = 9 ∧ x ≠ 0 ∧ x ≠ 127 then (0, 0, 4) else if 128 ≤ x then gI (i + 1) (n + (x.toNat % 128) * 128 ^ i) (decide (64 ≤ x % 128)) r
    else if 0 < i ∧ ((x = 0 ∧ s = false) ∨ (x = 127 ∧ s = true)) then (0, 0, 4) else ((n : Int) + (if 64 ≤ x then x - 128 else x) * 128 ^ i, i + 1, 0)
theorem pow_cast (i : Nat) : ((128 ^ i : Nat) : Int) = (128 : Int) ^ i := by push_cast; rfl
theorem gI_put (c : Nat) : ∀ (m : Int) (i n : Nat) (s : Bool) (r : List Int), m.natAbs = c → (0 < i → ¬ (m = 0 ∧ s = false) ∧ ¬ (m = -1 ∧ s = true)) → n < 128 ^ i → i ≤ 9 → -9223372036854775808 ≤ (n : Int) + m * 128 ^ i → (n : Int) + m * 128 ^ i < 9223372036854775808 →
    gI i n s (putI m ++ r) = ((n : Int) + m * 128 ^ i, ((i + (putI m).length : Nat) : Int), 0) := by
  induction c using Nat.strongRecOn with
  | _ c ih =>
    intro m i n s r hc hm hn hi h1 h2
    have h9 : i = 9 → m = 0 ∨ m = -1 := by
      rintro rfl
      simp only [show (128 : Int) ^ 9 = 9223372036854775808 from rfl] at h1 h2
      simp only [show 128 ^ 9 = 9223372036854775808 from rfl] at hn
      omega
    by_cases hs : 63 < m ∨ m < -64
    · rw [putI_big hs]
      simp only [List.cons_append, gI]
      have hi9 : i ≠ 9 := by intro e; have := h9 e; omega
      rw [if_neg (by omega), if_pos (by omega)]
      have e1 : (m % 128 + 128).toNat % 128 = (m % 128).toNat := by omega
      have e0 : (m % 128 + 128) % 128 = m % 128 := by omega
      rw [e1, e0]
      have hp : (128 : Int) ^ (i + 1) = 128 ^ i * 128 := Int.pow_succ ..
      have hpn : 128 ^ (i + 1) = 128 ^ i * 128 := Nat.pow_succ ..
      have e2 : ((n + (m % 128).toNat * 128 ^ i : Nat) : Int) + m / 128 * 128 ^ (i + 1) = (n : Int) + m * 128 ^ i := by
        rw [hp, Int.natCast_add, Int.natCast_mul, pow_cast, Int.toNat_of_nonneg (by omega)]
        generalize (128 : Int) ^ i = p at *
        have : m / 128 * (p * 128) = m / 128 * 128 * p := by rw [Int.mul_comm p, Int.mul_assoc]
        rw [this, Int.add_assoc, ← Int.add_mul]
        congr 2
        omega
      rw [ih (m / 128).natAbs (by omega) (m / 128) (i + 1) _ _ r rfl (by intro _; simp only [decide_eq_false_iff_not, decide_eq_true_eq]; omega) (by
        rw [hpn]
        have : (m % 128).toNat * 128 ^ i ≤ 127 * 128 ^ i := Nat.mul_le_mul_right _ (by omega)
        omega) (by omega) (by rw [e2]; exact h1) (by rw [e2]; exact h2)]
      rw [e2]
      simp only [List.length_cons]
      simp; omega
    · rw [putI_small hs]
      simp only [List.cons_append, List.nil_append, gI]
      rw [if_neg (by intro ⟨e, h3, h4⟩; have := h9 e; omega), if_neg (by omega)]
      have e3 : (if 64 ≤ m % 128 then m % 128 - 128 else m % 128) = m := by split <;> omega
      rw [if_neg, e3]
      · simp
      · rintro ⟨h0, h3⟩
        have := hm h0
        rcases h3 with ⟨h4, h5⟩ | ⟨h4, h5⟩
        · exact this.1 ⟨by omega, h5⟩
        · exact this.2 ⟨by omega, h5⟩
theorem gI_only : ∀ (b : List Int) (i n : Nat) (s : Bool) (v k : Int), (∀ x ∈ b, isByte x) → i ≤ 9 → n < 128 ^ i → gI i n s b = (v, k, 0) →
    ∃ (m : Int) (j : Nat), v = (n : Int) + m * 128 ^ i ∧ k = ((i + j : Nat) : Int) ∧ 0 < j ∧ j ≤ b.length ∧ putI m = b.take j ∧ (0 < i → ¬ (m = 0 ∧ s = false) ∧ ¬ (m = -1 ∧ s = true)) ∧ -9223372036854775808 ≤ v ∧ v < 9223372036854775808
  | [], i, n, s, v, k, _, _, _, h => by simp [gI] at h
  | x :: r, i, n, s, v, k, hb, hi, hn, h => by
    have hx := hb x List.mem_cons_self
    unfold isByte at hx
    simp only [gI] at h
    by_cases c1 : i = 9 ∧ x ≠ 0 ∧ x ≠ 127
    · rw [if_pos c1] at h; simp at h
    · rw [if_neg c1] at h
      have hpi := pow_cast i
      have hpp : 0 < 128 ^ i := Nat.pow_pos (by omega)
      by_cases c2 : 128 ≤ x
      · rw [if_pos c2] at h
        have h9 : i ≠ 9 := by omega
        have hpn : 128 ^ (i + 1) = 128 ^ i * 128 := Nat.pow_succ ..
        have hp : (128 : Int) ^ (i + 1) = 128 ^ i * 128 := Int.pow_succ ..
        have hm1 : x.toNat % 128 * 128 ^ i ≤ 127 * 128 ^ i := Nat.mul_le_mul_right _ (by omega)
        obtain ⟨m, j, h1, h2, h3, h4, h5, h6, h7⟩ := gI_only r (i + 1) _ _ v k (fun y hy => hb y (List.mem_cons_of_mem _ hy)) (by omega) (by rw [hpn]; omega) h
        have hm0 := h6 (by omega)
        simp only [decide_eq_false_iff_not, decide_eq_true_eq] at hm0
        refine ⟨x % 128 + m * 128, j + 1, ?_, by omega, by omega, by simp; omega, ?_, fun _ => by omega, h7⟩
        · rw [h1, hp, Int.natCast_add, Int.natCast_mul, pow_cast, Int.add_mul, Int.add_assoc]
          congr 2
          · congr 1; omega
          · rw [Int.mul_comm (128 ^ i), Int.mul_assoc]
        · rw [putI_big (by omega), List.take_succ_cons, ← h5]
          congr 1
          · omega
          · congr 1; omega
      · rw [if_neg c2] at h
        by_cases c3 : 0 < i ∧ ((x = 0 ∧ s = false) ∨ (x = 127 ∧ s = true))
        · rw [if_pos c3] at h; simp at h
        · rw [if_neg c3] at h
          simp only [Prod.mk.injEq, and_true] at h
          have hb1 : -9223372036854775808 ≤ v ∧ v < 9223372036854775808 := by
            rw [← h.1]
            by_cases h9 : i = 9
            · subst h9
              simp only [show (128 : Int) ^ 9 = 9223372036854775808 from rfl]
              simp only [show 128 ^ 9 = 9223372036854775808 from rfl] at hn
              split <;> omega
            · have h8 : 128 ^ i ≤ 128 ^ 8 := Nat.pow_le_pow_right (by omega) (by omega)
              rw [← hpi]
              generalize 128 ^ i = p at *
              have q1 : ∀ y : Int, -64 ≤ y → y < 64 → -(64 * (p : Int)) ≤ y * p ∧ y * p ≤ 63 * p := fun y ha hb => by
                have z1 : (-64) * (p : Int) ≤ y * p := Int.mul_le_mul_of_nonneg_right ha (by omega)
                have z2 : y * (p : Int) ≤ 63 * p := Int.mul_le_mul_of_nonneg_right (by omega) (by omega)
                omega
              have q2 := q1 (if 64 ≤ x then x - 128 else x) (by split <;> omega) (by split <;> omega)
              omega
          refine ⟨if 64 ≤ x then x - 128 else x, 1, h.1.symm, by omega, by omega, by simp, ?_, ?_, hb1⟩
          · rw [putI_small (by split <;> omega)]
            simp
            split <;> omega
          · intro h0
            refine ⟨fun hz => c3 ⟨h0, .inl ⟨?_, hz.2⟩⟩, fun hz => c3 ⟨h0, .inr ⟨?_, hz.2⟩⟩⟩
            · have := hz.1; split at this <;> omega
            · have := hz.1; split at this <;> omega
theorem gI_errs : ∀ (b : List Int) (i n : Nat) (s : Bool), (gI i n s b).2.2 = 0 ∨ gI i n s b = (0, 0, 3) ∨ gI i n s b = (0, 0, 4)
  | [], i, n, s => by simp [gI]
  | x :: r, i, n, s => by
    simp only [gI]
    split
    · simp
    · split
      · exact gI_errs r _ _ _
      · split <;> simp
end Go.Proofs.Ytcffooeiennmjaa.LebT

-- Written by a program of this session (wip/tools/myprint.py), out of the translation's print. Lean checks it.
namespace Go.Proofs.Ytcffooeiennmjaa.PA
open Go.RowKit Go.Proofs.YtcffooeiennmjaaW.PrintWords Go.Proofs.YtcffooeiennmjaaW.PrintLast Go.Proofs.YtcffooeiennmjaaW.PrintMore
attribute [local go_sem] max2_int min2_int max_two min_two max_three min_three max_four min_four   -- for this text's walks alone
set_option linter.unusedVariables false
set_option linter.unusedSimpArgs false

/-! ### leb_Uint: function 15 -/
def leb_Uint.l0 : Nat → Int → List Int → Option (List Int)
  | 0, _, _ => none
  | k + 1, x0, x3 => if x0 ≥ 128 then (if x3.length < 140737488355328 then (leb_Uint.l0 k (x0 / 128) (x3 ++ [Go.bits .or .u8 ((x0) % 256) 128])) else (none)) else (if x3.length < 140737488355328 then (some (x3 ++ [(x0) % 256])) else (none))
def leb_Uint.f (k : Nat) (a0 : Int) : Option (List Int) := leb_Uint.l0 k a0 (([] : List Int))
theorem leb_Uint.mono_l : ∀ k, (∀ y0 y1, LeO (leb_Uint.l0 k y0 y1) (leb_Uint.l0 (k + 1) y0 y1))
  | 0 => fun _ _ r h => by simp [leb_Uint.l0] at h
  | k + 1 => by
    have ih0 := leb_Uint.mono_l k
    · intro y0 y1
      unfold leb_Uint.l0
      repeat' first
      | (with_reducible exact ih0 _ _)
      | (with_reducible exact LeO.refl _)
      | (with_reducible exact LeO.none _)
      | (with_reducible refine LeO.ite ?_ ?_)
      | (with_reducible refine LeO.bind ?_ (fun _ => ?_))
      | exact ih0 _ _
      | exact LeO.none _
      | refine LeO.ite ?_ ?_
      | refine LeO.bind ?_ (fun _ => ?_)
theorem leb_Uint.mono : ∀ a0 k, LeO (leb_Uint.f k a0) (leb_Uint.f (k + 1) a0) := by
  intro a0 k
  have ih0 := leb_Uint.mono_l k
  unfold leb_Uint.f
  repeat' first
      | (with_reducible exact ih0 _ _)
      | (with_reducible exact LeO.refl _)
      | (with_reducible exact LeO.none _)
      | (with_reducible refine LeO.ite ?_ ?_)
      | (with_reducible refine LeO.bind ?_ (fun _ => ?_))
      | exact ih0 _ _
      | exact LeO.none _
      | refine LeO.ite ?_ ?_
      | refine LeO.bind ?_ (fun _ => ?_)
set_option maxHeartbeats 8000000 in
set_option maxRecDepth 100000 in
theorem leb_Uint.calls (k : Nat) (a0 : Int) (r : List Int) (w : World) (h : leb_Uint.f k a0 = some r) :
    Calls Try.prog 15 #[.int .u64 a0] w fun e w' => ∃ v0_ : Value, e = .returned (v0_) ∧ Kd.R (Kd.int .u8) 5 w' w.heap.size (fun _ => True) v0_ r ∧ Below w.heap.size w w' := by
  have HB := Aside0.mk (Below.refl w.heap.size w)
  have H : (leb_Uint.l0 k a0 (([] : List Int))) = some r := h
  clear h
  obtain ⟨y101, hy101⟩ : ∃ y_ : List Int, y_ = (([] : List Int)) := ⟨_, rfl⟩
  replace H : (leb_Uint.l0 k a0 y101) = some r := by first | (rw [hy101]; with_reducible exact H) | (have H2_ := (Option.bind_some _ _).symm.trans H; rw [hy101]; with_reducible exact H2_) | (have H2_ := (Option.bind_some _ _).symm.trans H; with_reducible exact H2_) | with_reducible exact H | (rw [hy101]; exact H) | exact H
  have Ny101 := Aside0.mk hy101
  clear hy101
  have H' := Aside0.mk H
  clear H
  go_enter Try.func15, Try.ntmps15
  go_wp2_with (first | ((with_reducible refine gate_dst (N := 4) rfl ?_); refine Kd.R_make0 (Kd.int .u8) _ 5 rfl (N := 4) rfl 23 _ _ rfl 10 rfl rfl Try.underlying23 (.int .u8 0) 1 info5 rfl (by decide) (by omega) (ok := fun _ => True) (okp := fun _ => True) (fun _ hk => hk) trivial (by omega) (by omega) (Below.refl _ _) (Nat.le_refl _) ?_; intro v102 w2 ho3 hb hg_ hnew_; clear hg_ hnew_; (first | rw [← Ny101.out] at ho3 | (simp only [Int.reduceToNat] at ho3; rw [← Ny101.out] at ho3)); have n0_ := Aside0.mk (Kd.R_lower ho3 (below_size (by repeat (first | (with_reducible first | exact HB.out | apply below_alloc | apply pw_below_drewN | apply below_drew1) | exact HB.out)))); have n1_ := Aside0.mk (below_step (by repeat (first | (with_reducible first | exact HB.out | apply below_alloc | apply pw_below_drewN | apply below_drew1) | exact HB.out)) hb); clear HB; have HO103 := n0_; have HB := n1_; clear n0_ n1_; clear hb ho3))
  go_loopg [0, 3] k (fun kq v0 v3 w' => ∃ (x0_1 : Int) (x3_1 : List Int), v0 = .int .u64 x0_1 ∧ Aside0 (leb_Uint.l0 kq x0_1 x3_1 = some r) ∧ Aside0 (kq ≤ k) ∧ Aside0 (Kd.R (Kd.int .u8) 5 w' w.heap.size (fun _ => True) v3 x3_1) ∧ Aside0 (Below w.heap.size w w'))
  case atStart => exact ⟨(a0), (y101), (by first | rfl | (simp; done) | (simp [*]; done)), H', ⟨Nat.le_refl _⟩, ⟨by (with_reducible repeat (first | apply Kd.R_alloc | apply Kd.R_drewN | apply Kd.R_drew)); exact HO103.out⟩, ⟨by repeat (first | (with_reducible first | exact HB.out | apply below_alloc | apply pw_below_drewN | apply below_drew1) | exact HB.out)⟩⟩
  case round =>
    clear H'
    try clear c1
    try clear p2
    obtain ⟨x0_1, x3_1, rfl, HA, HK1, HO_3, HB⟩ := hrel
    cases gk with
    | zero => exact absurd HA.out (by simp [leb_Uint.l0])
    | succ k1 =>
      have H := HA.out
      clear HA
      simp only [leb_Uint.l0] at H
      by_cases c4 : x0_1 ≥ 128
      · rw [if_pos c4] at H
        have c4b0 : decide (128 ≤ x0_1) = true := decide_eq_true c4
        clear c4
        by_cases c5 : x3_1.length < 140737488355328
        · rw [if_pos c5] at H
          have LMc5 := Aside0.mk c5
          clear c5
          obtain ⟨y104, hy104⟩ : ∃ y_ : List Int, y_ = (x3_1 ++ [Go.bits .or .u8 ((x0_1) % 256) 128]) := ⟨_, rfl⟩
          replace H : (leb_Uint.l0 k1 (x0_1 / 128) y104) = some r := by first | (rw [hy104]; with_reducible exact H) | (have H2_ := (Option.bind_some _ _).symm.trans H; rw [hy104]; with_reducible exact H2_) | (have H2_ := (Option.bind_some _ _).symm.trans H; with_reducible exact H2_) | with_reducible exact H | (rw [hy104]; exact H) | exact H
          have Ny104 := Aside0.mk hy104
          clear hy104
          have H' := Aside0.mk H
          clear H
          go_wp2_with (first | ((with_reducible refine gate_builtin (b := .append) (xs := #[.tmp 9, .tmp 13]) rfl ?_); at_builtin; refine Kd.R_append (Kd.int .u8) (w0 := w) w.heap.size rfl (.tmp 9) (.tmp 13) 23 5 (.int .u8 0) 1 rfl Try.underlying23 info5 rfl (by decide) (by omega) u3 x3_1 (Go.bits .or .u8 ((x0_1) % 256) 128) [.int .u8 (Go.bits .or .u8 ((x0_1) % 256) 128)] (fun _ => True) (fun _ => False) rfl rfl ?aP (fun _ hk => hk.elim) ?aF ?aO ?aB ?aS ?aL ?_; (case aP => exact rfl); (case aB => exact (by repeat (first | (with_reducible first | exact HB.out | apply below_alloc | apply pw_below_drewN | apply below_drew1) | exact HB.out))); (case aF => exact (fun _ _ => trivial)); (case aO => exact (by (with_reducible repeat (first | apply Kd.R_alloc | apply Kd.R_drewN | apply Kd.R_drew)); exact HO_3.out)); (case aS => exact (below_size (by repeat (first | (with_reducible first | exact HB.out | apply below_alloc | apply pw_below_drewN | apply below_drew1) | exact HB.out)))); (case aL => have := LMc5.out; omega); intro v105 w6 ho hb hg hat; rw [← Ny104.out] at ho; have n0_ := Aside0.mk (hb); have n1_ := Aside0.mk (ho); clear HB; clear HO_3; have HB := n0_; have HO106 := n1_; clear n0_ n1_; clear ho hb hg hat))
          go_roundg k1
          case measure => have := HK1.out; omega
          case rel => exact ⟨(x0_1 / 128), (y104), (by first | rfl | (simp; done) | (simp [*]; done)), H', ⟨by have := HK1.out; omega⟩, ⟨by (with_reducible repeat (first | apply Kd.R_alloc | apply Kd.R_drewN | apply Kd.R_drew)); exact HO106.out⟩, ⟨by repeat (first | (with_reducible first | exact HB.out | apply below_alloc | apply pw_below_drewN | apply below_drew1) | exact HB.out)⟩⟩
        · rw [if_neg c5] at H
          exact absurd H (by simp)
      · rw [if_neg c4] at H
        have c4b0 : decide (128 ≤ x0_1) = false := decide_eq_false c4
        clear c4
        by_cases c7 : x3_1.length < 140737488355328
        · rw [if_pos c7] at H
          have LMc7 := Aside0.mk c7
          clear c7
          obtain ⟨y107, hy107⟩ : ∃ y_ : List Int, y_ = (x3_1 ++ [(x0_1) % 256]) := ⟨_, rfl⟩
          replace H : (some y107) = some r := by first | (rw [hy107]; with_reducible exact H) | (have H2_ := (Option.bind_some _ _).symm.trans H; rw [hy107]; with_reducible exact H2_) | (have H2_ := (Option.bind_some _ _).symm.trans H; with_reducible exact H2_) | with_reducible exact H | (rw [hy107]; exact H) | exact H
          have Ny107 := Aside0.mk hy107
          clear hy107
          obtain rfl := Option.some.inj H
          go_wp2_with (first | ((with_reducible refine gate_builtin (b := .append) (xs := #[.tmp 15, .tmp 18]) rfl ?_); at_builtin; refine Kd.R_append (Kd.int .u8) (w0 := w) w.heap.size rfl (.tmp 15) (.tmp 18) 23 5 (.int .u8 0) 1 rfl Try.underlying23 info5 rfl (by decide) (by omega) u3 x3_1 ((x0_1) % 256) [.int .u8 ((x0_1) % 256)] (fun _ => True) (fun _ => False) rfl rfl ?aP (fun _ hk => hk.elim) ?aF ?aO ?aB ?aS ?aL ?_; (case aP => exact rfl); (case aB => exact (by repeat (first | (with_reducible first | exact HB.out | apply below_alloc | apply pw_below_drewN | apply below_drew1) | exact HB.out))); (case aF => exact (fun _ _ => trivial)); (case aO => exact (by (with_reducible repeat (first | apply Kd.R_alloc | apply Kd.R_drewN | apply Kd.R_drew)); exact HO_3.out)); (case aS => exact (below_size (by repeat (first | (with_reducible first | exact HB.out | apply below_alloc | apply pw_below_drewN | apply below_drew1) | exact HB.out)))); (case aL => have := LMc7.out; omega); intro v108 w8 ho hb hg hat; rw [← Ny107.out] at ho; have n0_ := Aside0.mk (hb); have n1_ := Aside0.mk (ho); clear HB; clear HO_3; have HB := n0_; have HO109 := n1_; clear n0_ n1_; clear ho hb hg hat))
          go_ret
          exact ⟨_, by first | rfl | (simp [errW_none, errW_some] <;> rfl) | (simp [*, errW_none, errW_some] <;> rfl), by (with_reducible repeat (first | apply Kd.R_alloc | apply Kd.R_drewN | apply Kd.R_drew)); exact HO109.out, by repeat (first | (with_reducible first | exact HB.out | apply below_alloc | apply pw_below_drewN | apply below_drew1) | exact HB.out)⟩
        · rw [if_neg c7] at H
          exact absurd H (by simp)

end Go.Proofs.Ytcffooeiennmjaa.PA

-- Written by a program of this session (wip/tools/myprint.py), out of the translation's print. Lean checks it.
namespace Go.Proofs.Ytcffooeiennmjaa.PA
open Go.RowKit Go.Proofs.YtcffooeiennmjaaW.PrintWords Go.Proofs.YtcffooeiennmjaaW.PrintLast Go.Proofs.YtcffooeiennmjaaW.PrintMore
attribute [local go_sem] max2_int min2_int max_two min_two max_three min_three max_four min_four   -- for this text's walks alone
set_option linter.unusedVariables false
set_option linter.unusedSimpArgs false

/-! ### leb_Int: function 18 -/
def leb_Int.l0 : Nat → Int → List Int → Option (List Int)
  | 0, _, _ => none
  | k + 1, x0, x3 => if x0 > 63 then (if x3.length < 140737488355328 then (leb_Int.l0 k (x0 / 128) (x3 ++ [Go.bits .or .u8 ((x0) % 256) 128])) else (none)) else (if x0 < (-64) then (if x3.length < 140737488355328 then (leb_Int.l0 k (x0 / 128) (x3 ++ [Go.bits .or .u8 ((x0) % 256) 128])) else (none)) else (if x3.length < 140737488355328 then (some (x3 ++ [Go.bits .andNot .u8 ((x0) % 256) 128])) else (none)))
def leb_Int.f (k : Nat) (a0 : Int) : Option (List Int) := leb_Int.l0 k a0 (([] : List Int))
theorem leb_Int.mono_l : ∀ k, (∀ y0 y1, LeO (leb_Int.l0 k y0 y1) (leb_Int.l0 (k + 1) y0 y1))
  | 0 => fun _ _ r h => by simp [leb_Int.l0] at h
  | k + 1 => by
    have ih0 := leb_Int.mono_l k
    · intro y0 y1
      unfold leb_Int.l0
      repeat' first
      | (with_reducible exact ih0 _ _)
      | (with_reducible exact LeO.refl _)
      | (with_reducible exact LeO.none _)
      | (with_reducible refine LeO.ite ?_ ?_)
      | (with_reducible refine LeO.bind ?_ (fun _ => ?_))
      | exact ih0 _ _
      | exact LeO.none _
      | refine LeO.ite ?_ ?_
      | refine LeO.bind ?_ (fun _ => ?_)
theorem leb_Int.mono : ∀ a0 k, LeO (leb_Int.f k a0) (leb_Int.f (k + 1) a0) := by
  intro a0 k
  have ih0 := leb_Int.mono_l k
  unfold leb_Int.f
  repeat' first
      | (with_reducible exact ih0 _ _)
      | (with_reducible exact LeO.refl _)
      | (with_reducible exact LeO.none _)
      | (with_reducible refine LeO.ite ?_ ?_)
      | (with_reducible refine LeO.bind ?_ (fun _ => ?_))
      | exact ih0 _ _
      | exact LeO.none _
      | refine LeO.ite ?_ ?_
      | refine LeO.bind ?_ (fun _ => ?_)
set_option maxHeartbeats 8000000 in
set_option maxRecDepth 100000 in
theorem leb_Int.calls (k : Nat) (a0 : Int) (r : List Int) (w : World) (h : leb_Int.f k a0 = some r) :
    Calls Try.prog 18 #[.int .i64 a0] w fun e w' => ∃ v0_ : Value, e = .returned (v0_) ∧ Kd.R (Kd.int .u8) 5 w' w.heap.size (fun _ => True) v0_ r ∧ Below w.heap.size w w' := by
  have HB := Aside0.mk (Below.refl w.heap.size w)
  have H : (leb_Int.l0 k a0 (([] : List Int))) = some r := h
  clear h
  obtain ⟨y110, hy110⟩ : ∃ y_ : List Int, y_ = (([] : List Int)) := ⟨_, rfl⟩
  replace H : (leb_Int.l0 k a0 y110) = some r := by first | (rw [hy110]; with_reducible exact H) | (have H2_ := (Option.bind_some _ _).symm.trans H; rw [hy110]; with_reducible exact H2_) | (have H2_ := (Option.bind_some _ _).symm.trans H; with_reducible exact H2_) | with_reducible exact H | (rw [hy110]; exact H) | exact H
  have Ny110 := Aside0.mk hy110
  clear hy110
  have H' := Aside0.mk H
  clear H
  go_enter Try.func18, Try.ntmps18
  go_wp2_with (first | ((with_reducible refine gate_dst (N := 4) rfl ?_); refine Kd.R_make0 (Kd.int .u8) _ 5 rfl (N := 4) rfl 23 _ _ rfl 10 rfl rfl Try.underlying23 (.int .u8 0) 1 info5 rfl (by decide) (by omega) (ok := fun _ => True) (okp := fun _ => True) (fun _ hk => hk) trivial (by omega) (by omega) (Below.refl _ _) (Nat.le_refl _) ?_; intro v111 w2 ho3 hb hg_ hnew_; clear hg_ hnew_; (first | rw [← Ny110.out] at ho3 | (simp only [Int.reduceToNat] at ho3; rw [← Ny110.out] at ho3)); have n0_ := Aside0.mk (Kd.R_lower ho3 (below_size (by repeat (first | (with_reducible first | exact HB.out | apply below_alloc | apply pw_below_drewN | apply below_drew1) | exact HB.out)))); have n1_ := Aside0.mk (below_step (by repeat (first | (with_reducible first | exact HB.out | apply below_alloc | apply pw_below_drewN | apply below_drew1) | exact HB.out)) hb); clear HB; have HO112 := n0_; have HB := n1_; clear n0_ n1_; clear hb ho3))
  go_loopg [0, 3] k (fun kq v0 v3 w' => ∃ (x0_1 : Int) (x3_1 : List Int), v0 = .int .i64 x0_1 ∧ Aside0 (leb_Int.l0 kq x0_1 x3_1 = some r) ∧ Aside0 (kq ≤ k) ∧ Aside0 (Kd.R (Kd.int .u8) 5 w' w.heap.size (fun _ => True) v3 x3_1) ∧ Aside0 (Below w.heap.size w w'))
  case atStart => exact ⟨(a0), (y110), (by first | rfl | (simp; done) | (simp [*]; done)), H', ⟨Nat.le_refl _⟩, ⟨by (with_reducible repeat (first | apply Kd.R_alloc | apply Kd.R_drewN | apply Kd.R_drew)); exact HO112.out⟩, ⟨by repeat (first | (with_reducible first | exact HB.out | apply below_alloc | apply pw_below_drewN | apply below_drew1) | exact HB.out)⟩⟩
  case round =>
    clear H'
    try clear c1
    try clear p2
    obtain ⟨x0_1, x3_1, rfl, HA, HK1, HO_3, HB⟩ := hrel
    cases gk with
    | zero => exact absurd HA.out (by simp [leb_Int.l0])
    | succ k1 =>
      have H := HA.out
      clear HA
      simp only [leb_Int.l0] at H
      by_cases c4 : x0_1 > 63
      · rw [if_pos c4] at H
        have c4b0 : decide (63 < x0_1) = true := decide_eq_true c4
        clear c4
        by_cases c5 : x3_1.length < 140737488355328
        · rw [if_pos c5] at H
          have LMc5 := Aside0.mk c5
          clear c5
          obtain ⟨y113, hy113⟩ : ∃ y_ : List Int, y_ = (x3_1 ++ [Go.bits .or .u8 ((x0_1) % 256) 128]) := ⟨_, rfl⟩
          replace H : (leb_Int.l0 k1 (x0_1 / 128) y113) = some r := by first | (rw [hy113]; with_reducible exact H) | (have H2_ := (Option.bind_some _ _).symm.trans H; rw [hy113]; with_reducible exact H2_) | (have H2_ := (Option.bind_some _ _).symm.trans H; with_reducible exact H2_) | with_reducible exact H | (rw [hy113]; exact H) | exact H
          have Ny113 := Aside0.mk hy113
          clear hy113
          have H' := Aside0.mk H
          clear H
          go_wp2_with (first | ((with_reducible refine gate_builtin (b := .append) (xs := #[.tmp 13, .tmp 17]) rfl ?_); at_builtin; refine Kd.R_append (Kd.int .u8) (w0 := w) w.heap.size rfl (.tmp 13) (.tmp 17) 23 5 (.int .u8 0) 1 rfl Try.underlying23 info5 rfl (by decide) (by omega) u3 x3_1 (Go.bits .or .u8 ((x0_1) % 256) 128) [.int .u8 (Go.bits .or .u8 ((x0_1) % 256) 128)] (fun _ => True) (fun _ => False) rfl rfl ?aP (fun _ hk => hk.elim) ?aF ?aO ?aB ?aS ?aL ?_; (case aP => exact rfl); (case aB => exact (by repeat (first | (with_reducible first | exact HB.out | apply below_alloc | apply pw_below_drewN | apply below_drew1) | exact HB.out))); (case aF => exact (fun _ _ => trivial)); (case aO => exact (by (with_reducible repeat (first | apply Kd.R_alloc | apply Kd.R_drewN | apply Kd.R_drew)); exact HO_3.out)); (case aS => exact (below_size (by repeat (first | (with_reducible first | exact HB.out | apply below_alloc | apply pw_below_drewN | apply below_drew1) | exact HB.out)))); (case aL => have := LMc5.out; omega); intro v114 w6 ho hb hg hat; rw [← Ny113.out] at ho; have n0_ := Aside0.mk (hb); have n1_ := Aside0.mk (ho); clear HB; clear HO_3; have HB := n0_; have HO115 := n1_; clear n0_ n1_; clear ho hb hg hat))
          go_roundg k1
          case measure => have := HK1.out; omega
          case rel => exact ⟨(x0_1 / 128), (y113), (by first | rfl | (simp; done) | (simp [*]; done)), H', ⟨by have := HK1.out; omega⟩, ⟨by (with_reducible repeat (first | apply Kd.R_alloc | apply Kd.R_drewN | apply Kd.R_drew)); exact HO115.out⟩, ⟨by repeat (first | (with_reducible first | exact HB.out | apply below_alloc | apply pw_below_drewN | apply below_drew1) | exact HB.out)⟩⟩
        · rw [if_neg c5] at H
          exact absurd H (by simp)
      · rw [if_neg c4] at H
        have c4b0 : decide (63 < x0_1) = false := decide_eq_false c4
        clear c4
        by_cases c7 : x0_1 < (-64)
        · rw [if_pos c7] at H
          have c7b0 : decide (x0_1 < (-64)) = true := decide_eq_true c7
          clear c7
          by_cases c8 : x3_1.length < 140737488355328
          · rw [if_pos c8] at H
            have LMc8 := Aside0.mk c8
            clear c8
            obtain ⟨y116, hy116⟩ : ∃ y_ : List Int, y_ = (x3_1 ++ [Go.bits .or .u8 ((x0_1) % 256) 128]) := ⟨_, rfl⟩
            replace H : (leb_Int.l0 k1 (x0_1 / 128) y116) = some r := by first | (rw [hy116]; with_reducible exact H) | (have H2_ := (Option.bind_some _ _).symm.trans H; rw [hy116]; with_reducible exact H2_) | (have H2_ := (Option.bind_some _ _).symm.trans H; with_reducible exact H2_) | with_reducible exact H | (rw [hy116]; exact H) | exact H
            have Ny116 := Aside0.mk hy116
            clear hy116
            have H' := Aside0.mk H
            clear H
            go_wp2_with (first | ((with_reducible refine gate_builtin (b := .append) (xs := #[.tmp 13, .tmp 17]) rfl ?_); at_builtin; refine Kd.R_append (Kd.int .u8) (w0 := w) w.heap.size rfl (.tmp 13) (.tmp 17) 23 5 (.int .u8 0) 1 rfl Try.underlying23 info5 rfl (by decide) (by omega) u3 x3_1 (Go.bits .or .u8 ((x0_1) % 256) 128) [.int .u8 (Go.bits .or .u8 ((x0_1) % 256) 128)] (fun _ => True) (fun _ => False) rfl rfl ?aP (fun _ hk => hk.elim) ?aF ?aO ?aB ?aS ?aL ?_; (case aP => exact rfl); (case aB => exact (by repeat (first | (with_reducible first | exact HB.out | apply below_alloc | apply pw_below_drewN | apply below_drew1) | exact HB.out))); (case aF => exact (fun _ _ => trivial)); (case aO => exact (by (with_reducible repeat (first | apply Kd.R_alloc | apply Kd.R_drewN | apply Kd.R_drew)); exact HO_3.out)); (case aS => exact (below_size (by repeat (first | (with_reducible first | exact HB.out | apply below_alloc | apply pw_below_drewN | apply below_drew1) | exact HB.out)))); (case aL => have := LMc8.out; omega); intro v117 w9 ho hb hg hat; rw [← Ny116.out] at ho; have n0_ := Aside0.mk (hb); have n1_ := Aside0.mk (ho); clear HB; clear HO_3; have HB := n0_; have HO118 := n1_; clear n0_ n1_; clear ho hb hg hat))
            go_roundg k1
            case measure => have := HK1.out; omega
            case rel => exact ⟨(x0_1 / 128), (y116), (by first | rfl | (simp; done) | (simp [*]; done)), H', ⟨by have := HK1.out; omega⟩, ⟨by (with_reducible repeat (first | apply Kd.R_alloc | apply Kd.R_drewN | apply Kd.R_drew)); exact HO118.out⟩, ⟨by repeat (first | (with_reducible first | exact HB.out | apply below_alloc | apply pw_below_drewN | apply below_drew1) | exact HB.out)⟩⟩
          · rw [if_neg c8] at H
            exact absurd H (by simp)
        · rw [if_neg c7] at H
          have c7b0 : decide (x0_1 < (-64)) = false := decide_eq_false c7
          clear c7
          by_cases c10 : x3_1.length < 140737488355328
          · rw [if_pos c10] at H
            have LMc10 := Aside0.mk c10
            clear c10
            obtain ⟨y119, hy119⟩ : ∃ y_ : List Int, y_ = (x3_1 ++ [Go.bits .andNot .u8 ((x0_1) % 256) 128]) := ⟨_, rfl⟩
            replace H : (some y119) = some r := by first | (rw [hy119]; with_reducible exact H) | (have H2_ := (Option.bind_some _ _).symm.trans H; rw [hy119]; with_reducible exact H2_) | (have H2_ := (Option.bind_some _ _).symm.trans H; with_reducible exact H2_) | with_reducible exact H | (rw [hy119]; exact H) | exact H
            have Ny119 := Aside0.mk hy119
            clear hy119
            obtain rfl := Option.some.inj H
            go_wp2_with (first | ((with_reducible refine gate_builtin (b := .append) (xs := #[.tmp 19, .tmp 23]) rfl ?_); at_builtin; refine Kd.R_append (Kd.int .u8) (w0 := w) w.heap.size rfl (.tmp 19) (.tmp 23) 23 5 (.int .u8 0) 1 rfl Try.underlying23 info5 rfl (by decide) (by omega) u3 x3_1 (Go.bits .andNot .u8 ((x0_1) % 256) 128) [.int .u8 (Go.bits .andNot .u8 ((x0_1) % 256) 128)] (fun _ => True) (fun _ => False) rfl rfl ?aP (fun _ hk => hk.elim) ?aF ?aO ?aB ?aS ?aL ?_; (case aP => exact rfl); (case aB => exact (by repeat (first | (with_reducible first | exact HB.out | apply below_alloc | apply pw_below_drewN | apply below_drew1) | exact HB.out))); (case aF => exact (fun _ _ => trivial)); (case aO => exact (by (with_reducible repeat (first | apply Kd.R_alloc | apply Kd.R_drewN | apply Kd.R_drew)); exact HO_3.out)); (case aS => exact (below_size (by repeat (first | (with_reducible first | exact HB.out | apply below_alloc | apply pw_below_drewN | apply below_drew1) | exact HB.out)))); (case aL => have := LMc10.out; omega); intro v120 w11 ho hb hg hat; rw [← Ny119.out] at ho; have n0_ := Aside0.mk (hb); have n1_ := Aside0.mk (ho); clear HB; clear HO_3; have HB := n0_; have HO121 := n1_; clear n0_ n1_; clear ho hb hg hat))
            go_ret
            exact ⟨_, by first | rfl | (simp [errW_none, errW_some] <;> rfl) | (simp [*, errW_none, errW_some] <;> rfl), by (with_reducible repeat (first | apply Kd.R_alloc | apply Kd.R_drewN | apply Kd.R_drew)); exact HO121.out, by repeat (first | (with_reducible first | exact HB.out | apply below_alloc | apply pw_below_drewN | apply below_drew1) | exact HB.out)⟩
          · rw [if_neg c10] at H
            exact absurd H (by simp)

end Go.Proofs.Ytcffooeiennmjaa.PA

-- Written by a program of this session (wip/tools/myprint.py), out of the translation's print. Lean checks it.
namespace Go.Proofs.Ytcffooeiennmjaa.PA
open Go.RowKit Go.Proofs.YtcffooeiennmjaaW.PrintWords Go.Proofs.YtcffooeiennmjaaW.PrintLast Go.Proofs.YtcffooeiennmjaaW.PrintMore
attribute [local go_sem] max2_int min2_int max_two min_two max_three min_three max_four min_four   -- for this text's walks alone
set_option linter.unusedVariables false
set_option linter.unusedSimpArgs false

/-! ### leb_GetText: function 24 -/
def leb_GetText.j0 : Nat → List Int → Int → Int → Bool → Option (ByteArray × Int × Int)
  | 0, _, _, _, _ => none
  | k + 1, x0, x7, x8, x19 => if x19 = true then (some ((⟨#[]⟩ : ByteArray), 0, 5)) else (if x7 > (IntKind.u64.wrap (wrap64 ((x0.length : Int) - x8))) then (some ((⟨#[]⟩ : ByteArray), 0, 3)) else (if 0 ≤ x8 then (if x8 ≤ (wrap64 (x8 + (wrap64 (x7)))) then (if (wrap64 (x8 + (wrap64 (x7)))) ≤ (x0.length : Int) then (some (strOfNums ((x0.take ((wrap64 (x8 + (wrap64 (x7)))) : Int).toNat).drop (x8 : Int).toNat), wrap64 (x8 + (wrap64 (x7))), 0)) else (none)) else (none)) else (none)))
def leb_GetText.f (k : Nat) (l0 : List Int) (a1 : Int) : Option (ByteArray × Int × Int) := (leb_GetUint.f k l0).bind fun bt187 => (if bt187.2.2 = 0 then (if a1 < 0 then (leb_GetText.j0 k l0 bt187.1 bt187.2.1 true) else (leb_GetText.j0 k l0 bt187.1 bt187.2.1 (decide (bt187.1 > (IntKind.u64.wrap (a1)))))) else (some ((⟨#[]⟩ : ByteArray), 0, bt187.2.2)))
theorem leb_GetText.mono_l : ∀ k, (∀ y0 y1 y2 y3, LeO (leb_GetText.j0 k y0 y1 y2 y3) (leb_GetText.j0 (k + 1) y0 y1 y2 y3))
  | 0 => fun _ _ _ _ r h => by simp [leb_GetText.j0] at h
  | k + 1 => by
    have ih0 := leb_GetText.mono_l k
    · intro y0 y1 y2 y3
      unfold leb_GetText.j0
      repeat' first
      | (with_reducible exact ih0 _ _ _ _)
      | (with_reducible exact leb_GetUint.mono _ _)
      | (with_reducible exact LeO.refl _)
      | (with_reducible exact LeO.none _)
      | (with_reducible refine LeO.ite ?_ ?_)
      | (with_reducible refine LeO.bind ?_ (fun _ => ?_))
      | exact ih0 _ _ _ _
      | exact leb_GetUint.mono _ _
      | exact LeO.none _
      | refine LeO.ite ?_ ?_
      | refine LeO.bind ?_ (fun _ => ?_)
theorem leb_GetText.mono : ∀ a0 a1 k, LeO (leb_GetText.f k a0 a1) (leb_GetText.f (k + 1) a0 a1) := by
  intro a0 a1 k
  have ih0 := leb_GetText.mono_l k
  unfold leb_GetText.f
  repeat' first
      | (with_reducible exact ih0 _ _ _ _)
      | (with_reducible exact leb_GetUint.mono _ _)
      | (with_reducible exact LeO.refl _)
      | (with_reducible exact LeO.none _)
      | (with_reducible refine LeO.ite ?_ ?_)
      | (with_reducible refine LeO.bind ?_ (fun _ => ?_))
      | exact ih0 _ _ _ _
      | exact leb_GetUint.mono _ _
      | exact LeO.none _
      | refine LeO.ite ?_ ?_
      | refine LeO.bind ?_ (fun _ => ?_)
set_option maxHeartbeats 8000000 in
set_option maxRecDepth 100000 in
theorem leb_GetText.calls (k : Nat) (A0 : Option Addr) (c0 : Nat) (l0 : List Int) (a1 : Int) (r1 : ByteArray) (r2 : Int) (r3 : Int) (w : World) (hr0 : Kd.C (Kd.int .u8) w A0 l0.length l0) (hc0 : l0.length ≤ c0) (h : leb_GetText.f k l0 a1 = some (r1, r2, r3)) :
    Calls Try.prog 24 #[.slice A0 l0.length c0, .int .i64 a1] w fun e w' => e = .returned (.tuple #[.string r1, .int .i64 r2, .int .i64 r3]) ∧ Drawn0 w w' := by
  have HR0 := Aside0.mk hr0
  have HC0 := Aside0.mk hc0
  clear hr0 hc0
  have H : ((leb_GetUint.f k l0).bind fun bt187 => (if bt187.2.2 = 0 then (if a1 < 0 then (leb_GetText.j0 k l0 bt187.1 bt187.2.1 true) else (leb_GetText.j0 k l0 bt187.1 bt187.2.1 (decide (bt187.1 > (IntKind.u64.wrap (a1)))))) else (some ((⟨#[]⟩ : ByteArray), 0, bt187.2.2)))) = some (r1, r2, r3) := h
  clear h
  replace H := Option.bind_eq_some_iff.mp H
  obtain ⟨⟨t187, t188, t189⟩, A30, H⟩ := H
  replace H : (if t189 = 0 then (if a1 < 0 then (leb_GetText.j0 k l0 t187 t188 true) else (leb_GetText.j0 k l0 t187 t188 (decide (t187 > (IntKind.u64.wrap (a1)))))) else (some ((⟨#[]⟩ : ByteArray), 0, t189))) = some (r1, r2, r3) := H
  have A3 := Aside0.mk A30
  clear A30
  by_cases c4 : t189 = 0
  · rw [if_pos c4] at H
    have c4b0 : (t189 == 0) = true := beq_iff_eq.mpr c4
    have c4b1 : (t189 != 0) = false := bne_eq_false_iff_eq.mpr c4
    clear c4
    have HC5 := Aside0.mk H
    clear H
    go_enter Try.func24, Try.ntmps24
    go_upto_region 4 with (first | ((with_reducible refine gate_callee (f := 22) rfl ?_); refine goesL_ (some 11) rfl rfl Try.func22 (by kernel_rfl) rfl #[.slice A0 l0.length c0] rfl (by (try simp only [List.map_toArray, List.map_cons, List.map_nil]); first | done | rfl | (simp only [List.length_drop, List.length_take]; rfl)) ?_; (with_reducible refine (leb_GetUint.calls k _ _ l0 t187 t188 t189 _ ?side1 ?side2 A3.out).mono ?_); (case side1 => repeat (first | exact HR0.out | (with_reducible refine Kd.C_alloc ?_ _) | (with_reducible refine Kd.C_drewN ?_ _) | (with_reducible refine Kd.C_drew ?_))); (case side2 => exact HC0.out); rintro e w' ⟨rfl, ⟨nd, rfl⟩⟩; refine ⟨_, rfl, ?_⟩))
    (try simp only [Act.put, List.setIfInBounds_toArray, List.set_cons_zero, List.set_cons_succ])
    go_cut [19] (fun v19 wc => ∃ (kq : Nat) (x19_4 : Bool), v19 = .bool x19_4 ∧ Aside0 (leb_GetText.j0 kq l0 t187 t188 x19_4 = some (r1, r2, r3)) ∧ Aside0 (kq ≤ k) ∧ Drawn0 w wc)
    case first =>
      have H := HC5.out
      clear HC5
      by_cases c6 : a1 < 0
      · rw [if_pos c6] at H
        have c6b0 : decide (a1 < 0) = true := decide_eq_true c6
        clear c6
        (first | rw [c6b0] | (simp only [i64_w, i32_w]; rw [c6b0]) | skip)
        have H' := Aside0.mk H
        clear H
        go_wp2
        go_meet
        case rel => exact ⟨_, (true), (by first | rfl | (simp; done) | (simp [*]; done)), H', ⟨by first | omega | exact Nat.le_refl _⟩, by repeat (first | exact Drawn0.refl _ | apply Drawn0.step)⟩
      · rw [if_neg c6] at H
        have c6b0 : decide (a1 < 0) = false := decide_eq_false c6
        clear c6
        (first | rw [c6b0] | (simp only [i64_w, i32_w]; rw [c6b0]) | skip)
        have H' := Aside0.mk H
        clear H
        go_wp2
        go_meet
        case rel => exact ⟨_, (decide (t187 > (IntKind.u64.wrap (a1)))), (by first | rfl | (simp; done) | (simp [*]; done)), H', ⟨by first | omega | exact Nat.le_refl _⟩, by repeat (first | exact Drawn0.refl _ | apply Drawn0.step)⟩
    case rest =>
      clear HC5
      try clear c2
      try clear p2
      try clear c4
      try clear c4b0
      try clear c4b1
      try clear c6
      try clear c6b0
      obtain ⟨kq, x19_4, rfl, HA, HJ4, ⟨mc4, rfl⟩⟩ := hcut
      cases kq with
      | zero => exact absurd HA.out (by simp [leb_GetText.j0])
      | succ kj4 =>
        have H := HA.out
        clear HA
        simp only [leb_GetText.j0] at H
        by_cases c7 : x19_4 = true
        · subst c7
          have H1 : (some ((⟨#[]⟩ : ByteArray), 0, 5)) = some (r1, r2, r3) := by rw [if_pos rfl] at H; exact H
          clear H
          have H := H1
          clear H1
          simp only [Option.some.injEq, Prod.mk.injEq] at H
          obtain ⟨rfl, rfl, rfl⟩ := H
          go_wp2
          go_ret3
          exact ⟨by first | rfl | (simp; done) | (simp [*]; done), by repeat (first | exact Drawn0.refl _ | apply Drawn0.step)⟩
        · replace c7 := Bool.eq_false_iff.mpr c7
          subst c7
          have H1 : (if t187 > (IntKind.u64.wrap (wrap64 ((l0.length : Int) - t188))) then (some ((⟨#[]⟩ : ByteArray), 0, 3)) else (if 0 ≤ t188 then (if t188 ≤ (wrap64 (t188 + (wrap64 (t187)))) then (if (wrap64 (t188 + (wrap64 (t187)))) ≤ (l0.length : Int) then (some (strOfNums ((l0.take ((wrap64 (t188 + (wrap64 (t187)))) : Int).toNat).drop (t188 : Int).toNat), wrap64 (t188 + (wrap64 (t187))), 0)) else (none)) else (none)) else (none))) = some (r1, r2, r3) := by rw [if_neg (show ¬ (false = true) by decide)] at H; exact H
          clear H
          have H := H1
          clear H1
          by_cases c8 : t187 > (IntKind.u64.wrap (wrap64 ((l0.length : Int) - t188)))
          · rw [if_pos c8] at H
            have c8b0 : decide ((IntKind.u64.wrap (wrap64 ((l0.length : Int) - t188))) < t187) = true := decide_eq_true c8
            clear c8
            simp only [Option.some.injEq, Prod.mk.injEq] at H
            obtain ⟨rfl, rfl, rfl⟩ := H
            go_wp2
            go_ret3
            exact ⟨by first | rfl | (simp; done) | (simp [*]; done), by repeat (first | exact Drawn0.refl _ | apply Drawn0.step)⟩
          · rw [if_neg c8] at H
            have c8b0 : decide ((IntKind.u64.wrap (wrap64 ((l0.length : Int) - t188))) < t187) = false := decide_eq_false c8
            clear c8
            by_cases c9 : 0 ≤ t188
            · rw [if_pos c9] at H
              have c9b0 := eq_true c9
              have c9b1 : decide (0 ≤ t188) = true := decide_eq_true c9
              clear c9
              by_cases c10 : t188 ≤ (wrap64 (t188 + (wrap64 (t187))))
              · rw [if_pos c10] at H
                have c10b0 := eq_true c10
                have c10b1 : decide (t188 ≤ (wrap64 (t188 + (wrap64 (t187))))) = true := decide_eq_true c10
                by_cases c11 : (wrap64 (t188 + (wrap64 (t187)))) ≤ (l0.length : Int)
                · rw [if_pos c11] at H
                  have c11b0 := eq_true c11
                  have c11b1 : decide ((wrap64 (t188 + (wrap64 (t187)))) ≤ (l0.length : Int)) = true := decide_eq_true c11
                  simp only [Option.some.injEq, Prod.mk.injEq] at H
                  obtain ⟨rfl, rfl, rfl⟩ := H
                  obtain ⟨i012, hi012, _, hsz12, _⟩ := info_parts info5
                  obtain ⟨A12, hcut12, hA12, hC12⟩ := print_mid_of (P := Try.prog) (Value.int .u8) 0 23 5 .i64 .i64 Try.underlying23 hi012 hsz12 A0 c0 l0 t188 (wrap64 (t188 + (wrap64 (t187)))) (of_decide_eq_true (by first | (with_reducible assumption) | assumption)) (by first | omega | exact of_decide_eq_true (by first | (with_reducible assumption) | assumption)) (of_decide_eq_true (by first | (with_reducible assumption) | assumption)) HC0.out
                  have HR190 := Aside0.mk (Kd.C_of_reads (h1 := fun _ => rfl) (hA12 _ (Kd.reads_of_C HR0.out)))
                  have HC190 := Aside0.mk hC12
                  clear hA12 hC12 hi012 hsz12
                  have hcv13 := Kd.C_string (P := Try.prog) (A := A12) (c := (c0 - t188.toNat)) Try.underlying23 Try.underlying5 Try.underlying9 HR190.out
                  have hcd13 := fun m_ : Nat => Kd.C_string (P := Try.prog) (A := A12) (c := (c0 - t188.toNat)) Try.underlying23 Try.underlying5 Try.underlying9 (Kd.C_drewN HR190.out m_)
                  have hlc13 := (show ((l0.take ((wrap64 (t188 + (wrap64 (t187)))) : Int).toNat).drop (t188 : Int).toNat).length = ((wrap64 (t188 + (wrap64 (t187)))).toNat - t188.toNat) from (by rw [List.length_drop, List.length_take]; have h_ : ((wrap64 (t188 + (wrap64 (t187)))) : Int) ≤ (l0.length : Int) := of_decide_eq_true (by first | (with_reducible assumption) | assumption); omega))
                  rw [hlc13] at hcv13
                  simp only [hlc13] at hcd13
                  clear hlc13
                  go_wp2
                  go_ret3
                  exact ⟨by first | rfl | (simp; done) | (simp [*]; done), by repeat (first | exact Drawn0.refl _ | apply Drawn0.step)⟩
                · rw [if_neg c11] at H
                  exact absurd H (by simp)
              · rw [if_neg c10] at H
                exact absurd H (by simp)
            · rw [if_neg c9] at H
              exact absurd H (by simp)
  · rw [if_neg c4] at H
    have c4b0 : (t189 == 0) = false := beq_eq_false_iff_ne.mpr c4
    have c4b1 : (t189 != 0) = true := bne_iff_ne.mpr c4
    simp only [Option.some.injEq, Prod.mk.injEq] at H
    obtain ⟨rfl, rfl, rfl⟩ := H
    go_enter Try.func24, Try.ntmps24
    go_wp2_with (first | ((with_reducible refine gate_callee (f := 22) rfl ?_); refine goesL_ (some 11) rfl rfl Try.func22 (by kernel_rfl) rfl #[.slice A0 l0.length c0] rfl (by (try simp only [List.map_toArray, List.map_cons, List.map_nil]); first | done | rfl | (simp only [List.length_drop, List.length_take]; rfl)) ?_; (with_reducible refine (leb_GetUint.calls k _ _ l0 t187 t188 t189 _ ?side1 ?side2 A3.out).mono ?_); (case side1 => repeat (first | exact HR0.out | (with_reducible refine Kd.C_alloc ?_ _) | (with_reducible refine Kd.C_drewN ?_ _) | (with_reducible refine Kd.C_drew ?_))); (case side2 => exact HC0.out); rintro e w' ⟨rfl, ⟨nd, rfl⟩⟩; refine ⟨_, rfl, ?_⟩))
    go_ret3
    exact ⟨by first | rfl | (simp; done) | (simp [*]; done), by repeat (first | exact Drawn0.refl _ | apply Drawn0.step)⟩

end Go.Proofs.Ytcffooeiennmjaa.PA

-- Written by a program of this session (wip/tools/myprint.py), out of the translation's print. Lean checks it.
namespace Go.Proofs.Ytcffooeiennmjaa.PA
open Go.RowKit Go.Proofs.YtcffooeiennmjaaW.PrintWords Go.Proofs.YtcffooeiennmjaaW.PrintLast Go.Proofs.YtcffooeiennmjaaW.PrintMore
attribute [local go_sem] max2_int min2_int max_two min_two max_three min_three max_four min_four   -- for this text's walks alone
set_option linter.unusedVariables false
set_option linter.unusedSimpArgs false

/-! ### leb_Text: function 20 -/
def leb_Text.f (k : Nat) (a0 : ByteArray) : Option (List Int) := (leb_Uint.f k (IntKind.u64.wrap ((a0.size : Int)))).bind fun t154 => (if t154.length + a0.size < 140737488355328 then (some (t154 ++ bytesOf a0)) else (none))
theorem leb_Text.mono : ∀ a0 k, LeO (leb_Text.f k a0) (leb_Text.f (k + 1) a0) := by
  intro a0 k
  unfold leb_Text.f
  repeat' first
      | (with_reducible exact leb_Uint.mono _ _)
      | (with_reducible exact LeO.refl _)
      | (with_reducible exact LeO.none _)
      | (with_reducible refine LeO.ite ?_ ?_)
      | (with_reducible refine LeO.bind ?_ (fun _ => ?_))
      | exact leb_Uint.mono _ _
      | exact LeO.none _
      | refine LeO.ite ?_ ?_
      | refine LeO.bind ?_ (fun _ => ?_)
set_option maxHeartbeats 8000000 in
set_option maxRecDepth 100000 in
theorem leb_Text.calls (k : Nat) (a0 : ByteArray) (r : List Int) (w : World) (h : leb_Text.f k a0 = some r) :
    Calls Try.prog 20 #[.string a0] w fun e w' => ∃ v0_ : Value, e = .returned (v0_) ∧ Kd.R (Kd.int .u8) 5 w' w.heap.size (fun _ => True) v0_ r ∧ Below w.heap.size w w' := by
  have HB := Aside0.mk (Below.refl w.heap.size w)
  have H : ((leb_Uint.f k (IntKind.u64.wrap ((a0.size : Int)))).bind fun t154 => (if t154.length + a0.size < 140737488355328 then (some (t154 ++ bytesOf a0)) else (none))) = some r := h
  clear h
  replace H := Option.bind_eq_some_iff.mp H
  obtain ⟨t154, A20, H⟩ := H
  replace H : (if t154.length + a0.size < 140737488355328 then (some (t154 ++ bytesOf a0)) else (none)) = some r := H
  have A2 := Aside0.mk A20
  clear A20
  by_cases c3 : t154.length + a0.size < 140737488355328
  · rw [if_pos c3] at H
    have LMc3 := Aside0.mk c3
    clear c3
    obtain ⟨y157, hy157⟩ : ∃ y_ : List Int, y_ = (t154 ++ bytesOf a0) := ⟨_, rfl⟩
    replace H : (some y157) = some r := by first | (rw [hy157]; with_reducible exact H) | (have H2_ := (Option.bind_some _ _).symm.trans H; rw [hy157]; with_reducible exact H2_) | (have H2_ := (Option.bind_some _ _).symm.trans H; with_reducible exact H2_) | with_reducible exact H | (rw [hy157]; exact H) | exact H
    have Ny157 := Aside0.mk hy157
    clear hy157
    obtain rfl := Option.some.inj H
    go_enter Try.func20, Try.ntmps20
    go_wp2_with (first | ((with_reducible refine gate_callee (f := 15) rfl ?_); refine goesL_ (some 6) rfl rfl Try.func15 (by kernel_rfl) rfl #[.int .u64 (IntKind.u64.wrap ((a0.size : Int)))] rfl (by (try simp only [List.map_toArray, List.map_cons, List.map_nil]); first | done | rfl | (simp only [List.length_drop, List.length_take]; rfl)) ?_; (with_reducible refine (leb_Uint.calls k (IntKind.u64.wrap ((a0.size : Int))) t154 _ A2.out).mono ?_); rintro e w4 ⟨v155, rfl, ho0, hb⟩; refine ⟨_, rfl, ?_⟩; have n0_ := Aside0.mk (Kd.R_lower ho0 (below_size (by repeat (first | (with_reducible first | exact HB.out | apply below_alloc | apply pw_below_drewN | apply below_drew1) | exact HB.out)))); have n1_ := Aside0.mk (below_step (by repeat (first | (with_reducible first | exact HB.out | apply below_alloc | apply pw_below_drewN | apply below_drew1) | exact HB.out)) hb); clear HB; have HO156 := n0_; have HB := n1_; clear n0_ n1_; (try clear hb); (try clear hb2); (try clear hk); (try clear hi); (try clear ho0)) | (at_builtin; refine print_append_str (w0 := w) w.heap.size rfl (.tmp 6) _ 23 9 5 rfl Try.underlying23 Try.underlying9 info5 v155 t154 a0 rfl rfl ?aO ?aB ?aS ?aL ?_; (case aB => exact (by repeat (first | (with_reducible first | exact HB.out | apply below_alloc | apply pw_below_drewN | apply below_drew1) | exact HB.out))); (case aO => exact (Kd.own_of_R (by (with_reducible repeat (first | apply Kd.R_alloc | apply Kd.R_drewN | apply Kd.R_drew)); exact HO156.out))); (case aS => exact (below_size (by repeat (first | (with_reducible first | exact HB.out | apply below_alloc | apply pw_below_drewN | apply below_drew1) | exact HB.out)))); (case aL => have := LMc3.out; omega); intro v158 w5 ho0 hb hg; have ho := Kd.R_of_own (h1 := fun _ => rfl) (ok := fun _ => True) ho0 (fun _ _ => trivial); clear ho0; have hat := True.intro; rw [← Ny157.out] at ho; change Kd.R (Kd.int .u8) 5 w5 w.heap.size (fun _ => True) v158 y157 at ho; have n0_ := Aside0.mk (hb); have n1_ := Aside0.mk (ho); clear HB; clear HO156; have HB := n0_; have HO159 := n1_; clear n0_ n1_; clear ho hb hg hat))
    go_ret
    exact ⟨_, by first | rfl | (simp [errW_none, errW_some] <;> rfl) | (simp [*, errW_none, errW_some] <;> rfl), by (with_reducible repeat (first | apply Kd.R_alloc | apply Kd.R_drewN | apply Kd.R_drew)); exact HO159.out, by repeat (first | (with_reducible first | exact HB.out | apply below_alloc | apply pw_below_drewN | apply below_drew1) | exact HB.out)⟩
  · rw [if_neg c3] at H
    exact absurd H (by simp)

end Go.Proofs.Ytcffooeiennmjaa.PA

/- What leb's functions compute is what the plain theory says. -/
set_option linter.unusedVariables false
set_option linter.unusedSimpArgs false
namespace Go.Proofs.Ytcffooeiennmjaa.LebP
open Go.RowKit Go.Proofs.Ytcffooeiennmjaa.PA Go.Proofs.YtcffooeiennmjaaW.PrintWords Go.Proofs.YtcffooeiennmjaaW.PrintLast Go.Proofs.YtcffooeiennmjaaW.PrintMore Go.Proofs.Ytcffooeiennmjaa.LebT
theorem nat_or128 : ∀ a : Fin 256, (a.val ||| 128) = a.val % 128 + 128 := by decide +kernel
theorem nat_and127 : ∀ a : Fin 256, (a.val &&& 127) = a.val % 128 := by decide +kernel
theorem nat_and64 : ∀ a : Fin 256, (a.val &&& 64) = if 64 ≤ a.val % 128 then 64 else 0 := by decide +kernel
theorem or128 (x : Int) (h0 : 0 ≤ x) (h1 : x < 256) : Go.bits .or .u8 x 128 = x % 128 + 128 := by
  rw [u8_or x 128 h0 h1 (by omega) (by omega)]
  have := nat_or128 ⟨x.toNat, by omega⟩
  simp only at this
  rw [show (128 : Int).toNat = 128 from rfl, this]; omega
theorem andNot128 (x : Int) (h0 : 0 ≤ x) (h1 : x < 256) : Go.bits .andNot .u8 x 128 = x % 128 := by
  rw [u8_andNot x 128 h0 h1 (by omega) (by omega)]
  have := nat_and127 ⟨x.toNat, by omega⟩
  simp only at this
  rw [show (255 - (128 : Int).toNat) = 127 from rfl, this]; omega
theorem and64 (x : Int) (h0 : 0 ≤ x) (h1 : x < 256) : Go.bits .and .u8 x 64 = if 64 ≤ x % 128 then 64 else 0 := by
  rw [u8_and x 64 h0 h1 (by omega) (by omega)]
  have := nat_and64 ⟨x.toNat, by omega⟩
  simp only at this
  rw [show (64 : Int).toNat = 64 from rfl, this]
  split <;> split <;> omega
theorem uint_l0 (d : Nat) : ∀ (k : Nat) (x : Int) (acc : List Int), 0 ≤ x → x.toNat < 128 ^ (d + 1) → d < k → acc.length + d < 140737488355328 → leb_Uint.l0 k x acc = some (acc ++ putU x.toNat) := by
  induction d with
  | zero =>
    intro k x acc h0 h1 hk ha
    obtain ⟨k, rfl⟩ : ∃ m, k = m + 1 := ⟨k - 1, by omega⟩
    simp only [leb_Uint.l0]
    rw [if_neg (by omega), if_pos (by omega), putU_small (by omega)]
    congr 3; omega
  | succ d ih =>
    intro k x acc h0 h1 hk ha
    obtain ⟨k, rfl⟩ : ∃ m, k = m + 1 := ⟨k - 1, by omega⟩
    simp only [leb_Uint.l0]
    by_cases hs : x ≥ 128
    · rw [if_pos hs, if_pos (by omega), ih k (x / 128) _ (by omega) (by
        rw [show (x / 128).toNat = x.toNat / 128 by omega, Nat.div_lt_iff_lt_mul (by omega), ← Nat.pow_succ]; exact h1) (by omega) (by simp; omega)]
      rw [putU_big (n := x.toNat) (by omega), or128 _ (by omega) (by omega), List.append_assoc]
      congr 2
      simp only [List.cons_append, List.nil_append]
      congr 1
      · omega
      · congr 1; omega
    · rw [if_neg hs, if_pos (by omega), putU_small (by omega)]
      congr 3; omega
theorem uint_f {k : Nat} (hk : 10 ≤ k) {a : Int} (h0 : 0 ≤ a) (h1 : a < 18446744073709551616) : leb_Uint.f k a = some (putU a.toNat) := by
  unfold leb_Uint.f
  rw [uint_l0 9 k a [] h0 (by omega) (by omega) (by simp)]
  simp
theorem pow7 (i : Nat) : 128 ^ i = 2 ^ (7 * i) := by rw [Nat.pow_mul]
theorem pow7i (i : Nat) : (128 : Int) ^ i = 2 ^ (7 * i) := by rw [Int.pow_mul]; rfl
theorem rd_drop (b : List Int) (i : Nat) (h : i < b.length) : b.drop i = rd b (i : Int) :: b.drop (i + 1) := by
  rw [List.drop_eq_getElem_cons h]
  simp [rd, List.getD_eq_getElem?_getD, List.getElem?_eq_getElem h]
theorem rd_mem (b : List Int) (i : Nat) (h : i < b.length) : rd b (i : Int) ∈ b := by
  simp [rd, List.getD_eq_getElem?_getD, List.getElem?_eq_getElem h]
theorem count7 (i : Nat) (h : i ≤ 1000) : IntKind.u64.wrap (wrap64 (7 * (i : Int))) = ((7 * i : Nat) : Int) := by
  rw [IntKind.wrap_u64]; unfold wrap64; omega
theorem join_u64 (i n c : Nat) (hn : n < 128 ^ i) (hc : c * 128 ^ i < 18446744073709551616) (hi : i ≤ 9) : Go.bits .or .u64 (n : Int) (shl .u64 (c : Int) ((7 * i : Nat) : Int)) = ((n + c * 128 ^ i : Nat) : Int) := by
  have e1 : shl .u64 (c : Int) ((7 * i : Nat) : Int) = ((c * 128 ^ i : Nat) : Int) := by
    unfold shl
    rw [show min (((7 * i : Nat) : Int)).toNat IntKind.u64.bits = 7 * i by rw [Int.toNat_natCast]; exact Nat.min_eq_left (by show 7 * i ≤ 64; omega), ← pow7i, ← pow_cast, ← Int.natCast_mul, IntKind.wrap_u64]
    omega
  rw [e1, u64_or_nat _ _ (by
    have : 128 ^ i ≤ 128 ^ 9 := Nat.pow_le_pow_right (by omega) hi
    omega) hc, Nat.or_comm, nat_join (7 * i) _ _ (by rw [pow7]; exact Nat.mul_mod_left _ _) (by rw [← pow7]; exact hn)]
  congr 1; omega
theorem getU_j1 (b : List Int) (L : Int) (i n : Nat) (x : Int) (hx : isByte x) (hi : i ≤ 9) (h9 : i = 9 → x ≤ 1) (hn : n < 128 ^ i) (k : Nat) :
    leb_GetUint.j1 (k + 1) (n : Int) (i : Int) x b L (i : Int) false = if x < 128 then some (((n + x.toNat * 128 ^ i : Nat) : Int), (i : Int) + 1, 0) else leb_GetUint.l0 k ((n + x.toNat % 128 * 128 ^ i : Nat) : Int) b L ((i : Int) + 1) := by
  unfold isByte at hx
  simp only [leb_GetUint.j1]
  rw [if_neg (by decide), count7 i (by omega), if_pos (by omega), andNot128 x hx.1 hx.2]
  have e1 : IntKind.u64.wrap (x % 128) = ((x.toNat % 128 : Nat) : Int) := by rw [IntKind.wrap_u64]; omega
  rw [e1, join_u64 i n (x.toNat % 128) hn (by
    by_cases h : i = 9
    · subst h
      have : x.toNat % 128 ≤ 1 := by have := h9 rfl; omega
      omega
    · have h8 : 128 ^ i ≤ 128 ^ 8 := Nat.pow_le_pow_right (by omega) (by omega)
      have h2 : x.toNat % 128 * 128 ^ i ≤ 127 * 128 ^ i := Nat.mul_le_mul_right _ (by omega)
      omega) hi]
  have e2 : wrap64 ((i : Int) + 1) = (i : Int) + 1 := by unfold wrap64; omega
  rw [e2]
  by_cases c : x < 128
  · rw [if_pos c, if_pos c, show x.toNat % 128 = x.toNat by omega]
  · rw [if_neg c, if_neg c]
theorem getU_j1t (b : List Int) (L : Int) (i n : Int) (x : Int) (k : Nat) (y : Int) : leb_GetUint.j1 (k + 1) n i x b L y true = some (0, 0, 4) := by
  simp only [leb_GetUint.j1]; rw [if_pos trivial]
theorem getU_l0 (b : List Int) (hb : ∀ x ∈ b, isByte x) (d : Nat) : ∀ (k i n : Nat), i + d = 9 → 2 * d + 2 ≤ k → n < 128 ^ i → leb_GetUint.l0 k (n : Int) b (b.length : Int) (i : Int) = some (gU i n (b.drop i)) := by
  induction d with
  | zero =>
    intro k i n hi hk hn
    obtain ⟨k, rfl⟩ : ∃ m, k = m + 1 + 1 := ⟨k - 2, by omega⟩
    rw [leb_GetUint.l0.eq_2]
    by_cases hl : i < b.length
    · have hx := hb _ (rd_mem b i hl)
      rw [if_pos (by omega), if_pos (by omega), if_pos (by omega), if_pos (by omega), rd_drop b i hl]
      simp only [gU]
      generalize rd b (i : Int) = y at hx ⊢
      have hx' := hx
      unfold isByte at hx'
      by_cases c : y > 1
      · rw [if_pos c, getU_j1t, if_pos (by omega)]
      · rw [if_neg c, if_pos (by omega)]
        by_cases c2 : y = 0
        · rw [show (y == 0) = true by simpa using c2, getU_j1t, if_pos (by omega)]
        · rw [show (y == 0) = false by simpa using c2, getU_j1 b _ i n _ hx (by omega) (by omega) hn, if_pos (by omega), if_neg (by omega), if_pos (by omega)]
    · rw [if_neg (by omega), List.drop_eq_nil_of_le (by omega)]; rfl
  | succ d ih =>
    intro k i n hi hk hn
    obtain ⟨k, rfl⟩ : ∃ m, k = m + 1 + 1 := ⟨k - 2, by omega⟩
    rw [leb_GetUint.l0.eq_2]
    by_cases hl : i < b.length
    · have hx := hb _ (rd_mem b i hl)
      rw [if_pos (by omega), if_pos (by omega), if_pos (by omega), if_neg (by omega), rd_drop b i hl]
      simp only [gU]
      generalize rd b (i : Int) = y at hx ⊢
      have hx' := hx
      unfold isByte at hx'
      have step : leb_GetUint.j1 (k + 1) (n : Int) (i : Int) y b (b.length : Int) (i : Int) false = some (if y < 128 then (((n + y.toNat * 128 ^ i : Nat) : Int), (i : Int) + 1, 0) else gU (i + 1) (n + y.toNat % 128 * 128 ^ i) (b.drop (i + 1))) := by
        rw [getU_j1 b _ i n _ hx (by omega) (by omega) hn]
        by_cases c : y < 128
        · rw [if_pos c, if_pos c]
        · rw [if_neg c, if_neg c, show ((i : Int) + 1) = ((i + 1 : Nat) : Int) by omega]
          refine ih k (i + 1) _ (by omega) (by omega) ?_
          have hp : 128 ^ (i + 1) = 128 ^ i * 128 := Nat.pow_succ ..
          have : y.toNat % 128 * 128 ^ i ≤ 127 * 128 ^ i := Nat.mul_le_mul_right _ (by omega)
          omega
      by_cases c0 : (i : Int) > 0
      · rw [if_pos c0]
        by_cases c2 : y = 0
        · rw [show (y == 0) = true by simpa using c2, getU_j1t, if_pos (by omega)]
        · rw [show (y == 0) = false by simpa using c2, step]
          congr 1
          rw [if_neg (show ¬ (i = 9 ∧ 1 < y ∨ 0 < i ∧ y = 0) by omega)]
      · rw [if_neg c0, step]
        congr 1
        rw [if_neg (show ¬ (i = 9 ∧ 1 < y ∨ 0 < i ∧ y = 0) by omega)]
    · rw [if_neg (by omega), List.drop_eq_nil_of_le (by omega)]; rfl
theorem getU_f {k : Nat} (hk : 20 ≤ k) {b : List Int} (hb : ∀ x ∈ b, isByte x) : leb_GetUint.f k b = some (gU 0 0 b) := by
  unfold leb_GetUint.f
  have := getU_l0 b hb 9 k 0 0 (by omega) (by omega) (by simp)
  simpa using this
theorem or_i64 (w : Nat) (hw : w ≤ 63) (n : Nat) (y : Int) (hn : n < 2 ^ w) (hy : y % 2 ^ w = 0) (h1 : -9223372036854775808 ≤ y) (h2 : (n : Int) + y < 9223372036854775808) : Go.bits .or .i64 (n : Int) y = (n : Int) + y := by
  have hw64 : (2 : Nat) ^ w ≤ 2 ^ 63 := Nat.pow_le_pow_right (by omega) hw
  have hdvd : (2 : Int) ^ w ∣ 18446744073709551616 := ⟨2 ^ (64 - w), by rw [← Int.pow_add, show w + (64 - w) = 64 by omega]; rfl⟩
  have e64 : ((2 ^ 64 : Nat) : Int) = 18446744073709551616 := by rfl
  show IntKind.i64.wrap ((BitVec.ofInt 64 (n : Int) ||| BitVec.ofInt 64 y).toNat : Int) = _
  rw [BitVec.toNat_or, ofInt_u64 n (by omega), BitVec.toNat_ofInt, e64]
  have e3 : ((y % 18446744073709551616).toNat : Int) = y % 18446744073709551616 := Int.toNat_of_nonneg (by omega)
  have hY : (y % 18446744073709551616).toNat % 2 ^ w = 0 := by
    have e : ((y % 18446744073709551616) % 2 ^ w) = 0 := by rw [Int.emod_emod_of_dvd _ hdvd]; exact hy
    have e2 : (((y % 18446744073709551616).toNat % 2 ^ w : Nat) : Int) = (y % 18446744073709551616) % 2 ^ w := by
      rw [Int.natCast_emod, e3, Int.natCast_pow]; rfl
    omega
  rw [Nat.or_comm, nat_join w _ _ hY hn, IntKind.wrap_i64, Int.natCast_add, e3]
  omega
/-- The payload of byte i. -/
def pay (i : Nat) (c : Int) : Int := if i = 9 ∧ c = 127 then -9223372036854775808 else c * 128 ^ i
theorem pow_le8 (i : Nat) (h : i ≤ 8) : (128 : Int) ^ i ≤ 72057594037927936 := by
  rw [← pow_cast]
  have : 128 ^ i ≤ 128 ^ 8 := Nat.pow_le_pow_right (by omega) h
  omega
theorem join_i64 (i n : Nat) (c : Int) (h0 : 0 ≤ c) (h1 : c < 128) (hi : i ≤ 9) (h9 : i = 9 → c = 0 ∨ c = 127) (hn : n < 128 ^ i) : Go.bits .or .i64 (n : Int) (shl .i64 (wrap64 c) ((7 * i : Nat) : Int)) = (n : Int) + pay i c := by
  have e0 : wrap64 c = c := by unfold wrap64; omega
  have e1 : shl .i64 (wrap64 c) ((7 * i : Nat) : Int) = pay i c := by
    unfold shl
    rw [e0, show min (((7 * i : Nat) : Int)).toNat IntKind.i64.bits = 7 * i by rw [Int.toNat_natCast]; exact Nat.min_eq_left (by show 7 * i ≤ 64; omega), ← pow7i, IntKind.wrap_i64]
    unfold pay
    by_cases h : i = 9
    · subst h
      rcases h9 rfl with rfl | rfl <;> decide
    · rw [if_neg (by omega)]
      have hp := pow_le8 i (by omega)
      have hp0 : 0 ≤ (128 : Int) ^ i := Int.pow_nonneg (by omega)
      have q : c * 128 ^ i ≤ 127 * 128 ^ i := Int.mul_le_mul_of_nonneg_right (by omega) hp0
      have q0 : 0 ≤ c * 128 ^ i := Int.mul_nonneg h0 hp0
      omega
  rw [e1]
  refine or_i64 (7 * i) (by omega) n _ (by rw [← pow7]; exact hn) ?_ ?_ ?_
  · unfold pay
    split
    · rename_i h; rw [h.1]; rfl
    · rw [← pow7i]; exact Int.mul_emod_left _ _
  · unfold pay
    split
    · omega
    · have : 0 ≤ c * 128 ^ i := Int.mul_nonneg h0 (Int.pow_nonneg (by omega))
      omega
  · unfold pay
    have hpc := pow_cast i
    split
    · rename_i h
      rw [h.1] at hn
      simp only [show 128 ^ 9 = 9223372036854775808 from rfl] at hn
      omega
    · rename_i h
      by_cases h' : i = 9
      · subst h'
        have : c = 0 := by have := h9 rfl; omega
        subst this
        simp only [show 128 ^ 9 = 9223372036854775808 from rfl] at hn
        omega
      · have hp := pow_le8 i (by omega)
        have q : c * 128 ^ i ≤ 127 * 128 ^ i := Int.mul_le_mul_of_nonneg_right (by omega) (Int.pow_nonneg (by omega))
        omega
theorem sign_i64 (i n : Nat) (hi : i ≤ 8) (c : Int) (h0 : 64 ≤ c) (h1 : c < 128) (hn : n < 128 ^ i) : Go.bits .or .i64 ((n : Int) + c * 128 ^ i) (shl .i64 (-1) ((7 * (i + 1) : Nat) : Int)) = (n : Int) + (c - 128) * 128 ^ i := by
  have hp := pow_le8 i hi
  have hpc := pow_cast i
  have hp1 : (128 : Int) ^ (i + 1) = 128 ^ i * 128 := Int.pow_succ ..
  have e1 : shl .i64 (-1) ((7 * (i + 1) : Nat) : Int) = -(128 ^ i * 128) := by
    unfold shl
    rw [show min (((7 * (i + 1) : Nat) : Int)).toNat IntKind.i64.bits = 7 * (i + 1) by rw [Int.toNat_natCast]; exact Nat.min_eq_left (by show 7 * (i + 1) ≤ 64; omega), ← pow7i, IntKind.wrap_i64, hp1]
    have : 0 ≤ (128 : Int) ^ i := Int.pow_nonneg (by omega)
    omega
  have e2 : (n : Int) + c * 128 ^ i = ((n + c.toNat * 128 ^ i : Nat) : Int) := by
    rw [Int.natCast_add, Int.natCast_mul, hpc, Int.toNat_of_nonneg (by omega)]
  have hpn : 128 ^ (i + 1) = 128 ^ i * 128 := Nat.pow_succ ..
  have q2 : c.toNat * 128 ^ i ≤ 127 * 128 ^ i := Nat.mul_le_mul_right _ (by omega)
  rw [e1, e2, or_i64 (7 * (i + 1)) (by omega) _ _ (by rw [← pow7, hpn]; omega) (by
    rw [← pow7i, hp1]; exact Int.emod_eq_zero_of_dvd (Int.dvd_neg.2 (Int.dvd_refl _))) (by
    have : 0 ≤ (128 : Int) ^ i := Int.pow_nonneg (by omega)
    omega) (by
    rw [← e2]
    have q : c * 128 ^ i ≤ 127 * 128 ^ i := Int.mul_le_mul_of_nonneg_right (by omega) (Int.pow_nonneg (by omega))
    omega), ← e2]
  rw [Int.sub_mul]
  have : (128 : Int) * 128 ^ i = 128 ^ i * 128 := Int.mul_comm ..
  omega
/-- The end of a number that may be below 0. -/
theorem getI_j3 (i n : Nat) (x : Int) (k : Nat) (h0 : 0 ≤ x) (h1 : x < 128) (hi : i ≤ 9) (h9 : i = 9 → x = 0 ∨ x = 127) (hn : n < 128 ^ i) :
    leb_GetInt.j3 (k + 1) ((n : Int) + pay i x) (i : Int) x false = some ((n : Int) + (if 64 ≤ x then x - 128 else x) * 128 ^ i, (i : Int) + 1, 0) := by
  simp only [leb_GetInt.j3]
  have e2 : wrap64 ((i : Int) + 1) = ((i + 1 : Nat) : Int) := by unfold wrap64; omega
  rw [if_neg (by decide), and64 x h0 (by omega), e2, count7 (i + 1) (by omega)]
  have hx : x % 128 = x := by omega
  rw [hx]
  by_cases c : 64 ≤ x
  · rw [if_pos c, if_neg (by omega), if_pos c]
    by_cases c9 : i = 9
    · subst c9
      have hx9 : x = 127 := by have := h9 rfl; omega
      subst hx9
      rw [if_neg (by omega)]
      simp [pay]
    · rw [if_pos (by omega), if_pos (by omega)]
      rw [show pay i x = x * 128 ^ i by unfold pay; rw [if_neg (by omega)], sign_i64 i n (by omega) x c h1 hn]
      simp
  · rw [if_neg c, if_pos (by rfl), if_neg c]
    rw [show pay i x = x * 128 ^ i by unfold pay; rw [if_neg (by omega)]]
    simp
theorem getI_j2 (i n : Nat) (x s : Int) (k : Nat) (h0 : 0 ≤ x) (h1 : x < 128) (hi : i ≤ 9) (h9 : i = 9 → x = 0 ∨ x = 127) (hn : n < 128 ^ i) :
    leb_GetInt.j2 (k + 1 + 1) ((n : Int) + pay i x) (i : Int) x s = some (if 0 < i ∧ ((x = 0 ∧ s = 0) ∨ (x = 127 ∧ s ≠ 0)) then (0, 0, 4) else ((n : Int) + (if 64 ≤ x then x - 128 else x) * 128 ^ i, (i : Int) + 1, 0)) := by
  have t : leb_GetInt.j3 (k + 1) ((n : Int) + pay i x) (i : Int) x true = some (0, 0, 4) := by simp only [leb_GetInt.j3]; rw [if_pos trivial]
  have f := getI_j3 i n x k h0 h1 hi h9 hn
  rw [leb_GetInt.j2.eq_2]
  generalize (n : Int) + (if 64 ≤ x then x - 128 else x) * 128 ^ i = V at f ⊢
  by_cases c0 : (i : Int) > 0
  · rw [if_pos c0]
    by_cases cx : x = 0
    · rw [if_pos cx]
      by_cases cs : s = 0
      · rw [if_pos cs, t, if_pos ⟨by omega, .inl ⟨cx, cs⟩⟩]
      · rw [if_neg cs, if_neg (by omega), f, if_neg (by omega)]
    · rw [if_neg cx]
      by_cases cx7 : x = 127
      · rw [if_pos cx7]
        by_cases cs : s = 0
        · rw [show (s != 0) = false by simpa using cs, f, if_neg (by omega)]
        · rw [show (s != 0) = true by simpa using cs, t, if_pos ⟨by omega, .inr ⟨cx7, cs⟩⟩]
      · rw [if_neg cx7, f, if_neg (by omega)]
  · rw [if_neg c0, f, if_neg (by omega)]
theorem getI_go (b : List Int) (hb : ∀ x ∈ b, isByte x) (d : Nat) (ih : d ≠ 0 → ∀ (k i n : Nat), i + (d - 1) = 9 → 2 * (d - 1) + 4 ≤ k → n < 128 ^ i →
    leb_GetInt.l0 k b (n : Int) b (b.length : Int) (i : Int) = some (gI i n (decide (0 < i ∧ 64 ≤ rd b ((i : Int) - 1) % 128)) (b.drop i))) :
    ∀ (k i n : Nat), i + d = 9 → 2 * d + 4 ≤ k → n < 128 ^ i → leb_GetInt.l0 k b (n : Int) b (b.length : Int) (i : Int) = some (gI i n (decide (0 < i ∧ 64 ≤ rd b ((i : Int) - 1) % 128)) (b.drop i)) := by
    intro k i n hi hk hn
    obtain ⟨k, rfl⟩ : ∃ m, k = m + 1 + 1 + 1 + 1 := ⟨k - 4, by omega⟩
    rw [leb_GetInt.l0.eq_2]
    by_cases hl : i < b.length
    · have hx := hb _ (rd_mem b i hl)
      rw [if_pos (by omega), if_pos (by omega), if_pos (by omega), rd_drop b i hl]
      simp only [gI]
      have hprev : 0 < i → isByte (rd b ((i : Int) - 1)) := fun h => by
        have := hb _ (rd_mem b (i - 1) (by omega))
        rwa [show (((i - 1 : Nat)) : Int) = (i : Int) - 1 by omega] at this
      have hs1 : rd b (((i + 1 : Nat) : Int) - 1) = rd b (i : Int) := by rw [show (((i + 1 : Nat) : Int) - 1) = (i : Int) by omega]
      generalize hy : rd b (i : Int) = y at hx hs1 ⊢
      have hx' := hx
      unfold isByte at hx'
      have T : leb_GetInt.j1 (k + 1 + 1 + 1) b (n : Int) (i : Int) y b (b.length : Int) (i : Int) true = some (0, 0, 4) := by rw [leb_GetInt.j1.eq_2, if_pos rfl]
      have Fl : (i = 9 → y = 0 ∨ y = 127) → leb_GetInt.j1 (k + 1 + 1 + 1) b (n : Int) (i : Int) y b (b.length : Int) (i : Int) false = some (if 128 ≤ y then gI (i + 1) (n + (y.toNat % 128) * 128 ^ i) (decide (64 ≤ y % 128)) (b.drop (i + 1))
    else if 0 < i ∧ ((y = 0 ∧ decide (0 < i ∧ 64 ≤ rd b ((i : Int) - 1) % 128) = false) ∨ (y = 127 ∧ decide (0 < i ∧ 64 ≤ rd b ((i : Int) - 1) % 128) = true)) then (0, 0, 4) else ((n : Int) + (if 64 ≤ y then y - 128 else y) * 128 ^ i, i + 1, 0)) := by
        intro h9
        rw [leb_GetInt.j1.eq_2, if_neg (by decide), count7 i (by omega), if_pos (by omega), andNot128 y hx'.1 hx'.2, join_i64 i n (y % 128) (by omega) (by omega) (by omega) (by intro h; have := h9 h; omega) hn]
        by_cases c : y ≥ 128
        · rw [if_pos c, if_pos (show 128 ≤ y from c)]
          have hi9 : i ≠ 9 := by intro h; have := h9 h; omega
          have e3 : (n : Int) + pay i (y % 128) = ((n + y.toNat % 128 * 128 ^ i : Nat) : Int) := by
            unfold pay
            rw [if_neg (by omega), Int.natCast_add, Int.natCast_mul, pow_cast, show ((y.toNat % 128 : Nat) : Int) = y % 128 by omega]
          have e2 : wrap64 ((i : Int) + 1) = ((i + 1 : Nat) : Int) := by unfold wrap64; omega
          rw [e3, e2]
          clear e3
          have hlt : n + y.toNat % 128 * 128 ^ i < 128 ^ (i + 1) := by
            have hp : 128 ^ (i + 1) = 128 ^ i * 128 := Nat.pow_succ ..
            have : y.toNat % 128 * 128 ^ i ≤ 127 * 128 ^ i := Nat.mul_le_mul_right _ (by omega)
            omega
          rw [ih (by omega) (k + 1 + 1) (i + 1) _ (by omega) (by omega) hlt, hs1]
          congr 3
          simp
        · rw [if_neg c, if_neg (show ¬ 128 ≤ y from c), show y % 128 = y by omega]
          by_cases c0 : (i : Int) > 0
          · have hp := hprev (by omega)
            unfold isByte at hp
            have e2 : wrap64 ((i : Int) - 1) = (i : Int) - 1 := by unfold wrap64; omega
            rw [if_pos c0, e2, if_pos (by omega), if_pos (by omega), getI_j2 i n y _ k hx'.1 (by omega) (by omega) h9 hn, and64 _ hp.1 hp.2]
            generalize (n : Int) + (if 64 ≤ y then y - 128 else y) * 128 ^ i = V
            congr 1
            by_cases c64 : 64 ≤ rd b ((i : Int) - 1) % 128
            · simp [c64, show 0 < i by omega]
            · simp [c64, show 0 < i by omega]
          · rw [if_neg c0, getI_j2 i n y 0 k hx'.1 (by omega) (by omega) h9 hn]
            generalize (n : Int) + (if 64 ≤ y then y - 128 else y) * 128 ^ i = V
            rw [if_neg (by omega), if_neg (by omega)]
      by_cases c9 : (i : Int) = 9
      · rw [if_pos c9]
        by_cases c0 : y = 0
        · rw [if_pos c0, Fl (by omega), if_neg (show ¬ (i = 9 ∧ y ≠ 0 ∧ y ≠ 127) by omega)]
        · rw [if_neg c0]
          by_cases c7 : y = 127
          · rw [show (y != 127) = false by simpa using c7, Fl (by omega), if_neg (show ¬ (i = 9 ∧ y ≠ 0 ∧ y ≠ 127) by omega)]
          · rw [show (y != 127) = true by simpa using c7, T, if_pos (show (i = 9 ∧ y ≠ 0 ∧ y ≠ 127) by omega)]
      · rw [if_neg c9, Fl (by omega), if_neg (show ¬ (i = 9 ∧ y ≠ 0 ∧ y ≠ 127) by omega)]
    · rw [if_neg (by omega), List.drop_eq_nil_of_le (by omega)]; rfl
theorem getI_l0 (b : List Int) (hb : ∀ x ∈ b, isByte x) (d : Nat) : ∀ (k i n : Nat), i + d = 9 → 2 * d + 4 ≤ k → n < 128 ^ i →
    leb_GetInt.l0 k b (n : Int) b (b.length : Int) (i : Int) = some (gI i n (decide (0 < i ∧ 64 ≤ rd b ((i : Int) - 1) % 128)) (b.drop i)) := by
  induction d with
  | zero => exact getI_go b hb 0 (fun h => absurd rfl h)
  | succ d ih => exact getI_go b hb (d + 1) (fun _ => by rw [Nat.add_sub_cancel]; exact ih)
theorem getI_f {k : Nat} (hk : 22 ≤ k) {b : List Int} (hb : ∀ x ∈ b, isByte x) : leb_GetInt.f k b = some (gI 0 0 false b) := by
  unfold leb_GetInt.f
  have := getI_l0 b hb 9 k 0 0 (by omega) (by omega) (by simp)
  simpa using this
theorem wf_u64 {a : Int} (h : (Lit.int .u64 a).wf = true) : 0 ≤ a ∧ a < 18446744073709551616 := by
  simp only [Lit.wf, IntKind.min, IntKind.max, IntKind.signed, IntKind.bits, Bool.and_eq_true] at h
  simp at h; omega
theorem wf_i64 {a : Int} (h : (Lit.int .i64 a).wf = true) : -9223372036854775808 ≤ a ∧ a < 9223372036854775808 := by
  simp only [Lit.wf, IntKind.min, IntKind.max, IntKind.signed, IntKind.bits, Bool.and_eq_true] at h
  simp at h; omega
theorem wf_u8 {a : Int} (h : (Lit.int .u8 a).wf = true) : isByte a := by
  simp only [Lit.wf, IntKind.min, IntKind.max, IntKind.signed, IntKind.bits, Bool.and_eq_true] at h
  simp at h; unfold isByte; omega
theorem int_l0 (d : Nat) : ∀ (k : Nat) (x : Int) (acc : List Int), -(64 * 128 ^ d) ≤ x → x < 64 * 128 ^ d → d < k → acc.length + d < 140737488355328 → leb_Int.l0 k x acc = some (acc ++ putI x) := by
  induction d with
  | zero =>
    intro k x acc h0 h1 hk ha
    obtain ⟨k, rfl⟩ : ∃ m, k = m + 1 := ⟨k - 1, by omega⟩
    simp only [leb_Int.l0]
    rw [if_neg (by omega), if_neg (by omega), if_pos (by omega), putI_small (by omega), andNot128 _ (by omega) (by omega)]
    congr 3; omega
  | succ d ih =>
    intro k x acc h0 h1 hk ha
    obtain ⟨k, rfl⟩ : ∃ m, k = m + 1 := ⟨k - 1, by omega⟩
    simp only [leb_Int.l0]
    have e : (128 : Int) ^ (d + 1) = 128 ^ d * 128 := by rw [Int.pow_succ]
    rw [e] at h0 h1
    have step : (63 < x ∨ x < -64) → leb_Int.l0 k (x / 128) (acc ++ [Go.bits .or .u8 (x % 256) 128]) = some (acc ++ putI x) := fun hs => by
      rw [ih k (x / 128) _ (by generalize (128 : Int) ^ d = p at *; omega) (by generalize (128 : Int) ^ d = p at *; omega) (by omega) (by simp; omega)]
      rw [putI_big hs, or128 _ (by omega) (by omega), List.append_assoc]
      congr 2
      simp only [List.cons_append, List.nil_append]
      congr 1; omega
    by_cases hs : x > 63
    · rw [if_pos hs, if_pos (by omega), step (.inl hs)]
    · rw [if_neg hs]
      by_cases hs2 : x < -64
      · rw [if_pos hs2, if_pos (by omega), step (.inr hs2)]
      · rw [if_neg hs2, if_pos (by omega), putI_small (by omega), andNot128 _ (by omega) (by omega)]
        congr 3; omega
theorem int_f {k : Nat} (hk : 10 ≤ k) {a : Int} (h0 : -9223372036854775808 ≤ a) (h1 : a < 9223372036854775808) : leb_Int.f k a = some (putI a) := by
  unfold leb_Int.f
  rw [int_l0 9 k a [] (by omega) (by omega) (by omega) (by simp)]
  simp
theorem i64_and127 (x : Int) (_h0 : -9223372036854775808 ≤ x) (_h1 : x < 9223372036854775808) : Go.bits .and .i64 x 127 = x % 128 := by
  have e64 : ((2 ^ 64 : Nat) : Int) = 18446744073709551616 := by rfl
  show IntKind.i64.wrap ((BitVec.ofInt 64 x &&& BitVec.ofInt 64 ((127 : Nat) : Int)).toNat : Int) = _
  rw [BitVec.toNat_and, ofInt_u64 127 (by omega), BitVec.toNat_ofInt, e64, nat_mask7, IntKind.wrap_i64]
  omega
theorem u64_size {n : Nat} (h : n ≤ 140737488355328) : IntKind.u64.wrap ((n : Int)) = (n : Int) := by rw [IntKind.wrap_u64]; omega
theorem bytesOf_str {l : List Int} (h : ∀ x ∈ l, isByte x) : bytesOf (strOfNums l) = l := by
  unfold bytesOf
  rw [strOfNums_data, List.map_map]
  conv => rhs; rw [← List.map_id l]
  refine List.map_congr_left (fun x hx => ?_)
  have := h x hx
  unfold isByte at this
  simp [UInt8.toNat_ofNat']
  omega
theorem gText (b : List Int) (most : Int) (hm : 0 ≤ most) (hm2 : most ≤ 9223372036854775807) (hb : ∀ x ∈ b, isByte x) (hl : b.length ≤ 281474976710656) {k : Nat} (hk : 24 ≤ k) :
    leb_GetText.f k b most = some (if (gU 0 0 b).2.2 = 0 then (if (gU 0 0 b).1 > most then ((⟨#[]⟩ : ByteArray), 0, 5) else if (gU 0 0 b).1 > (b.length : Int) - (gU 0 0 b).2.1 then ((⟨#[]⟩ : ByteArray), 0, 3) else (strOfNums ((b.take ((gU 0 0 b).2.1 + (gU 0 0 b).1).toNat).drop (gU 0 0 b).2.1.toNat), (gU 0 0 b).2.1 + (gU 0 0 b).1, 0)) else ((⟨#[]⟩ : ByteArray), 0, (gU 0 0 b).2.2)) := by
  obtain ⟨k, rfl⟩ : ∃ m, k = m + 1 := ⟨k - 1, by omega⟩
  unfold leb_GetText.f
  rw [getU_f (by omega) hb]
  simp only [Option.bind_some]
  rcases gU_errs b 0 0 with h | h | h
  · obtain ⟨v, u, e⟩ : ∃ v u, gU 0 0 b = (v, u, 0) := ⟨(gU 0 0 b).1, (gU 0 0 b).2.1, by rw [← h]⟩
    obtain ⟨m, j, h1, h2, h3, h4, h5, h6, h7⟩ := gU_only b 0 0 v u hb (by omega) (by simp) e
    have hv : v = (m : Int) := by simpa using h1
    have hu : u = (j : Int) := by simpa using h2
    have h7' : m < 18446744073709551616 := by simpa using h7
    subst hv; subst hu
    rw [e]
    simp only [if_true]
    rw [if_neg (by omega), show IntKind.u64.wrap most = most by rw [IntKind.wrap_u64]; omega]
    by_cases c1 : (m : Int) > most
    · rw [if_pos c1, show decide ((m : Int) > most) = true by simpa using c1]
      simp only [leb_GetText.j0]; rw [if_pos trivial]
    · rw [if_neg c1, show decide ((m : Int) > most) = false by simpa using c1, leb_GetText.j0.eq_2, if_neg (by decide)]
      have e1 : IntKind.u64.wrap (wrap64 ((b.length : Int) - (j : Int))) = (b.length : Int) - j := by rw [IntKind.wrap_u64]; unfold wrap64; omega
      rw [e1]
      by_cases c2 : (m : Int) > (b.length : Int) - j
      · rw [if_pos c2, if_pos c2]
      · rw [if_neg c2, if_neg c2]
        have e2 : wrap64 ((j : Int) + wrap64 (m : Int)) = (j : Int) + m := by unfold wrap64; omega
        rw [e2, if_pos (by omega), if_pos (by omega), if_pos (by omega)]
  · rw [h]; simp
  · rw [h]; simp
theorem append_byte {a b : List Int} (ha : ∀ x ∈ a, isByte x) (hb : ∀ x ∈ b, isByte x) : ∀ x ∈ a ++ b, isByte x := fun x hx => (List.mem_append.1 hx).elim (ha x) (hb x)
/-- A text that is laid is taken off. -/
theorem gText_put (l r : List Int) (hl : ∀ x ∈ l, isByte x) (hr : ∀ x ∈ r, isByte x) (h1 : l.length ≤ 140737488351232) (h2 : r.length ≤ 140737488351232) {k : Nat} (hk : 24 ≤ k) (most : Int) (hm : (l.length : Int) ≤ most) (hm2 : most ≤ 9223372036854775807) :
    leb_GetText.f k (putU l.length ++ l ++ r) most = some (strOfNums l, ((putU l.length).length : Int) + l.length, 0) := by
  have hb : ∀ x ∈ putU l.length ++ l ++ r, isByte x := append_byte (append_byte (putU_bytes _) hl) hr
  have h10 : (putU l.length).length ≤ 10 := putU_len64 (by omega)
  rw [gText _ most (by omega) hm2 hb (by simp; omega) hk, List.append_assoc, gU_put l.length 0 0 (l ++ r) (by omega) (by simp) (by omega)]
  simp only [if_true]
  simp only [Nat.zero_add, Nat.pow_zero, Nat.mul_one]
  rw [if_neg (by omega), if_neg (by simp; omega)]
  have e : ((((putU l.length).length : Nat) : Int) + (l.length : Int)).toNat = (putU l.length).length + l.length := by omega
  rw [e, Int.toNat_natCast]
  congr 3
  rw [List.take_append, List.take_of_length_le (by omega), Nat.add_sub_cancel_left, List.take_left', List.drop_left']
  · rfl
  · rfl
end Go.Proofs.Ytcffooeiennmjaa.LebP

-- Written by a program of this session (wip/tools/myprint.py), out of the translation's print. Lean checks it.
namespace Go.Proofs.Ytcffooeiennmjaa.PA
open Go.RowKit Go.Proofs.YtcffooeiennmjaaW.PrintWords Go.Proofs.YtcffooeiennmjaaW.PrintLast Go.Proofs.YtcffooeiennmjaaW.PrintMore
attribute [local go_sem] max2_int min2_int max_two min_two max_three min_three max_four min_four   -- for this text's walks alone
set_option linter.unusedVariables false
set_option linter.unusedSimpArgs false

/-! ### stemmaref02_Uint: function 17 -/
def stemmaref02_Uint.l0 : Nat → Int → List Int → Option (List Int)
  | 0, _, _ => none
  | k + 1, x0, x3 => if x0 ≥ 128 then (if x3.length < 140737488355328 then (stemmaref02_Uint.l0 k (IntKind.u64.wrap (Int.tdiv x0 128)) (x3 ++ [((Int.tmod x0 128) + 128) % 256])) else (none)) else (if x3.length < 140737488355328 then (some (x3 ++ [(x0) % 256])) else (none))
def stemmaref02_Uint.f (k : Nat) (a0 : Int) : Option (List Int) := stemmaref02_Uint.l0 k a0 ([] : List Int)
theorem stemmaref02_Uint.mono_l : ∀ k, (∀ y0 y1, LeO (stemmaref02_Uint.l0 k y0 y1) (stemmaref02_Uint.l0 (k + 1) y0 y1))
  | 0 => fun _ _ r h => by simp [stemmaref02_Uint.l0] at h
  | k + 1 => by
    have ih0 := stemmaref02_Uint.mono_l k
    · intro y0 y1
      unfold stemmaref02_Uint.l0
      repeat' first
      | (with_reducible exact ih0 _ _)
      | (with_reducible exact LeO.refl _)
      | (with_reducible exact LeO.none _)
      | (with_reducible refine LeO.ite ?_ ?_)
      | (with_reducible refine LeO.bind ?_ (fun _ => ?_))
      | exact ih0 _ _
      | exact LeO.none _
      | refine LeO.ite ?_ ?_
      | refine LeO.bind ?_ (fun _ => ?_)
theorem stemmaref02_Uint.mono : ∀ a0 k, LeO (stemmaref02_Uint.f k a0) (stemmaref02_Uint.f (k + 1) a0) := by
  intro a0 k
  have ih0 := stemmaref02_Uint.mono_l k
  unfold stemmaref02_Uint.f
  repeat' first
      | (with_reducible exact ih0 _ _)
      | (with_reducible exact LeO.refl _)
      | (with_reducible exact LeO.none _)
      | (with_reducible refine LeO.ite ?_ ?_)
      | (with_reducible refine LeO.bind ?_ (fun _ => ?_))
      | exact ih0 _ _
      | exact LeO.none _
      | refine LeO.ite ?_ ?_
      | refine LeO.bind ?_ (fun _ => ?_)
set_option maxHeartbeats 8000000 in
set_option maxRecDepth 100000 in
theorem stemmaref02_Uint.calls (k : Nat) (a0 : Int) (r : List Int) (w : World) (h : stemmaref02_Uint.f k a0 = some r) :
    Calls Try.prog 17 #[.int .u64 a0] w fun e w' => ∃ v0_ : Value, e = .returned (v0_) ∧ Kd.R (Kd.int .u8) 5 w' w.heap.size (fun _ => True) v0_ r ∧ Below w.heap.size w w' := by
  have HB := Aside0.mk (Below.refl w.heap.size w)
  have H : (stemmaref02_Uint.l0 k a0 ([] : List Int)) = some r := h
  clear h
  have H' := Aside0.mk H
  clear H
  go_enter Try.func17, Try.ntmps17
  go_wp2
  go_loopg [0, 3] k (fun kq v0 v3 w' => ∃ (x0_1 : Int) (x3_1 : List Int), v0 = .int .u64 x0_1 ∧ Aside0 (stemmaref02_Uint.l0 kq x0_1 x3_1 = some r) ∧ Aside0 (kq ≤ k) ∧ Aside0 (Kd.R (Kd.int .u8) 5 w' w.heap.size (fun _ => True) v3 x3_1) ∧ Aside0 (Below w.heap.size w w'))
  case atStart => exact ⟨(a0), (([] : List Int)), (by first | rfl | (simp; done) | (simp [*]; done)), H', ⟨Nat.le_refl _⟩, ⟨by first | exact Kd.R_nil _ _ _ _ _ | exact Kd.N_nil _ _ _ _ _ | exact Kd.V_nil _ _ _ _ _ | exact Kd.Q_nil _ _ _ _ _ | exact Kd.S_nil _ _ _ _ _⟩, ⟨by repeat (first | (with_reducible first | exact HB.out | apply below_alloc | apply pw_below_drewN | apply below_drew1) | exact HB.out)⟩⟩
  case round =>
    clear H'
    try clear c1
    obtain ⟨x0_1, x3_1, rfl, HA, HK1, HO_3, HB⟩ := hrel
    cases gk with
    | zero => exact absurd HA.out (by simp [stemmaref02_Uint.l0])
    | succ k1 =>
      have H := HA.out
      clear HA
      simp only [stemmaref02_Uint.l0] at H
      by_cases c2 : x0_1 ≥ 128
      · rw [if_pos c2] at H
        have c2b0 : decide (128 ≤ x0_1) = true := decide_eq_true c2
        clear c2
        by_cases c3 : x3_1.length < 140737488355328
        · rw [if_pos c3] at H
          have LMc3 := Aside0.mk c3
          clear c3
          obtain ⟨y139, hy139⟩ : ∃ y_ : List Int, y_ = (x3_1 ++ [((Int.tmod x0_1 128) + 128) % 256]) := ⟨_, rfl⟩
          replace H : (stemmaref02_Uint.l0 k1 (IntKind.u64.wrap (Int.tdiv x0_1 128)) y139) = some r := by first | (rw [hy139]; with_reducible exact H) | (have H2_ := (Option.bind_some _ _).symm.trans H; rw [hy139]; with_reducible exact H2_) | (have H2_ := (Option.bind_some _ _).symm.trans H; with_reducible exact H2_) | with_reducible exact H | (rw [hy139]; exact H) | exact H
          have Ny139 := Aside0.mk hy139
          clear hy139
          have H' := Aside0.mk H
          clear H
          go_wp2_with (first | ((with_reducible refine gate_builtin (b := .append) (xs := #[.tmp 6, .tmp 11]) rfl ?_); at_builtin; refine Kd.R_append (Kd.int .u8) (w0 := w) w.heap.size rfl (.tmp 6) (.tmp 11) 23 5 (.int .u8 0) 1 rfl Try.underlying23 info5 rfl (by decide) (by omega) u3 x3_1 (((Int.tmod x0_1 128) + 128) % 256) [.int .u8 (((Int.tmod x0_1 128) + 128) % 256)] (fun _ => True) (fun _ => False) rfl rfl ?aP (fun _ hk => hk.elim) ?aF ?aO ?aB ?aS ?aL ?_; (case aP => exact rfl); (case aB => exact (by repeat (first | (with_reducible first | exact HB.out | apply below_alloc | apply pw_below_drewN | apply below_drew1) | exact HB.out))); (case aF => exact (fun _ _ => trivial)); (case aO => exact (by (with_reducible repeat (first | apply Kd.R_alloc | apply Kd.R_drewN | apply Kd.R_drew)); exact HO_3.out)); (case aS => exact (below_size (by repeat (first | (with_reducible first | exact HB.out | apply below_alloc | apply pw_below_drewN | apply below_drew1) | exact HB.out)))); (case aL => have := LMc3.out; omega); intro v140 w4 ho hb hg hat; rw [← Ny139.out] at ho; have n0_ := Aside0.mk (hb); have n1_ := Aside0.mk (ho); clear HB; clear HO_3; have HB := n0_; have HO141 := n1_; clear n0_ n1_; clear ho hb hg hat))
          go_roundg k1
          case measure => have := HK1.out; omega
          case rel => exact ⟨(IntKind.u64.wrap (Int.tdiv x0_1 128)), (y139), (by first | rfl | (simp; done) | (simp [*]; done)), H', ⟨by have := HK1.out; omega⟩, ⟨by (with_reducible repeat (first | apply Kd.R_alloc | apply Kd.R_drewN | apply Kd.R_drew)); exact HO141.out⟩, ⟨by repeat (first | (with_reducible first | exact HB.out | apply below_alloc | apply pw_below_drewN | apply below_drew1) | exact HB.out)⟩⟩
        · rw [if_neg c3] at H
          exact absurd H (by simp)
      · rw [if_neg c2] at H
        have c2b0 : decide (128 ≤ x0_1) = false := decide_eq_false c2
        clear c2
        by_cases c5 : x3_1.length < 140737488355328
        · rw [if_pos c5] at H
          have LMc5 := Aside0.mk c5
          clear c5
          obtain ⟨y142, hy142⟩ : ∃ y_ : List Int, y_ = (x3_1 ++ [(x0_1) % 256]) := ⟨_, rfl⟩
          replace H : (some y142) = some r := by first | (rw [hy142]; with_reducible exact H) | (have H2_ := (Option.bind_some _ _).symm.trans H; rw [hy142]; with_reducible exact H2_) | (have H2_ := (Option.bind_some _ _).symm.trans H; with_reducible exact H2_) | with_reducible exact H | (rw [hy142]; exact H) | exact H
          have Ny142 := Aside0.mk hy142
          clear hy142
          obtain rfl := Option.some.inj H
          go_wp2_with (first | ((with_reducible refine gate_builtin (b := .append) (xs := #[.tmp 15, .tmp 18]) rfl ?_); at_builtin; refine Kd.R_append (Kd.int .u8) (w0 := w) w.heap.size rfl (.tmp 15) (.tmp 18) 23 5 (.int .u8 0) 1 rfl Try.underlying23 info5 rfl (by decide) (by omega) u3 x3_1 ((x0_1) % 256) [.int .u8 ((x0_1) % 256)] (fun _ => True) (fun _ => False) rfl rfl ?aP (fun _ hk => hk.elim) ?aF ?aO ?aB ?aS ?aL ?_; (case aP => exact rfl); (case aB => exact (by repeat (first | (with_reducible first | exact HB.out | apply below_alloc | apply pw_below_drewN | apply below_drew1) | exact HB.out))); (case aF => exact (fun _ _ => trivial)); (case aO => exact (by (with_reducible repeat (first | apply Kd.R_alloc | apply Kd.R_drewN | apply Kd.R_drew)); exact HO_3.out)); (case aS => exact (below_size (by repeat (first | (with_reducible first | exact HB.out | apply below_alloc | apply pw_below_drewN | apply below_drew1) | exact HB.out)))); (case aL => have := LMc5.out; omega); intro v143 w6 ho hb hg hat; rw [← Ny142.out] at ho; have n0_ := Aside0.mk (hb); have n1_ := Aside0.mk (ho); clear HB; clear HO_3; have HB := n0_; have HO144 := n1_; clear n0_ n1_; clear ho hb hg hat))
          go_ret
          exact ⟨_, by first | rfl | (simp [errW_none, errW_some] <;> rfl) | (simp [*, errW_none, errW_some] <;> rfl), by (with_reducible repeat (first | apply Kd.R_alloc | apply Kd.R_drewN | apply Kd.R_drew)); exact HO144.out, by repeat (first | (with_reducible first | exact HB.out | apply below_alloc | apply pw_below_drewN | apply below_drew1) | exact HB.out)⟩
        · rw [if_neg c5] at H
          exact absurd H (by simp)

end Go.Proofs.Ytcffooeiennmjaa.PA

-- Written by a program of this session (wip/tools/myprint.py), out of the translation's print. Lean checks it.
namespace Go.Proofs.Ytcffooeiennmjaa.PA
open Go.RowKit Go.Proofs.YtcffooeiennmjaaW.PrintWords Go.Proofs.YtcffooeiennmjaaW.PrintLast Go.Proofs.YtcffooeiennmjaaW.PrintMore
attribute [local go_sem] max2_int min2_int max_two min_two max_three min_three max_four min_four   -- for this text's walks alone
set_option linter.unusedVariables false
set_option linter.unusedSimpArgs false

/-! ### column_GetFlags: function 44 -/
mutual
def column_GetFlags.l0 : Nat → List Int → Int → List Bool → Int → Int → Int → Int → Option (List Bool × Int × Int)
  | 0, _, _, _, _, _, _, _ => none
  | k + 1, x0, x1, x4, x5, x7, x30, x31 => if x31 < x30 then (if 0 ≤ x5 then (if x5 ≤ (x0.length : Int) then ((leb_GetUint.f k (x0.drop (x5 : Int).toNat)).bind fun bt530 => (if bt530.2.2 = 0 then (if bt530.1 = 0 then (if x31 > 0 then (column_GetFlags.j1 k x0 x1 x4 x5 x7 x31 bt530.1 bt530.2.1 x30 x31 true) else (column_GetFlags.j1 k x0 x1 x4 x5 x7 x31 bt530.1 bt530.2.1 x30 x31 (x7 == 1))) else (column_GetFlags.j1 k x0 x1 x4 x5 x7 x31 bt530.1 bt530.2.1 x30 x31 false)) else (some (([] : List Bool), 0, bt530.2.2)))) else (none)) else (none)) else (some (x4, x5, 0))
def column_GetFlags.j1 : Nat → List Int → Int → List Bool → Int → Int → Int → Int → Int → Int → Int → Bool → Option (List Bool × Int × Int)
  | 0, _, _, _, _, _, _, _, _, _, _, _ => none
  | k + 1, x0, x1, x4, x5, x7, x8, x9, x10, x30, x31, x46 => if x46 = true then (some (([] : List Bool), 0, 4)) else (if x9 > (IntKind.u64.wrap (wrap64 (x1 - (x4.length : Int)))) then (some (([] : List Bool), 0, 5)) else (column_GetFlags.l1 k x0 x1 x4 x5 x7 x8 x10 x30 x31 x9 0))
def column_GetFlags.l1 : Nat → List Int → Int → List Bool → Int → Int → Int → Int → Int → Int → Int → Int → Option (List Bool × Int × Int)
  | 0, _, _, _, _, _, _, _, _, _, _, _ => none
  | k + 1, x0, x1, x4, x5, x7, x8, x10, x30, x31, x65, x66 => if x66 < x65 then (if x4.length < 140737488355328 then (column_GetFlags.l1 k x0 x1 (x4 ++ [((Go.bits .and .u64 x8 1) == 1)]) x5 x7 x8 x10 x30 x31 x65 (IntKind.u64.wrap (x66 + 1))) else (none)) else (column_GetFlags.l0 k x0 x1 x4 (wrap64 (x5 + x10)) x7 x30 (IntKind.u64.wrap (x31 + 1)))
end
def column_GetFlags.f (k : Nat) (l0 : List Int) (a1 : Int) : Option (List Bool × Int × Int) := (column_bounded.f a1).bind fun t525 => ((leb_GetUint.f k l0).bind fun bt526 => (if bt526.2.2 = 0 then (if bt526.1 > (IntKind.u64.wrap ((IntKind.u64.wrap (t525)) + 1)) then (some (([] : List Bool), 0, 5)) else (column_GetFlags.l0 k l0 t525 ([] : List Bool) bt526.2.1 bt526.1 bt526.1 0)) else (some (([] : List Bool), 0, bt526.2.2))))
theorem column_GetFlags.mono_l : ∀ k, (∀ y0 y1 y2 y3 y4 y5 y6, LeO (column_GetFlags.l0 k y0 y1 y2 y3 y4 y5 y6) (column_GetFlags.l0 (k + 1) y0 y1 y2 y3 y4 y5 y6)) ∧ (∀ y0 y1 y2 y3 y4 y5 y6 y7 y8 y9 y10, LeO (column_GetFlags.j1 k y0 y1 y2 y3 y4 y5 y6 y7 y8 y9 y10) (column_GetFlags.j1 (k + 1) y0 y1 y2 y3 y4 y5 y6 y7 y8 y9 y10)) ∧ (∀ y0 y1 y2 y3 y4 y5 y6 y7 y8 y9 y10, LeO (column_GetFlags.l1 k y0 y1 y2 y3 y4 y5 y6 y7 y8 y9 y10) (column_GetFlags.l1 (k + 1) y0 y1 y2 y3 y4 y5 y6 y7 y8 y9 y10))
  | 0 => ⟨fun _ _ _ _ _ _ _ r h => by simp [column_GetFlags.l0] at h, fun _ _ _ _ _ _ _ _ _ _ _ r h => by simp [column_GetFlags.j1] at h, fun _ _ _ _ _ _ _ _ _ _ _ r h => by simp [column_GetFlags.l1] at h⟩
  | k + 1 => by
    obtain ⟨ih0, ih1, ih2⟩ := column_GetFlags.mono_l k
    refine ⟨?_, ?_, ?_⟩
    · intro y0 y1 y2 y3 y4 y5 y6
      unfold column_GetFlags.l0
      repeat' first
      | (with_reducible exact ih0 _ _ _ _ _ _ _)
      | (with_reducible exact ih1 _ _ _ _ _ _ _ _ _ _ _)
      | (with_reducible exact ih2 _ _ _ _ _ _ _ _ _ _ _)
      | (with_reducible exact leb_GetUint.mono _ _)
      | (with_reducible exact LeO.refl _)
      | (with_reducible exact LeO.none _)
      | (with_reducible refine LeO.ite ?_ ?_)
      | (with_reducible refine LeO.bind ?_ (fun _ => ?_))
      | exact ih0 _ _ _ _ _ _ _
      | exact ih1 _ _ _ _ _ _ _ _ _ _ _
      | exact ih2 _ _ _ _ _ _ _ _ _ _ _
      | exact leb_GetUint.mono _ _
      | exact LeO.none _
      | refine LeO.ite ?_ ?_
      | refine LeO.bind ?_ (fun _ => ?_)
    · intro y0 y1 y2 y3 y4 y5 y6 y7 y8 y9 y10
      unfold column_GetFlags.j1
      repeat' first
      | (with_reducible exact ih0 _ _ _ _ _ _ _)
      | (with_reducible exact ih1 _ _ _ _ _ _ _ _ _ _ _)
      | (with_reducible exact ih2 _ _ _ _ _ _ _ _ _ _ _)
      | (with_reducible exact leb_GetUint.mono _ _)
      | (with_reducible exact LeO.refl _)
      | (with_reducible exact LeO.none _)
      | (with_reducible refine LeO.ite ?_ ?_)
      | (with_reducible refine LeO.bind ?_ (fun _ => ?_))
      | exact ih0 _ _ _ _ _ _ _
      | exact ih1 _ _ _ _ _ _ _ _ _ _ _
      | exact ih2 _ _ _ _ _ _ _ _ _ _ _
      | exact leb_GetUint.mono _ _
      | exact LeO.none _
      | refine LeO.ite ?_ ?_
      | refine LeO.bind ?_ (fun _ => ?_)
    · intro y0 y1 y2 y3 y4 y5 y6 y7 y8 y9 y10
      unfold column_GetFlags.l1
      repeat' first
      | (with_reducible exact ih0 _ _ _ _ _ _ _)
      | (with_reducible exact ih1 _ _ _ _ _ _ _ _ _ _ _)
      | (with_reducible exact ih2 _ _ _ _ _ _ _ _ _ _ _)
      | (with_reducible exact leb_GetUint.mono _ _)
      | (with_reducible exact LeO.refl _)
      | (with_reducible exact LeO.none _)
      | (with_reducible refine LeO.ite ?_ ?_)
      | (with_reducible refine LeO.bind ?_ (fun _ => ?_))
      | exact ih0 _ _ _ _ _ _ _
      | exact ih1 _ _ _ _ _ _ _ _ _ _ _
      | exact ih2 _ _ _ _ _ _ _ _ _ _ _
      | exact leb_GetUint.mono _ _
      | exact LeO.none _
      | refine LeO.ite ?_ ?_
      | refine LeO.bind ?_ (fun _ => ?_)
theorem column_GetFlags.mono : ∀ a0 a1 k, LeO (column_GetFlags.f k a0 a1) (column_GetFlags.f (k + 1) a0 a1) := by
  intro a0 a1 k
  obtain ⟨ih0, ih1, ih2⟩ := column_GetFlags.mono_l k
  unfold column_GetFlags.f
  repeat' first
      | (with_reducible exact ih0 _ _ _ _ _ _ _)
      | (with_reducible exact ih1 _ _ _ _ _ _ _ _ _ _ _)
      | (with_reducible exact ih2 _ _ _ _ _ _ _ _ _ _ _)
      | (with_reducible exact leb_GetUint.mono _ _)
      | (with_reducible exact LeO.refl _)
      | (with_reducible exact LeO.none _)
      | (with_reducible refine LeO.ite ?_ ?_)
      | (with_reducible refine LeO.bind ?_ (fun _ => ?_))
      | exact ih0 _ _ _ _ _ _ _
      | exact ih1 _ _ _ _ _ _ _ _ _ _ _
      | exact ih2 _ _ _ _ _ _ _ _ _ _ _
      | exact leb_GetUint.mono _ _
      | exact LeO.none _
      | refine LeO.ite ?_ ?_
      | refine LeO.bind ?_ (fun _ => ?_)
set_option maxHeartbeats 8000000 in
set_option maxRecDepth 100000 in
theorem column_GetFlags.calls (k : Nat) (A0 : Option Addr) (c0 : Nat) (l0 : List Int) (a1 : Int) (r1 : List Bool) (r2 : Int) (r3 : Int) (w : World) (hr0 : Kd.C (Kd.int .u8) w A0 l0.length l0) (hc0 : l0.length ≤ c0) (h : column_GetFlags.f k l0 a1 = some (r1, r2, r3)) :
    Calls Try.prog 44 #[.slice A0 l0.length c0, .int .i64 a1] w fun e w' => ∃ v0_ : Value, e = .returned (.tuple #[v0_, .int .i64 r2, .int .i64 r3]) ∧ Kd.R Kd.bool 4 w' w.heap.size (fun _ => True) v0_ r1 ∧ Below w.heap.size w w' := by
  have HR0 := Aside0.mk hr0
  have HC0 := Aside0.mk hc0
  clear hr0 hc0
  have HB := Aside0.mk (Below.refl w.heap.size w)
  have H : ((column_bounded.f a1).bind fun t525 => ((leb_GetUint.f k l0).bind fun bt526 => (if bt526.2.2 = 0 then (if bt526.1 > (IntKind.u64.wrap ((IntKind.u64.wrap (t525)) + 1)) then (some (([] : List Bool), 0, 5)) else (column_GetFlags.l0 k l0 t525 ([] : List Bool) bt526.2.1 bt526.1 bt526.1 0)) else (some (([] : List Bool), 0, bt526.2.2))))) = some (r1, r2, r3) := h
  clear h
  replace H := Option.bind_eq_some_iff.mp H
  obtain ⟨t525, A30, H⟩ := H
  replace H : ((leb_GetUint.f k l0).bind fun bt526 => (if bt526.2.2 = 0 then (if bt526.1 > (IntKind.u64.wrap ((IntKind.u64.wrap (t525)) + 1)) then (some (([] : List Bool), 0, 5)) else (column_GetFlags.l0 k l0 t525 ([] : List Bool) bt526.2.1 bt526.1 bt526.1 0)) else (some (([] : List Bool), 0, bt526.2.2)))) = some (r1, r2, r3) := H
  have A3 := Aside0.mk A30
  clear A30
  replace H := Option.bind_eq_some_iff.mp H
  obtain ⟨⟨t526, t527, t528⟩, A40, H⟩ := H
  replace H : (if t528 = 0 then (if t526 > (IntKind.u64.wrap ((IntKind.u64.wrap (t525)) + 1)) then (some (([] : List Bool), 0, 5)) else (column_GetFlags.l0 k l0 t525 ([] : List Bool) t527 t526 t526 0)) else (some (([] : List Bool), 0, t528))) = some (r1, r2, r3) := H
  have A4 := Aside0.mk A40
  clear A40
  by_cases c5 : t528 = 0
  · rw [if_pos c5] at H
    have c5b0 : (t528 == 0) = true := beq_iff_eq.mpr c5
    have c5b1 : (t528 != 0) = false := bne_eq_false_iff_eq.mpr c5
    clear c5
    by_cases c6 : t526 > (IntKind.u64.wrap ((IntKind.u64.wrap (t525)) + 1))
    · rw [if_pos c6] at H
      have c6b0 : decide ((IntKind.u64.wrap ((IntKind.u64.wrap (t525)) + 1)) < t526) = true := decide_eq_true c6
      clear c6
      simp only [Option.some.injEq, Prod.mk.injEq] at H
      obtain ⟨rfl, rfl, rfl⟩ := H
      go_enter Try.func44, Try.ntmps44
      go_wp2_with (first | ((with_reducible refine gate_callee (f := 47) rfl ?_); refine goesL_ (some 13) rfl rfl Try.func47 (by kernel_rfl) rfl #[.int .i64 a1] rfl (by (try simp only [List.map_toArray, List.map_cons, List.map_nil]); first | done | rfl | (simp only [List.length_drop, List.length_take]; rfl)) ?_; (with_reducible refine (column_bounded.calls a1 t525 _ A3.out).mono ?_); rintro e w7 ⟨rfl, hb⟩; refine ⟨_, rfl, ?_⟩; have n0_ := Aside0.mk (below_step (by repeat (first | (with_reducible first | exact HB.out | apply below_alloc | apply pw_below_drewN | apply below_drew1) | exact HB.out)) hb); clear HB; have HB := n0_; clear n0_; (try clear hb); (try clear hb2); (try clear hk); (try clear hi)) | ((with_reducible refine gate_callee (f := 22) rfl ?_); refine goesL_ (some 16) rfl rfl Try.func22 (by kernel_rfl) rfl #[.slice A0 l0.length c0] rfl (by (try simp only [List.map_toArray, List.map_cons, List.map_nil]); first | done | rfl | (simp only [List.length_drop, List.length_take]; rfl)) ?_; (with_reducible refine (leb_GetUint.calls k _ _ l0 t526 t527 t528 _ ?side1 ?side2 A4.out).mono ?_); (case side1 => repeat (first | exact (Kd.C_below HR0.out HB.out) | (with_reducible refine Kd.C_alloc ?_ _) | (with_reducible refine Kd.C_drewN ?_ _) | (with_reducible refine Kd.C_drew ?_))); (case side2 => exact HC0.out); rintro e w' ⟨rfl, ⟨nd, rfl⟩⟩; refine ⟨_, rfl, ?_⟩))
      go_ret3
      exact ⟨_, by first | rfl | (simp [errW_none, errW_some] <;> rfl) | (simp [*, errW_none, errW_some] <;> rfl), by first | exact Kd.R_nil _ _ _ _ _ | exact Kd.N_nil _ _ _ _ _ | exact Kd.V_nil _ _ _ _ _ | exact Kd.Q_nil _ _ _ _ _ | exact Kd.S_nil _ _ _ _ _, by repeat (first | (with_reducible first | exact HB.out | apply below_alloc | apply pw_below_drewN | apply below_drew1) | exact HB.out)⟩
    · rw [if_neg c6] at H
      have c6b0 : decide ((IntKind.u64.wrap ((IntKind.u64.wrap (t525)) + 1)) < t526) = false := decide_eq_false c6
      clear c6
      have H' := Aside0.mk H
      clear H
      go_enter Try.func44, Try.ntmps44
      go_wp2_with (first | ((with_reducible refine gate_callee (f := 47) rfl ?_); refine goesL_ (some 13) rfl rfl Try.func47 (by kernel_rfl) rfl #[.int .i64 a1] rfl (by (try simp only [List.map_toArray, List.map_cons, List.map_nil]); first | done | rfl | (simp only [List.length_drop, List.length_take]; rfl)) ?_; (with_reducible refine (column_bounded.calls a1 t525 _ A3.out).mono ?_); rintro e w8 ⟨rfl, hb⟩; refine ⟨_, rfl, ?_⟩; have n0_ := Aside0.mk (below_step (by repeat (first | (with_reducible first | exact HB.out | apply below_alloc | apply pw_below_drewN | apply below_drew1) | exact HB.out)) hb); clear HB; have HB := n0_; clear n0_; (try clear hb); (try clear hb2); (try clear hk); (try clear hi)) | ((with_reducible refine gate_callee (f := 22) rfl ?_); refine goesL_ (some 16) rfl rfl Try.func22 (by kernel_rfl) rfl #[.slice A0 l0.length c0] rfl (by (try simp only [List.map_toArray, List.map_cons, List.map_nil]); first | done | rfl | (simp only [List.length_drop, List.length_take]; rfl)) ?_; (with_reducible refine (leb_GetUint.calls k _ _ l0 t526 t527 t528 _ ?side1 ?side2 A4.out).mono ?_); (case side1 => repeat (first | exact (Kd.C_below HR0.out HB.out) | (with_reducible refine Kd.C_alloc ?_ _) | (with_reducible refine Kd.C_drewN ?_ _) | (with_reducible refine Kd.C_drew ?_))); (case side2 => exact HC0.out); rintro e w' ⟨rfl, ⟨nd, rfl⟩⟩; refine ⟨_, rfl, ?_⟩))
      go_loopg [4, 5, 31] k (fun kq v4 v5 v31 w' => ∃ (x4_1 : List Bool) (x5_1 : Int) (x31_1 : Int), v5 = .int .i64 x5_1 ∧ v31 = .int .u64 x31_1 ∧ Aside0 (column_GetFlags.l0 kq l0 t525 x4_1 x5_1 t526 t526 x31_1 = some (r1, r2, r3)) ∧ Aside0 (kq ≤ k) ∧ Aside0 (Kd.R Kd.bool 4 w' w.heap.size (fun _ => True) v4 x4_1) ∧ Aside0 (Below w.heap.size w w'))
      case atStart => exact ⟨(([] : List Bool)), (t527), (0), (by first | rfl | (simp; done) | (simp [*]; done)), (by first | rfl | (simp; done) | (simp [*]; done)), H', ⟨Nat.le_refl _⟩, ⟨by first | exact Kd.R_nil _ _ _ _ _ | exact Kd.N_nil _ _ _ _ _ | exact Kd.V_nil _ _ _ _ _ | exact Kd.Q_nil _ _ _ _ _ | exact Kd.S_nil _ _ _ _ _⟩, ⟨by repeat (first | (with_reducible first | exact HB.out | apply below_alloc | apply pw_below_drewN | apply below_drew1) | exact HB.out)⟩⟩
      case round =>
        clear H'
        try clear c2
        try clear p2
        try clear c4
        try clear c5
        try clear c5b0
        try clear c5b1
        try clear c6
        try clear c6b0
        obtain ⟨x4_1, x5_1, x31_1, rfl, rfl, HA, HK1, HO_4, HB⟩ := hrel
        cases gk with
        | zero => exact absurd HA.out (by simp [column_GetFlags.l0])
        | succ k1 =>
          have H := HA.out
          clear HA
          simp only [column_GetFlags.l0] at H
          by_cases c9 : x31_1 < t526
          · rw [if_pos c9] at H
            have c9b0 : decide (x31_1 < t526) = true := decide_eq_true c9
            clear c9
            by_cases c10 : 0 ≤ x5_1
            · rw [if_pos c10] at H
              have c10b0 := eq_true c10
              have c10b1 : decide (0 ≤ x5_1) = true := decide_eq_true c10
              clear c10
              by_cases c11 : x5_1 ≤ (l0.length : Int)
              · rw [if_pos c11] at H
                have c11b0 := eq_true c11
                have c11b1 : decide (x5_1 ≤ (l0.length : Int)) = true := decide_eq_true c11
                clear c11
                replace H := Option.bind_eq_some_iff.mp H
                obtain ⟨⟨t530, t531, t532⟩, A120, H⟩ := H
                replace H : (if t532 = 0 then (if t530 = 0 then (if x31_1 > 0 then (column_GetFlags.j1 k1 l0 t525 x4_1 x5_1 t526 x31_1 t530 t531 t526 x31_1 true) else (column_GetFlags.j1 k1 l0 t525 x4_1 x5_1 t526 x31_1 t530 t531 t526 x31_1 (t526 == 1))) else (column_GetFlags.j1 k1 l0 t525 x4_1 x5_1 t526 x31_1 t530 t531 t526 x31_1 false)) else (some (([] : List Bool), 0, t532))) = some (r1, r2, r3) := H
                have A12 := Aside0.mk A120
                clear A120
                by_cases c13 : t532 = 0
                · rw [if_pos c13] at H
                  have c13b0 : (t532 == 0) = true := beq_iff_eq.mpr c13
                  have c13b1 : (t532 != 0) = false := bne_eq_false_iff_eq.mpr c13
                  clear c13
                  have HC14 := Aside0.mk H
                  clear H
                  obtain ⟨i015, hi015, _, hsz15, _⟩ := info_parts info5
                  obtain ⟨A15, hcut15, hA15, hC15⟩ := print_drop_of (P := Try.prog) (Value.int .u8) 0 23 5 .i64 Try.underlying23 hi015 hsz15 A0 c0 l0 x5_1 (of_decide_eq_true (by first | (with_reducible assumption) | assumption)) (of_decide_eq_true (by first | (with_reducible assumption) | assumption)) HC0.out
                  have HR529 := Aside0.mk (Kd.C_of_reads (h1 := fun _ => rfl) (hA15 _ (Kd.reads_of_C HR0.out)))
                  have HC529 := Aside0.mk hC15
                  clear hA15 hC15 hi015 hsz15
                  go_upto_region 13 with (first | ((with_reducible refine gate_callee (f := 22) rfl ?_); refine goesL_ (some 38) rfl rfl Try.func22 (by kernel_rfl) rfl #[.slice A15 (l0.drop (x5_1 : Int).toNat).length (c0 - x5_1.toNat)] rfl (by (try simp only [List.map_toArray, List.map_cons, List.map_nil]); first | done | (rw [show (l0.drop (x5_1 : Int).toNat).length = (l0.length - x5_1.toNat) from List.length_drop] <;> rfl) | rfl | (simp only [List.length_drop, List.length_take]; rfl)) ?_; (with_reducible refine (leb_GetUint.calls k1 _ _ (l0.drop (x5_1 : Int).toNat) t530 t531 t532 _ ?side1 ?side2 A12.out).mono ?_); (case side1 => repeat (first | exact (Kd.C_below HR529.out HB.out) | (with_reducible refine Kd.C_alloc ?_ _) | (with_reducible refine Kd.C_drewN ?_ _) | (with_reducible refine Kd.C_drew ?_))); (case side2 => exact HC529.out); rintro e w' ⟨rfl, ⟨nd, rfl⟩⟩; refine ⟨_, rfl, ?_⟩))
                  (try simp only [Act.put, List.setIfInBounds_toArray, List.set_cons_zero, List.set_cons_succ])
                  go_cut [46] (fun v46 wc => ∃ (kq : Nat) (x46_13 : Bool), v46 = .bool x46_13 ∧ Aside0 (column_GetFlags.j1 kq l0 t525 x4_1 x5_1 t526 x31_1 t530 t531 t526 x31_1 x46_13 = some (r1, r2, r3)) ∧ Aside0 (kq ≤ k1) ∧ Aside0 (Kd.R Kd.bool 4 wc w.heap.size (fun _ => True) u4 x4_1) ∧ Aside0 (Below w.heap.size w wc))
                  case first =>
                    have H := HC14.out
                    clear HC14
                    by_cases c16 : t530 = 0
                    · rw [if_pos c16] at H
                      have c16b0 : (t530 == 0) = true := beq_iff_eq.mpr c16
                      have c16b1 : (t530 != 0) = false := bne_eq_false_iff_eq.mpr c16
                      clear c16
                      (first | rw [c16b0] | (simp only [i64_w, i32_w]; rw [c16b0]) | skip)
                      by_cases c17 : x31_1 > 0
                      · rw [if_pos c17] at H
                        have c17b0 : decide (0 < x31_1) = true := decide_eq_true c17
                        clear c17
                        have H' := Aside0.mk H
                        clear H
                        go_wp2
                        go_meet
                        case rel => exact ⟨_, (true), (by first | rfl | (simp; done) | (simp [*]; done)), H', ⟨by have := HK1.out; first | omega | exact Nat.le_refl _⟩, ⟨by (with_reducible repeat (first | apply Kd.R_alloc | apply Kd.R_drewN | apply Kd.R_drew)); exact HO_4.out⟩, ⟨by repeat (first | (with_reducible first | exact HB.out | apply below_alloc | apply pw_below_drewN | apply below_drew1) | exact HB.out)⟩⟩
                      · rw [if_neg c17] at H
                        have c17b0 : decide (0 < x31_1) = false := decide_eq_false c17
                        clear c17
                        have H' := Aside0.mk H
                        clear H
                        go_wp2
                        go_meet
                        case rel => exact ⟨_, ((t526 == 1)), (by first | rfl | (simp; done) | (simp [*]; done)), H', ⟨by have := HK1.out; first | omega | exact Nat.le_refl _⟩, ⟨by (with_reducible repeat (first | apply Kd.R_alloc | apply Kd.R_drewN | apply Kd.R_drew)); exact HO_4.out⟩, ⟨by repeat (first | (with_reducible first | exact HB.out | apply below_alloc | apply pw_below_drewN | apply below_drew1) | exact HB.out)⟩⟩
                    · rw [if_neg c16] at H
                      have c16b0 : (t530 == 0) = false := beq_eq_false_iff_ne.mpr c16
                      have c16b1 : (t530 != 0) = true := bne_iff_ne.mpr c16
                      (first | rw [c16b0] | (simp only [i64_w, i32_w]; rw [c16b0]) | skip)
                      have H' := Aside0.mk H
                      clear H
                      go_wp2
                      go_meet
                      case rel => exact ⟨_, (false), (by first | rfl | (simp; done) | (simp [*]; done)), H', ⟨by have := HK1.out; first | omega | exact Nat.le_refl _⟩, ⟨by (with_reducible repeat (first | apply Kd.R_alloc | apply Kd.R_drewN | apply Kd.R_drew)); exact HO_4.out⟩, ⟨by repeat (first | (with_reducible first | exact HB.out | apply below_alloc | apply pw_below_drewN | apply below_drew1) | exact HB.out)⟩⟩
                  case rest =>
                    clear HC14
                    try clear c1
                    try clear c2
                    try clear p2
                    try clear c4
                    try clear c5
                    try clear c5b0
                    try clear c5b1
                    try clear c6
                    try clear c6b0
                    try clear c9
                    try clear c9b0
                    try clear c10
                    try clear c10b0
                    try clear c10b1
                    try clear c11
                    try clear c11b0
                    try clear c11b1
                    try clear c13
                    try clear c13b0
                    try clear c13b1
                    try clear c16
                    try clear c16b0
                    try clear c16b1
                    try clear c17
                    try clear c17b0
                    try clear p2
                    obtain ⟨kq, x46_13, rfl, HA, HJ13, HO_4, HB⟩ := hcut
                    cases kq with
                    | zero => exact absurd HA.out (by simp [column_GetFlags.j1])
                    | succ kj13 =>
                      have H := HA.out
                      clear HA
                      simp only [column_GetFlags.j1] at H
                      by_cases c18 : x46_13 = true
                      · subst c18
                        have H1 : (some (([] : List Bool), 0, 4)) = some (r1, r2, r3) := by rw [if_pos rfl] at H; exact H
                        clear H
                        have H := H1
                        clear H1
                        simp only [Option.some.injEq, Prod.mk.injEq] at H
                        obtain ⟨rfl, rfl, rfl⟩ := H
                        go_wp2
                        go_ret3
                        exact ⟨_, by first | rfl | (simp [errW_none, errW_some] <;> rfl) | (simp [*, errW_none, errW_some] <;> rfl), by first | exact Kd.R_nil _ _ _ _ _ | exact Kd.N_nil _ _ _ _ _ | exact Kd.V_nil _ _ _ _ _ | exact Kd.Q_nil _ _ _ _ _ | exact Kd.S_nil _ _ _ _ _, by repeat (first | (with_reducible first | exact HB.out | apply below_alloc | apply pw_below_drewN | apply below_drew1) | exact HB.out)⟩
                      · replace c18 := Bool.eq_false_iff.mpr c18
                        subst c18
                        have H1 : (if t530 > (IntKind.u64.wrap (wrap64 (t525 - (x4_1.length : Int)))) then (some (([] : List Bool), 0, 5)) else (column_GetFlags.l1 kj13 l0 t525 x4_1 x5_1 t526 x31_1 t531 t526 x31_1 t530 0)) = some (r1, r2, r3) := by rw [if_neg (show ¬ (false = true) by decide)] at H; exact H
                        clear H
                        have H := H1
                        clear H1
                        by_cases c19 : t530 > (IntKind.u64.wrap (wrap64 (t525 - (x4_1.length : Int))))
                        · rw [if_pos c19] at H
                          have c19b0 : decide ((IntKind.u64.wrap (wrap64 (t525 - (x4_1.length : Int)))) < t530) = true := decide_eq_true c19
                          clear c19
                          simp only [Option.some.injEq, Prod.mk.injEq] at H
                          obtain ⟨rfl, rfl, rfl⟩ := H
                          obtain ⟨Ao20, co20, eo20⟩ := Kd.R_slice HO_4.out
                          subst eo20
                          go_wp2
                          go_ret3
                          exact ⟨_, by first | rfl | (simp [errW_none, errW_some] <;> rfl) | (simp [*, errW_none, errW_some] <;> rfl), by first | exact Kd.R_nil _ _ _ _ _ | exact Kd.N_nil _ _ _ _ _ | exact Kd.V_nil _ _ _ _ _ | exact Kd.Q_nil _ _ _ _ _ | exact Kd.S_nil _ _ _ _ _, by repeat (first | (with_reducible first | exact HB.out | apply below_alloc | apply pw_below_drewN | apply below_drew1) | exact HB.out)⟩
                        · rw [if_neg c19] at H
                          have c19b0 : decide ((IntKind.u64.wrap (wrap64 (t525 - (x4_1.length : Int)))) < t530) = false := decide_eq_false c19
                          clear c19
                          have H' := Aside0.mk H
                          clear H
                          obtain ⟨Ao21, co21, eo21⟩ := Kd.R_slice HO_4.out
                          subst eo21
                          go_wp2
                          go_loopg [4, 66] kj13 (fun kq v4 v66 w' => ∃ (x4_3 : List Bool) (x66_3 : Int), v66 = .int .u64 x66_3 ∧ Aside0 (column_GetFlags.l1 kq l0 t525 x4_3 x5_1 t526 x31_1 t531 t526 x31_1 t530 x66_3 = some (r1, r2, r3)) ∧ Aside0 (kq ≤ kj13) ∧ Aside0 (Kd.R Kd.bool 4 w' w.heap.size (fun _ => True) v4 x4_3) ∧ Aside0 (Below w.heap.size w w'))
                          case atStart => exact ⟨(x4_1), (0), (by first | rfl | (simp; done) | (simp [*]; done)), H', ⟨Nat.le_refl _⟩, ⟨by (with_reducible repeat (first | apply Kd.R_alloc | apply Kd.R_drewN | apply Kd.R_drew)); exact HO_4.out⟩, ⟨by repeat (first | (with_reducible first | exact HB.out | apply below_alloc | apply pw_below_drewN | apply below_drew1) | exact HB.out)⟩⟩
                          case round =>
                            clear H'
                            try clear c1
                            try clear c2
                            try clear p2
                            try clear c4
                            try clear c5
                            try clear c5b0
                            try clear c5b1
                            try clear c6
                            try clear c6b0
                            try clear p6
                            try clear c9
                            try clear c9b0
                            try clear c10
                            try clear c10b0
                            try clear c10b1
                            try clear c11
                            try clear c11b0
                            try clear c11b1
                            try clear c13
                            try clear c13b0
                            try clear c13b1
                            try clear c16
                            try clear c16b0
                            try clear c16b1
                            try clear c17
                            try clear c17b0
                            try clear c18
                            try clear c19
                            try clear c19b0
                            try clear p2
                            obtain ⟨x4_3, x66_3, rfl, HA, HK3, HO_4, HB⟩ := hrel
                            cases gk with
                            | zero => exact absurd HA.out (by simp [column_GetFlags.l1])
                            | succ k3 =>
                              have H := HA.out
                              clear HA
                              simp only [column_GetFlags.l1] at H
                              by_cases c22 : x66_3 < t530
                              · rw [if_pos c22] at H
                                have c22b0 : decide (x66_3 < t530) = true := decide_eq_true c22
                                clear c22
                                by_cases c23 : x4_3.length < 140737488355328
                                · rw [if_pos c23] at H
                                  have LMc23 := Aside0.mk c23
                                  clear c23
                                  obtain ⟨y533, hy533⟩ : ∃ y_ : List Bool, y_ = (x4_3 ++ [((Go.bits .and .u64 x31_1 1) == 1)]) := ⟨_, rfl⟩
                                  replace H : (column_GetFlags.l1 k3 l0 t525 y533 x5_1 t526 x31_1 t531 t526 x31_1 t530 (IntKind.u64.wrap (x66_3 + 1))) = some (r1, r2, r3) := by first | (rw [hy533]; with_reducible exact H) | (have H2_ := (Option.bind_some _ _).symm.trans H; rw [hy533]; with_reducible exact H2_) | (have H2_ := (Option.bind_some _ _).symm.trans H; with_reducible exact H2_) | with_reducible exact H | (rw [hy533]; exact H) | exact H
                                  have Ny533 := Aside0.mk hy533
                                  clear hy533
                                  have H' := Aside0.mk H
                                  clear H
                                  go_wp2_with (first | ((with_reducible refine gate_builtin (b := .append) (xs := #[.tmp 68, .tmp 72]) rfl ?_); at_builtin; refine Kd.R_append Kd.bool (w0 := w) w.heap.size rfl (.tmp 68) (.tmp 72) 61 4 (.bool false) 1 rfl Try.underlying61 info4 rfl (by decide) (by omega) u4 x4_3 ((Go.bits .and .u64 x31_1 1) == 1) [.bool ((Go.bits .and .u64 x31_1 1) == 1)] (fun _ => True) (fun _ => False) rfl rfl ?aP (fun _ hk => hk.elim) ?aF ?aO ?aB ?aS ?aL ?_; (case aP => exact rfl); (case aB => exact (by repeat (first | (with_reducible first | exact HB.out | apply below_alloc | apply pw_below_drewN | apply below_drew1) | exact HB.out))); (case aF => exact (fun _ _ => trivial)); (case aO => exact (by (with_reducible repeat (first | apply Kd.R_alloc | apply Kd.R_drewN | apply Kd.R_drew)); exact HO_4.out)); (case aS => exact (below_size (by repeat (first | (with_reducible first | exact HB.out | apply below_alloc | apply pw_below_drewN | apply below_drew1) | exact HB.out)))); (case aL => have := LMc23.out; omega); intro v534 w24 ho hb hg hat; rw [← Ny533.out] at ho; have n0_ := Aside0.mk (hb); have n1_ := Aside0.mk (ho); clear HB; clear HO_4; have HB := n0_; have HO535 := n1_; clear n0_ n1_; clear ho hb hg hat))
                                  go_roundg k3
                                  case measure => have := HK1.out; have := HJ13.out; have := HK3.out; omega
                                  case rel => exact ⟨(y533), (IntKind.u64.wrap (x66_3 + 1)), (by first | rfl | (simp; done) | (simp [*]; done)), H', ⟨by have := HK1.out; have := HJ13.out; have := HK3.out; omega⟩, ⟨by (with_reducible repeat (first | apply Kd.R_alloc | apply Kd.R_drewN | apply Kd.R_drew)); exact HO535.out⟩, ⟨by repeat (first | (with_reducible first | exact HB.out | apply below_alloc | apply pw_below_drewN | apply below_drew1) | exact HB.out)⟩⟩
                                · rw [if_neg c23] at H
                                  exact absurd H (by simp)
                              · rw [if_neg c22] at H
                                have c22b0 : decide (x66_3 < t530) = false := decide_eq_false c22
                                clear c22
                                have H' := Aside0.mk H
                                clear H
                                go_wp2
                                go_roundg k3
                                case measure => have := HK1.out; have := HJ13.out; have := HK3.out; omega
                                case rel => exact ⟨(x4_3), (wrap64 (x5_1 + t531)), (IntKind.u64.wrap (x31_1 + 1)), (by first | rfl | (simp; done) | (simp [*]; done)), (by first | rfl | (simp; done) | (simp [*]; done)), H', ⟨by have := HK1.out; have := HJ13.out; have := HK3.out; omega⟩, ⟨by (with_reducible repeat (first | apply Kd.R_alloc | apply Kd.R_drewN | apply Kd.R_drew)); exact HO_4.out⟩, ⟨by repeat (first | (with_reducible first | exact HB.out | apply below_alloc | apply pw_below_drewN | apply below_drew1) | exact HB.out)⟩⟩
                · rw [if_neg c13] at H
                  have c13b0 : (t532 == 0) = false := beq_eq_false_iff_ne.mpr c13
                  have c13b1 : (t532 != 0) = true := bne_iff_ne.mpr c13
                  simp only [Option.some.injEq, Prod.mk.injEq] at H
                  obtain ⟨rfl, rfl, rfl⟩ := H
                  obtain ⟨i025, hi025, _, hsz25, _⟩ := info_parts info5
                  obtain ⟨A25, hcut25, hA25, hC25⟩ := print_drop_of (P := Try.prog) (Value.int .u8) 0 23 5 .i64 Try.underlying23 hi025 hsz25 A0 c0 l0 x5_1 (of_decide_eq_true (by first | (with_reducible assumption) | assumption)) (of_decide_eq_true (by first | (with_reducible assumption) | assumption)) HC0.out
                  have HR529 := Aside0.mk (Kd.C_of_reads (h1 := fun _ => rfl) (hA25 _ (Kd.reads_of_C HR0.out)))
                  have HC529 := Aside0.mk hC25
                  clear hA25 hC25 hi025 hsz25
                  go_wp2_with (first | ((with_reducible refine gate_callee (f := 22) rfl ?_); refine goesL_ (some 38) rfl rfl Try.func22 (by kernel_rfl) rfl #[.slice A25 (l0.drop (x5_1 : Int).toNat).length (c0 - x5_1.toNat)] rfl (by (try simp only [List.map_toArray, List.map_cons, List.map_nil]); first | done | (rw [show (l0.drop (x5_1 : Int).toNat).length = (l0.length - x5_1.toNat) from List.length_drop] <;> rfl) | rfl | (simp only [List.length_drop, List.length_take]; rfl)) ?_; (with_reducible refine (leb_GetUint.calls k1 _ _ (l0.drop (x5_1 : Int).toNat) t530 t531 t532 _ ?side1 ?side2 A12.out).mono ?_); (case side1 => repeat (first | exact (Kd.C_below HR529.out HB.out) | (with_reducible refine Kd.C_alloc ?_ _) | (with_reducible refine Kd.C_drewN ?_ _) | (with_reducible refine Kd.C_drew ?_))); (case side2 => exact HC529.out); rintro e w' ⟨rfl, ⟨nd, rfl⟩⟩; refine ⟨_, rfl, ?_⟩))
                  go_ret3
                  exact ⟨_, by first | rfl | (simp [errW_none, errW_some] <;> rfl) | (simp [*, errW_none, errW_some] <;> rfl), by first | exact Kd.R_nil _ _ _ _ _ | exact Kd.N_nil _ _ _ _ _ | exact Kd.V_nil _ _ _ _ _ | exact Kd.Q_nil _ _ _ _ _ | exact Kd.S_nil _ _ _ _ _, by repeat (first | (with_reducible first | exact HB.out | apply below_alloc | apply pw_below_drewN | apply below_drew1) | exact HB.out)⟩
              · rw [if_neg c11] at H
                exact absurd H (by simp)
            · rw [if_neg c10] at H
              exact absurd H (by simp)
          · rw [if_neg c9] at H
            have c9b0 : decide (x31_1 < t526) = false := decide_eq_false c9
            clear c9
            simp only [Option.some.injEq, Prod.mk.injEq] at H
            obtain ⟨rfl, rfl, rfl⟩ := H
            go_wp2
            go_ret3
            exact ⟨_, by first | rfl | (simp [errW_none, errW_some] <;> rfl) | (simp [*, errW_none, errW_some] <;> rfl), by (with_reducible repeat (first | apply Kd.R_alloc | apply Kd.R_drewN | apply Kd.R_drew)); exact HO_4.out, by repeat (first | (with_reducible first | exact HB.out | apply below_alloc | apply pw_below_drewN | apply below_drew1) | exact HB.out)⟩
  · rw [if_neg c5] at H
    have c5b0 : (t528 == 0) = false := beq_eq_false_iff_ne.mpr c5
    have c5b1 : (t528 != 0) = true := bne_iff_ne.mpr c5
    simp only [Option.some.injEq, Prod.mk.injEq] at H
    obtain ⟨rfl, rfl, rfl⟩ := H
    go_enter Try.func44, Try.ntmps44
    go_wp2_with (first | ((with_reducible refine gate_callee (f := 47) rfl ?_); refine goesL_ (some 13) rfl rfl Try.func47 (by kernel_rfl) rfl #[.int .i64 a1] rfl (by (try simp only [List.map_toArray, List.map_cons, List.map_nil]); first | done | rfl | (simp only [List.length_drop, List.length_take]; rfl)) ?_; (with_reducible refine (column_bounded.calls a1 t525 _ A3.out).mono ?_); rintro e w26 ⟨rfl, hb⟩; refine ⟨_, rfl, ?_⟩; have n0_ := Aside0.mk (below_step (by repeat (first | (with_reducible first | exact HB.out | apply below_alloc | apply pw_below_drewN | apply below_drew1) | exact HB.out)) hb); clear HB; have HB := n0_; clear n0_; (try clear hb); (try clear hb2); (try clear hk); (try clear hi)) | ((with_reducible refine gate_callee (f := 22) rfl ?_); refine goesL_ (some 16) rfl rfl Try.func22 (by kernel_rfl) rfl #[.slice A0 l0.length c0] rfl (by (try simp only [List.map_toArray, List.map_cons, List.map_nil]); first | done | rfl | (simp only [List.length_drop, List.length_take]; rfl)) ?_; (with_reducible refine (leb_GetUint.calls k _ _ l0 t526 t527 t528 _ ?side1 ?side2 A4.out).mono ?_); (case side1 => repeat (first | exact (Kd.C_below HR0.out HB.out) | (with_reducible refine Kd.C_alloc ?_ _) | (with_reducible refine Kd.C_drewN ?_ _) | (with_reducible refine Kd.C_drew ?_))); (case side2 => exact HC0.out); rintro e w' ⟨rfl, ⟨nd, rfl⟩⟩; refine ⟨_, rfl, ?_⟩))
    go_ret3
    exact ⟨_, by first | rfl | (simp [errW_none, errW_some] <;> rfl) | (simp [*, errW_none, errW_some] <;> rfl), by first | exact Kd.R_nil _ _ _ _ _ | exact Kd.N_nil _ _ _ _ _ | exact Kd.V_nil _ _ _ _ _ | exact Kd.Q_nil _ _ _ _ _ | exact Kd.S_nil _ _ _ _ _, by repeat (first | (with_reducible first | exact HB.out | apply below_alloc | apply pw_below_drewN | apply below_drew1) | exact HB.out)⟩

end Go.Proofs.Ytcffooeiennmjaa.PA

-- Written by a program of this session (wip/tools/myprint.py), out of the translation's print. Lean checks it.
namespace Go.Proofs.Ytcffooeiennmjaa.PA
open Go.RowKit Go.Proofs.YtcffooeiennmjaaW.PrintWords Go.Proofs.YtcffooeiennmjaaW.PrintLast Go.Proofs.YtcffooeiennmjaaW.PrintMore
attribute [local go_sem] max2_int min2_int max_two min_two max_three min_three max_four min_four   -- for this text's walks alone
set_option linter.unusedVariables false
set_option linter.unusedSimpArgs false

/-! ### stemmaref03_Alike: function 45 -/
def stemmaref03_Alike.l0 : Nat → List Bool → List Bool → Int → Option (Bool)
  | 0, _, _, _ => none
  | k + 1, x0, x1, x5 => if x5 < (x0.length : Int) then (if 0 ≤ x5 then (if x5 < (x1.length : Int) then (if ((rdOf false x0 x5) != (rdOf false x1 x5)) = true then (some false) else (stemmaref03_Alike.l0 k x0 x1 (wrap64 (x5 + 1)))) else (none)) else (none)) else (some true)
def stemmaref03_Alike.f (k : Nat) (l0 : List Bool) (l1 : List Bool) : Option (Bool) := if (l0.length : Int) = (l1.length : Int) then (stemmaref03_Alike.l0 k l0 l1 0) else (some false)
theorem stemmaref03_Alike.mono_l : ∀ k, (∀ y0 y1 y2, LeO (stemmaref03_Alike.l0 k y0 y1 y2) (stemmaref03_Alike.l0 (k + 1) y0 y1 y2))
  | 0 => fun _ _ _ r h => by simp [stemmaref03_Alike.l0] at h
  | k + 1 => by
    have ih0 := stemmaref03_Alike.mono_l k
    · intro y0 y1 y2
      unfold stemmaref03_Alike.l0
      repeat' first
      | (with_reducible exact ih0 _ _ _)
      | (with_reducible exact LeO.refl _)
      | (with_reducible exact LeO.none _)
      | (with_reducible refine LeO.ite ?_ ?_)
      | (with_reducible refine LeO.bind ?_ (fun _ => ?_))
      | exact ih0 _ _ _
      | exact LeO.none _
      | refine LeO.ite ?_ ?_
      | refine LeO.bind ?_ (fun _ => ?_)
theorem stemmaref03_Alike.mono : ∀ a0 a1 k, LeO (stemmaref03_Alike.f k a0 a1) (stemmaref03_Alike.f (k + 1) a0 a1) := by
  intro a0 a1 k
  have ih0 := stemmaref03_Alike.mono_l k
  unfold stemmaref03_Alike.f
  repeat' first
      | (with_reducible exact ih0 _ _ _)
      | (with_reducible exact LeO.refl _)
      | (with_reducible exact LeO.none _)
      | (with_reducible refine LeO.ite ?_ ?_)
      | (with_reducible refine LeO.bind ?_ (fun _ => ?_))
      | exact ih0 _ _ _
      | exact LeO.none _
      | refine LeO.ite ?_ ?_
      | refine LeO.bind ?_ (fun _ => ?_)
set_option maxHeartbeats 8000000 in
set_option maxRecDepth 100000 in
theorem stemmaref03_Alike.calls (k : Nat) (A0 : Option Addr) (c0 : Nat) (l0 : List Bool) (A1 : Option Addr) (c1 : Nat) (l1 : List Bool) (r : Bool) (w : World) (hr0 : Kd.C Kd.bool w A0 l0.length l0) (hc0 : l0.length ≤ c0) (hr1 : Kd.C Kd.bool w A1 l1.length l1) (hc1 : l1.length ≤ c1) (h : stemmaref03_Alike.f k l0 l1 = some r) :
    Calls Try.prog 45 #[.slice A0 l0.length c0, .slice A1 l1.length c1] w fun e w' => e = .returned (.bool r) ∧ Drawn0 w w' := by
  have HR0 := Aside0.mk hr0
  have HC0 := Aside0.mk hc0
  clear hr0 hc0
  have HR1 := Aside0.mk hr1
  have HC1 := Aside0.mk hc1
  clear hr1 hc1
  have H : (if (l0.length : Int) = (l1.length : Int) then (stemmaref03_Alike.l0 k l0 l1 0) else (some false)) = some r := h
  clear h
  by_cases c3 : (l0.length : Int) = (l1.length : Int)
  · rw [if_pos c3] at H
    have c3b0 : ((l0.length : Int) == (l1.length : Int)) = true := beq_iff_eq.mpr c3
    have c3b1 : ((l0.length : Int) != (l1.length : Int)) = false := bne_eq_false_iff_eq.mpr c3
    have c3b2 : (l0.length == l1.length) = true := by first | simpa using c3 | (simp at c3 ⊢; omega)
    clear c3
    have H' := Aside0.mk H
    clear H
    go_enter Try.func45, Try.ntmps45
    go_wp2
    repeat (go_quiet (fail); try go_wp2)
    go_loopg [5] k (fun kq v5 w' => ∃ (x5_1 : Int), v5 = .int .i64 x5_1 ∧ Aside0 (stemmaref03_Alike.l0 kq l0 l1 x5_1 = some r) ∧ Aside0 (kq ≤ k) ∧ Drawn0 w w')
    case atStart => exact ⟨(0), (by first | rfl | (simp; done) | (simp [*]; done)), H', ⟨Nat.le_refl _⟩, by repeat (first | exact Drawn0.refl _ | apply Drawn0.step)⟩
    case round =>
      clear H'
      try clear c1
      try clear p2
      try clear c3
      try clear c3b0
      try clear c3b1
      try clear c3b2
      obtain ⟨x5_1, rfl, HA, HK1, ⟨m1, rfl⟩⟩ := hrel
      cases gk with
      | zero => exact absurd HA.out (by simp [stemmaref03_Alike.l0])
      | succ k1 =>
        have H := HA.out
        clear HA
        simp only [stemmaref03_Alike.l0] at H
        by_cases c4 : x5_1 < (l0.length : Int)
        · rw [if_pos c4] at H
          have c4b0 : decide (x5_1 < (l0.length : Int)) = true := decide_eq_true c4
          clear c4
          by_cases c5 : 0 ≤ x5_1
          · rw [if_pos c5] at H
            have c5b0 : decide (0 ≤ x5_1) = true := decide_eq_true c5
            clear c5
            by_cases c6 : x5_1 < (l1.length : Int)
            · rw [if_pos c6] at H
              have c6b0 : decide (x5_1 < (l1.length : Int)) = true := decide_eq_true c6
              clear c6
              by_cases c7 : ((rdOf false l0 x5_1) != (rdOf false l1 x5_1)) = true
              · rw [if_pos c7] at H
                have c7b0 : ((rdOf false l0 x5_1) != (rdOf false l1 x5_1)) = true := c7
                (try (have c7b1 : decide ((rdOf false l0 x5_1) = (rdOf false l1 x5_1)) = false := by simpa using c7))
                (try (have c7b2 : ((rdOf false l0 x5_1) == (rdOf false l1 x5_1)) = false := by simpa using c7))
                (try (have c7b3 : ¬ ((rdOf false l0 x5_1) = (rdOf false l1 x5_1)) := by simpa using c7))
                clear c7
                obtain rfl := Option.some.inj H
                have p536 : 0 ≤ (x5_1 : Int) := of_decide_eq_true (by first | (with_reducible assumption) | assumption)
                have q536 : x5_1 < (l0.length : Int) := of_decide_eq_true (by first | (with_reducible assumption) | assumption)
                obtain ⟨ad536, e536, hx536_0⟩ := Kd.at_bool HR0.out x5_1 p536 q536
                cases e536
                replace p536 := eq_true p536
                replace q536 := eq_true q536
                have p537 : 0 ≤ (x5_1 : Int) := of_decide_eq_true (by first | (with_reducible assumption) | assumption)
                have q537 : x5_1 < (l1.length : Int) := of_decide_eq_true (by first | (with_reducible assumption) | assumption)
                obtain ⟨ad537, e537, hx537_0⟩ := Kd.at_bool HR1.out x5_1 p537 q537
                cases e537
                replace p537 := eq_true p537
                replace q537 := eq_true q537
                go_wp2
                repeat (go_quiet (fail); try go_wp2)
                go_ret
                exact ⟨by first | rfl | (simp; done) | (simp [*]; done), by repeat (first | exact Drawn0.refl _ | apply Drawn0.step)⟩
              · rw [if_neg c7] at H
                have c7b0 : ((rdOf false l0 x5_1) != (rdOf false l1 x5_1)) = false := by simpa using c7
                (try (have c7b1 : decide ((rdOf false l0 x5_1) = (rdOf false l1 x5_1)) = true := by simpa using c7))
                (try (have c7b2 : ((rdOf false l0 x5_1) == (rdOf false l1 x5_1)) = true := by simpa using c7))
                clear c7
                have H' := Aside0.mk H
                clear H
                have p536 : 0 ≤ (x5_1 : Int) := of_decide_eq_true (by first | (with_reducible assumption) | assumption)
                have q536 : x5_1 < (l0.length : Int) := of_decide_eq_true (by first | (with_reducible assumption) | assumption)
                obtain ⟨ad536, e536, hx536_0⟩ := Kd.at_bool HR0.out x5_1 p536 q536
                cases e536
                replace p536 := eq_true p536
                replace q536 := eq_true q536
                have p537 : 0 ≤ (x5_1 : Int) := of_decide_eq_true (by first | (with_reducible assumption) | assumption)
                have q537 : x5_1 < (l1.length : Int) := of_decide_eq_true (by first | (with_reducible assumption) | assumption)
                obtain ⟨ad537, e537, hx537_0⟩ := Kd.at_bool HR1.out x5_1 p537 q537
                cases e537
                replace p537 := eq_true p537
                replace q537 := eq_true q537
                go_wp2
                repeat (go_quiet (fail); try go_wp2)
                go_roundg k1
                case measure => have := HK1.out; omega
                case rel => exact ⟨(wrap64 (x5_1 + 1)), (by first | rfl | (simp; done) | (simp [*]; done)), H', ⟨by have := HK1.out; omega⟩, by repeat (first | exact Drawn0.refl _ | apply Drawn0.step)⟩
            · rw [if_neg c6] at H
              exact absurd H (by simp)
          · rw [if_neg c5] at H
            exact absurd H (by simp)
        · rw [if_neg c4] at H
          have c4b0 : decide (x5_1 < (l0.length : Int)) = false := decide_eq_false c4
          clear c4
          obtain rfl := Option.some.inj H
          go_wp2
          repeat (go_quiet (fail); try go_wp2)
          go_ret
          exact ⟨by first | rfl | (simp; done) | (simp [*]; done), by repeat (first | exact Drawn0.refl _ | apply Drawn0.step)⟩
  · rw [if_neg c3] at H
    have c3b0 : ((l0.length : Int) == (l1.length : Int)) = false := beq_eq_false_iff_ne.mpr c3
    have c3b1 : ((l0.length : Int) != (l1.length : Int)) = true := bne_iff_ne.mpr c3
    have c3b2 : (l0.length == l1.length) = false := by first | simpa using c3 | (simp at c3 ⊢; omega)
    obtain rfl := Option.some.inj H
    go_enter Try.func45, Try.ntmps45
    go_wp2
    repeat (go_quiet (fail); try go_wp2)
    go_ret
    exact ⟨by first | rfl | (simp; done) | (simp [*]; done), by repeat (first | exact Drawn0.refl _ | apply Drawn0.step)⟩

end Go.Proofs.Ytcffooeiennmjaa.PA

-- Written by a program of this session (wip/tools/myprint.py), out of the translation's print. Lean checks it.
namespace Go.Proofs.Ytcffooeiennmjaa.PA
open Go.RowKit Go.Proofs.YtcffooeiennmjaaW.PrintWords Go.Proofs.YtcffooeiennmjaaW.PrintLast Go.Proofs.YtcffooeiennmjaaW.PrintMore
attribute [local go_sem] max2_int min2_int max_two min_two max_three min_three max_four min_four   -- for this text's walks alone
set_option linter.unusedVariables false
set_option linter.unusedSimpArgs false

/-! ### stemmaref02_groups: function 56 -/
def stemmaref02_groups.l0 : Nat → List Int → Int → Option (Int × Int)
  | 0, _, _ => none
  | k + 1, x0, x4 => if x4 < 10 then (if x4 = (x0.length : Int) then (some (0, 3)) else (if 0 ≤ x4 then (if x4 < (x0.length : Int) then (if (rd x0 x4) < 128 then (some (wrap64 (x4 + 1), 0)) else (stemmaref02_groups.l0 k x0 (wrap64 (x4 + 1)))) else (none)) else (none))) else (some (0, 4))
def stemmaref02_groups.f (k : Nat) (l0 : List Int) : Option (Int × Int) := stemmaref02_groups.l0 k l0 0
theorem stemmaref02_groups.mono_l : ∀ k, (∀ y0 y1, LeO (stemmaref02_groups.l0 k y0 y1) (stemmaref02_groups.l0 (k + 1) y0 y1))
  | 0 => fun _ _ r h => by simp [stemmaref02_groups.l0] at h
  | k + 1 => by
    have ih0 := stemmaref02_groups.mono_l k
    · intro y0 y1
      unfold stemmaref02_groups.l0
      repeat' first
      | (with_reducible exact ih0 _ _)
      | (with_reducible exact LeO.refl _)
      | (with_reducible exact LeO.none _)
      | (with_reducible refine LeO.ite ?_ ?_)
      | (with_reducible refine LeO.bind ?_ (fun _ => ?_))
      | exact ih0 _ _
      | exact LeO.none _
      | refine LeO.ite ?_ ?_
      | refine LeO.bind ?_ (fun _ => ?_)
theorem stemmaref02_groups.mono : ∀ a0 k, LeO (stemmaref02_groups.f k a0) (stemmaref02_groups.f (k + 1) a0) := by
  intro a0 k
  have ih0 := stemmaref02_groups.mono_l k
  unfold stemmaref02_groups.f
  repeat' first
      | (with_reducible exact ih0 _ _)
      | (with_reducible exact LeO.refl _)
      | (with_reducible exact LeO.none _)
      | (with_reducible refine LeO.ite ?_ ?_)
      | (with_reducible refine LeO.bind ?_ (fun _ => ?_))
      | exact ih0 _ _
      | exact LeO.none _
      | refine LeO.ite ?_ ?_
      | refine LeO.bind ?_ (fun _ => ?_)
set_option maxHeartbeats 8000000 in
set_option maxRecDepth 100000 in
theorem stemmaref02_groups.calls (k : Nat) (A0 : Option Addr) (c0 : Nat) (l0 : List Int) (r1 : Int) (r2 : Int) (w : World) (hr0 : Kd.C (Kd.int .u8) w A0 l0.length l0) (hc0 : l0.length ≤ c0) (h : stemmaref02_groups.f k l0 = some (r1, r2)) :
    Calls Try.prog 56 #[.slice A0 l0.length c0] w fun e w' => e = .returned (.tuple #[.int .i64 r1, .int .i64 r2]) ∧ Drawn0 w w' := by
  have HR0 := Aside0.mk hr0
  have HC0 := Aside0.mk hc0
  clear hr0 hc0
  have H : (stemmaref02_groups.l0 k l0 0) = some (r1, r2) := h
  clear h
  have H' := Aside0.mk H
  clear H
  go_enter Try.func56, Try.ntmps56
  go_wp2
  go_loopg [4] k (fun kq v4 w' => ∃ (x4_1 : Int), v4 = .int .i64 x4_1 ∧ Aside0 (stemmaref02_groups.l0 kq l0 x4_1 = some (r1, r2)) ∧ Aside0 (kq ≤ k) ∧ Drawn0 w w')
  case atStart => exact ⟨(0), (by first | rfl | (simp; done) | (simp [*]; done)), H', ⟨Nat.le_refl _⟩, by repeat (first | exact Drawn0.refl _ | apply Drawn0.step)⟩
  case round =>
    clear H'
    obtain ⟨x4_1, rfl, HA, HK1, ⟨m1, rfl⟩⟩ := hrel
    cases gk with
    | zero => exact absurd HA.out (by simp [stemmaref02_groups.l0])
    | succ k1 =>
      have H := HA.out
      clear HA
      simp only [stemmaref02_groups.l0] at H
      by_cases c2 : x4_1 < 10
      · rw [if_pos c2] at H
        have c2b0 : decide (x4_1 < 10) = true := decide_eq_true c2
        clear c2
        by_cases c3 : x4_1 = (l0.length : Int)
        · rw [if_pos c3] at H
          have c3b0 : (x4_1 == (l0.length : Int)) = true := beq_iff_eq.mpr c3
          have c3b1 : (x4_1 != (l0.length : Int)) = false := bne_eq_false_iff_eq.mpr c3
          clear c3
          simp only [Option.some.injEq, Prod.mk.injEq] at H
          obtain ⟨rfl, rfl⟩ := H
          go_wp2
          go_ret2
          exact ⟨by first | rfl | (simp; done) | (simp [*]; done), by repeat (first | exact Drawn0.refl _ | apply Drawn0.step)⟩
        · rw [if_neg c3] at H
          have c3b0 : (x4_1 == (l0.length : Int)) = false := beq_eq_false_iff_ne.mpr c3
          have c3b1 : (x4_1 != (l0.length : Int)) = true := bne_iff_ne.mpr c3
          by_cases c4 : 0 ≤ x4_1
          · rw [if_pos c4] at H
            have c4b0 : decide (0 ≤ x4_1) = true := decide_eq_true c4
            clear c4
            by_cases c5 : x4_1 < (l0.length : Int)
            · rw [if_pos c5] at H
              have c5b0 : decide (x4_1 < (l0.length : Int)) = true := decide_eq_true c5
              clear c5
              by_cases c6 : (rd l0 x4_1) < 128
              · rw [if_pos c6] at H
                have c6b0 : decide ((rd l0 x4_1) < 128) = true := decide_eq_true c6
                clear c6
                simp only [Option.some.injEq, Prod.mk.injEq] at H
                obtain ⟨rfl, rfl⟩ := H
                have p283 : 0 ≤ (x4_1 : Int) := of_decide_eq_true (by first | (with_reducible assumption) | assumption)
                have q283 : x4_1 < (l0.length : Int) := of_decide_eq_true (by first | (with_reducible assumption) | assumption)
                obtain ⟨ad283, e283, hx283_0⟩ := Kd.at_int HR0.out x4_1 p283 q283
                cases e283
                replace p283 := eq_true p283
                replace q283 := eq_true q283
                go_wp2
                go_ret2
                exact ⟨by first | rfl | (simp; done) | (simp [*]; done), by repeat (first | exact Drawn0.refl _ | apply Drawn0.step)⟩
              · rw [if_neg c6] at H
                have c6b0 : decide ((rd l0 x4_1) < 128) = false := decide_eq_false c6
                clear c6
                have H' := Aside0.mk H
                clear H
                have p283 : 0 ≤ (x4_1 : Int) := of_decide_eq_true (by first | (with_reducible assumption) | assumption)
                have q283 : x4_1 < (l0.length : Int) := of_decide_eq_true (by first | (with_reducible assumption) | assumption)
                obtain ⟨ad283, e283, hx283_0⟩ := Kd.at_int HR0.out x4_1 p283 q283
                cases e283
                replace p283 := eq_true p283
                replace q283 := eq_true q283
                go_wp2
                go_roundg k1
                case measure => have := HK1.out; omega
                case rel => exact ⟨(wrap64 (x4_1 + 1)), (by first | rfl | (simp; done) | (simp [*]; done)), H', ⟨by have := HK1.out; omega⟩, by repeat (first | exact Drawn0.refl _ | apply Drawn0.step)⟩
            · rw [if_neg c5] at H
              exact absurd H (by simp)
          · rw [if_neg c4] at H
            exact absurd H (by simp)
      · rw [if_neg c2] at H
        have c2b0 : decide (x4_1 < 10) = false := decide_eq_false c2
        clear c2
        simp only [Option.some.injEq, Prod.mk.injEq] at H
        obtain ⟨rfl, rfl⟩ := H
        go_wp2
        go_ret2
        exact ⟨by first | rfl | (simp; done) | (simp [*]; done), by repeat (first | exact Drawn0.refl _ | apply Drawn0.step)⟩

end Go.Proofs.Ytcffooeiennmjaa.PA
