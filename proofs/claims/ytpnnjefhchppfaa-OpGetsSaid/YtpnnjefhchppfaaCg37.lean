/- Own texts of this claim. -/
import Derived.Maps.AppendAt
import Derived.Test.YtpnnjefhchppfaaCg25
import Derived.Test.YtpnnjefhchppfaaCg29
import Derived.Test.YtpnnjefhchppfaaCg34
import Derived.Test.YtpnnjefhchppfaaCg36
set_option linter.unusedVariables false
set_option linter.unusedSimpArgs false
namespace Go.Proofs.Ytpnnjefhchppfaa.ColS
open Go Go.RowKit Go.Shelf Go.BigFrame Go.Proofs Go.Proofs.YtpnnjefhchppfaaW.PrintWords Go.Proofs.Ytpnnjefhchppfaa.LebT Go.Proofs.Ytpnnjefhchppfaa.PA
attribute [local go_sem] Oper.semAt_some
theorem wpIn_round {l n : Nat} {P : Program} {o : Oper} {a : Act} {w : World} {K : Act → World → Prop} {Q : Exit → Act → World → Prop} (hnd : ∀ c, o.op ≠ .defer c) (h : Oper.wp P o a w K Q) : Oper.wpIn (Fence.wide.inRound l) n P o a w K Q := by
  unfold Oper.wpIn
  refine ⟨fun _ _ => trivial, ?_⟩
  rw [Oper.semAt_eq _ _ _ hnd]
  unfold Oper.wp at h
  generalize (execOp a.eval o).run P w = r at *
  cases r with
  | ok x w' =>
    cases x with
    | enter f args => exact ⟨fun hd => Bool.noConfusion (show false = true from hd), CallsIn.inRound l (callsIn_wide.2 h)⟩
    | row r args => exact ⟨fun hd => Bool.noConfusion (show false = true from hd), fun c cs _ => let ⟨v, w', r, s⟩ := h c cs; ⟨v, w', r, stepsIn_wide.2 s⟩⟩
    | round => exact h.elim
    | _ => exact h
  | halt x w' => cases x <;> exact h

theorem step_in {l n : Nat} {P : Program} {ops : Array Oper} {o : Oper} {a : Act} {w : World} {K : Act → World → Prop} {Q : Exit → Act → World → Prop} (hnd : ∀ c, o.op ≠ .defer c)
    (h : if Region.wanted o (yielded ops a.tmps) = true then Oper.wp P o a w K Q else K (a.put o.dst undef) w) :
    if Region.wanted o (yielded ops a.tmps) = true then Oper.wpIn (Fence.wide.inRound l) n P o a w K Q else (∀ f, o.about P w a.eval = some f → (Fence.wide.inRound l).fn f) ∧ K (a.put o.dst undef) w := by
  split at h
  · rename_i hw; rw [if_pos hw]; exact wpIn_round hnd h
  · rename_i hw; rw [if_neg hw]; exact ⟨fun _ _ => trivial, h⟩

def flat (ps : List (Int × Nat)) : List Int := ps.flatMap (fun p => putU p.2 ++ putI p.1)
def runs (xs : List Int) : List Int := putU (st xs).length ++ flat (st xs)
theorem flat_snoc (ps : List (Int × Nat)) (p : Int × Nat) : flat (ps ++ [p]) = flat ps ++ (putU p.2 ++ putI p.1) := by simp [flat]

structure T (n₀ t3 : Nat) (sl : Value) (W0 Wi : World) (v c : Value) : Prop where
  out : Boxed Wi n₀ 23 v
  cnt : Boxed Wi (n₀ + 1) 52 c
  row0 : Boxed W0 (n₀ + 2) t3 sl
  row : Boxed Wi (n₀ + 2) t3 sl
  bel : Below n₀ W0 Wi
  oth : KeepsOthers W0 Wi
theorem keepsOthers_below {A B : World} (h : Below A.heap.size A B) : KeepsOthers A B :=
  ⟨h.size, fun k o hk _ => (h.block k (Array.getElem?_eq_some_iff.1 hk).1).trans hk⟩
section
variable {n₀ t3 : Nat} {sl : Value} {W0 Wi Wj : World} {v c : Value}
theorem T.kp (h : T n₀ t3 sl W0 Wi v c) : Kp n₀ (n₀ + 2) W0 Wi := ⟨h.bel, h.row.trans h.row0.symm⟩
theorem T.grown (h : T n₀ t3 sl W0 Wi v c) (h3 : t3 ≠ 5) {k : Nat} {xs : List Value} {u : Value} (hr : Wi.ownsRow n₀ 5 1 u k xs) (hg : Wi.grownBy Wj u.ownBlock) : T n₀ t3 sl W0 Wj v c :=
  ⟨h.out.kept hg (h.out.not_row (by decide) hr), h.cnt.kept hg (h.cnt.not_row (by decide) hr), h.row0, h.row.kept hg (h.row.not_row h3 hr),
   h.bel.grown hg (by have := h.out.lt; omega) (fun j e => by
    rcases hr.2 with ⟨rfl, _⟩ | ⟨g, cap, cur, rfl, hb, _, _⟩
    · simp [Value.ownBlock] at e
    · obtain rfl : g = j := by simpa [Value.ownBlock] using e
      exact hb),
   h.oth.trans (KeepsOthers.of_grownBy hg (fun j o ej hj => by
    rcases hr.2 with ⟨rfl, _⟩ | ⟨g, cap, cur, rfl, _, hgb, _⟩
    · simp [Value.ownBlock] at ej
    · obtain rfl : g = j := by simpa [Value.ownBlock] using ej
      rw [hgb] at hj; cases hj; rfl))⟩
theorem T.below (h : T n₀ t3 sl W0 Wi v c) (hb : Below Wi.heap.size Wi Wj) : T n₀ t3 sl W0 Wj v c :=
  ⟨(hb.block _ h.out.lt).trans h.out, (hb.block _ h.cnt.lt).trans h.cnt, h.row0, (hb.block _ h.row.lt).trans h.row, h.bel.trans (hb.mono (by have := h.out.lt; omega)), h.oth.trans (keepsOthers_below hb)⟩
theorem T.setOut (h : T n₀ t3 sl W0 Wi v c) (v' : Value) : T n₀ t3 sl W0 (Wi.setCell ⟨n₀, 0, none⟩ v') v' c :=
  ⟨h.out.set v', h.cnt.other (by omega) v', h.row0, h.row.other (by omega) v', h.bel.setCell (p := ⟨n₀, 0, none⟩) (Nat.le_refl _) v', h.oth.trans (KeepsOthers.setCell _ _ _)⟩
theorem T.setCnt (h : T n₀ t3 sl W0 Wi v c) (c' : Value) : T n₀ t3 sl W0 (Wi.setCell ⟨n₀ + 1, 0, none⟩ c') v c' :=
  ⟨h.out.other (by omega) c', h.cnt.set c', h.row0, h.row.other (by omega) c', h.bel.setCell (p := ⟨n₀ + 1, 0, none⟩) (Nat.le_succ _) c', h.oth.trans (KeepsOthers.setCell _ _ _)⟩
end

theorem own_below {W1 W2 : World} {n₀ k : Nat} {v : Value} {xs : List Value} (h : W1.ownsRow n₀ 5 1 v k xs) (hb : Below W1.heap.size W1 W2) : W2.ownsRow n₀ 5 1 v k xs :=
  own_move h (fun j hj => by
    obtain ⟨cells, hc⟩ := own_typed h j hj
    exact hb.block j (Array.getElem?_eq_some_iff.1 hc).1)
theorem own_setOut {n₀ t3 : Nat} {sl : Value} {W0 Wi : World} {v c v' : Value} {k : Nat} {xs : List Value} (h : Wi.ownsRow n₀ 5 1 v' k xs) (hT : T n₀ t3 sl W0 Wi v c) (u : Value) : (Wi.setCell ⟨n₀, 0, none⟩ u).ownsRow n₀ 5 1 v' k xs :=
  h.kept (grownBy_setCell' Wi n₀ u) (.inr (hT.out.not_row (by decide) h).symm)
theorem own_setCnt {n₀ t3 : Nat} {sl : Value} {W0 Wi : World} {v c v' : Value} {k : Nat} {xs : List Value} (h : Wi.ownsRow n₀ 5 1 v' k xs) (hT : T n₀ t3 sl W0 Wi v c) (u : Value) : (Wi.setCell ⟨n₀ + 1, 0, none⟩ u).ownsRow n₀ 5 1 v' k xs :=
  h.kept (grownBy_setCell' Wi (n₀ + 1) u) (.inr (hT.cnt.not_row (by decide) h).symm)
def Post9 (w : World) (D : Nat) (A : Option Addr) (xs : List Int) (cap : Nat) (W : World) (c : Value) (r : List Int) (e : Exit) (a' : Act) (W' : World) : Prop :=
  e = .normal ∧ ∃ t22 t23 t24 t25 v v', a' = { tmps := #[.slice A xs.length cap, undef, v', .pointer (some ⟨w.heap.size, 0, none⟩), .pointer (some ⟨w.heap.size + 1, 0, none⟩), undef, undef, .slice A xs.length cap, .func (.func 64) #[] #[.pointer (some ⟨w.heap.size + 2, 0, none⟩)], undef, undef, undef, undef, undef, undef, undef, undef, undef, undef, undef, undef, undef, t22, t23, t24, t25], defers := [{ target := .collected D, args := #[] }] } ∧ T w.heap.size 49 (.slice A xs.length cap) W W' v c ∧ (Kd.int .u8).R 5 W' w.heap.size (fun _ => True) v' r
theorem Post9.intro {w : World} {D : Nat} {A : Option Addr} {xs : List Int} {cap : Nat} {W : World} {c : Value} {r : List Int} {v v' : Value} {W' : World} (t22 t23 t24 t25 : Value) (_u : Unit) (hT : T w.heap.size 49 (.slice A xs.length cap) W W' v c) (hr : (Kd.int .u8).R 5 W' w.heap.size (fun _ => True) v' r) :
    Post9 w D A xs cap W c r .normal { tmps := #[.slice A xs.length cap, undef, v', .pointer (some ⟨w.heap.size, 0, none⟩), .pointer (some ⟨w.heap.size + 1, 0, none⟩), undef, undef, .slice A xs.length cap, .func (.func 64) #[] #[.pointer (some ⟨w.heap.size + 2, 0, none⟩)], undef, undef, undef, undef, undef, undef, undef, undef, undef, undef, undef, undef, undef, t22, t23, t24, t25], defers := [{ target := .collected D, args := #[] }] } W' := ⟨rfl, t22, t23, t24, t25, v, v', rfl, hT, hr⟩
theorem wpIn_plain {n : Nat} {P : Program} {o : Oper} {a : Act} {w : World} {K : Act → World → Prop} {Q : Exit → Act → World → Prop} (hnd : ∀ c, o.op ≠ .defer c) (h : Oper.wp P o a w K Q) : Oper.wpIn Fence.wide n P o a w K Q := by
  unfold Oper.wpIn
  refine ⟨fun _ _ => trivial, ?_⟩
  rw [Oper.semAt_eq _ _ _ hnd]
  unfold Oper.wp at h
  generalize (execOp a.eval o).run P w = r at *
  cases r with
  | ok x w' =>
    cases x with
    | enter f args => exact ⟨fun hd => Bool.noConfusion (show false = true from hd), callsIn_wide.2 h⟩
    | row r args => exact ⟨fun hd => Bool.noConfusion (show false = true from hd), fun c cs _ => let ⟨v, w', r, s⟩ := h c cs; ⟨v, w', r, stepsIn_wide.2 s⟩⟩
    | round => exact h.elim
    | _ => exact h
  | halt x w' => cases x <;> exact h
theorem step_wide {n : Nat} {P : Program} {ops : Array Oper} {o : Oper} {a : Act} {w : World} {K : Act → World → Prop} {Q : Exit → Act → World → Prop} (hnd : ∀ c, o.op ≠ .defer c)
    (h : if Region.wanted o (yielded ops a.tmps) = true then Oper.wp P o a w K Q else K (a.put o.dst undef) w) :
    if Region.wanted o (yielded ops a.tmps) = true then Oper.wpIn Fence.wide n P o a w K Q else (∀ f, o.about P w a.eval = some f → Fence.wide.fn f) ∧ K (a.put o.dst undef) w := by
  split at h
  · rename_i hw; rw [if_pos hw]; exact wpIn_plain hnd h
  · rename_i hw; rw [if_neg hw]; exact ⟨fun _ _ => trivial, h⟩
def Post6 (w : World) (A : Option Addr) (xs : List Int) (cap : Nat) (x : P57) (pre : List P57) (W : World) (r : List Int) (e : Exit) (a' : Act) (W' : World) : Prop :=
  e = .normal ∧ ∃ t11 t12 t13 t14 t15 v', a' = { tmps := #[.slice A xs.length cap, undef, .slice none 0 0, .pointer (some ⟨w.heap.size, 0, none⟩), .pointer (some ⟨w.heap.size + 1, 0, none⟩), .int .i64 x.1.1, .int .i64 (x.1.2 : Int), .slice A xs.length cap, .func (.func 64) #[] #[.pointer (some ⟨w.heap.size + 2, 0, none⟩)], .int .i64 x.1.1, .int .i64 (x.1.2 : Int), t11, t12, t13, t14, t15, undef, undef, undef, undef, undef, undef, undef, undef, undef, undef], defers := [] } ∧ T w.heap.size 49 (.slice A xs.length cap) W W' v' (.int .u64 (pre.length : Int)) ∧ W'.ownsRow w.heap.size 5 1 v' r.length (encs (Value.int .u8) r)
theorem Post6.intro {w : World} {A : Option Addr} {xs : List Int} {cap : Nat} {x : P57} {pre : List P57} {W : World} {r : List Int} {W' : World} (t11 t12 t13 t14 t15 v' : Value) (hT : T w.heap.size 49 (.slice A xs.length cap) W W' v' (.int .u64 (pre.length : Int))) (hr : W'.ownsRow w.heap.size 5 1 v' r.length (encs (Value.int .u8) r)) :
    Post6 w A xs cap x pre W r .normal { tmps := #[.slice A xs.length cap, undef, .slice none 0 0, .pointer (some ⟨w.heap.size, 0, none⟩), .pointer (some ⟨w.heap.size + 1, 0, none⟩), .int .i64 x.1.1, .int .i64 (x.1.2 : Int), .slice A xs.length cap, .func (.func 64) #[] #[.pointer (some ⟨w.heap.size + 2, 0, none⟩)], .int .i64 x.1.1, .int .i64 (x.1.2 : Int), t11, t12, t13, t14, t15, undef, undef, undef, undef, undef, undef, undef, undef, undef, undef], defers := [] } W' := ⟨rfl, t11, t12, t13, t14, t15, v', rfl, hT, hr⟩
def Post7 (w : World) (A : Option Addr) (xs : List Int) (cap : Nat) (x : P57) (pre : List P57) (W : World) (t11 t12 t13 t14 t15 : Value) (r : List Int) (e : Exit) (a' : Act) (W' : World) : Prop :=
  e = .normal ∧ ∃ t16 t17 t18 t19 v', a' = { tmps := #[.slice A xs.length cap, undef, .slice none 0 0, .pointer (some ⟨w.heap.size, 0, none⟩), .pointer (some ⟨w.heap.size + 1, 0, none⟩), .int .i64 x.1.1, .int .i64 (x.1.2 : Int), .slice A xs.length cap, .func (.func 64) #[] #[.pointer (some ⟨w.heap.size + 2, 0, none⟩)], .int .i64 x.1.1, .int .i64 (x.1.2 : Int), t11, t12, t13, t14, t15, t16, t17, t18, t19, undef, undef, undef, undef, undef, undef], defers := [] } ∧ T w.heap.size 49 (.slice A xs.length cap) W W' v' (.int .u64 (pre.length : Int)) ∧ W'.ownsRow w.heap.size 5 1 v' r.length (encs (Value.int .u8) r)
theorem Post7.intro {w : World} {A : Option Addr} {xs : List Int} {cap : Nat} {x : P57} {pre : List P57} {W : World} {t11 t12 t13 t14 t15 : Value} {r : List Int} {W' : World} (t16 t17 t18 t19 v' : Value) (hT : T w.heap.size 49 (.slice A xs.length cap) W W' v' (.int .u64 (pre.length : Int))) (hr : W'.ownsRow w.heap.size 5 1 v' r.length (encs (Value.int .u8) r)) :
    Post7 w A xs cap x pre W t11 t12 t13 t14 t15 r .normal { tmps := #[.slice A xs.length cap, undef, .slice none 0 0, .pointer (some ⟨w.heap.size, 0, none⟩), .pointer (some ⟨w.heap.size + 1, 0, none⟩), .int .i64 x.1.1, .int .i64 (x.1.2 : Int), .slice A xs.length cap, .func (.func 64) #[] #[.pointer (some ⟨w.heap.size + 2, 0, none⟩)], .int .i64 x.1.1, .int .i64 (x.1.2 : Int), t11, t12, t13, t14, t15, t16, t17, t18, t19, undef, undef, undef, undef, undef, undef], defers := [] } W' := ⟨rfl, t16, t17, t18, t19, v', rfl, hT, hr⟩
theorem flat_len (pre : List P57) : (flat (pre.map (·.1))).length ≤ 20 * pre.length := by
  induction pre with
  | nil => simp [flat]
  | cons p t ih =>
    have h1 := LebP.wf_i64 p.2.1
    have h2 := p.2.2
    have h3 : (putU p.1.2).length ≤ 10 := putU_len64 (by omega)
    have h4 : (putI p.1.1).length ≤ 10 := putI_len64 h1.1 h1.2
    have e : flat ((p :: t).map (·.1)) = putU p.1.2 ++ putI p.1.1 ++ flat (t.map (·.1)) := by simp [flat]
    rw [e]
    simp only [List.length_append, List.length_cons]
    omega
def II (n₀ t3 : Nat) (sl : Value) (w : World) (pre : List P57) (W : World) : Prop :=
  (∃ v, Boxed W n₀ 23 v ∧ W.ownsRow n₀ 5 1 v (flat (pre.map (·.1))).length (encs (Value.int .u8) (flat (pre.map (·.1)))) ∧ True) ∧ Boxed W (n₀ + 1) 52 (.int .u64 (pre.length : Int)) ∧ Boxed W (n₀ + 2) t3 sl ∧ Below n₀ w W
theorem II_own (n₀ t3 B : Nat) (sl : Value) (w : World) (h1 : n₀ ≤ w.heap.size) (h2 : n₀ ≤ B) : OwnFrom B (II n₀ t3 sl w) :=
  OwnFrom.and (Own.from (holdsRow_own n₀ n₀ 23 5 1 (fun pre : List P57 => (flat (pre.map (·.1))).length) (fun pre => encs (Value.int .u8) (flat (pre.map (·.1)))) (fun pre v => True)) _)
    (OwnFrom.and (Own.from (boxed_own (n₀ + 1) 52 (fun pre : List P57 => .int .u64 (pre.length : Int))) _) (OwnFrom.and (Own.from (boxed_own (n₀ + 2) t3 (fun _ => sl)) _) (ownFrom_below h1 h2)))

set_option maxRecDepth 100000 in
set_option maxHeartbeats 1000000 in
theorem Runs_in (n : Nat) (hn : 3 ≤ n) (A : Option Addr) (cap : Nat) (xs : List Int) (hlen : xs.length ≤ 4398046511104) (hwf : ∀ x ∈ xs, (Lit.int .i64 x).wf = true) (w : World) (hr0 : (Kd.int .i64).C w A xs.length xs) :
    CallsIn Fence.wide n Try.prog 23 #[.slice A xs.length cap] w fun e w' => ∃ v0_ : Value, e = .returned v0_ ∧ (Kd.int .u8).R 5 w' w.heap.size (fun _ => True) v0_ (runs xs) ∧ Below w.heap.size w w' := by
  refine callsIn_of_wp_marks Try.func23 rfl trivial ?_ rfl
  simp only [Try.ntmps23, List.size_toArray, List.length_cons, List.length_nil, Nat.reduceAdd, Nat.reduceSub, Array.replicate_succ, Array.replicate_zero, List.push_toArray, List.append_toArray, List.nil_append, List.cons_append]
  have h1 : 1 ≤ n := by omega
  gi_wp2_with (refine ⟨trivial, ?_⟩; gi_at_call 51; refine (mk57 (n - 1) A xs.length cap _).mono ?_; rintro e w' ⟨rfl, rfl⟩)
  have e1 : ((w.alloc (Obj.cells #[Value.slice none 0 0] 23)).alloc (Obj.cells #[Value.int IntKind.u64 0] 52)).heap.size = w.heap.size + 2 := by simp
  have b1 := Boxed.new w 23 (.slice none 0 0)
  have b2 := Boxed.new (w.alloc (.cells #[.slice none 0 0] 23)) 52 (.int .u64 0)
  rw [World.size_alloc] at b2
  have b3 := Boxed.new ((w.alloc (.cells #[.slice none 0 0] 23)).alloc (.cells #[.int .u64 0] 52)) 49 (.slice A xs.length cap)
  rw [e1] at b3
  have hB0 : Below w.heap.size w (((w.alloc (.cells #[.slice none 0 0] 23)).alloc (.cells #[.int .u64 0] 52)).alloc (.cells #[.slice A xs.length cap] 49)) :=
    (((Below.refl _ w).alloc (Nat.le_refl _) _).alloc (by simp) _).alloc (by rw [e1]; omega) _
  have hs3 : (((w.alloc (.cells #[.slice none 0 0] 23)).alloc (.cells #[.int .u64 0] 52)).alloc (.cells #[.slice A xs.length cap] 49)).heap.size = w.heap.size + 3 := by rw [World.size_alloc, e1]
  refine wpIn_rangeFunc_ownG rfl h1 (gf := 64) (lb := #[.pointer (some ⟨w.heap.size + 2, 0, none⟩)]) rfl trivial (enters_of Try.func64 (by kernel_rfl) rfl)
    (stops57 (n - 1) (w.heap.size + 2) w.heap.size cap A xs (by omega) hwf _ (by rw [hs3]; omega) (by rw [hs3]; omega) b3.cell (fun W' h => Kd.C_below hr0 (hB0.trans h)))
    (fun h k => h.trans k) (fun W l o o' hl => Kp.put (by rw [hs3]; omega) (by rw [hs3]; omega) W l o o' hl) (Below.refl _ _) (fun _ => rfl)
    (II w.heap.size 49 (.slice A xs.length cap) w)
    (fun _ _ _ => False)
    (II_own _ _ _ _ _ (Nat.le_refl _) (by rw [hs3]; omega))
    (fun _ _ _ _ _ hs _ _ => hs)
    ⟨⟨_, (b1.alloc _).alloc _, World.ownsRow_nil _ _ _ _, trivial⟩, b2.alloc _, b3, hB0⟩
    (fun x => { tmps := #[.slice A xs.length cap, undef, .slice none 0 0, .pointer (some ⟨w.heap.size, 0, none⟩), .pointer (some ⟨w.heap.size + 1, 0, none⟩), .int .i64 x.1.1, .int .i64 (x.1.2 : Int), .slice A xs.length cap, .func (.func 64) #[] #[.pointer (some ⟨w.heap.size + 2, 0, none⟩)], .int .i64 x.1.1, .int .i64 (x.1.2 : Int), undef, undef, undef, undef, undef, undef, undef, undef, undef, undef, undef, undef, undef, undef, undef], defers := [] }) ?assign ?body ?done ?stop
  case assign =>
    intro l x W K hK
    simp only [enc57]
    gi_wp2
    exact hK
  case body =>
    rintro l pre x W ⟨⟨v, hv, hrow, _⟩, hcn, hbx, hB⟩ hlt
    have hxr := x.2.2
    have hu : leb_Uint.f 10 (IntKind.u64.wrap (x.1.2 : Int)) = some (putU x.1.2) := by
      rw [show IntKind.u64.wrap (x.1.2 : Int) = (x.1.2 : Int) by rw [IntKind.wrap_u64]; omega]
      have := LebP.uint_f (k := 10) (by omega) (a := (x.1.2 : Int)) (by omega) (by omega)
      simpa using this
    have hxi := (LebP.wf_i64 x.2.1)
    have hi : leb_Int.f 10 x.1.1 = some (putI x.1.1) := LebP.int_f (by omega) hxi.1 hxi.2
    have hlu : (putU x.1.2).length ≤ 10 := putU_len64 (by omega)
    have hli : (putI x.1.1).length ≤ 10 := putI_len64 hxi.1 hxi.2
    have hst := st_length xs
    have hflat := flat_len pre
    have hpl : (flat (pre.map (·.1))).length ≤ 20 * pre.length := hflat
    have hT : T w.heap.size 49 (.slice A xs.length cap) W W v (.int .u64 (pre.length : Int)) := ⟨hv, hcn, hbx, hbx, Below.refl _ _, KeepsOthers.refl _⟩
    gi_wp2
    refine wpIn_mono (Q := Post6 w A xs cap x pre W (flat (pre.map (·.1)) ++ putU x.1.2)) ?_ ?_
    · replace hrow : (W).drew.ownsRow _ _ _ _ _ _ := hrow
      replace hT := hT.below (below_drewN' _ W 1)
      refine wpIn_region_any (by kernel_rfl) ?_
      change wpAnyIn _ _ _ _ _ _ _ _ _ (World.drew _)
      obtain ⟨W1, hW1⟩ : ∃ W1, W1 = (W).drew := ⟨_, rfl⟩
      change T _ _ _ _ (World.drew _) _ _ at hT
      rw [← hW1] at hT hrow ⊢
      clear hW1
      refine wpAnyIn_ready (rs := [0, 1]) (by kernel_rfl) (by simp) ?_
      refine AllReadyIn.cons rfl (fun K hK => ?_) ?_
      · have hcO := hT.out.cell
        go_simp
        refine hK _ _ ?_
        clear hK K hcO
        refine wpAnyIn_ready (rs := [1]) (by kernel_rfl) (by simp) ?_
        refine AllReadyIn.cons rfl (fun K hK => ?_) ?_
        · go_simp
          refine hK _ _ ?_
          clear hK K
          refine wpAnyIn_ready (rs := [2]) (by kernel_rfl) (by simp) ?_
          refine AllReadyIn.cons rfl (fun K hK => ?_) ?_
          · go_simp
            refine hK _ _ ?_
            clear hK K
            refine wpAnyIn_ready (rs := [3]) (by kernel_rfl) (by simp) ?_
            refine AllReadyIn.cons rfl (fun K hK => ?_) ?_
            · go_simp
              refine ⟨trivial, fun hd => Bool.noConfusion (show false = true from hd), ?_⟩
              refine (CallsIn.inRound l (callsIn_wide.2 (leb_Uint.calls 10 _ _ _ hu))).mono ?_
              rintro e W2 ⟨v0, rfl, hR, hb2⟩
              go_simp
              replace hT := hT.below hb2
              replace hrow := own_below hrow hb2
              refine hK _ _ ?_
              clear hK K
              refine wpAnyIn_ready (rs := [4]) (by kernel_rfl) (by simp) ?_
              refine AllReadyIn.cons rfl (fun K hK => ?_) ?_
              · refine step_in (by intro c h; cases h) ?_
                obtain ⟨A0, c0, rfl, hlc0, hC0⟩ := OwnRow.reads hR.2
                refine Kd.R_append_rows_step (Kd.int .u8) (w0 := W) w.heap.size (by rfl) _ _ 23 5 (.int .u8 0) 1 rfl Try.underlying23 info5 rfl (by decide) (by omega) v _ _ A0 _ c0 (fun _ => True) (fun _ => False) rfl rfl (Kd.R_of_own hrow (fun _ _ => trivial)) hC0 (fun _ _ h => h) (fun _ h => h.elim) (fun _ _ => trivial) hT.bel (by have := hT.out.lt; omega) (by rw [Nat.mul_one]; omega) ?_
                intro v1 W3 ho3 hb3 hg3 _
                obtain ⟨A3, n3, c3, rfl⟩ : ∃ A n c, v1 = .slice A n c := by
                  obtain ⟨A, c, e, _, _⟩ := OwnRow.reads ho3.2
                  exact ⟨A, _, c, e⟩
                replace hT := hT.grown (by decide) hrow hg3
                replace hrow := Kd.own_of_R ho3
                refine hK _ _ ?_
                clear hK K
                refine wpAnyIn_ready (rs := [5]) (by kernel_rfl) (by simp) ?_
                refine AllReadyIn.cons rfl (fun K hK => ?_) ?_
                · have hcO := hT.out.cell
                  have hfO := hT.out.frozen
                  go_simp
                  replace hrow := own_setOut hrow hT (.slice A3 n3 c3)
                  replace hT := hT.setOut (.slice A3 n3 c3)
                  refine hK _ _ ?_
                  clear hK K
                  refine wpAnyIn_done (by kernel_rfl) ?_ _
                  exact Post6.intro _ _ _ _ _ _ hT hrow
                exact AllReadyIn.nil
              exact AllReadyIn.nil
            exact AllReadyIn.nil
          exact AllReadyIn.nil
        exact AllReadyIn.nil
      refine AllReadyIn.cons rfl (fun K hK => ?_) ?_
      · go_simp
        refine hK _ _ ?_
        clear hK K
        refine wpAnyIn_ready (rs := [0, 2]) (by kernel_rfl) (by simp) ?_
        refine AllReadyIn.cons rfl (fun K hK => ?_) ?_
        · have hcO := hT.out.cell
          go_simp
          refine hK _ _ ?_
          clear hK K hcO
          refine wpAnyIn_ready (rs := [2]) (by kernel_rfl) (by simp) ?_
          refine AllReadyIn.cons rfl (fun K hK => ?_) ?_
          · go_simp
            refine hK _ _ ?_
            clear hK K
            refine wpAnyIn_ready (rs := [3]) (by kernel_rfl) (by simp) ?_
            refine AllReadyIn.cons rfl (fun K hK => ?_) ?_
            · go_simp
              refine ⟨trivial, fun hd => Bool.noConfusion (show false = true from hd), ?_⟩
              refine (CallsIn.inRound l (callsIn_wide.2 (leb_Uint.calls 10 _ _ _ hu))).mono ?_
              rintro e W2 ⟨v0, rfl, hR, hb2⟩
              go_simp
              replace hT := hT.below hb2
              replace hrow := own_below hrow hb2
              refine hK _ _ ?_
              clear hK K
              refine wpAnyIn_ready (rs := [4]) (by kernel_rfl) (by simp) ?_
              refine AllReadyIn.cons rfl (fun K hK => ?_) ?_
              · refine step_in (by intro c h; cases h) ?_
                obtain ⟨A0, c0, rfl, hlc0, hC0⟩ := OwnRow.reads hR.2
                refine Kd.R_append_rows_step (Kd.int .u8) (w0 := W) w.heap.size (by rfl) _ _ 23 5 (.int .u8 0) 1 rfl Try.underlying23 info5 rfl (by decide) (by omega) v _ _ A0 _ c0 (fun _ => True) (fun _ => False) rfl rfl (Kd.R_of_own hrow (fun _ _ => trivial)) hC0 (fun _ _ h => h) (fun _ h => h.elim) (fun _ _ => trivial) hT.bel (by have := hT.out.lt; omega) (by rw [Nat.mul_one]; omega) ?_
                intro v1 W3 ho3 hb3 hg3 _
                obtain ⟨A3, n3, c3, rfl⟩ : ∃ A n c, v1 = .slice A n c := by
                  obtain ⟨A, c, e, _, _⟩ := OwnRow.reads ho3.2
                  exact ⟨A, _, c, e⟩
                replace hT := hT.grown (by decide) hrow hg3
                replace hrow := Kd.own_of_R ho3
                refine hK _ _ ?_
                clear hK K
                refine wpAnyIn_ready (rs := [5]) (by kernel_rfl) (by simp) ?_
                refine AllReadyIn.cons rfl (fun K hK => ?_) ?_
                · have hcO := hT.out.cell
                  have hfO := hT.out.frozen
                  go_simp
                  replace hrow := own_setOut hrow hT (.slice A3 n3 c3)
                  replace hT := hT.setOut (.slice A3 n3 c3)
                  refine hK _ _ ?_
                  clear hK K
                  refine wpAnyIn_done (by kernel_rfl) ?_ _
                  exact Post6.intro _ _ _ _ _ _ hT hrow
                exact AllReadyIn.nil
              exact AllReadyIn.nil
            exact AllReadyIn.nil
          exact AllReadyIn.nil
        refine AllReadyIn.cons rfl (fun K hK => ?_) ?_
        · go_simp
          refine hK _ _ ?_
          clear hK K
          refine wpAnyIn_ready (rs := [0, 3]) (by kernel_rfl) (by simp) ?_
          refine AllReadyIn.cons rfl (fun K hK => ?_) ?_
          · have hcO := hT.out.cell
            go_simp
            refine hK _ _ ?_
            clear hK K hcO
            refine wpAnyIn_ready (rs := [3]) (by kernel_rfl) (by simp) ?_
            refine AllReadyIn.cons rfl (fun K hK => ?_) ?_
            · go_simp
              refine ⟨trivial, fun hd => Bool.noConfusion (show false = true from hd), ?_⟩
              refine (CallsIn.inRound l (callsIn_wide.2 (leb_Uint.calls 10 _ _ _ hu))).mono ?_
              rintro e W2 ⟨v0, rfl, hR, hb2⟩
              go_simp
              replace hT := hT.below hb2
              replace hrow := own_below hrow hb2
              refine hK _ _ ?_
              clear hK K
              refine wpAnyIn_ready (rs := [4]) (by kernel_rfl) (by simp) ?_
              refine AllReadyIn.cons rfl (fun K hK => ?_) ?_
              · refine step_in (by intro c h; cases h) ?_
                obtain ⟨A0, c0, rfl, hlc0, hC0⟩ := OwnRow.reads hR.2
                refine Kd.R_append_rows_step (Kd.int .u8) (w0 := W) w.heap.size (by rfl) _ _ 23 5 (.int .u8 0) 1 rfl Try.underlying23 info5 rfl (by decide) (by omega) v _ _ A0 _ c0 (fun _ => True) (fun _ => False) rfl rfl (Kd.R_of_own hrow (fun _ _ => trivial)) hC0 (fun _ _ h => h) (fun _ h => h.elim) (fun _ _ => trivial) hT.bel (by have := hT.out.lt; omega) (by rw [Nat.mul_one]; omega) ?_
                intro v1 W3 ho3 hb3 hg3 _
                obtain ⟨A3, n3, c3, rfl⟩ : ∃ A n c, v1 = .slice A n c := by
                  obtain ⟨A, c, e, _, _⟩ := OwnRow.reads ho3.2
                  exact ⟨A, _, c, e⟩
                replace hT := hT.grown (by decide) hrow hg3
                replace hrow := Kd.own_of_R ho3
                refine hK _ _ ?_
                clear hK K
                refine wpAnyIn_ready (rs := [5]) (by kernel_rfl) (by simp) ?_
                refine AllReadyIn.cons rfl (fun K hK => ?_) ?_
                · have hcO := hT.out.cell
                  have hfO := hT.out.frozen
                  go_simp
                  replace hrow := own_setOut hrow hT (.slice A3 n3 c3)
                  replace hT := hT.setOut (.slice A3 n3 c3)
                  refine hK _ _ ?_
                  clear hK K
                  refine wpAnyIn_done (by kernel_rfl) ?_ _
                  exact Post6.intro _ _ _ _ _ _ hT hrow
                exact AllReadyIn.nil
              exact AllReadyIn.nil
            exact AllReadyIn.nil
          refine AllReadyIn.cons rfl (fun K hK => ?_) ?_
          · go_simp
            refine ⟨trivial, fun hd => Bool.noConfusion (show false = true from hd), ?_⟩
            refine (CallsIn.inRound l (callsIn_wide.2 (leb_Uint.calls 10 _ _ _ hu))).mono ?_
            rintro e W2 ⟨v0, rfl, hR, hb2⟩
            go_simp
            replace hT := hT.below hb2
            replace hrow := own_below hrow hb2
            refine hK _ _ ?_
            clear hK K
            refine wpAnyIn_ready (rs := [0]) (by kernel_rfl) (by simp) ?_
            refine AllReadyIn.cons rfl (fun K hK => ?_) ?_
            · have hcO := hT.out.cell
              go_simp
              refine hK _ _ ?_
              clear hK K hcO
              refine wpAnyIn_ready (rs := [4]) (by kernel_rfl) (by simp) ?_
              refine AllReadyIn.cons rfl (fun K hK => ?_) ?_
              · refine step_in (by intro c h; cases h) ?_
                obtain ⟨A0, c0, rfl, hlc0, hC0⟩ := OwnRow.reads hR.2
                refine Kd.R_append_rows_step (Kd.int .u8) (w0 := W) w.heap.size (by rfl) _ _ 23 5 (.int .u8 0) 1 rfl Try.underlying23 info5 rfl (by decide) (by omega) v _ _ A0 _ c0 (fun _ => True) (fun _ => False) rfl rfl (Kd.R_of_own hrow (fun _ _ => trivial)) hC0 (fun _ _ h => h) (fun _ h => h.elim) (fun _ _ => trivial) hT.bel (by have := hT.out.lt; omega) (by rw [Nat.mul_one]; omega) ?_
                intro v1 W3 ho3 hb3 hg3 _
                obtain ⟨A3, n3, c3, rfl⟩ : ∃ A n c, v1 = .slice A n c := by
                  obtain ⟨A, c, e, _, _⟩ := OwnRow.reads ho3.2
                  exact ⟨A, _, c, e⟩
                replace hT := hT.grown (by decide) hrow hg3
                replace hrow := Kd.own_of_R ho3
                refine hK _ _ ?_
                clear hK K
                refine wpAnyIn_ready (rs := [5]) (by kernel_rfl) (by simp) ?_
                refine AllReadyIn.cons rfl (fun K hK => ?_) ?_
                · have hcO := hT.out.cell
                  have hfO := hT.out.frozen
                  go_simp
                  replace hrow := own_setOut hrow hT (.slice A3 n3 c3)
                  replace hT := hT.setOut (.slice A3 n3 c3)
                  refine hK _ _ ?_
                  clear hK K
                  refine wpAnyIn_done (by kernel_rfl) ?_ _
                  exact Post6.intro _ _ _ _ _ _ hT hrow
                exact AllReadyIn.nil
              exact AllReadyIn.nil
            exact AllReadyIn.nil
          exact AllReadyIn.nil
        exact AllReadyIn.nil
      exact AllReadyIn.nil
    rintro e a' W2 ⟨rfl, t11, t12, t13, t14, t15, v, rfl, hT, hrow⟩
    gi_wp2
    refine wpIn_mono (Q := Post7 w A xs cap x pre W t11 t12 t13 t14 t15 (flat (pre.map (·.1)) ++ putU x.1.2 ++ putI x.1.1)) ?_ ?_
    · replace hrow : (W2).drew.ownsRow _ _ _ _ _ _ := hrow
      replace hT := hT.below (below_drewN' _ W2 1)
      refine wpIn_region_any (by kernel_rfl) ?_
      change wpAnyIn _ _ _ _ _ _ _ _ _ (World.drew _)
      obtain ⟨W1, hW1⟩ : ∃ W1, W1 = (W2).drew := ⟨_, rfl⟩
      change T _ _ _ _ (World.drew _) _ _ at hT
      rw [← hW1] at hT hrow ⊢
      clear hW1
      refine wpAnyIn_ready (rs := [0, 1]) (by kernel_rfl) (by simp) ?_
      refine AllReadyIn.cons rfl (fun K hK => ?_) ?_
      · have hcO := hT.out.cell
        go_simp
        refine hK _ _ ?_
        clear hK K hcO
        refine wpAnyIn_ready (rs := [1]) (by kernel_rfl) (by simp) ?_
        refine AllReadyIn.cons rfl (fun K hK => ?_) ?_
        · go_simp
          refine hK _ _ ?_
          clear hK K
          refine wpAnyIn_ready (rs := [2]) (by kernel_rfl) (by simp) ?_
          refine AllReadyIn.cons rfl (fun K hK => ?_) ?_
          · go_simp
            refine ⟨trivial, fun hd => Bool.noConfusion (show false = true from hd), ?_⟩
            refine (CallsIn.inRound l (callsIn_wide.2 (leb_Int.calls 10 _ _ _ hi))).mono ?_
            rintro e W2 ⟨v0, rfl, hR, hb2⟩
            go_simp
            replace hT := hT.below hb2
            replace hrow := own_below hrow hb2
            refine hK _ _ ?_
            clear hK K
            refine wpAnyIn_ready (rs := [3]) (by kernel_rfl) (by simp) ?_
            refine AllReadyIn.cons rfl (fun K hK => ?_) ?_
            · refine step_in (by intro c h; cases h) ?_
              obtain ⟨A0, c0, rfl, hlc0, hC0⟩ := OwnRow.reads hR.2
              refine Kd.R_append_rows_step (Kd.int .u8) (w0 := W) w.heap.size (by rfl) _ _ 23 5 (.int .u8 0) 1 rfl Try.underlying23 info5 rfl (by decide) (by omega) v _ _ A0 _ c0 (fun _ => True) (fun _ => False) rfl rfl (Kd.R_of_own hrow (fun _ _ => trivial)) hC0 (fun _ _ h => h) (fun _ h => h.elim) (fun _ _ => trivial) hT.bel (by have := hT.out.lt; omega) (by rw [Nat.mul_one]; simp only [List.length_append]; omega) ?_
              intro v1 W3 ho3 hb3 hg3 _
              obtain ⟨A3, n3, c3, rfl⟩ : ∃ A n c, v1 = .slice A n c := by
                obtain ⟨A, c, e, _, _⟩ := OwnRow.reads ho3.2
                exact ⟨A, _, c, e⟩
              replace hT := hT.grown (by decide) hrow hg3
              replace hrow := Kd.own_of_R ho3
              refine hK _ _ ?_
              clear hK K
              refine wpAnyIn_ready (rs := [4]) (by kernel_rfl) (by simp) ?_
              refine AllReadyIn.cons rfl (fun K hK => ?_) ?_
              · have hcO := hT.out.cell
                have hfO := hT.out.frozen
                go_simp
                replace hrow := own_setOut hrow hT (.slice A3 n3 c3)
                replace hT := hT.setOut (.slice A3 n3 c3)
                refine hK _ _ ?_
                clear hK K
                refine wpAnyIn_done (by kernel_rfl) ?_ _
                exact Post7.intro _ _ _ _ _ hT hrow
              exact AllReadyIn.nil
            exact AllReadyIn.nil
          exact AllReadyIn.nil
        exact AllReadyIn.nil
      refine AllReadyIn.cons rfl (fun K hK => ?_) ?_
      · go_simp
        refine hK _ _ ?_
        clear hK K
        refine wpAnyIn_ready (rs := [0, 2]) (by kernel_rfl) (by simp) ?_
        refine AllReadyIn.cons rfl (fun K hK => ?_) ?_
        · have hcO := hT.out.cell
          go_simp
          refine hK _ _ ?_
          clear hK K hcO
          refine wpAnyIn_ready (rs := [2]) (by kernel_rfl) (by simp) ?_
          refine AllReadyIn.cons rfl (fun K hK => ?_) ?_
          · go_simp
            refine ⟨trivial, fun hd => Bool.noConfusion (show false = true from hd), ?_⟩
            refine (CallsIn.inRound l (callsIn_wide.2 (leb_Int.calls 10 _ _ _ hi))).mono ?_
            rintro e W2 ⟨v0, rfl, hR, hb2⟩
            go_simp
            replace hT := hT.below hb2
            replace hrow := own_below hrow hb2
            refine hK _ _ ?_
            clear hK K
            refine wpAnyIn_ready (rs := [3]) (by kernel_rfl) (by simp) ?_
            refine AllReadyIn.cons rfl (fun K hK => ?_) ?_
            · refine step_in (by intro c h; cases h) ?_
              obtain ⟨A0, c0, rfl, hlc0, hC0⟩ := OwnRow.reads hR.2
              refine Kd.R_append_rows_step (Kd.int .u8) (w0 := W) w.heap.size (by rfl) _ _ 23 5 (.int .u8 0) 1 rfl Try.underlying23 info5 rfl (by decide) (by omega) v _ _ A0 _ c0 (fun _ => True) (fun _ => False) rfl rfl (Kd.R_of_own hrow (fun _ _ => trivial)) hC0 (fun _ _ h => h) (fun _ h => h.elim) (fun _ _ => trivial) hT.bel (by have := hT.out.lt; omega) (by rw [Nat.mul_one]; simp only [List.length_append]; omega) ?_
              intro v1 W3 ho3 hb3 hg3 _
              obtain ⟨A3, n3, c3, rfl⟩ : ∃ A n c, v1 = .slice A n c := by
                obtain ⟨A, c, e, _, _⟩ := OwnRow.reads ho3.2
                exact ⟨A, _, c, e⟩
              replace hT := hT.grown (by decide) hrow hg3
              replace hrow := Kd.own_of_R ho3
              refine hK _ _ ?_
              clear hK K
              refine wpAnyIn_ready (rs := [4]) (by kernel_rfl) (by simp) ?_
              refine AllReadyIn.cons rfl (fun K hK => ?_) ?_
              · have hcO := hT.out.cell
                have hfO := hT.out.frozen
                go_simp
                replace hrow := own_setOut hrow hT (.slice A3 n3 c3)
                replace hT := hT.setOut (.slice A3 n3 c3)
                refine hK _ _ ?_
                clear hK K
                refine wpAnyIn_done (by kernel_rfl) ?_ _
                exact Post7.intro _ _ _ _ _ hT hrow
              exact AllReadyIn.nil
            exact AllReadyIn.nil
          exact AllReadyIn.nil
        refine AllReadyIn.cons rfl (fun K hK => ?_) ?_
        · go_simp
          refine ⟨trivial, fun hd => Bool.noConfusion (show false = true from hd), ?_⟩
          refine (CallsIn.inRound l (callsIn_wide.2 (leb_Int.calls 10 _ _ _ hi))).mono ?_
          rintro e W2 ⟨v0, rfl, hR, hb2⟩
          go_simp
          replace hT := hT.below hb2
          replace hrow := own_below hrow hb2
          refine hK _ _ ?_
          clear hK K
          refine wpAnyIn_ready (rs := [0]) (by kernel_rfl) (by simp) ?_
          refine AllReadyIn.cons rfl (fun K hK => ?_) ?_
          · have hcO := hT.out.cell
            go_simp
            refine hK _ _ ?_
            clear hK K hcO
            refine wpAnyIn_ready (rs := [3]) (by kernel_rfl) (by simp) ?_
            refine AllReadyIn.cons rfl (fun K hK => ?_) ?_
            · refine step_in (by intro c h; cases h) ?_
              obtain ⟨A0, c0, rfl, hlc0, hC0⟩ := OwnRow.reads hR.2
              refine Kd.R_append_rows_step (Kd.int .u8) (w0 := W) w.heap.size (by rfl) _ _ 23 5 (.int .u8 0) 1 rfl Try.underlying23 info5 rfl (by decide) (by omega) v _ _ A0 _ c0 (fun _ => True) (fun _ => False) rfl rfl (Kd.R_of_own hrow (fun _ _ => trivial)) hC0 (fun _ _ h => h) (fun _ h => h.elim) (fun _ _ => trivial) hT.bel (by have := hT.out.lt; omega) (by rw [Nat.mul_one]; simp only [List.length_append]; omega) ?_
              intro v1 W3 ho3 hb3 hg3 _
              obtain ⟨A3, n3, c3, rfl⟩ : ∃ A n c, v1 = .slice A n c := by
                obtain ⟨A, c, e, _, _⟩ := OwnRow.reads ho3.2
                exact ⟨A, _, c, e⟩
              replace hT := hT.grown (by decide) hrow hg3
              replace hrow := Kd.own_of_R ho3
              refine hK _ _ ?_
              clear hK K
              refine wpAnyIn_ready (rs := [4]) (by kernel_rfl) (by simp) ?_
              refine AllReadyIn.cons rfl (fun K hK => ?_) ?_
              · have hcO := hT.out.cell
                have hfO := hT.out.frozen
                go_simp
                replace hrow := own_setOut hrow hT (.slice A3 n3 c3)
                replace hT := hT.setOut (.slice A3 n3 c3)
                refine hK _ _ ?_
                clear hK K
                refine wpAnyIn_done (by kernel_rfl) ?_ _
                exact Post7.intro _ _ _ _ _ hT hrow
              exact AllReadyIn.nil
            exact AllReadyIn.nil
          exact AllReadyIn.nil
        exact AllReadyIn.nil
      exact AllReadyIn.nil
    rintro e a' W4 ⟨rfl, t16, t17, t18, t19, v'', rfl, hT, hrow⟩
    have hcN := hT.cnt.cell
    have hfN := hT.cnt.frozen
    gi_wp2
    have hk : (pre.length : Int) + 1 = (((pre ++ [x]).length : Nat) : Int) := by simp
    rw [hk]
    have hT2 := hT.setCnt (.int .u64 (((pre ++ [x]).length : Nat) : Int))
    have hr2 := own_setCnt hrow hT (.int .u64 (((pre ++ [x]).length : Nat) : Int))
    refine ⟨hT2.oth.from _, hT2.kp, ⟨_, hT2.out, ?_, trivial⟩, hT2.cnt, hT2.row, hB.trans hT2.bel⟩
    rw [List.map_append, List.map_cons, List.map_nil, flat_snoc, ← List.append_assoc]
    exact hr2
  case done =>
    rintro D ys W hD hys ⟨⟨v, hv, hrow, _⟩, hcn, hbx, hB⟩ hK
    rw [hys] at hrow
    have hyl : ys.length = (st xs).length := by rw [← hys, List.length_map]
    have hst := st_length xs
    have hfl : (flat (st xs)).length ≤ 20 * ys.length := by rw [← hys]; exact flat_len ys
    rw [hyl] at hcn hfl
    have hT : T w.heap.size 49 (.slice A xs.length cap) W W v (.int .u64 ((st xs).length : Int)) := ⟨hv, hcn, hbx, hbx, Below.refl _ _, KeepsOthers.refl _⟩
    have hu : leb_Uint.f 10 ((st xs).length : Int) = some (putU (st xs).length) := by
      have := LebP.uint_f (k := 10) (by omega) (a := ((st xs).length : Int)) (by omega) (by omega)
      simpa using this
    have hlu : (putU (st xs).length).length ≤ 10 := putU_len64 (by omega)
    gi_wp2
    refine wpIn_mono (Q := Post9 w D A xs cap W (.int .u64 ((st xs).length : Int)) (runs xs)) ?_ ?_
    · replace hrow : W.drew.ownsRow _ _ _ _ _ _ := hrow
      replace hT := hT.below (below_drewN' _ W 1)
      refine wpIn_region_any (by kernel_rfl) ?_
      change wpAnyIn _ _ _ _ _ _ _ _ _ (World.drew _)
      obtain ⟨W1, hW1⟩ : ∃ W1, W1 = W.drew := ⟨_, rfl⟩
      change T _ _ _ _ (World.drew _) _ _ at hT
      rw [← hW1] at hT hrow ⊢
      clear hW1
      refine wpAnyIn_ready (rs := [0, 2]) (by kernel_rfl) (by simp) ?_
      refine AllReadyIn.cons rfl (fun K hK' => ?_) ?_
      · have hcO := hT.cnt.cell
        go_simp
        refine hK' _ _ ?_
        clear hK' K hcO
        refine wpAnyIn_ready (rs := [1, 2]) (by kernel_rfl) (by simp) ?_
        refine AllReadyIn.cons rfl (fun K hK' => ?_) ?_
        · go_simp
          refine ⟨trivial, ?_⟩
          refine ((callsIn_wide.2 (leb_Uint.calls 10 _ _ _ hu))).mono ?_
          rintro e W2 ⟨v0, rfl, hR, hb2⟩
          go_simp
          have hsz1 := hT.out.lt
          replace hT := hT.below hb2
          have hrow0 := Kd.own_of_R (Kd.R_lower hR (by omega) (base' := w.heap.size))
          replace hrow := own_below hrow hb2
          refine hK' _ _ ?_
          clear hK' K
          refine wpAnyIn_ready (rs := [2]) (by kernel_rfl) (by simp) ?_
          refine AllReadyIn.cons rfl (fun K hK' => ?_) ?_
          · have hcO := hT.out.cell
            go_simp
            refine hK' _ _ ?_
            clear hK' K hcO
            refine wpAnyIn_ready (rs := [3]) (by kernel_rfl) (by simp) ?_
            refine AllReadyIn.cons rfl (fun K hK' => ?_) ?_
            · refine step_wide (by intro c h; cases h) ?_
              obtain ⟨A0, c0, rfl, hlc0, hC0⟩ := OwnRow.reads (Kd.R_of_own (h1 := fun _ => rfl) hrow (fun _ _ => trivial) (ok := fun _ => True)).2
              refine Kd.R_append_rows_step (Kd.int .u8) (w0 := W) w.heap.size (by rfl) _ _ 23 5 (.int .u8 0) 1 rfl Try.underlying23 info5 rfl (by decide) (by omega) v0 _ _ A0 _ c0 (fun _ => True) (fun _ => False) rfl rfl (Kd.R_of_own hrow0 (fun _ _ => trivial)) hC0 (fun _ _ h => h) (fun _ h => h.elim) (fun _ _ => trivial) hT.bel (by have := hT.out.lt; omega) (by rw [Nat.mul_one]; omega) ?_
              intro v1 W3 ho3 hb3 hg3 _
              replace hT := hT.grown (by decide) hrow0 hg3
              refine hK' _ _ ?_
              clear hK' K
              refine wpAnyIn_ready (rs := [4]) (by kernel_rfl) (by simp) ?_
              refine AllReadyIn.cons rfl (fun K hK' => ?_) ?_
              · go_simp
                refine hK' _ _ ?_
                clear hK' K
                refine wpAnyIn_done (by kernel_rfl) ?_ _
                exact Post9.intro _ _ _ _ () hT ho3
              exact AllReadyIn.nil
            exact AllReadyIn.nil
          exact AllReadyIn.nil
        refine AllReadyIn.cons rfl (fun K hK' => ?_) ?_
        · have hcO := hT.out.cell
          go_simp
          refine hK' _ _ ?_
          clear hK' K hcO
          refine wpAnyIn_ready (rs := [1]) (by kernel_rfl) (by simp) ?_
          refine AllReadyIn.cons rfl (fun K hK' => ?_) ?_
          · go_simp
            refine ⟨trivial, ?_⟩
            refine ((callsIn_wide.2 (leb_Uint.calls 10 _ _ _ hu))).mono ?_
            rintro e W2 ⟨v0, rfl, hR, hb2⟩
            go_simp
            have hsz1 := hT.out.lt
            replace hT := hT.below hb2
            have hrow0 := Kd.own_of_R (Kd.R_lower hR (by omega) (base' := w.heap.size))
            replace hrow := own_below hrow hb2
            refine hK' _ _ ?_
            clear hK' K
            refine wpAnyIn_ready (rs := [3]) (by kernel_rfl) (by simp) ?_
            refine AllReadyIn.cons rfl (fun K hK' => ?_) ?_
            · refine step_wide (by intro c h; cases h) ?_
              obtain ⟨A0, c0, rfl, hlc0, hC0⟩ := OwnRow.reads (Kd.R_of_own (h1 := fun _ => rfl) hrow (fun _ _ => trivial) (ok := fun _ => True)).2
              refine Kd.R_append_rows_step (Kd.int .u8) (w0 := W) w.heap.size (by rfl) _ _ 23 5 (.int .u8 0) 1 rfl Try.underlying23 info5 rfl (by decide) (by omega) v0 _ _ A0 _ c0 (fun _ => True) (fun _ => False) rfl rfl (Kd.R_of_own hrow0 (fun _ _ => trivial)) hC0 (fun _ _ h => h) (fun _ h => h.elim) (fun _ _ => trivial) hT.bel (by have := hT.out.lt; omega) (by rw [Nat.mul_one]; omega) ?_
              intro v1 W3 ho3 hb3 hg3 _
              replace hT := hT.grown (by decide) hrow0 hg3
              refine hK' _ _ ?_
              clear hK' K
              refine wpAnyIn_ready (rs := [4]) (by kernel_rfl) (by simp) ?_
              refine AllReadyIn.cons rfl (fun K hK' => ?_) ?_
              · go_simp
                refine hK' _ _ ?_
                clear hK' K
                refine wpAnyIn_done (by kernel_rfl) ?_ _
                exact Post9.intro _ _ _ _ () hT ho3
              exact AllReadyIn.nil
            exact AllReadyIn.nil
          exact AllReadyIn.nil
        exact AllReadyIn.nil
      refine AllReadyIn.cons rfl (fun K hK' => ?_) ?_
      · have hcO := hT.out.cell
        go_simp
        refine hK' _ _ ?_
        clear hK' K hcO
        refine wpAnyIn_ready (rs := [0]) (by kernel_rfl) (by simp) ?_
        refine AllReadyIn.cons rfl (fun K hK' => ?_) ?_
        · have hcO := hT.cnt.cell
          go_simp
          refine hK' _ _ ?_
          clear hK' K hcO
          refine wpAnyIn_ready (rs := [1]) (by kernel_rfl) (by simp) ?_
          refine AllReadyIn.cons rfl (fun K hK' => ?_) ?_
          · go_simp
            refine ⟨trivial, ?_⟩
            refine ((callsIn_wide.2 (leb_Uint.calls 10 _ _ _ hu))).mono ?_
            rintro e W2 ⟨v0, rfl, hR, hb2⟩
            go_simp
            have hsz1 := hT.out.lt
            replace hT := hT.below hb2
            have hrow0 := Kd.own_of_R (Kd.R_lower hR (by omega) (base' := w.heap.size))
            replace hrow := own_below hrow hb2
            refine hK' _ _ ?_
            clear hK' K
            refine wpAnyIn_ready (rs := [3]) (by kernel_rfl) (by simp) ?_
            refine AllReadyIn.cons rfl (fun K hK' => ?_) ?_
            · refine step_wide (by intro c h; cases h) ?_
              obtain ⟨A0, c0, rfl, hlc0, hC0⟩ := OwnRow.reads (Kd.R_of_own (h1 := fun _ => rfl) hrow (fun _ _ => trivial) (ok := fun _ => True)).2
              refine Kd.R_append_rows_step (Kd.int .u8) (w0 := W) w.heap.size (by rfl) _ _ 23 5 (.int .u8 0) 1 rfl Try.underlying23 info5 rfl (by decide) (by omega) v0 _ _ A0 _ c0 (fun _ => True) (fun _ => False) rfl rfl (Kd.R_of_own hrow0 (fun _ _ => trivial)) hC0 (fun _ _ h => h) (fun _ h => h.elim) (fun _ _ => trivial) hT.bel (by have := hT.out.lt; omega) (by rw [Nat.mul_one]; omega) ?_
              intro v1 W3 ho3 hb3 hg3 _
              replace hT := hT.grown (by decide) hrow0 hg3
              refine hK' _ _ ?_
              clear hK' K
              refine wpAnyIn_ready (rs := [4]) (by kernel_rfl) (by simp) ?_
              refine AllReadyIn.cons rfl (fun K hK' => ?_) ?_
              · go_simp
                refine hK' _ _ ?_
                clear hK' K
                refine wpAnyIn_done (by kernel_rfl) ?_ _
                exact Post9.intro _ _ _ _ () hT ho3
              exact AllReadyIn.nil
            exact AllReadyIn.nil
          exact AllReadyIn.nil
        exact AllReadyIn.nil
      exact AllReadyIn.nil
    rintro e a' W4 ⟨rfl, t22, t23, t24, t25, v2, v', rfl, hT, hr⟩
    gi_wp2
    have hK4 := hT.oth.same D _ hK rfl
    refine ⟨by simp, .inl ⟨_, _, rfl, run_takeDeferred hK4, ?_⟩⟩
    refine ⟨_, results_tmp rfl _ _ _, v', rfl, Kd.R_of_own (ownsRow_putObj (Kd.own_of_R hr) _ hK4 rfl) (fun _ _ => trivial), (hB.trans hT.bel).trans (belowK_b (w := w) (Nat.le_refl _) W4 D _ _ (by rw [hs3] at hD; omega) hK4 rfl rfl)⟩
  case stop =>
    rintro D c pre W _ _ h _
    exact h.elim
end Go.Proofs.Ytpnnjefhchppfaa.ColS

set_option linter.unusedVariables false
set_option linter.unusedSimpArgs false
namespace Go.Proofs.Ytpnnjefhchppfaa.PA
open Go.RowKit Go.Proofs.YtpnnjefhchppfaaW.PrintWords
def column_Runs.f (l : List Int) : Option (List Int) :=
  if l.length ≤ 4398046511104 ∧ (l.all fun x => (Lit.int .i64 x).wf) = true then some (ColS.runs l) else none
theorem column_Runs.calls (A0 : Option Addr) (c0 : Nat) (l0 : List Int) (r : List Int) (w : World) (hr0 : Kd.C (Kd.int .i64) w A0 l0.length l0) (hc0 : l0.length ≤ c0) (h : column_Runs.f l0 = some r) :
    Calls Try.prog 23 #[.slice A0 l0.length c0] w fun e w' => ∃ v0_ : Value, e = .returned (v0_) ∧ Kd.R (Kd.int .u8) 5 w' w.heap.size (fun _ => True) v0_ r ∧ Below w.heap.size w w' := by
  unfold column_Runs.f at h
  split at h
  · rename_i hc
    obtain rfl := Option.some.inj h
    exact callsIn_wide.1 (ColS.Runs_in 3 (Nat.le_refl _) A0 c0 l0 hc.1 (fun x hx => List.all_eq_true.1 hc.2 x hx) w hr0)
  · cases h
end Go.Proofs.Ytpnnjefhchppfaa.PA

set_option linter.unusedVariables false
set_option linter.unusedSimpArgs false
namespace Go.Proofs.Ytpnnjefhchppfaa.ColT
open Go Go.RowKit Go.Proofs.Ytpnnjefhchppfaa.PA Go.Proofs.YtpnnjefhchppfaaW.PrintWords Go.Proofs.YtpnnjefhchppfaaW.PrintLast Go.Proofs.YtpnnjefhchppfaaW.PrintMore Go.Proofs.Ytpnnjefhchppfaa.LebT Go.Proofs.Ytpnnjefhchppfaa.LebP

def gR (most : Nat) : Nat → List Int → Nat → List Int → List Int × Int × Int
  | 0, acc, used, _ => (acc, (used : Int), 0)
  | n + 1, acc, used, b =>
    if (gU 0 0 b).2.2 = 0 then
      if (gU 0 0 b).1 = 0 then ([], 0, 4)
      else if (gU 0 0 b).1 > ((most - acc.length : Nat) : Int) then ([], 0, 5)
      else if (gI 0 0 false (b.drop (gU 0 0 b).2.1.toNat)).2.2 = 0 then
        if acc.getLast? = some (gI 0 0 false (b.drop (gU 0 0 b).2.1.toNat)).1 then ([], 0, 4)
        else gR most n (acc ++ List.replicate (gU 0 0 b).1.toNat (gI 0 0 false (b.drop (gU 0 0 b).2.1.toNat)).1) (used + (gU 0 0 b).2.1.toNat + (gI 0 0 false (b.drop (gU 0 0 b).2.1.toNat)).2.1.toNat) (b.drop ((gU 0 0 b).2.1.toNat + (gI 0 0 false (b.drop (gU 0 0 b).2.1.toNat)).2.1.toNat))
      else ([], 0, (gI 0 0 false (b.drop (gU 0 0 b).2.1.toNat)).2.2)
    else ([], 0, (gU 0 0 b).2.2)

theorem gU_rng {b : List Int} (hb : ∀ x ∈ b, isByte x) (h : (gU 0 0 b).2.2 = 0) : ∃ v k : Nat, gU 0 0 b = ((v : Int), (k : Int), 0) ∧ v < 18446744073709551616 ∧ 0 < k ∧ k ≤ b.length ∧ k ≤ 10 ∧ b = putU v ++ b.drop k ∧ (putU v).length = k := by
  obtain ⟨v, k, e, he⟩ : ∃ v k e, gU 0 0 b = (v, k, e) := ⟨_, _, _, rfl⟩
  rw [he] at h
  obtain rfl : e = 0 := h
  obtain ⟨m, j, rfl, rfl, h1, h2, h3, _, h4⟩ := gU_only b 0 0 v k hb (by omega) (by omega) he
  simp only [Nat.zero_add, Nat.pow_zero, Nat.mul_one] at *
  have hl : (putU m).length = j := by rw [h3, List.length_take]; omega
  refine ⟨m, j, he, h4, h1, h2, by rw [← hl]; exact putU_len64 h4, by rw [h3, List.take_append_drop], hl⟩
theorem gI_rng {b : List Int} (hb : ∀ x ∈ b, isByte x) (h : (gI 0 0 false b).2.2 = 0) : ∃ (v : Int) (k : Nat), gI 0 0 false b = (v, (k : Int), 0) ∧ -9223372036854775808 ≤ v ∧ v < 9223372036854775808 ∧ 0 < k ∧ k ≤ b.length ∧ k ≤ 10 ∧ b = putI v ++ b.drop k ∧ (putI v).length = k := by
  obtain ⟨v, k, e, he⟩ : ∃ v k e, gI 0 0 false b = (v, k, e) := ⟨_, _, _, rfl⟩
  rw [he] at h
  obtain rfl : e = 0 := h
  obtain ⟨m, j, hv, rfl, h1, h2, h3, _, h4, h5⟩ := gI_only b 0 0 false v k hb (by omega) (by omega) he
  simp only [Nat.zero_add, Int.pow_zero, Int.mul_one, Int.natCast_zero, Int.zero_add] at *
  have hv' : v = m := by simpa using hv
  subst hv'
  have hl : (putI v).length = j := by rw [h3, List.length_take]; omega
  refine ⟨v, j, he, h4, h5, h1, h2, by rw [← hl]; exact putI_len64 h4 h5, by rw [h3, List.take_append_drop], hl⟩
theorem w64 (n : Nat) (h : n < 4611686018427387904) : wrap64 (n : Int) = (n : Int) := by unfold wrap64; omega
theorem w64s (a b : Nat) (h : b ≤ a) (h1 : a < 4611686018427387904) : wrap64 ((a : Int) - (b : Int)) = ((a - b : Nat) : Int) := by unfold wrap64; omega
theorem w64a (a b : Nat) (h1 : a + b < 4611686018427387904) : wrap64 ((a : Int) + (b : Int)) = ((a + b : Nat) : Int) := by unfold wrap64; omega
theorem w64p (a : Nat) (h : 0 < a) (h1 : a < 4611686018427387904) : wrap64 ((a : Int) - 1) = ((a - 1 : Nat) : Int) := by unfold wrap64; omega
theorem u64n (n : Nat) (h : n < 18446744073709551616) : IntKind.u64.wrap (n : Int) = (n : Int) := by rw [IntKind.wrap_u64]; omega
theorem u64a (n : Nat) (h : n + 1 < 18446744073709551616) : IntKind.u64.wrap ((n : Int) + 1) = ((n + 1 : Nat) : Int) := by rw [IntKind.wrap_u64]; omega
theorem u64p (n : Nat) (h : n < 18446744073709551616) : IntKind.u64.wrap (((n + 1 : Nat) : Int) - 1) = (n : Int) := by rw [IntKind.wrap_u64]; omega
theorem drop_byte {b : List Int} (hb : ∀ x ∈ b, isByte x) (k : Nat) : ∀ x ∈ b.drop k, isByte x := fun x hx => hb x (List.mem_of_mem_drop hx)
theorem runs_l1 (x0 : List Int) (x1 x5 x6 x7 x9 v x12 : Int) (many : Nat) (hm : many ≤ 65536) (d : Nat) : ∀ (k i : Nat) (acc : List Int), i + d = many → acc.length + d ≤ 65536 →
    column_GetRuns.l1 (k + d + 1) x0 x1 acc x5 x6 x7 x9 v x12 (many : Int) (i : Int) = column_GetRuns.l0 k x0 x1 (acc ++ List.replicate d v) (wrap64 (x5 + (wrap64 (x9 + x12)))) x6 (IntKind.u64.wrap (x7 - 1)) := by
  induction d with
  | zero =>
    intro k i acc hi ha
    rw [column_GetRuns.l1, if_neg (by omega)]
    simp
  | succ d ih =>
    intro k i acc hi ha
    rw [column_GetRuns.l1, if_pos (by omega), if_pos (by omega)]
    rw [show IntKind.u64.wrap ((i : Int) + 1) = ((i + 1 : Nat) : Int) by rw [IntKind.wrap_u64]; omega]
    rw [show k + (d + 1) = k + d + 1 by omega, ih k (i + 1) (acc ++ [v]) (by omega) (by simp; omega)]
    rw [List.append_assoc, List.replicate_succ, List.singleton_append]
theorem runs_l0 (b : List Int) (hb : ∀ x ∈ b, isByte x) (hbl : b.length ≤ 140737488351232) (most : Nat) (hmost : most ≤ 65536) (n : Nat) : ∀ (k : Nat) (acc : List Int) (used : Nat), n ≤ 65536 → acc.length ≤ most → used ≤ b.length → 10 * n + (most - acc.length) + 40 ≤ k →
    column_GetRuns.l0 k b (most : Int) acc (used : Int) 0 (n : Int) = some (gR most n acc used (b.drop used)) := by
  induction n with
  | zero =>
    intro k acc used hn ha hu hk
    obtain ⟨k, rfl⟩ : ∃ k', k = k' + 2 := ⟨k - 2, by omega⟩
    rw [column_GetRuns.l0, if_pos rfl, column_GetRuns.j3]
    simp [gR]
  | succ n ih =>
    intro k acc used hn ha hu hk
    obtain ⟨k, rfl⟩ : ∃ k', k = k' + 5 := ⟨k - 5, by omega⟩
    have hbu := drop_byte hb used
    rw [column_GetRuns.l0, if_pos rfl, column_GetRuns.j3, if_pos (by simp), if_pos (by omega), if_pos (by omega), Int.toNat_natCast, getU_f (by omega) hbu, gR, w64s most acc.length ha (by omega), u64n (most - acc.length) (by omega)]
    simp only [Option.bind_some]
    by_cases hf : (gU 0 0 (b.drop used)).2.2 = 0
    · obtain ⟨v, c, hv, hv64, hc0, hcl, hc10, hbv, hpl⟩ := gU_rng hbu hf
      rw [List.length_drop] at hcl
      simp only [hv, Int.toNat_natCast, if_true, List.drop_drop]
      by_cases hv0 : (v : Int) = 0
      · rw [if_pos hv0, if_pos hv0]
      · rw [if_neg hv0, if_neg hv0]
        by_cases hvm : (v : Int) > ((most - acc.length : Nat) : Int)
        · rw [if_pos hvm, if_pos hvm]
        · rw [if_neg hvm, if_neg hvm]
          rw [w64a used c (by omega)]
          have hbc := drop_byte hb (used + c)
          have hq1 : (0 : Int) ≤ ((used + c : Nat) : Int) := Int.natCast_nonneg _
          have hq2 : ((used + c : Nat) : Int) ≤ (b.length : Int) := by omega
          have hgi : leb_GetInt.f (k + 3) (b.drop (used + c)) = some (gI 0 0 false (b.drop (used + c))) := getI_f (by omega) hbc
          rw [if_pos hq1, if_pos hq2, Int.toNat_natCast]
          rw [hgi]
          simp only [Option.bind_some]
          by_cases hg : (gI 0 0 false (b.drop (used + c))).2.2 = 0
          · obtain ⟨x, j, hx, hx1, hx2, hj0, hjl, hj10, hbx, hpx⟩ := gI_rng hbc hg
            rw [List.length_drop] at hjl
            simp only [hx, if_true, Int.toNat_natCast]
            have hfin : ∀ q : Bool, q = decide (acc.getLast? = some x) → column_GetRuns.j4 (k + 3) b (most : Int) acc (used : Int) 0 ((n + 1 : Nat) : Int) (v : Int) (c : Int) 0 x (j : Int) q = some (if acc.getLast? = some x then ([], 0, 4) else gR most n (acc ++ List.replicate v x) (used + c + j) (b.drop (used + (c + j)))) := by
              intro q hq
              subst hq
              rw [column_GetRuns.j4]
              by_cases hl : acc.getLast? = some x
              · rw [if_pos (by simpa using hl), column_GetRuns.j5, if_neg (by omega), if_pos hl]
              · rw [if_neg (by simpa using hl), column_GetRuns.j5, if_pos rfl, if_neg hl]
                obtain ⟨k2, rfl⟩ : ∃ k2, k = k2 + v := ⟨k - v, by omega⟩
                have h1 := runs_l1 b (most : Int) (used : Int) 0 ((n + 1 : Nat) : Int) (c : Int) x (j : Int) v (by omega) v k2 0 acc (by omega) (by omega)
                rw [show ((0 : Nat) : Int) = 0 from rfl] at h1
                rw [h1]
                clear h1
                rw [w64a c j (by omega), w64a used (c + j) (by omega), u64p n (by omega), ← Nat.add_assoc used c j]
                rw [ih k2 (acc ++ List.replicate v x) (used + c + j) (by omega) (by rw [List.length_append, List.length_replicate]; omega) (by omega) (by rw [List.length_append, List.length_replicate]; omega)]
            by_cases hal : (acc.length : Int) > 0
            · rw [if_pos hal, w64p acc.length (by omega) (by omega), if_pos (by omega), if_pos (by omega)]
              refine hfin _ ?_
              have hal' : acc.length - 1 < acc.length := by omega
              rw [List.getLast?_eq_getElem?, List.getElem?_eq_getElem hal']
              simp [rd, List.getD_eq_getElem?_getD, List.getElem?_eq_getElem hal']
              by_cases h : acc[acc.length - 1] = x <;> simp [h]
            · rw [if_neg hal]
              refine hfin _ ?_
              have : acc = [] := List.eq_nil_of_length_eq_zero (by omega)
              simp [this]
          · rw [if_neg hg, if_neg hg]
            obtain ⟨e, he⟩ : ∃ e, (gI 0 0 false (b.drop (used + c))).2.2 = e := ⟨_, rfl⟩
            rw [he] at hg ⊢
            rw [column_GetRuns.j4]
            simp only [Bool.false_eq_true, if_false]
            rw [column_GetRuns.j5, if_neg hg]
    · rw [if_neg hf, if_neg hf]
def getRuns (b : List Int) (most : Int) : List Int × Int × Int :=
  if (gU 0 0 b).2.2 = 0 then
    if (gU 0 0 b).1 > mx 0 (mn most 65536) then ([], 0, 5) else gR (mx 0 (mn most 65536)).toNat (gU 0 0 b).1.toNat [] (gU 0 0 b).2.1.toNat (b.drop (gU 0 0 b).2.1.toNat)
  else ([], 0, (gU 0 0 b).2.2)
theorem getRuns_f {k : Nat} (hk : 800000 ≤ k) {b : List Int} (hb : ∀ x ∈ b, isByte x) (hbl : b.length ≤ 140737488351232) (most : Int) : column_GetRuns.f k b most = some (getRuns b most) := by
  have hmm : 0 ≤ mx 0 (mn most 65536) ∧ mx 0 (mn most 65536) ≤ 65536 := by simp only [mx, mn]; omega
  obtain ⟨m, hm⟩ : ∃ m : Nat, mx 0 (mn most 65536) = (m : Int) := ⟨_, (Int.toNat_of_nonneg hmm.1).symm⟩
  unfold column_GetRuns.f column_bounded.f getRuns
  simp only [Option.bind_some, hm, Int.toNat_natCast]
  rw [hm] at hmm
  clear hm
  rw [getU_f (by omega) hb, show IntKind.u64.wrap ((m : Int)) = (m : Int) by rw [IntKind.wrap_u64]; omega]
  simp only [Option.bind_some]
  obtain ⟨k, rfl⟩ : ∃ k', k = k' + 4 := ⟨k - 4, by omega⟩
  by_cases hf : (gU 0 0 b).2.2 = 0
  · obtain ⟨v, c, hv, hv64, hc0, hcl, hc10, hbv, hpl⟩ := gU_rng hb hf
    simp only [hv, if_true, Int.toNat_natCast]
    rw [column_GetRuns.j0]
    by_cases hvm : (v : Int) > (m : Int)
    · rw [if_pos (by simpa using hvm), column_GetRuns.j1, column_GetRuns.l0, if_neg (by omega), column_GetRuns.j3, if_neg (by simp), if_neg (by omega), if_pos hvm]
    · rw [if_neg (by simpa using hvm), column_GetRuns.j1, if_neg hvm]
      exact runs_l0 b hb hbl m (by omega) v (k + 2) [] c (by omega) (by simp) (by omega) (by simp; omega)
  · rw [if_neg hf, if_neg hf, column_GetRuns.j0, if_neg (by simp), column_GetRuns.j1, column_GetRuns.l0, if_neg hf, column_GetRuns.j3, if_neg (by simp), if_neg hf]
end Go.Proofs.Ytpnnjefhchppfaa.ColT
namespace Go.Proofs.Ytpnnjefhchppfaa.ColT
open Go Go.RowKit Go.Proofs.Ytpnnjefhchppfaa.PA Go.Proofs.YtpnnjefhchppfaaW.PrintWords Go.Proofs.YtpnnjefhchppfaaW.PrintLast Go.Proofs.YtpnnjefhchppfaaW.PrintMore Go.Proofs.Ytpnnjefhchppfaa.LebT Go.Proofs.Ytpnnjefhchppfaa.LebP
def sums : Int → List Int → List Int
  | _, [] => []
  | a, x :: r => wrap64 (x + a) :: sums (wrap64 (x + a)) r
def sums0 : List Int → List Int
  | [] => []
  | x :: r => x :: sums x r
theorem deltas_l0 (u e : Int) (r : List Int) : ∀ (k : Nat) (pre : List Int) (a : Int), r.length < k → pre.length + r.length < 4611686018427387900 →
    column_GetDeltas.l0 k (pre ++ a :: r) u e ((pre.length + 1 : Nat) : Int) = some (pre ++ a :: sums a r, u, e) := by
  induction r with
  | nil =>
    intro k pre a hk hl
    obtain ⟨k, rfl⟩ : ∃ k', k = k' + 1 := ⟨k - 1, by simp at hk; omega⟩
    rw [column_GetDeltas.l0, if_neg (by simp)]
    simp [sums]
  | cons y t ih =>
    intro k pre a hk hl
    simp only [List.length_cons] at hk hl
    obtain ⟨k, rfl⟩ : ∃ k', k = k' + 1 := ⟨k - 1, by omega⟩
    have e1 : rd (pre ++ a :: y :: t) ((pre.length + 1 : Nat) : Int) = y := by simp [rd, List.getD_eq_getElem?_getD]
    have e2 : rd (pre ++ a :: y :: t) ((pre.length : Nat) : Int) = a := by simp [rd, List.getD_eq_getElem?_getD]
    have h1 : ((pre.length + 1 : Nat) : Int) < ((pre ++ a :: y :: t).length : Int) := by simp; omega
    have h2 : (0 : Int) ≤ ((pre.length + 1 : Nat) : Int) := Int.natCast_nonneg _
    have h3 : (0 : Int) ≤ ((pre.length : Nat) : Int) := Int.natCast_nonneg _
    have h4 : ((pre.length : Nat) : Int) < ((pre ++ a :: y :: t).length : Int) := by simp; omega
    have es : (pre ++ a :: y :: t).set (pre.length + 1) (wrap64 (y + a)) = (pre ++ [a]) ++ wrap64 (y + a) :: t := by
      rw [List.set_append_right _ _ (by omega)]
      simp
    have hi := ih k (pre ++ [a]) (wrap64 (y + a)) (by omega) (by simp; omega)
    rw [List.length_append, List.length_singleton] at hi
    rw [column_GetDeltas.l0, if_pos h1, if_pos h2, show wrap64 (((pre.length + 1 : Nat) : Int) - 1) = ((pre.length : Nat) : Int) from (w64p (pre.length + 1) (by omega) (by omega)), if_pos h3, if_pos h4, e1, e2, Int.toNat_natCast, es]
    rw [show wrap64 (((pre.length + 1 : Nat) : Int) + 1) = ((pre.length + 1 + 1 : Nat) : Int) from w64a (pre.length + 1) 1 (by omega), hi]
    simp [sums]
theorem deltas0 (u e : Int) (l : List Int) (k : Nat) (hk : l.length < k) (hl : l.length < 4611686018427387900) : column_GetDeltas.l0 k l u e 1 = some (sums0 l, u, e) := by
  cases l with
  | nil =>
    obtain ⟨k, rfl⟩ : ∃ k', k = k' + 1 := ⟨k - 1, by simp at hk; omega⟩
    rw [column_GetDeltas.l0, if_neg (by simp)]; rfl
  | cons a r => exact deltas_l0 u e r k [] a (by simp at hk; omega) (by simp at hl ⊢; omega)
theorem gR_len (most : Nat) : ∀ (n : Nat) (acc : List Int) (used : Nat) (b : List Int), acc.length ≤ most → (gR most n acc used b).1.length ≤ most
  | 0, acc, used, b, h => h
  | n + 1, acc, used, b, h => by
    rw [gR]
    split
    · split
      · simp
      · split
        · simp
        · split
          · split
            · simp
            · rename_i h2 _ _
              exact gR_len most n _ _ _ (by rw [List.length_append, List.length_replicate]; omega)
          · simp
    · simp
theorem getRuns_len (b : List Int) (most : Int) : (getRuns b most).1.length ≤ 65536 := by
  unfold getRuns
  have hmm : 0 ≤ mx 0 (mn most 65536) ∧ mx 0 (mn most 65536) ≤ 65536 := by simp only [mx, mn]; omega
  split
  · split
    · simp
    · exact Nat.le_trans (gR_len _ _ _ _ _ (by simp)) (by omega)
  · simp
theorem getDeltas_f {k : Nat} (hk : 800000 ≤ k) {b : List Int} (hb : ∀ x ∈ b, isByte x) (hbl : b.length ≤ 140737488351232) (most : Int) : column_GetDeltas.f k b most = some (sums0 (getRuns b most).1, (getRuns b most).2.1, (getRuns b most).2.2) := by
  unfold column_GetDeltas.f
  rw [getRuns_f hk hb hbl]
  simp only [Option.bind_some]
  have := getRuns_len b most
  exact deltas0 _ _ _ k (by omega) (by omega)
end Go.Proofs.Ytpnnjefhchppfaa.ColT

namespace Go.Proofs.Ytpnnjefhchppfaa.PA
open Go.RowKit Go.Proofs.YtpnnjefhchppfaaW.PrintWords Go.Proofs.YtpnnjefhchppfaaW.PrintLast Go.Proofs.YtpnnjefhchppfaaW.PrintMore
attribute [local go_sem] max2_int min2_int max_two min_two max_three min_three max_four min_four
set_option linter.unusedVariables false
set_option linter.unusedSimpArgs false

def column_Deltas.l0 : Nat → List Int → List Int → List Int → Int → Int → Option (List Int)
 | 0, _, _, _, _, _ => none
 | k + 1, x0, x3, x9, x10, x11 => if x11 < x10 then (if 0 ≤ x11 then (if x11 < (x9.length : Int) then (if x11 < (x3.length : Int) then ((some (x3.set (x11 : Int).toNat (rd x9 x11) : List Int)).bind fun y137 => (if x11 > 0 then (if 0 ≤ (wrap64 (x11 - 1)) then (if (wrap64 (x11 - 1)) < (x0.length : Int) then (column_Deltas.l0 k x0 (y137.set (x11 : Int).toNat (wrap64 ((rd y137 x11) - (rd x0 (wrap64 (x11 - 1)))))) x9 x10 (wrap64 (x11 + 1))) else (none)) else (none)) else (column_Deltas.l0 k x0 y137 x9 x10 (wrap64 (x11 + 1))))) else (none)) else (none)) else (none)) else ((column_Runs.f x3).bind fun t141 => (some t141))
def column_Deltas.f (k : Nat) (l0 : List Int) : Option (List Int) := if 0 ≤ (l0.length : Int) then (if ((l0.length : Int) : Int).toNat ≤ 35184372088832 then (column_Deltas.l0 k l0 (List.replicate ((l0.length : Int) : Int).toNat 0) l0 (l0.length : Int) 0) else (none)) else (none)
theorem column_Deltas.mono_l : ∀ k, (∀ y0 y1 y2 y3 y4, LeO (column_Deltas.l0 k y0 y1 y2 y3 y4) (column_Deltas.l0 (k + 1) y0 y1 y2 y3 y4))
 | 0 => fun _ _ _ _ _ r h => by simp [column_Deltas.l0] at h
 | k + 1 => by
  have ih0 := column_Deltas.mono_l k
  ·intro y0 y1 y2 y3 y4
   unfold column_Deltas.l0
   repeat' first
   | (with_reducible exact ih0 _ _ _ _ _)
   | (with_reducible exact LeO.refl _)
   | (with_reducible exact LeO.none _)
   | (with_reducible refine LeO.ite ?_ ?_)
   | (with_reducible refine LeO.bind ?_ (fun _ => ?_))
   | exact ih0 _ _ _ _ _
   | exact LeO.none _
   | refine LeO.ite ?_ ?_
   | refine LeO.bind ?_ (fun _ => ?_)
theorem column_Deltas.mono : ∀ a0 k, LeO (column_Deltas.f k a0) (column_Deltas.f (k + 1) a0) := by
 intro a0 k
 have ih0 := column_Deltas.mono_l k
 unfold column_Deltas.f
 repeat' first
   | (with_reducible exact ih0 _ _ _ _ _)
   | (with_reducible exact LeO.refl _)
   | (with_reducible exact LeO.none _)
   | (with_reducible refine LeO.ite ?_ ?_)
   | (with_reducible refine LeO.bind ?_ (fun _ => ?_))
   | exact ih0 _ _ _ _ _
   | exact LeO.none _
   | refine LeO.ite ?_ ?_
   | refine LeO.bind ?_ (fun _ => ?_)
def column_Deltas.T7 : Bool × List (List Nat × List Nat) := (true, [([], []), ([], []), ([0, 1], [0, 1]), ([2], [2]), ([], []), ([], []), ([5], [5]), ([4, 6], [4, 6]), ([7], [7]), ([3, 8], [3, 8]), ([0, 1, 0, 1, 2, 3, 4, 5, 6, 7, 8, 9], [0, 1]), ([10, 9, 0, 1, 2, 3, 4, 5, 6, 7, 8, 9], [9, 10])])
def column_Deltas.B7 : List Nat := [0, 0, 3, 7, 0, 0, 32, 112, 240, 511, 1023, 2047]
theorem column_Deltas.tab7 : rtab .any (opsOf Try.f28 7) = column_Deltas.T7 := by kernel_rfl
theorem column_Deltas.bits7 : waitsOk column_Deltas.T7.2 column_Deltas.B7 = true := by kernel_rfl
set_option maxHeartbeats 8000000 in
set_option maxRecDepth 100000 in
theorem column_Deltas.calls (k : Nat) (A0 : Option Addr) (c0 : Nat) (l0 : List Int) (r : List Int) (w : World) (hr0 : Kd.C (Kd.int .i64) w A0 l0.length l0) (hc0 : l0.length ≤ c0) (h : column_Deltas.f k l0 = some r) :
  Calls Try.prog 28 #[.slice A0 l0.length c0] w fun e w' => ∃ v0_ : Value, e = .returned (v0_) ∧ Kd.R (Kd.int .u8) 5 w' w.heap.size (fun _ => True) v0_ r ∧ Below w.heap.size w w' := by
 have HR0 := Aside0.mk hr0
 have HC0 := Aside0.mk hc0
 clear hr0 hc0
 have HB := Aside0.mk (Below.refl w.heap.size w)
 have H : (if 0 ≤ (l0.length : Int) then (if ((l0.length : Int) : Int).toNat ≤ 35184372088832 then (column_Deltas.l0 k l0 (List.replicate ((l0.length : Int) : Int).toNat 0) l0 (l0.length : Int) 0) else (none)) else (none)) = some r := h
 clear h
 by_cases c2 : 0 ≤ (l0.length : Int)
 ·rw [if_pos c2] at H
  have c2b0 := eq_true c2
  have c2b1 : decide (0 ≤ (l0.length : Int)) = true := decide_eq_true c2
  clear c2
  by_cases c3 : ((l0.length : Int) : Int).toNat ≤ 35184372088832
  ·rw [if_pos c3] at H
   have c3b0 := eq_true c3
   have c3b1 : decide (((l0.length : Int) : Int).toNat ≤ 35184372088832) = true := decide_eq_true c3
   clear c3
   obtain ⟨y133, hy133⟩ : ∃ y_ : List Int, y_ = (List.replicate ((l0.length : Int) : Int).toNat 0) := ⟨_, rfl⟩
   replace H : (column_Deltas.l0 k l0 y133 l0 (l0.length : Int) 0) = some r := by first | (rw [hy133]; with_reducible exact H) | (have H2_ := (Option.bind_some _ _).symm.trans H; rw [hy133]; with_reducible exact H2_) | (have H2_ := (Option.bind_some _ _).symm.trans H; with_reducible exact H2_) | with_reducible exact H | (rw [hy133]; exact H) | exact H
   have Ny133 := Aside0.mk hy133
   clear hy133
   have H' := Aside0.mk H
   clear H
   go_enter Try.func28, Try.ntmps28
   go_wp2_with (first | ((with_reducible refine gate_dst (N := 8) rfl ?_); refine Kd.R_make (Kd.int .i64) _ 2 rfl (N := 8) rfl 49 _ _ rfl (l0.length : Int) rfl rfl Try.underlying49 (.int .i64 0) 8 info2 rfl (by decide) (by omega) 0 (ok := fun _ => True) (okp := fun _ => True) rfl (fun _ hk => hk) trivial (of_decide_eq_true (by first | (with_reducible assumption) | assumption)) (Nat.le_trans (Nat.mul_le_mul_right _ (of_decide_eq_true (by first | (with_reducible assumption) | assumption) : (l0.length : Int).toNat ≤ 35184372088832)) (by omega)) (Below.refl _ _) (Nat.le_refl _) ?_; intro v134 w4 ho5 hb hg_ hnew_; clear hg_ hnew_; (first | rw [← Ny133.out] at ho5 | (simp only [Int.reduceToNat] at ho5; rw [← Ny133.out] at ho5)); have n0_ := Aside0.mk (Kd.R_lower ho5 (below_size (zb_ HB.out))); have n1_ := Aside0.mk (below_step (zb_ HB.out) hb); clear HB; have HO135 := n0_; have HB := n1_; clear n0_ n1_; clear hb ho5))
   go_loopg [11] k (fun kq v11 w' => ∃ (x3_1 : List Int) (x11_1 : Int), v11 = .int .i64 x11_1 ∧ Aside0 (column_Deltas.l0 kq l0 x3_1 l0 (l0.length : Int) x11_1 = some r) ∧ Aside0 (kq ≤ k) ∧ Aside0 (Kd.R (Kd.int .i64) 2 w' w.heap.size (fun _ => True) v134 x3_1) ∧ Aside0 (Below w.heap.size w w'))
   case atStart => exact ⟨(y133), (0), (by first | rfl | (simp; done) | (simp [*]; done)), H', ⟨Nat.le_refl _⟩, ⟨by (with_reducible repeat (first | apply Kd.R_alloc | apply Kd.R_drewN | apply Kd.R_drew)); exact HO135.out⟩, ⟨by repeat (first | (with_reducible first | exact HB.out | apply below_alloc | apply pw_below_drewN | apply below_drew1) | exact HB.out)⟩⟩
   case round =>
    clear H'
    try clear c2
    try clear c2b0
    try clear c2b1
    try clear p2
    try clear c3
    try clear c3b0
    try clear c3b1
    obtain ⟨x3_1, x11_1, rfl, HA, HK1, HO_3, HB⟩ := hrel
    cases gk with
    | zero => exact absurd HA.out (by simp [column_Deltas.l0])
    | succ k1 =>
     have H := HA.out
     clear HA
     simp only [column_Deltas.l0] at H
     by_cases c6 : x11_1 < (l0.length : Int)
     ·rw [if_pos c6] at H
      have c6b0 : decide (x11_1 < (l0.length : Int)) = true := decide_eq_true c6
      clear c6
      by_cases c7 : 0 ≤ x11_1
      ·rw [if_pos c7] at H
       have c7b0 : decide (0 ≤ x11_1) = true := decide_eq_true c7
       clear c7
       by_cases c8 : x11_1 < (l0.length : Int)
       ·rw [if_pos c8] at H
        have c8b0 : decide (x11_1 < (l0.length : Int)) = true := decide_eq_true c8
        clear c8
        by_cases c9 : x11_1 < (x3_1.length : Int)
        ·rw [if_pos c9] at H
         have c9b0 : decide (x11_1 < (x3_1.length : Int)) = true := decide_eq_true c9
         clear c9
         obtain ⟨y137, hy137⟩ : ∃ y_ : List Int, y_ = (x3_1.set (x11_1 : Int).toNat (rd l0 x11_1)) := ⟨_, rfl⟩
         replace H : (if x11_1 > 0 then (if 0 ≤ (wrap64 (x11_1 - 1)) then (if (wrap64 (x11_1 - 1)) < (l0.length : Int) then (column_Deltas.l0 k1 l0 (y137.set (x11_1 : Int).toNat (wrap64 ((rd y137 x11_1) - (rd l0 (wrap64 (x11_1 - 1)))))) l0 (l0.length : Int) (wrap64 (x11_1 + 1))) else (none)) else (none)) else (column_Deltas.l0 k1 l0 y137 l0 (l0.length : Int) (wrap64 (x11_1 + 1)))) = some r := by first | (rw [hy137]; with_reducible exact H) | (have H2_ := (Option.bind_some _ _).symm.trans H; rw [hy137]; with_reducible exact H2_) | (have H2_ := (Option.bind_some _ _).symm.trans H; with_reducible exact H2_) | with_reducible exact H | (rw [hy137]; exact H) | exact H
         have Ny137 := Aside0.mk hy137
         clear hy137
         by_cases c11 : x11_1 > 0
         ·rw [if_pos c11] at H
          have c11b0 : decide (0 < x11_1) = true := decide_eq_true c11
          clear c11
          obtain ⟨ji12, hji12⟩ : ∃ j_ : Int, (wrap64 (x11_1 - 1)) = j_ := ⟨_, rfl⟩
          replace H : (if 0 ≤ (ji12) then (if (ji12) < (l0.length : Int) then (column_Deltas.l0 k1 l0 (y137.set (x11_1 : Int).toNat (wrap64 ((rd y137 x11_1) - (rd l0 (ji12))))) l0 (l0.length : Int) (wrap64 (x11_1 + 1))) else (none)) else (none)) = some r := by first | (rw [hji12] at H; exact H) | (simp only [hji12] at H ⊢; exact H)
          have hji12w : (IntKind.i64.wrap (x11_1 - 1)) = ji12 := (i64_w _).trans hji12
          by_cases c13 : 0 ≤ (ji12)
          ·rw [if_pos c13] at H
           have c13b0 : decide (0 ≤ (ji12)) = true := decide_eq_true c13
           clear c13
           by_cases c14 : (ji12) < (l0.length : Int)
           ·rw [if_pos c14] at H
            have c14b0 : decide ((ji12) < (l0.length : Int)) = true := decide_eq_true c14
            clear c14
            obtain ⟨y140, hy140⟩ : ∃ y_ : List Int, y_ = (y137.set (x11_1 : Int).toNat (wrap64 ((rd y137 x11_1) - (rd l0 (ji12))))) := ⟨_, rfl⟩
            replace H : (column_Deltas.l0 k1 l0 y140 l0 (l0.length : Int) (wrap64 (x11_1 + 1))) = some r := by first | (rw [hy140]; with_reducible exact H) | (have H2_ := (Option.bind_some _ _).symm.trans H; rw [hy140]; with_reducible exact H2_) | (have H2_ := (Option.bind_some _ _).symm.trans H; with_reducible exact H2_) | with_reducible exact H | (rw [hy140]; exact H) | exact H
            have Ny140 := Aside0.mk hy140
            clear hy140
            have H' := Aside0.mk H
            clear H
            have p136 : 0 ≤ (x11_1 : Int) := of_decide_eq_true (by first | (with_reducible assumption) | assumption)
            have q136 : x11_1 < (l0.length : Int) := of_decide_eq_true (by first | (with_reducible assumption) | assumption)
            obtain ⟨ad136, e136, hx136_0⟩ := Kd.at_int HR0.out x11_1 p136 q136
            cases e136
            replace hx136_0 := (HB.out.cell (World.block_lt_of_cell? w _ hx136_0)).trans hx136_0
            replace p136 := eq_true p136
            replace q136 := eq_true q136
            have p10 : 0 ≤ (x11_1 : Int) := of_decide_eq_true (by first | (with_reducible assumption) | assumption)
            have q10 : (x11_1 : Int) < ((x3_1.length : Int) : Int) := of_decide_eq_true (by first | (with_reducible assumption) | assumption)
            obtain ⟨go10, co10, eo10, gb10, gl10, cl10, HG10⟩ := Kd.R_form HO_3.out (by omega)
            (first | cases eo10 | (injection eo10 with ea_ en_ ec_; (first | subst ea_ | (injection ea_ with ea_; subst ea_)); subst ec_; clear en_))
            have GB10 := Aside0.mk gb10
            have GG10 := Aside0.mk HG10
            clear gb10 gl10 HG10
            obtain ⟨hx10_0, hf10_0⟩ := Kd.R_celln 0 HO_3.out (x11_1 : Int) p10 q10
            replace p10 := eq_true p10
            replace q10 := eq_true q10
            have HP16 := Kd.R_putg HO_3.out (x11_1 : Int) (rd l0 x11_1)
            try go_wp2_with (first | ((with_reducible refine gate_store (t := 2) (p := 19) rfl ?_); refine store_event (t := 2) (p := 19) (v := ?vo_w17) (w1 := (wr.setCell ⟨go10, (x11_1 : Int).toNat, none⟩ (.int .i64 (rd l0 x11_1)))) ?hg ?ho ?hn ?hr ?_; (case ho => rfl); (case hg => rfl); (case hn => rfl); (case hr => first | (go_simp; done) | (go_simp; rfl)); intro w17 hw; have hg : wr.grownBy w17 (some go10) := (by rw [hw]; exact HP16.2); have hp_ : Kd.R (Kd.int .i64) 2 w17 w.heap.size (fun _ => True) (.slice (some ⟨go10, 0, none⟩) x3_1.length co10) y137 := (by rw [hw, Ny137.out]; exact HP16.1); clear HP16; have n0_ := Aside0.mk (hp_); have n1_ := Aside0.mk ((by rw [hw]; exact below_set (HB.out) GB10.out : Below w.heap.size w w17)); clear HO_3; clear HB; have HO_3 := n0_; have HB := n1_; clear n0_ n1_; clear hg hw hp_))
            have n0_ := Aside0.mk (Kd.R_drew HO_3.out)
            have n1_ := Aside0.mk (below_drew1 HB.out)
            clear HO_3
            clear HB
            have HO_3 := n0_
            have HB := n1_
            clear n0_ n1_
            have p138 : 0 ≤ (x11_1 : Int) := of_decide_eq_true (by first | (with_reducible assumption) | assumption)
            have q138 : x11_1 < (y137.length : Int) := (by have h_ : (x11_1 : Int) < ((x3_1.length : Int) : Int) := of_decide_eq_true (by first | (with_reducible assumption) | assumption); first | (have e_ := (Kd.R_reads' HO_3.out).1; omega) | simpa only [Ny137.out, List.length_set] using h_)
            have ql138 : ((x11_1 : Int) < ((x3_1.length : Int) : Int)) = True := eq_true (of_decide_eq_true (by first | (with_reducible assumption) | assumption))
            obtain ⟨ad138, e138, hx138_0⟩ := Kd.at_int (Kd.R_reads' HO_3.out).2.2 x11_1 p138 q138
            obtain rfl : (⟨go10, 0, none⟩ : Addr) = ad138 := (by injection e138)
            (first | simp only [add_plain] at hx138_0 | simp only [add_at] at hx138_0 | simp only [Addr.add, Nat.zero_add] at hx138_0 | skip)
            replace p138 := eq_true p138
            replace q138 := eq_true q138
            have p139 : 0 ≤ ((ji12) : Int) := of_decide_eq_true (by first | (with_reducible assumption) | assumption)
            have q139 : (ji12) < (l0.length : Int) := of_decide_eq_true (by first | (with_reducible assumption) | assumption)
            obtain ⟨ad139, e139, hx139_0⟩ := Kd.at_int HR0.out (ji12) p139 q139
            have hw139_0 := hx139_0
            obtain rfl : ad136 = ad139 := (by injection e139)
            replace hx139_0 := (HB.out.cell (World.block_lt_of_cell? w _ hx139_0)).trans hx139_0
            replace p139 := eq_true p139
            replace q139 := eq_true q139
            have p15 : 0 ≤ (x11_1 : Int) := of_decide_eq_true (by first | (with_reducible assumption) | assumption)
            have q15 : (x11_1 : Int) < ((x3_1.length : Int) : Int) := of_decide_eq_true (by first | (with_reducible assumption) | assumption)
            obtain ⟨hx15_0, hf15_0⟩ := Kd.R_celln 0 HO_3.out (x11_1 : Int) p15 q15
            replace p15 := eq_true p15
            replace q15 := eq_true q15
            have HP19 := Kd.R_putn HO_3.out (x11_1 : Int) (wrap64 ((rd y137 x11_1) - (rd l0 (ji12))))
            rw [← Ny140.out] at HP19
            have HQ19 := Aside0.mk HP19
            clear HP19
            refine start_ (n := 12) (S := fun w' => w'.cell? ⟨go10, (x11_1).toNat, none⟩ = some (.int .i64 (rd y137 x11_1)) ∧ w'.cell? (ad136.add ((ji12)).toNat) = some (.int .i64 (rd l0 (ji12)))) (ds := [11]) #[false, false, false, false, false, false, false, false, false, false, false, false] (by kernel_rfl) rfl rfl ⟨hx138_0, ((HB.out.cell (World.block_lt_of_cell? w _ hw139_0)).trans hw139_0)⟩ (fun hHeld => ?_); refine with_tabW column_Deltas.tab7 column_Deltas.bits7 (fun HT_ HW_ => ?_)
            generalize w17.drew = w18 at HO_3 HB HQ19 hf15_0 hx138_0 hx139_0 hx15_0 hHeld ⊢
            refine pure_ (i := 0) (N := some 22) (v := ?_) (a' := ?_) #[true, false, false, false, false, false, false, false, false, false, false, false] rfl rfl (any_of HT_.out (by kernel_rfl)) (fun _ _ _ h => h) (Or.inl ⟨by rfl, ?_⟩) ?_ ?_
            rotate_left
            ·intro w'
             go_simp
             with_reducible rfl
            rotate_left
            ·simp only [Act.put, List.setIfInBounds_toArray, List.set_cons_zero, List.set_cons_succ, i64_w, i32_w]
             rfl
            refine pure_ (i := 1) (N := some 23) (v := ?_) (a' := ?_) #[true, true, false, false, false, false, false, false, false, false, false, false] rfl rfl (any_of HT_.out (by kernel_rfl)) (fun _ _ _ h => h) (Or.inl ⟨by rfl, ?_⟩) ?_ ?_
            rotate_left
            ·intro w'
             go_simp
             with_reducible rfl
            rotate_left
            ·simp only [Act.put, List.setIfInBounds_toArray, List.set_cons_zero, List.set_cons_succ, i64_w, i32_w]
             rfl
            refine pure_ (i := 2) (N := some 24) (v := ?_) (a' := ?_) #[true, true, true, false, false, false, false, false, false, false, false, false] rfl rfl (any_of HT_.out (by kernel_rfl)) (fun _ _ _ h => h) (Or.inl ⟨by rfl, ?_⟩) ?_ ?_
            rotate_left
            ·intro w'
             go_simp
             with_reducible rfl
            rotate_left
            ·simp only [Act.put, List.setIfInBounds_toArray, List.set_cons_zero, List.set_cons_succ, i64_w, i32_w]
             rfl
            refine pure_ (i := 4) (N := some 26) (v := ?_) (a' := ?_) #[true, true, true, false, true, false, false, false, false, false, false, false] rfl rfl (any_of HT_.out (by kernel_rfl)) (fun _ _ _ h => h) (Or.inl ⟨by rfl, ?_⟩) ?_ ?_
            rotate_left
            ·intro w'
             go_simp
             with_reducible rfl
            rotate_left
            ·simp only [Act.put, List.setIfInBounds_toArray, List.set_cons_zero, List.set_cons_succ, i64_w, i32_w]
             rfl
            refine pure_ (i := 5) (N := some 27) (v := ?_) (a' := ?_) #[true, true, true, false, true, true, false, false, false, false, false, false] rfl rfl (any_of HT_.out (by kernel_rfl)) (fun _ _ _ h => h) (Or.inl ⟨by rfl, ?_⟩) ?_ ?_
            rotate_left
            ·intro w'
             go_simp
             with_reducible rfl
            rotate_left
            ·simp only [Act.put, List.setIfInBounds_toArray, List.set_cons_zero, List.set_cons_succ, i64_w, i32_w]
             rfl
            refine pure_ (i := 6) (N := some 28) (v := ?_) (a' := ?_) #[true, true, true, false, true, true, true, false, false, false, false, false] rfl rfl (any_of HT_.out (by kernel_rfl)) (fun _ _ _ h => h) (Or.inl ⟨by rfl, ?_⟩) ?_ ?_
            rotate_left
            ·intro w'
             go_simp
             with_reducible rfl
            rotate_left
            ·simp only [Act.put, List.setIfInBounds_toArray, List.set_cons_zero, List.set_cons_succ, i64_w, i32_w]
             rfl
            refine pure_ (i := 7) (N := some 29) (v := ?_) (a' := ?_) #[true, true, true, false, true, true, true, true, false, false, false, false] rfl rfl (any_of HT_.out (by kernel_rfl)) (fun _ _ _ h => h) (Or.inl ⟨by rfl, ?_⟩) ?_ ?_
            rotate_left
            ·intro w'
             go_simp
             with_reducible rfl
            rotate_left
            ·simp only [Act.put, List.setIfInBounds_toArray, List.set_cons_zero, List.set_cons_succ, i64_w, i32_w]
             rfl
            refine take_ (i := 3) (N := some 25) (v := ?_) (a' := ?_) #[true, true, true, true, true, true, true, true, false, false, false, false] rfl rfl (take_ofW HT_.out HW_.out (by kernel_rfl)) (fun _ _ _ h => h) (Or.inl ⟨by rfl, ?_⟩) hHeld ?_ ?_
            rotate_left
            ·rintro w' ⟨s0, s1⟩
             go_simp
             with_reducible rfl
            rotate_left
            ·simp only [Act.put, List.setIfInBounds_toArray, List.set_cons_zero, List.set_cons_succ, i64_w, i32_w]
             rfl
            refine take_ (i := 8) (N := some 30) (v := ?_) (a' := ?_) #[true, true, true, true, true, true, true, true, true, false, false, false] rfl rfl (take_ofW HT_.out HW_.out (by kernel_rfl)) (fun _ _ _ h => h) (Or.inl ⟨by rfl, ?_⟩) hHeld ?_ ?_
            rotate_left
            ·rintro w' ⟨s0, s1⟩
             go_simp
             with_reducible rfl
            rotate_left
            ·simp only [Act.put, List.setIfInBounds_toArray, List.set_cons_zero, List.set_cons_succ, i64_w, i32_w]
             rfl
            refine pure_ (i := 9) (N := some 31) (v := ?_) (a' := ?_) #[true, true, true, true, true, true, true, true, true, true, false, false] rfl rfl (any_of HT_.out (by kernel_rfl)) (fun _ _ _ h => h) (Or.inl ⟨by rfl, ?_⟩) ?_ ?_
            rotate_left
            ·intro w'
             go_simp
             with_reducible rfl
            rotate_left
            ·simp only [Act.put, List.setIfInBounds_toArray, List.set_cons_zero, List.set_cons_succ, i64_w, i32_w]
             rfl
            refine pure_ (i := 10) (N := some 32) (v := ?_) (a' := ?_) #[true, true, true, true, true, true, true, true, true, true, true, false] rfl rfl (any_of HT_.out (by kernel_rfl)) (fun _ _ _ h => h) (Or.inl ⟨by rfl, ?_⟩) ?_ ?_
            rotate_left
            ·intro w'
             go_simp
             with_reducible rfl
            rotate_left
            ·simp only [Act.put, List.setIfInBounds_toArray, List.set_cons_zero, List.set_cons_succ, i64_w, i32_w]
             rfl
            refine last_ (i := 11) (N := none) #[true, true, true, true, true, true, true, true, true, true, true, true] rfl rfl (one_of HT_.out (by kernel_rfl)) (by decide) (fun K hK => ?_)
            refine skip_ (w1 := ?_) (by rfl) rfl ?_ ?_
            rotate_left
            ·go_simp
             rfl
            refine hK.out _ _ ?_
            clear hK K
            refine done_ (done_of HT_.out (by kernel_rfl)) ?_
            try go_wp2
            go_roundg k1
            case measure => have := HK1.out; omega
            case rel => exact ⟨(y140), (wrap64 (x11_1 + 1)), (by first | rfl | (simp; done) | (simp [*]; done)), H', ⟨by have := HK1.out; omega⟩, ⟨by (with_reducible repeat (first | apply Kd.R_alloc | apply Kd.R_drewN | apply Kd.R_drew)); exact HQ19.out⟩, ⟨by repeat (first | (with_reducible first | exact HB.out | apply below_alloc | apply pw_below_drewN | apply below_drew1 | refine below_set ?_ GB10.out) | exact HB.out)⟩⟩
           ·rw [if_neg c14] at H
            exact absurd H (by simp)
          ·rw [if_neg c13] at H
           exact absurd H (by simp)
         ·rw [if_neg c11] at H
          have c11b0 : decide (0 < x11_1) = false := decide_eq_false c11
          clear c11
          have H' := Aside0.mk H
          clear H
          have p136 : 0 ≤ (x11_1 : Int) := of_decide_eq_true (by first | (with_reducible assumption) | assumption)
          have q136 : x11_1 < (l0.length : Int) := of_decide_eq_true (by first | (with_reducible assumption) | assumption)
          obtain ⟨ad136, e136, hx136_0⟩ := Kd.at_int HR0.out x11_1 p136 q136
          cases e136
          replace hx136_0 := (HB.out.cell (World.block_lt_of_cell? w _ hx136_0)).trans hx136_0
          replace p136 := eq_true p136
          replace q136 := eq_true q136
          have p10 : 0 ≤ (x11_1 : Int) := of_decide_eq_true (by first | (with_reducible assumption) | assumption)
          have q10 : (x11_1 : Int) < ((x3_1.length : Int) : Int) := of_decide_eq_true (by first | (with_reducible assumption) | assumption)
          obtain ⟨go10, co10, eo10, gb10, gl10, cl10, HG10⟩ := Kd.R_form HO_3.out (by omega)
          (first | cases eo10 | (injection eo10 with ea_ en_ ec_; (first | subst ea_ | (injection ea_ with ea_; subst ea_)); subst ec_; clear en_))
          have GB10 := Aside0.mk gb10
          have GG10 := Aside0.mk HG10
          clear gb10 gl10 HG10
          obtain ⟨hx10_0, hf10_0⟩ := Kd.R_celln 0 HO_3.out (x11_1 : Int) p10 q10
          replace p10 := eq_true p10
          replace q10 := eq_true q10
          have HP20 := Kd.R_putg HO_3.out (x11_1 : Int) (rd l0 x11_1)
          go_wp2_with (first | ((with_reducible refine gate_store (t := 2) (p := 19) rfl ?_); refine store_event (t := 2) (p := 19) (v := ?vo_w21) (w1 := (wr.setCell ⟨go10, (x11_1 : Int).toNat, none⟩ (.int .i64 (rd l0 x11_1)))) ?hg ?ho ?hn ?hr ?_; (case ho => rfl); (case hg => rfl); (case hn => rfl); (case hr => first | (go_simp; done) | (go_simp; rfl)); intro w21 hw; have hg : wr.grownBy w21 (some go10) := (by rw [hw]; exact HP20.2); have hp_ : Kd.R (Kd.int .i64) 2 w21 w.heap.size (fun _ => True) (.slice (some ⟨go10, 0, none⟩) x3_1.length co10) y137 := (by rw [hw, Ny137.out]; exact HP20.1); clear HP20; have n0_ := Aside0.mk (hp_); have n1_ := Aside0.mk ((by rw [hw]; exact below_set (HB.out) GB10.out : Below w.heap.size w w21)); clear HO_3; clear HB; have HO_3 := n0_; have HB := n1_; clear n0_ n1_; clear hg hw hp_))
          go_roundg k1
          case measure => have := HK1.out; omega
          case rel => exact ⟨(y137), (wrap64 (x11_1 + 1)), (by first | rfl | (simp; done) | (simp [*]; done)), H', ⟨by have := HK1.out; omega⟩, ⟨by (with_reducible repeat (first | apply Kd.R_alloc | apply Kd.R_drewN | apply Kd.R_drew)); exact HO_3.out⟩, ⟨by repeat (first | (with_reducible first | exact HB.out | apply below_alloc | apply pw_below_drewN | apply below_drew1) | exact HB.out)⟩⟩
        ·rw [if_neg c9] at H
         exact absurd H (by simp)
       ·rw [if_neg c8] at H
        exact absurd H (by simp)
      ·rw [if_neg c7] at H
       exact absurd H (by simp)
     ·rw [if_neg c6] at H
      have c6b0 : decide (x11_1 < (l0.length : Int)) = false := decide_eq_false c6
      clear c6
      replace H := Option.bind_eq_some_iff.mp H
      obtain ⟨t141, A220, H⟩ := H
      replace H : (some t141) = some r := H
      have A22 := Aside0.mk A220
      clear A220
      obtain rfl := Option.some.inj H
      obtain ⟨Ao23, co23, eo23⟩ := Kd.R_slice HO_3.out
      subst eo23
      go_wp2_with (first | ((with_reducible refine gate_callee (f := 23) rfl ?_); refine goesL_ (some 35) rfl rfl Try.func23 (by kernel_rfl) rfl #[.slice Ao23 x3_1.length co23] rfl zc_ ?_; (with_reducible refine (column_Runs.calls _ _ x3_1 t141 _ ?side1 ?side2 A22.out).mono ?_); (case side1 => repeat (first | exact (Kd.R_reads' HO_3.out).2.2 | (with_reducible refine Kd.C_alloc ?_ _) | (with_reducible refine Kd.C_drewN ?_ _) | (with_reducible refine Kd.C_drew ?_))); (case side2 => exact (Kd.R_reads' HO_3.out).2.1); rintro e w24 ⟨v142, rfl, ho0, hb⟩; refine ⟨_, rfl, ?_⟩; have n0_ := Aside0.mk (Kd.R_below (zr_ HO_3.out) hb); have n1_ := Aside0.mk (Kd.R_lower ho0 (below_size (zb_ HB.out))); have n2_ := Aside0.mk (below_step (zb_ HB.out) hb); clear HO_3; clear HB; have HO_3 := n0_; have HO143 := n1_; have HB := n2_; clear n0_ n1_ n2_; (try clear hb); (try clear hb2); (try clear hk); (try clear hi); (try clear ho0)))
      go_ret
      exact ⟨_, by first | rfl | (simp [errW_none, errW_some] <;> rfl) | (simp [*, errW_none, errW_some] <;> rfl), by (with_reducible repeat (first | apply Kd.R_alloc | apply Kd.R_drewN | apply Kd.R_drew)); exact HO143.out, by repeat (first | (with_reducible first | exact HB.out | apply below_alloc | apply pw_below_drewN | apply below_drew1) | exact HB.out)⟩
  ·rw [if_neg c3] at H
   exact absurd H (by simp)
 ·rw [if_neg c2] at H
  exact absurd H (by simp)

end Go.Proofs.Ytpnnjefhchppfaa.PA

set_option linter.unusedVariables false
set_option linter.unusedSimpArgs false
namespace Go.Proofs.Ytpnnjefhchppfaa.ColT
open Go Go.RowKit Go.Proofs.Ytpnnjefhchppfaa.PA Go.Proofs.YtpnnjefhchppfaaW.PrintWords Go.Proofs.YtpnnjefhchppfaaW.PrintLast Go.Proofs.YtpnnjefhchppfaaW.PrintMore Go.Proofs.Ytpnnjefhchppfaa.LebT Go.Proofs.Ytpnnjefhchppfaa.LebP Go.Proofs.Ytpnnjefhchppfaa.ColS
def chain : Option Int → List (Int × Nat) → Prop
  | _, [] => True
  | last, (v, n) :: r => last ≠ some v ∧ 0 < n ∧ chain (some v) r
def expand (ps : List (Int × Nat)) : List Int := ps.flatMap (fun p => List.replicate p.2 p.1)
theorem expand_st : ∀ l : List Int, expand (st l) = l
  | [] => rfl
  | x :: xs => by
    have ih := expand_st xs
    rw [st]
    split
    · rename_i h; rw [h] at ih; simp only [expand, List.flatMap_nil] at ih; subst ih; simp [expand]
    · rename_i y n r h
      rw [h] at ih
      split
      · rename_i hxy
        subst hxy
        simp only [expand, List.flatMap_cons, List.replicate_succ, List.cons_append] at ih ⊢
        rw [ih]
      · simp only [expand, List.flatMap_cons, List.replicate_succ, List.replicate_zero, List.cons_append, List.nil_append] at ih ⊢
        rw [ih]
theorem st_chain : ∀ (l : List Int) (last : Option Int), (∀ x, l.head? = some x → last ≠ some x) → chain last (st l)
  | [], _, _ => by simp [st, chain]
  | x :: xs, last, h => by
    have ih := st_chain xs none (by simp)
    rw [st]
    split
    · exact ⟨h x rfl, by omega, trivial⟩
    · rename_i y n r hs
      rw [hs] at ih
      split
      · rename_i hxy
        subst hxy
        exact ⟨h x rfl, by omega, ih.2.2⟩
      · rename_i hxy
        exact ⟨h x rfl, by omega, by simpa using hxy, ih.2.1, ih.2.2⟩
theorem gU0 (m : Nat) (hm : m < 18446744073709551616) (r : List Int) : gU 0 0 (putU m ++ r) = ((m : Int), ((putU m).length : Int), 0) := by
  have := gU_put m 0 0 r (by omega) (by omega) (by omega)
  simpa using this
theorem gI0 (m : Int) (h1 : -9223372036854775808 ≤ m) (h2 : m < 9223372036854775808) (r : List Int) : gI 0 0 false (putI m ++ r) = (m, ((putI m).length : Int), 0) := by
  have := gI_put m.natAbs m 0 0 false r rfl (by omega) (by omega) (by omega) (by simpa using h1) (by simpa using h2)
  simpa using this
theorem getLast_rep (acc : List Int) (n : Nat) (v : Int) (h : 0 < n) : (acc ++ List.replicate n v).getLast? = some v := by
  rw [List.getLast?_append]
  simp [List.getLast?_replicate, Nat.ne_of_gt h]
theorem gR_put (most : Nat) (hmost : most ≤ 65536) (behind : List Int) : ∀ (ps : List (Int × Nat)) (acc : List Int) (used : Nat), (∀ p ∈ ps, -9223372036854775808 ≤ p.1 ∧ p.1 < 9223372036854775808) → chain acc.getLast? ps → acc.length + (expand ps).length ≤ most →
    gR most ps.length acc used (flat ps ++ behind) = (acc ++ expand ps, ((used + (flat ps).length : Nat) : Int), 0)
  | [], acc, used, _, _, _ => by simp [gR, expand, flat]
  | (v, n) :: r, acc, used, hw, hc, hl => by
    obtain ⟨hc1, hc2, hc3⟩ := hc
    have hv := hw (v, n) (by simp)
    have ef : flat ((v, n) :: r) = putU n ++ (putI v ++ flat r) := by simp [flat]
    have ee : expand ((v, n) :: r) = List.replicate n v ++ expand r := by simp [expand]
    rw [ee, List.length_append, List.length_replicate] at hl
    have h1 : gU 0 0 (putU n ++ (putI v ++ (flat r ++ behind))) = ((n : Int), ((putU n).length : Int), 0) := gU0 n (by omega) _
    have h2 : gI 0 0 false (putI v ++ (flat r ++ behind)) = (v, ((putI v).length : Int), 0) := gI0 v hv.1 hv.2 _
    have ih := gR_put most hmost behind r (acc ++ List.replicate n v) (used + (putU n).length + (putI v).length) (fun p hp => hw p (by simp [hp])) (by rw [getLast_rep _ _ _ hc2]; exact hc3) (by rw [List.length_append, List.length_replicate]; omega)
    have hn0 : ¬ ((n : Int) = 0) := by omega
    have hnm : ¬ ((n : Int) > ((most - acc.length : Nat) : Int)) := by omega
    rw [List.length_cons, ef, List.append_assoc, List.append_assoc, gR, h1]
    simp only [if_true, Int.toNat_natCast, List.drop_left, h2]
    rw [if_neg hn0, if_neg hnm, if_neg hc1, ← List.drop_drop, List.drop_left, List.drop_left, ih, ee]
    simp only [List.append_assoc, List.length_append]
    simp only [Nat.add_assoc]
theorem expand_len (l : List Int) : (expand (st l)).length = l.length := by rw [expand_st]
theorem getRuns_put (d : List Int) (hw : ∀ x ∈ d, -9223372036854775808 ≤ x ∧ x < 9223372036854775808) (most : Int) (hm : (d.length : Int) ≤ most) (hm2 : d.length ≤ 65536) (behind : List Int) :
    getRuns (runs d ++ behind) most = (d, ((runs d).length : Int), 0) := by
  have hst := st_length d
  have hmm : (d.length : Int) ≤ mx 0 (mn most 65536) ∧ mx 0 (mn most 65536) ≤ 65536 := by simp only [mx, mn]; omega
  obtain ⟨m, hm⟩ : ∃ m : Nat, mx 0 (mn most 65536) = (m : Int) := ⟨_, (Int.toNat_of_nonneg (by omega)).symm⟩
  have h1 : gU 0 0 (putU (st d).length ++ (flat (st d) ++ behind)) = (((st d).length : Int), ((putU (st d).length).length : Int), 0) := gU0 _ (by omega) _
  unfold getRuns
  rw [hm] at hmm ⊢
  rw [show runs d ++ behind = putU (st d).length ++ (flat (st d) ++ behind) by simp [runs], h1]
  simp only [if_true, Int.toNat_natCast, List.drop_left]
  rw [if_neg (by omega), gR_put m (by omega) behind (st d) [] _ (fun p hp => hw _ (st_mem d p hp).1) (st_chain d none (by simp)) (by rw [expand_len]; simp; omega), expand_st]
  simp [runs]
def dif : Int → List Int → List Int
  | _, [] => []
  | a, x :: r => wrap64 (x - a) :: dif x r
def dif0 : List Int → List Int
  | [] => []
  | x :: r => x :: dif x r
theorem dif_length : ∀ (a : Int) (l : List Int), (dif a l).length = l.length
  | _, [] => rfl
  | a, x :: r => by simp [dif, dif_length x r]
theorem dif0_length : ∀ (l : List Int), (dif0 l).length = l.length
  | [] => rfl
  | x :: r => by simp [dif0, dif_length]
theorem wrap_rng (x : Int) : -9223372036854775808 ≤ wrap64 x ∧ wrap64 x < 9223372036854775808 := by unfold wrap64; omega
theorem wrap_back (x a : Int) (h : -9223372036854775808 ≤ x ∧ x < 9223372036854775808) : wrap64 (wrap64 (x - a) + a) = x := by unfold wrap64; omega
theorem dif_rng : ∀ (a : Int) (l : List Int), ∀ x ∈ dif a l, -9223372036854775808 ≤ x ∧ x < 9223372036854775808
  | _, [], x, h => by simp [dif] at h
  | a, y :: r, x, h => by
    rcases List.mem_cons.1 h with rfl | h
    · exact wrap_rng _
    · exact dif_rng y r x h
theorem dif0_rng (l : List Int) (hl : ∀ x ∈ l, -9223372036854775808 ≤ x ∧ x < 9223372036854775808) : ∀ x ∈ dif0 l, -9223372036854775808 ≤ x ∧ x < 9223372036854775808 := by
  cases l with
  | nil => simp [dif0]
  | cons y r =>
    intro x h
    rcases List.mem_cons.1 h with rfl | h
    · exact hl x (by simp)
    · exact dif_rng y r x h
theorem sums_dif : ∀ (a : Int) (l : List Int), (∀ x ∈ l, -9223372036854775808 ≤ x ∧ x < 9223372036854775808) → sums a (dif a l) = l
  | _, [], _ => rfl
  | a, x :: r, h => by
    have hx := h x (by simp)
    rw [dif, sums, wrap_back x a hx, sums_dif x r (fun y hy => h y (by simp [hy]))]
theorem sums0_dif0 (l : List Int) (h : ∀ x ∈ l, -9223372036854775808 ≤ x ∧ x < 9223372036854775808) : sums0 (dif0 l) = l := by
  cases l with
  | nil => rfl
  | cons x r => rw [dif0, sums0, sums_dif x r (fun y hy => h y (by simp [hy]))]
end Go.Proofs.Ytpnnjefhchppfaa.ColT

set_option linter.unusedVariables false
set_option linter.unusedSimpArgs false
namespace Go.Proofs.Ytpnnjefhchppfaa.ColT
open Go Go.RowKit Go.Proofs.Ytpnnjefhchppfaa.PA Go.Proofs.YtpnnjefhchppfaaW.PrintWords Go.Proofs.YtpnnjefhchppfaaW.PrintLast Go.Proofs.YtpnnjefhchppfaaW.PrintMore Go.Proofs.Ytpnnjefhchppfaa.LebT Go.Proofs.Ytpnnjefhchppfaa.LebP Go.Proofs.Ytpnnjefhchppfaa.ColS
theorem put_l0 (r : List Int) : ∀ (k : Nat) (pre : List Int) (a : Int) (D : List Int), D.length = pre.length + 1 → r.length < k → pre.length + r.length < 4611686018427387900 →
    column_Deltas.l0 k (pre ++ a :: r) (D ++ List.replicate r.length 0) (pre ++ a :: r) ((pre ++ a :: r).length : Int) ((pre.length + 1 : Nat) : Int) = column_Runs.f (D ++ dif a r) := by
  induction r with
  | nil =>
    intro k pre a D hD hk hl
    obtain ⟨k, rfl⟩ : ∃ k', k = k' + 1 := ⟨k - 1, by simp at hk; omega⟩
    rw [column_Deltas.l0, if_neg (by simp)]
    simp [dif]
  | cons y t ih =>
    intro k pre a D hD hk hl
    simp only [List.length_cons] at hk hl
    obtain ⟨k, rfl⟩ : ∃ k', k = k' + 1 := ⟨k - 1, by omega⟩
    have e1 : rd (pre ++ a :: y :: t) ((pre.length + 1 : Nat) : Int) = y := by simp [rd, List.getD_eq_getElem?_getD]
    have e2 : rd (pre ++ a :: y :: t) ((pre.length : Nat) : Int) = a := by simp [rd, List.getD_eq_getElem?_getD]
    have h1 : ((pre.length + 1 : Nat) : Int) < ((pre ++ a :: y :: t).length : Int) := by simp; omega
    have h2 : (0 : Int) ≤ ((pre.length + 1 : Nat) : Int) := Int.natCast_nonneg _
    have h3 : (0 : Int) ≤ ((pre.length : Nat) : Int) := Int.natCast_nonneg _
    have h4 : ((pre.length : Nat) : Int) < ((pre ++ a :: y :: t).length : Int) := by simp; omega
    have h5 : ((pre.length + 1 : Nat) : Int) < ((D ++ List.replicate (y :: t).length 0).length : Int) := by simp [hD]; omega
    have h6 : ((pre.length + 1 : Nat) : Int) > 0 := by omega
    have s1 : (D ++ List.replicate (y :: t).length 0).set (pre.length + 1) y = D ++ y :: List.replicate t.length 0 := by
      rw [List.set_append_right _ _ (by omega), hD]
      simp [List.replicate_succ]
    have s2 : (D ++ y :: List.replicate t.length 0).set (pre.length + 1) (wrap64 (y - a)) = (D ++ [wrap64 (y - a)]) ++ List.replicate t.length 0 := by
      rw [List.set_append_right _ _ (by omega), hD]
      simp
    have e3 : rd (D ++ y :: List.replicate t.length 0) ((pre.length + 1 : Nat) : Int) = y := by
      simp only [rd, Int.toNat_natCast, List.getD_eq_getElem?_getD]
      rw [List.getElem?_append_right (by omega), hD]
      simp
    have hi := ih k (pre ++ [a]) y (D ++ [wrap64 (y - a)]) (by simp [hD]) (by omega) (by simp; omega)
    rw [show (pre ++ [a]) ++ y :: t = pre ++ a :: y :: t by simp, show (pre ++ [a]).length = pre.length + 1 by simp] at hi
    rw [column_Deltas.l0, if_pos h1, if_pos h2, if_pos h1, if_pos h5, e1, Int.toNat_natCast, s1]
    simp only [Option.bind_some]
    rw [if_pos h6, show wrap64 (((pre.length + 1 : Nat) : Int) - 1) = ((pre.length : Nat) : Int) from (w64p (pre.length + 1) (by omega) (by omega)), if_pos h3, if_pos h4, e3, e2, s2]
    rw [show wrap64 (((pre.length + 1 : Nat) : Int) + 1) = ((pre.length + 1 + 1 : Nat) : Int) from w64a (pre.length + 1) 1 (by omega), hi]
    simp [dif]
theorem putDeltas_f {k : Nat} (l : List Int) (hk : l.length + 1 < k) (hl : l.length ≤ 4398046511104) : column_Deltas.f k l = column_Runs.f (dif0 l) := by
  unfold column_Deltas.f
  rw [if_pos (Int.natCast_nonneg _), Int.toNat_natCast, if_pos (by omega)]
  cases l with
  | nil =>
    obtain ⟨k, rfl⟩ : ∃ k', k = k' + 1 := ⟨k - 1, by simp at hk; omega⟩
    rw [column_Deltas.l0, if_neg (by simp)]
    simp [dif0]
  | cons a r =>
    simp only [List.length_cons] at hk hl
    obtain ⟨k, rfl⟩ : ∃ k', k = k' + 1 := ⟨k - 1, by omega⟩
    have h1 : (0 : Int) < (((a :: r).length : Nat) : Int) := by rw [List.length_cons]; omega
    have h5 : (0 : Int) < ((List.replicate (a :: r).length (0 : Int)).length : Int) := by rw [List.length_replicate, List.length_cons]; omega
    have hi := put_l0 r k [] a [a] rfl (by omega) (by simp; omega)
    rw [column_Deltas.l0, if_pos h1, if_pos (Int.le_refl _), if_pos h1, if_pos h5]
    simp only [Option.bind_some]
    rw [if_neg (by omega)]
    have e : (List.replicate (a :: r).length (0 : Int)).set (0 : Int).toNat (rd (a :: r) 0) = [a] ++ List.replicate r.length 0 := by simp [rd, List.replicate_succ]
    rw [e, show wrap64 ((0 : Int) + 1) = ((([] : List Int).length + 1 : Nat) : Int) by decide +kernel]
    exact hi
theorem runs_some (l : List Int) (hl : l.length ≤ 4398046511104) (hw : ∀ x ∈ l, -9223372036854775808 ≤ x ∧ x < 9223372036854775808) : column_Runs.f l = some (runs l) := by
  unfold column_Runs.f
  rw [if_pos ⟨hl, by
    rw [List.all_eq_true]
    intro x hx
    have := hw x hx
    simp only [Lit.wf, IntKind.min, IntKind.max, IntKind.signed, IntKind.bits, Bool.and_eq_true]
    simp
    omega⟩]
end Go.Proofs.Ytpnnjefhchppfaa.ColT

set_option linter.unusedVariables false
set_option linter.unusedSimpArgs false
namespace Go.Proofs.Ytpnnjefhchppfaa.ColT
open Go Go.RowKit Go.Proofs.Ytpnnjefhchppfaa.PA Go.Proofs.YtpnnjefhchppfaaW.PrintWords Go.Proofs.YtpnnjefhchppfaaW.PrintLast Go.Proofs.YtpnnjefhchppfaaW.PrintMore Go.Proofs.Ytpnnjefhchppfaa.LebT Go.Proofs.Ytpnnjefhchppfaa.LebP Go.Proofs.Ytpnnjefhchppfaa.ColS
theorem take_two (b : List Int) (p : List Int) (c m : Nat) (hp : p.length = c) (hb : b = p ++ b.drop c) : b.take (c + m) = p ++ (b.drop c).take m := by
  conv => lhs; rw [hb]
  rw [← hp, List.take_length_add_append]
theorem gR_only (most : Nat) : ∀ (n : Nat) (acc : List Int) (used : Nat) (b x : List Int) (u : Int), (∀ y ∈ b, isByte y) → gR most n acc used b = (x, u, 0) →
    ∃ (ps : List (Int × Nat)) (m : Nat), ps.length = n ∧ x = acc ++ expand ps ∧ chain acc.getLast? ps ∧ u = ((used + m : Nat) : Int) ∧ m ≤ b.length ∧ b.take m = flat ps ∧ ∀ p ∈ ps, -9223372036854775808 ≤ p.1 ∧ p.1 < 9223372036854775808
  | 0, acc, used, b, x, u, hb, h => by
    rw [gR] at h
    simp only [Prod.mk.injEq] at h
    exact ⟨[], 0, rfl, by simp [expand, h.1], trivial, by simp [h.2.1], by omega, by simp [flat], by simp⟩
  | n + 1, acc, used, b, x, u, hb, h => by
    rw [gR] at h
    split at h
    · rename_i hf
      obtain ⟨v, c, hv, hv64, hc0, hcl, hc10, hbv, hpl⟩ := gU_rng hb hf
      simp only [hv, Int.toNat_natCast] at h
      split at h
      · simp at h
      · rename_i hv0
        split at h
        · simp at h
        · split at h
          · rename_i hg
            have hbc := drop_byte hb c
            obtain ⟨y, j, hy, hy1, hy2, hj0, hjl, hj10, hby, hpy⟩ := gI_rng hbc hg
            rw [List.length_drop] at hjl
            simp only [hy, Int.toNat_natCast] at h
            split at h
            · simp at h
            · rename_i hlast
              obtain ⟨ps, m, h1, h2, h3, h4, h5, h6, h7⟩ := gR_only most n _ _ _ x u (drop_byte hb (c + j)) h
              rw [List.length_drop] at h5
              have hv1 : 0 < v := by omega
              rw [getLast_rep _ _ _ hv1] at h3
              refine ⟨(y, v) :: ps, c + (j + m), by simp [h1], by rw [h2]; simp [expand], ⟨hlast, hv1, h3⟩, by rw [h4]; congr 1; omega, by omega, ?_, ?_⟩
              · rw [take_two b (putU v) c (j + m) hpl hbv, take_two (b.drop c) (putI y) j m hpy hby, List.drop_drop, h6]
                simp [flat]
              · intro p hp
                rcases List.mem_cons.1 hp with rfl | hp
                · exact ⟨hy1, hy2⟩
                · exact h7 p hp
          · rename_i hg
            simp only [Prod.mk.injEq] at h
            exact absurd h.2.2 hg
    · rename_i hf
      simp only [Prod.mk.injEq] at h
      exact absurd h.2.2 hf
theorem expand_head (v : Int) : ∀ ps : List (Int × Nat), chain (some v) ps → ∀ y, (expand ps).head? = some y → y ≠ v
  | [], _, y, h => by simp [expand] at h
  | (w, n) :: r, hc, y, h => by
    obtain ⟨h1, h2, _⟩ := hc
    obtain ⟨n, rfl⟩ : ∃ n', n = n' + 1 := ⟨n - 1, by omega⟩
    simp only [expand, List.flatMap_cons, List.replicate_succ, List.cons_append, List.head?_cons, Option.some.injEq] at h
    intro e
    exact h1 (by rw [h, e])
theorem st_expand : ∀ (ps : List (Int × Nat)) (last : Option Int), chain last ps → st (expand ps) = ps
  | [], _, _ => rfl
  | (v, n) :: r, last, hc => by
    obtain ⟨h1, h2, h3⟩ := hc
    obtain ⟨n, rfl⟩ : ∃ n', n = n' + 1 := ⟨n - 1, by omega⟩
    have e : expand ((v, n + 1) :: r) = List.replicate (n + 1) v ++ expand r := by simp [expand]
    rw [e, st_rep v (expand r) (expand_head v r h3) n, st_expand r (some v) h3]
theorem getRuns_only {b : List Int} (hb : ∀ y ∈ b, isByte y) {most : Int} {x : List Int} {u : Int} (h : getRuns b most = (x, u, 0)) :
    ∃ m : Nat, u = (m : Int) ∧ m ≤ b.length ∧ b.take m = runs x ∧ ∀ y ∈ x, -9223372036854775808 ≤ y ∧ y < 9223372036854775808 := by
  unfold getRuns at h
  split at h
  · rename_i hf
    obtain ⟨v, c, hv, hv64, hc0, hcl, hc10, hbv, hpl⟩ := gU_rng hb hf
    simp only [hv, Int.toNat_natCast] at h
    split at h
    · simp at h
    · obtain ⟨ps, m, h1, h2, h3, h4, h5, h6, h7⟩ := gR_only _ v [] c _ x u (drop_byte hb c) h
      rw [List.length_drop] at h5
      simp only [List.nil_append] at h2
      have hs : st x = ps := by rw [h2]; exact st_expand ps none (by simpa using h3)
      refine ⟨c + m, h4, by omega, ?_, ?_⟩
      · rw [take_two b (putU v) c m hpl hbv, h6]
        unfold runs
        rw [hs, h1]
      · intro y hy
        rw [h2] at hy
        obtain ⟨p, hp, hpy⟩ := List.mem_flatMap.1 hy
        have := (List.mem_replicate.1 hpy).2
        rw [this]
        exact h7 p hp
  · rename_i hf
    simp only [Prod.mk.injEq] at h
    exact absurd h.2.2 hf
end Go.Proofs.Ytpnnjefhchppfaa.ColT

