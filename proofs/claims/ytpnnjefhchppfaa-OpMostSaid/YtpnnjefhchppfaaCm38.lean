/- Own texts of this claim, and the words they use, one behind the other (wip/tools/trim.py). -/
import Derived.Maps.AppendAt
import Derived.Test.YtpnnjefhchppfaaCm35
import Derived.Test.YtpnnjefhchppfaaCm37
set_option linter.unusedVariables false
set_option linter.unusedSimpArgs false
namespace Go.Proofs.Ytpnnjefhchppfaa.ColS
open Go Go.RowKit Go.Shelf Go.BigFrame Go.Proofs Go.Proofs.YtpnnjefhchppfaaW.PrintWords Go.Proofs.Ytpnnjefhchppfaa.LebT Go.Proofs.Ytpnnjefhchppfaa.PA
attribute [local go_sem] Oper.semAt_some
theorem wpIn_round {l n : Nat} {P : Program} {o : Oper} {a : Act} {w : World} {K : Act → World → Prop} {Q : Exit → Act → World → Prop} (hnd : ∀ c, o.op ≠ .defer c) (h : Oper.wp P o a w K Q) : Oper.wpIn (Fence.wide.inRound l) n P o a w K Q := by
  unfold Oper.wpIn
  refine ⟨fun _ _ => trivial, ?_⟩
  rw [Oper.semAt_eq _ _ _ hnd]
  unfold Oper.wp at h
  generalize (execOp a.eval o).run P w = r at *
  cases r with
  | ok x w' =>
    cases x with
    | enter f args => exact ⟨fun hd => Bool.noConfusion (show false = true from hd), CallsIn.inRound l (callsIn_wide.2 h)⟩
    | row r args => exact ⟨fun hd => Bool.noConfusion (show false = true from hd), fun c cs _ => let ⟨v, w', r, s⟩ := h c cs; ⟨v, w', r, stepsIn_wide.2 s⟩⟩
    | round => exact h.elim
    | _ => exact h
  | halt x w' => cases x <;> exact h

theorem step_in {l n : Nat} {P : Program} {ops : Array Oper} {o : Oper} {a : Act} {w : World} {K : Act → World → Prop} {Q : Exit → Act → World → Prop} (hnd : ∀ c, o.op ≠ .defer c)
    (h : if Region.wanted o (yielded ops a.tmps) = true then Oper.wp P o a w K Q else K (a.put o.dst undef) w) :
    if Region.wanted o (yielded ops a.tmps) = true then Oper.wpIn (Fence.wide.inRound l) n P o a w K Q else (∀ f, o.about P w a.eval = some f → (Fence.wide.inRound l).fn f) ∧ K (a.put o.dst undef) w := by
  split at h
  · rename_i hw; rw [if_pos hw]; exact wpIn_round hnd h
  · rename_i hw; rw [if_neg hw]; exact ⟨fun _ _ => trivial, h⟩

def flat (ps : List (Int × Nat)) : List Int := ps.flatMap (fun p => putU p.2 ++ putI p.1)
def runs (xs : List Int) : List Int := putU (st xs).length ++ flat (st xs)
theorem flat_snoc (ps : List (Int × Nat)) (p : Int × Nat) : flat (ps ++ [p]) = flat ps ++ (putU p.2 ++ putI p.1) := by simp [flat]

structure T (n₀ t3 : Nat) (sl : Value) (W0 Wi : World) (v c : Value) : Prop where
  out : Boxed Wi n₀ 23 v
  cnt : Boxed Wi (n₀ + 1) 52 c
  row0 : Boxed W0 (n₀ + 2) t3 sl
  row : Boxed Wi (n₀ + 2) t3 sl
  bel : Below n₀ W0 Wi
  oth : KeepsOthers W0 Wi
theorem keepsOthers_below {A B : World} (h : Below A.heap.size A B) : KeepsOthers A B :=
  ⟨h.size, fun k o hk _ => (h.block k (Array.getElem?_eq_some_iff.1 hk).1).trans hk⟩
section
variable {n₀ t3 : Nat} {sl : Value} {W0 Wi Wj : World} {v c : Value}
theorem T.kp (h : T n₀ t3 sl W0 Wi v c) : Kp n₀ (n₀ + 2) W0 Wi := ⟨h.bel, h.row.trans h.row0.symm⟩
theorem T.grown (h : T n₀ t3 sl W0 Wi v c) (h3 : t3 ≠ 5) {k : Nat} {xs : List Value} {u : Value} (hr : Wi.ownsRow n₀ 5 1 u k xs) (hg : Wi.grownBy Wj u.ownBlock) : T n₀ t3 sl W0 Wj v c :=
  ⟨h.out.kept hg (h.out.not_row (by decide) hr), h.cnt.kept hg (h.cnt.not_row (by decide) hr), h.row0, h.row.kept hg (h.row.not_row h3 hr),
   h.bel.grown hg (by have := h.out.lt; omega) (fun j e => by
    rcases hr.2 with ⟨rfl, _⟩ | ⟨g, cap, cur, rfl, hb, _, _⟩
    · simp [Value.ownBlock] at e
    · obtain rfl : g = j := by simpa [Value.ownBlock] using e
      exact hb),
   h.oth.trans (KeepsOthers.of_grownBy hg (fun j o ej hj => by
    rcases hr.2 with ⟨rfl, _⟩ | ⟨g, cap, cur, rfl, _, hgb, _⟩
    · simp [Value.ownBlock] at ej
    · obtain rfl : g = j := by simpa [Value.ownBlock] using ej
      rw [hgb] at hj; cases hj; rfl))⟩
theorem T.below (h : T n₀ t3 sl W0 Wi v c) (hb : Below Wi.heap.size Wi Wj) : T n₀ t3 sl W0 Wj v c :=
  ⟨(hb.block _ h.out.lt).trans h.out, (hb.block _ h.cnt.lt).trans h.cnt, h.row0, (hb.block _ h.row.lt).trans h.row, h.bel.trans (hb.mono (by have := h.out.lt; omega)), h.oth.trans (keepsOthers_below hb)⟩
theorem T.setOut (h : T n₀ t3 sl W0 Wi v c) (v' : Value) : T n₀ t3 sl W0 (Wi.setCell ⟨n₀, 0, none⟩ v') v' c :=
  ⟨h.out.set v', h.cnt.other (by omega) v', h.row0, h.row.other (by omega) v', h.bel.setCell (p := ⟨n₀, 0, none⟩) (Nat.le_refl _) v', h.oth.trans (KeepsOthers.setCell _ _ _)⟩
theorem T.setCnt (h : T n₀ t3 sl W0 Wi v c) (c' : Value) : T n₀ t3 sl W0 (Wi.setCell ⟨n₀ + 1, 0, none⟩ c') v c' :=
  ⟨h.out.other (by omega) c', h.cnt.set c', h.row0, h.row.other (by omega) c', h.bel.setCell (p := ⟨n₀ + 1, 0, none⟩) (Nat.le_succ _) c', h.oth.trans (KeepsOthers.setCell _ _ _)⟩
end

theorem own_below {W1 W2 : World} {n₀ k : Nat} {v : Value} {xs : List Value} (h : W1.ownsRow n₀ 5 1 v k xs) (hb : Below W1.heap.size W1 W2) : W2.ownsRow n₀ 5 1 v k xs :=
  own_move h (fun j hj => by
    obtain ⟨cells, hc⟩ := own_typed h j hj
    exact hb.block j (Array.getElem?_eq_some_iff.1 hc).1)
theorem own_setOut {n₀ t3 : Nat} {sl : Value} {W0 Wi : World} {v c v' : Value} {k : Nat} {xs : List Value} (h : Wi.ownsRow n₀ 5 1 v' k xs) (hT : T n₀ t3 sl W0 Wi v c) (u : Value) : (Wi.setCell ⟨n₀, 0, none⟩ u).ownsRow n₀ 5 1 v' k xs :=
  h.kept (grownBy_setCell' Wi n₀ u) (.inr (hT.out.not_row (by decide) h).symm)
theorem own_setCnt {n₀ t3 : Nat} {sl : Value} {W0 Wi : World} {v c v' : Value} {k : Nat} {xs : List Value} (h : Wi.ownsRow n₀ 5 1 v' k xs) (hT : T n₀ t3 sl W0 Wi v c) (u : Value) : (Wi.setCell ⟨n₀ + 1, 0, none⟩ u).ownsRow n₀ 5 1 v' k xs :=
  h.kept (grownBy_setCell' Wi (n₀ + 1) u) (.inr (hT.cnt.not_row (by decide) h).symm)
def Post9 (w : World) (D : Nat) (A : Option Addr) (xs : List Int) (cap : Nat) (W : World) (c : Value) (r : List Int) (e : Exit) (a' : Act) (W' : World) : Prop :=
  e = .normal ∧ ∃ t22 t23 t24 t25 v v', a' = { tmps := #[.slice A xs.length cap, undef, v', .pointer (some ⟨w.heap.size, 0, none⟩), .pointer (some ⟨w.heap.size + 1, 0, none⟩), undef, undef, .slice A xs.length cap, .func (.func 64) #[] #[.pointer (some ⟨w.heap.size + 2, 0, none⟩)], undef, undef, undef, undef, undef, undef, undef, undef, undef, undef, undef, undef, undef, t22, t23, t24, t25], defers := [{ target := .collected D, args := #[] }] } ∧ T w.heap.size 49 (.slice A xs.length cap) W W' v c ∧ (Kd.int .u8).R 5 W' w.heap.size (fun _ => True) v' r
theorem Post9.intro {w : World} {D : Nat} {A : Option Addr} {xs : List Int} {cap : Nat} {W : World} {c : Value} {r : List Int} {v v' : Value} {W' : World} (t22 t23 t24 t25 : Value) (_u : Unit) (hT : T w.heap.size 49 (.slice A xs.length cap) W W' v c) (hr : (Kd.int .u8).R 5 W' w.heap.size (fun _ => True) v' r) :
    Post9 w D A xs cap W c r .normal { tmps := #[.slice A xs.length cap, undef, v', .pointer (some ⟨w.heap.size, 0, none⟩), .pointer (some ⟨w.heap.size + 1, 0, none⟩), undef, undef, .slice A xs.length cap, .func (.func 64) #[] #[.pointer (some ⟨w.heap.size + 2, 0, none⟩)], undef, undef, undef, undef, undef, undef, undef, undef, undef, undef, undef, undef, undef, t22, t23, t24, t25], defers := [{ target := .collected D, args := #[] }] } W' := ⟨rfl, t22, t23, t24, t25, v, v', rfl, hT, hr⟩
theorem wpIn_plain {n : Nat} {P : Program} {o : Oper} {a : Act} {w : World} {K : Act → World → Prop} {Q : Exit → Act → World → Prop} (hnd : ∀ c, o.op ≠ .defer c) (h : Oper.wp P o a w K Q) : Oper.wpIn Fence.wide n P o a w K Q := by
  unfold Oper.wpIn
  refine ⟨fun _ _ => trivial, ?_⟩
  rw [Oper.semAt_eq _ _ _ hnd]
  unfold Oper.wp at h
  generalize (execOp a.eval o).run P w = r at *
  cases r with
  | ok x w' =>
    cases x with
    | enter f args => exact ⟨fun hd => Bool.noConfusion (show false = true from hd), callsIn_wide.2 h⟩
    | row r args => exact ⟨fun hd => Bool.noConfusion (show false = true from hd), fun c cs _ => let ⟨v, w', r, s⟩ := h c cs; ⟨v, w', r, stepsIn_wide.2 s⟩⟩
    | round => exact h.elim
    | _ => exact h
  | halt x w' => cases x <;> exact h
theorem step_wide {n : Nat} {P : Program} {ops : Array Oper} {o : Oper} {a : Act} {w : World} {K : Act → World → Prop} {Q : Exit → Act → World → Prop} (hnd : ∀ c, o.op ≠ .defer c)
    (h : if Region.wanted o (yielded ops a.tmps) = true then Oper.wp P o a w K Q else K (a.put o.dst undef) w) :
    if Region.wanted o (yielded ops a.tmps) = true then Oper.wpIn Fence.wide n P o a w K Q else (∀ f, o.about P w a.eval = some f → Fence.wide.fn f) ∧ K (a.put o.dst undef) w := by
  split at h
  · rename_i hw; rw [if_pos hw]; exact wpIn_plain hnd h
  · rename_i hw; rw [if_neg hw]; exact ⟨fun _ _ => trivial, h⟩
def Post6 (w : World) (A : Option Addr) (xs : List Int) (cap : Nat) (x : P57) (pre : List P57) (W : World) (r : List Int) (e : Exit) (a' : Act) (W' : World) : Prop :=
  e = .normal ∧ ∃ t11 t12 t13 t14 t15 v', a' = { tmps := #[.slice A xs.length cap, undef, .slice none 0 0, .pointer (some ⟨w.heap.size, 0, none⟩), .pointer (some ⟨w.heap.size + 1, 0, none⟩), .int .i64 x.1.1, .int .i64 (x.1.2 : Int), .slice A xs.length cap, .func (.func 64) #[] #[.pointer (some ⟨w.heap.size + 2, 0, none⟩)], .int .i64 x.1.1, .int .i64 (x.1.2 : Int), t11, t12, t13, t14, t15, undef, undef, undef, undef, undef, undef, undef, undef, undef, undef], defers := [] } ∧ T w.heap.size 49 (.slice A xs.length cap) W W' v' (.int .u64 (pre.length : Int)) ∧ W'.ownsRow w.heap.size 5 1 v' r.length (encs (Value.int .u8) r)
theorem Post6.intro {w : World} {A : Option Addr} {xs : List Int} {cap : Nat} {x : P57} {pre : List P57} {W : World} {r : List Int} {W' : World} (t11 t12 t13 t14 t15 v' : Value) (hT : T w.heap.size 49 (.slice A xs.length cap) W W' v' (.int .u64 (pre.length : Int))) (hr : W'.ownsRow w.heap.size 5 1 v' r.length (encs (Value.int .u8) r)) :
    Post6 w A xs cap x pre W r .normal { tmps := #[.slice A xs.length cap, undef, .slice none 0 0, .pointer (some ⟨w.heap.size, 0, none⟩), .pointer (some ⟨w.heap.size + 1, 0, none⟩), .int .i64 x.1.1, .int .i64 (x.1.2 : Int), .slice A xs.length cap, .func (.func 64) #[] #[.pointer (some ⟨w.heap.size + 2, 0, none⟩)], .int .i64 x.1.1, .int .i64 (x.1.2 : Int), t11, t12, t13, t14, t15, undef, undef, undef, undef, undef, undef, undef, undef, undef, undef], defers := [] } W' := ⟨rfl, t11, t12, t13, t14, t15, v', rfl, hT, hr⟩
def Post7 (w : World) (A : Option Addr) (xs : List Int) (cap : Nat) (x : P57) (pre : List P57) (W : World) (t11 t12 t13 t14 t15 : Value) (r : List Int) (e : Exit) (a' : Act) (W' : World) : Prop :=
  e = .normal ∧ ∃ t16 t17 t18 t19 v', a' = { tmps := #[.slice A xs.length cap, undef, .slice none 0 0, .pointer (some ⟨w.heap.size, 0, none⟩), .pointer (some ⟨w.heap.size + 1, 0, none⟩), .int .i64 x.1.1, .int .i64 (x.1.2 : Int), .slice A xs.length cap, .func (.func 64) #[] #[.pointer (some ⟨w.heap.size + 2, 0, none⟩)], .int .i64 x.1.1, .int .i64 (x.1.2 : Int), t11, t12, t13, t14, t15, t16, t17, t18, t19, undef, undef, undef, undef, undef, undef], defers := [] } ∧ T w.heap.size 49 (.slice A xs.length cap) W W' v' (.int .u64 (pre.length : Int)) ∧ W'.ownsRow w.heap.size 5 1 v' r.length (encs (Value.int .u8) r)
theorem Post7.intro {w : World} {A : Option Addr} {xs : List Int} {cap : Nat} {x : P57} {pre : List P57} {W : World} {t11 t12 t13 t14 t15 : Value} {r : List Int} {W' : World} (t16 t17 t18 t19 v' : Value) (hT : T w.heap.size 49 (.slice A xs.length cap) W W' v' (.int .u64 (pre.length : Int))) (hr : W'.ownsRow w.heap.size 5 1 v' r.length (encs (Value.int .u8) r)) :
    Post7 w A xs cap x pre W t11 t12 t13 t14 t15 r .normal { tmps := #[.slice A xs.length cap, undef, .slice none 0 0, .pointer (some ⟨w.heap.size, 0, none⟩), .pointer (some ⟨w.heap.size + 1, 0, none⟩), .int .i64 x.1.1, .int .i64 (x.1.2 : Int), .slice A xs.length cap, .func (.func 64) #[] #[.pointer (some ⟨w.heap.size + 2, 0, none⟩)], .int .i64 x.1.1, .int .i64 (x.1.2 : Int), t11, t12, t13, t14, t15, t16, t17, t18, t19, undef, undef, undef, undef, undef, undef], defers := [] } W' := ⟨rfl, t16, t17, t18, t19, v', rfl, hT, hr⟩
theorem flat_len (pre : List P57) : (flat (pre.map (·.1))).length ≤ 20 * pre.length := by
  induction pre with
  | nil => simp [flat]
  | cons p t ih =>
    have h1 := LebP.wf_i64 p.2.1
    have h2 := p.2.2
    have h3 : (putU p.1.2).length ≤ 10 := putU_len64 (by omega)
    have h4 : (putI p.1.1).length ≤ 10 := putI_len64 h1.1 h1.2
    have e : flat ((p :: t).map (·.1)) = putU p.1.2 ++ putI p.1.1 ++ flat (t.map (·.1)) := by simp [flat]
    rw [e]
    simp only [List.length_append, List.length_cons]
    omega
def II (n₀ t3 : Nat) (sl : Value) (w : World) (pre : List P57) (W : World) : Prop :=
  (∃ v, Boxed W n₀ 23 v ∧ W.ownsRow n₀ 5 1 v (flat (pre.map (·.1))).length (encs (Value.int .u8) (flat (pre.map (·.1)))) ∧ True) ∧ Boxed W (n₀ + 1) 52 (.int .u64 (pre.length : Int)) ∧ Boxed W (n₀ + 2) t3 sl ∧ Below n₀ w W
theorem II_own (n₀ t3 B : Nat) (sl : Value) (w : World) (h1 : n₀ ≤ w.heap.size) (h2 : n₀ ≤ B) : OwnFrom B (II n₀ t3 sl w) :=
  OwnFrom.and (Own.from (holdsRow_own n₀ n₀ 23 5 1 (fun pre : List P57 => (flat (pre.map (·.1))).length) (fun pre => encs (Value.int .u8) (flat (pre.map (·.1)))) (fun pre v => True)) _)
    (OwnFrom.and (Own.from (boxed_own (n₀ + 1) 52 (fun pre : List P57 => .int .u64 (pre.length : Int))) _) (OwnFrom.and (Own.from (boxed_own (n₀ + 2) t3 (fun _ => sl)) _) (ownFrom_below h1 h2)))

set_option maxRecDepth 100000 in
set_option maxHeartbeats 1000000 in
theorem Runs_in (n : Nat) (hn : 3 ≤ n) (A : Option Addr) (cap : Nat) (xs : List Int) (hlen : xs.length ≤ 4398046511104) (hwf : ∀ x ∈ xs, (Lit.int .i64 x).wf = true) (w : World) (hr0 : (Kd.int .i64).C w A xs.length xs) :
    CallsIn Fence.wide n Try.prog 23 #[.slice A xs.length cap] w fun e w' => ∃ v0_ : Value, e = .returned v0_ ∧ (Kd.int .u8).R 5 w' w.heap.size (fun _ => True) v0_ (runs xs) ∧ Below w.heap.size w w' := by
  refine callsIn_of_wp_marks Try.func23 rfl trivial ?_ rfl
  simp only [Try.ntmps23, List.size_toArray, List.length_cons, List.length_nil, Nat.reduceAdd, Nat.reduceSub, Array.replicate_succ, Array.replicate_zero, List.push_toArray, List.append_toArray, List.nil_append, List.cons_append]
  have h1 : 1 ≤ n := by omega
  gi_wp2_with (refine ⟨trivial, ?_⟩; gi_at_call 51; refine (mk57 (n - 1) A xs.length cap _).mono ?_; rintro e w' ⟨rfl, rfl⟩)
  have e1 : ((w.alloc (Obj.cells #[Value.slice none 0 0] 23)).alloc (Obj.cells #[Value.int IntKind.u64 0] 52)).heap.size = w.heap.size + 2 := by simp
  have b1 := Boxed.new w 23 (.slice none 0 0)
  have b2 := Boxed.new (w.alloc (.cells #[.slice none 0 0] 23)) 52 (.int .u64 0)
  rw [World.size_alloc] at b2
  have b3 := Boxed.new ((w.alloc (.cells #[.slice none 0 0] 23)).alloc (.cells #[.int .u64 0] 52)) 49 (.slice A xs.length cap)
  rw [e1] at b3
  have hB0 : Below w.heap.size w (((w.alloc (.cells #[.slice none 0 0] 23)).alloc (.cells #[.int .u64 0] 52)).alloc (.cells #[.slice A xs.length cap] 49)) :=
    (((Below.refl _ w).alloc (Nat.le_refl _) _).alloc (by simp) _).alloc (by rw [e1]; omega) _
  have hs3 : (((w.alloc (.cells #[.slice none 0 0] 23)).alloc (.cells #[.int .u64 0] 52)).alloc (.cells #[.slice A xs.length cap] 49)).heap.size = w.heap.size + 3 := by rw [World.size_alloc, e1]
  refine wpIn_rangeFunc_ownG rfl h1 (gf := 64) (lb := #[.pointer (some ⟨w.heap.size + 2, 0, none⟩)]) rfl trivial (enters_of Try.func64 (by kernel_rfl) rfl)
    (stops57 (n - 1) (w.heap.size + 2) w.heap.size cap A xs (by omega) hwf _ (by rw [hs3]; omega) (by rw [hs3]; omega) b3.cell (fun W' h => Kd.C_below hr0 (hB0.trans h)))
    (fun h k => h.trans k) (fun W l o o' hl => Kp.put (by rw [hs3]; omega) (by rw [hs3]; omega) W l o o' hl) (Below.refl _ _) (fun _ => rfl)
    (II w.heap.size 49 (.slice A xs.length cap) w)
    (fun _ _ _ => False)
    (II_own _ _ _ _ _ (Nat.le_refl _) (by rw [hs3]; omega))
    (fun _ _ _ _ _ hs _ _ => hs)
    ⟨⟨_, (b1.alloc _).alloc _, World.ownsRow_nil _ _ _ _, trivial⟩, b2.alloc _, b3, hB0⟩
    (fun x => { tmps := #[.slice A xs.length cap, undef, .slice none 0 0, .pointer (some ⟨w.heap.size, 0, none⟩), .pointer (some ⟨w.heap.size + 1, 0, none⟩), .int .i64 x.1.1, .int .i64 (x.1.2 : Int), .slice A xs.length cap, .func (.func 64) #[] #[.pointer (some ⟨w.heap.size + 2, 0, none⟩)], .int .i64 x.1.1, .int .i64 (x.1.2 : Int), undef, undef, undef, undef, undef, undef, undef, undef, undef, undef, undef, undef, undef, undef, undef], defers := [] }) ?assign ?body ?done ?stop
  case assign =>
    intro l x W K hK
    simp only [enc57]
    gi_wp2
    exact hK
  case body =>
    rintro l pre x W ⟨⟨v, hv, hrow, _⟩, hcn, hbx, hB⟩ hlt
    have hxr := x.2.2
    have hu : leb_Uint.f 10 (IntKind.u64.wrap (x.1.2 : Int)) = some (putU x.1.2) := by
      rw [show IntKind.u64.wrap (x.1.2 : Int) = (x.1.2 : Int) by rw [IntKind.wrap_u64]; omega]
      have := LebP.uint_f (k := 10) (by omega) (a := (x.1.2 : Int)) (by omega) (by omega)
      simpa using this
    have hxi := (LebP.wf_i64 x.2.1)
    have hi : leb_Int.f 10 x.1.1 = some (putI x.1.1) := LebP.int_f (by omega) hxi.1 hxi.2
    have hlu : (putU x.1.2).length ≤ 10 := putU_len64 (by omega)
    have hli : (putI x.1.1).length ≤ 10 := putI_len64 hxi.1 hxi.2
    have hst := st_length xs
    have hflat := flat_len pre
    have hpl : (flat (pre.map (·.1))).length ≤ 20 * pre.length := hflat
    have hT : T w.heap.size 49 (.slice A xs.length cap) W W v (.int .u64 (pre.length : Int)) := ⟨hv, hcn, hbx, hbx, Below.refl _ _, KeepsOthers.refl _⟩
    gi_wp2
    refine wpIn_mono (Q := Post6 w A xs cap x pre W (flat (pre.map (·.1)) ++ putU x.1.2)) ?_ ?_
    · replace hrow : (W).drew.ownsRow _ _ _ _ _ _ := hrow
      replace hT := hT.below (below_drewN' _ W 1)
      refine wpIn_region_any (by kernel_rfl) ?_
      change wpAnyIn _ _ _ _ _ _ _ _ _ (World.drew _)
      obtain ⟨W1, hW1⟩ : ∃ W1, W1 = (W).drew := ⟨_, rfl⟩
      change T _ _ _ _ (World.drew _) _ _ at hT
      rw [← hW1] at hT hrow ⊢
      clear hW1
      refine wpAnyIn_ready (rs := [0, 1]) (by kernel_rfl) (by simp) ?_
      refine AllReadyIn.cons rfl (fun K hK => ?_) ?_
      · have hcO := hT.out.cell
        go_simp
        refine hK _ _ ?_
        clear hK K hcO
        refine wpAnyIn_ready (rs := [1]) (by kernel_rfl) (by simp) ?_
        refine AllReadyIn.cons rfl (fun K hK => ?_) ?_
        · go_simp
          refine hK _ _ ?_
          clear hK K
          refine wpAnyIn_ready (rs := [2]) (by kernel_rfl) (by simp) ?_
          refine AllReadyIn.cons rfl (fun K hK => ?_) ?_
          · go_simp
            refine hK _ _ ?_
            clear hK K
            refine wpAnyIn_ready (rs := [3]) (by kernel_rfl) (by simp) ?_
            refine AllReadyIn.cons rfl (fun K hK => ?_) ?_
            · go_simp
              refine ⟨trivial, fun hd => Bool.noConfusion (show false = true from hd), ?_⟩
              refine (CallsIn.inRound l (callsIn_wide.2 (leb_Uint.calls 10 _ _ _ hu))).mono ?_
              rintro e W2 ⟨v0, rfl, hR, hb2⟩
              go_simp
              replace hT := hT.below hb2
              replace hrow := own_below hrow hb2
              refine hK _ _ ?_
              clear hK K
              refine wpAnyIn_ready (rs := [4]) (by kernel_rfl) (by simp) ?_
              refine AllReadyIn.cons rfl (fun K hK => ?_) ?_
              · refine step_in (by intro c h; cases h) ?_
                obtain ⟨A0, c0, rfl, hlc0, hC0⟩ := OwnRow.reads hR.2
                refine Kd.R_append_rows_step (Kd.int .u8) (w0 := W) w.heap.size (by rfl) _ _ 23 5 (.int .u8 0) 1 rfl Try.underlying23 info5 rfl (by decide) (by omega) v _ _ A0 _ c0 (fun _ => True) (fun _ => False) rfl rfl (Kd.R_of_own hrow (fun _ _ => trivial)) hC0 (fun _ _ h => h) (fun _ h => h.elim) (fun _ _ => trivial) hT.bel (by have := hT.out.lt; omega) (by rw [Nat.mul_one]; omega) ?_
                intro v1 W3 ho3 hb3 hg3 _
                obtain ⟨A3, n3, c3, rfl⟩ : ∃ A n c, v1 = .slice A n c := by
                  obtain ⟨A, c, e, _, _⟩ := OwnRow.reads ho3.2
                  exact ⟨A, _, c, e⟩
                replace hT := hT.grown (by decide) hrow hg3
                replace hrow := Kd.own_of_R ho3
                refine hK _ _ ?_
                clear hK K
                refine wpAnyIn_ready (rs := [5]) (by kernel_rfl) (by simp) ?_
                refine AllReadyIn.cons rfl (fun K hK => ?_) ?_
                · have hcO := hT.out.cell
                  have hfO := hT.out.frozen
                  go_simp
                  replace hrow := own_setOut hrow hT (.slice A3 n3 c3)
                  replace hT := hT.setOut (.slice A3 n3 c3)
                  refine hK _ _ ?_
                  clear hK K
                  refine wpAnyIn_done (by kernel_rfl) ?_ _
                  exact Post6.intro _ _ _ _ _ _ hT hrow
                exact AllReadyIn.nil
              exact AllReadyIn.nil
            exact AllReadyIn.nil
          exact AllReadyIn.nil
        exact AllReadyIn.nil
      refine AllReadyIn.cons rfl (fun K hK => ?_) ?_
      · go_simp
        refine hK _ _ ?_
        clear hK K
        refine wpAnyIn_ready (rs := [0, 2]) (by kernel_rfl) (by simp) ?_
        refine AllReadyIn.cons rfl (fun K hK => ?_) ?_
        · have hcO := hT.out.cell
          go_simp
          refine hK _ _ ?_
          clear hK K hcO
          refine wpAnyIn_ready (rs := [2]) (by kernel_rfl) (by simp) ?_
          refine AllReadyIn.cons rfl (fun K hK => ?_) ?_
          · go_simp
            refine hK _ _ ?_
            clear hK K
            refine wpAnyIn_ready (rs := [3]) (by kernel_rfl) (by simp) ?_
            refine AllReadyIn.cons rfl (fun K hK => ?_) ?_
            · go_simp
              refine ⟨trivial, fun hd => Bool.noConfusion (show false = true from hd), ?_⟩
              refine (CallsIn.inRound l (callsIn_wide.2 (leb_Uint.calls 10 _ _ _ hu))).mono ?_
              rintro e W2 ⟨v0, rfl, hR, hb2⟩
              go_simp
              replace hT := hT.below hb2
              replace hrow := own_below hrow hb2
              refine hK _ _ ?_
              clear hK K
              refine wpAnyIn_ready (rs := [4]) (by kernel_rfl) (by simp) ?_
              refine AllReadyIn.cons rfl (fun K hK => ?_) ?_
              · refine step_in (by intro c h; cases h) ?_
                obtain ⟨A0, c0, rfl, hlc0, hC0⟩ := OwnRow.reads hR.2
                refine Kd.R_append_rows_step (Kd.int .u8) (w0 := W) w.heap.size (by rfl) _ _ 23 5 (.int .u8 0) 1 rfl Try.underlying23 info5 rfl (by decide) (by omega) v _ _ A0 _ c0 (fun _ => True) (fun _ => False) rfl rfl (Kd.R_of_own hrow (fun _ _ => trivial)) hC0 (fun _ _ h => h) (fun _ h => h.elim) (fun _ _ => trivial) hT.bel (by have := hT.out.lt; omega) (by rw [Nat.mul_one]; omega) ?_
                intro v1 W3 ho3 hb3 hg3 _
                obtain ⟨A3, n3, c3, rfl⟩ : ∃ A n c, v1 = .slice A n c := by
                  obtain ⟨A, c, e, _, _⟩ := OwnRow.reads ho3.2
                  exact ⟨A, _, c, e⟩
                replace hT := hT.grown (by decide) hrow hg3
                replace hrow := Kd.own_of_R ho3
                refine hK _ _ ?_
                clear hK K
                refine wpAnyIn_ready (rs := [5]) (by kernel_rfl) (by simp) ?_
                refine AllReadyIn.cons rfl (fun K hK => ?_) ?_
                · have hcO := hT.out.cell
                  have hfO := hT.out.frozen
                  go_simp
                  replace hrow := own_setOut hrow hT (.slice A3 n3 c3)
                  replace hT := hT.setOut (.slice A3 n3 c3)
                  refine hK _ _ ?_
                  clear hK K
                  refine wpAnyIn_done (by kernel_rfl) ?_ _
                  exact Post6.intro _ _ _ _ _ _ hT hrow
                exact AllReadyIn.nil
              exact AllReadyIn.nil
            exact AllReadyIn.nil
          exact AllReadyIn.nil
        refine AllReadyIn.cons rfl (fun K hK => ?_) ?_
        · go_simp
          refine hK _ _ ?_
          clear hK K
          refine wpAnyIn_ready (rs := [0, 3]) (by kernel_rfl) (by simp) ?_
          refine AllReadyIn.cons rfl (fun K hK => ?_) ?_
          · have hcO := hT.out.cell
            go_simp
            refine hK _ _ ?_
            clear hK K hcO
            refine wpAnyIn_ready (rs := [3]) (by kernel_rfl) (by simp) ?_
            refine AllReadyIn.cons rfl (fun K hK => ?_) ?_
            · go_simp
              refine ⟨trivial, fun hd => Bool.noConfusion (show false = true from hd), ?_⟩
              refine (CallsIn.inRound l (callsIn_wide.2 (leb_Uint.calls 10 _ _ _ hu))).mono ?_
              rintro e W2 ⟨v0, rfl, hR, hb2⟩
              go_simp
              replace hT := hT.below hb2
              replace hrow := own_below hrow hb2
              refine hK _ _ ?_
              clear hK K
              refine wpAnyIn_ready (rs := [4]) (by kernel_rfl) (by simp) ?_
              refine AllReadyIn.cons rfl (fun K hK => ?_) ?_
              · refine step_in (by intro c h; cases h) ?_
                obtain ⟨A0, c0, rfl, hlc0, hC0⟩ := OwnRow.reads hR.2
                refine Kd.R_append_rows_step (Kd.int .u8) (w0 := W) w.heap.size (by rfl) _ _ 23 5 (.int .u8 0) 1 rfl Try.underlying23 info5 rfl (by decide) (by omega) v _ _ A0 _ c0 (fun _ => True) (fun _ => False) rfl rfl (Kd.R_of_own hrow (fun _ _ => trivial)) hC0 (fun _ _ h => h) (fun _ h => h.elim) (fun _ _ => trivial) hT.bel (by have := hT.out.lt; omega) (by rw [Nat.mul_one]; omega) ?_
                intro v1 W3 ho3 hb3 hg3 _
                obtain ⟨A3, n3, c3, rfl⟩ : ∃ A n c, v1 = .slice A n c := by
                  obtain ⟨A, c, e, _, _⟩ := OwnRow.reads ho3.2
                  exact ⟨A, _, c, e⟩
                replace hT := hT.grown (by decide) hrow hg3
                replace hrow := Kd.own_of_R ho3
                refine hK _ _ ?_
                clear hK K
                refine wpAnyIn_ready (rs := [5]) (by kernel_rfl) (by simp) ?_
                refine AllReadyIn.cons rfl (fun K hK => ?_) ?_
                · have hcO := hT.out.cell
                  have hfO := hT.out.frozen
                  go_simp
                  replace hrow := own_setOut hrow hT (.slice A3 n3 c3)
                  replace hT := hT.setOut (.slice A3 n3 c3)
                  refine hK _ _ ?_
                  clear hK K
                  refine wpAnyIn_done (by kernel_rfl) ?_ _
                  exact Post6.intro _ _ _ _ _ _ hT hrow
                exact AllReadyIn.nil
              exact AllReadyIn.nil
            exact AllReadyIn.nil
          refine AllReadyIn.cons rfl (fun K hK => ?_) ?_
          · go_simp
            refine ⟨trivial, fun hd => Bool.noConfusion (show false = true from hd), ?_⟩
            refine (CallsIn.inRound l (callsIn_wide.2 (leb_Uint.calls 10 _ _ _ hu))).mono ?_
            rintro e W2 ⟨v0, rfl, hR, hb2⟩
            go_simp
            replace hT := hT.below hb2
            replace hrow := own_below hrow hb2
            refine hK _ _ ?_
            clear hK K
            refine wpAnyIn_ready (rs := [0]) (by kernel_rfl) (by simp) ?_
            refine AllReadyIn.cons rfl (fun K hK => ?_) ?_
            · have hcO := hT.out.cell
              go_simp
              refine hK _ _ ?_
              clear hK K hcO
              refine wpAnyIn_ready (rs := [4]) (by kernel_rfl) (by simp) ?_
              refine AllReadyIn.cons rfl (fun K hK => ?_) ?_
              · refine step_in (by intro c h; cases h) ?_
                obtain ⟨A0, c0, rfl, hlc0, hC0⟩ := OwnRow.reads hR.2
                refine Kd.R_append_rows_step (Kd.int .u8) (w0 := W) w.heap.size (by rfl) _ _ 23 5 (.int .u8 0) 1 rfl Try.underlying23 info5 rfl (by decide) (by omega) v _ _ A0 _ c0 (fun _ => True) (fun _ => False) rfl rfl (Kd.R_of_own hrow (fun _ _ => trivial)) hC0 (fun _ _ h => h) (fun _ h => h.elim) (fun _ _ => trivial) hT.bel (by have := hT.out.lt; omega) (by rw [Nat.mul_one]; omega) ?_
                intro v1 W3 ho3 hb3 hg3 _
                obtain ⟨A3, n3, c3, rfl⟩ : ∃ A n c, v1 = .slice A n c := by
                  obtain ⟨A, c, e, _, _⟩ := OwnRow.reads ho3.2
                  exact ⟨A, _, c, e⟩
                replace hT := hT.grown (by decide) hrow hg3
                replace hrow := Kd.own_of_R ho3
                refine hK _ _ ?_
                clear hK K
                refine wpAnyIn_ready (rs := [5]) (by kernel_rfl) (by simp) ?_
                refine AllReadyIn.cons rfl (fun K hK => ?_) ?_
                · have hcO := hT.out.cell
                  have hfO := hT.out.frozen
                  go_simp
                  replace hrow := own_setOut hrow hT (.slice A3 n3 c3)
                  replace hT := hT.setOut (.slice A3 n3 c3)
                  refine hK _ _ ?_
                  clear hK K
                  refine wpAnyIn_done (by kernel_rfl) ?_ _
                  exact Post6.intro _ _ _ _ _ _ hT hrow
                exact AllReadyIn.nil
              exact AllReadyIn.nil
            exact AllReadyIn.nil
          exact AllReadyIn.nil
        exact AllReadyIn.nil
      exact AllReadyIn.nil
    rintro e a' W2 ⟨rfl, t11, t12, t13, t14, t15, v, rfl, hT, hrow⟩
    gi_wp2
    refine wpIn_mono (Q := Post7 w A xs cap x pre W t11 t12 t13 t14 t15 (flat (pre.map (·.1)) ++ putU x.1.2 ++ putI x.1.1)) ?_ ?_
    · replace hrow : (W2).drew.ownsRow _ _ _ _ _ _ := hrow
      replace hT := hT.below (below_drewN' _ W2 1)
      refine wpIn_region_any (by kernel_rfl) ?_
      change wpAnyIn _ _ _ _ _ _ _ _ _ (World.drew _)
      obtain ⟨W1, hW1⟩ : ∃ W1, W1 = (W2).drew := ⟨_, rfl⟩
      change T _ _ _ _ (World.drew _) _ _ at hT
      rw [← hW1] at hT hrow ⊢
      clear hW1
      refine wpAnyIn_ready (rs := [0, 1]) (by kernel_rfl) (by simp) ?_
      refine AllReadyIn.cons rfl (fun K hK => ?_) ?_
      · have hcO := hT.out.cell
        go_simp
        refine hK _ _ ?_
        clear hK K hcO
        refine wpAnyIn_ready (rs := [1]) (by kernel_rfl) (by simp) ?_
        refine AllReadyIn.cons rfl (fun K hK => ?_) ?_
        · go_simp
          refine hK _ _ ?_
          clear hK K
          refine wpAnyIn_ready (rs := [2]) (by kernel_rfl) (by simp) ?_
          refine AllReadyIn.cons rfl (fun K hK => ?_) ?_
          · go_simp
            refine ⟨trivial, fun hd => Bool.noConfusion (show false = true from hd), ?_⟩
            refine (CallsIn.inRound l (callsIn_wide.2 (leb_Int.calls 10 _ _ _ hi))).mono ?_
            rintro e W2 ⟨v0, rfl, hR, hb2⟩
            go_simp
            replace hT := hT.below hb2
            replace hrow := own_below hrow hb2
            refine hK _ _ ?_
            clear hK K
            refine wpAnyIn_ready (rs := [3]) (by kernel_rfl) (by simp) ?_
            refine AllReadyIn.cons rfl (fun K hK => ?_) ?_
            · refine step_in (by intro c h; cases h) ?_
              obtain ⟨A0, c0, rfl, hlc0, hC0⟩ := OwnRow.reads hR.2
              refine Kd.R_append_rows_step (Kd.int .u8) (w0 := W) w.heap.size (by rfl) _ _ 23 5 (.int .u8 0) 1 rfl Try.underlying23 info5 rfl (by decide) (by omega) v _ _ A0 _ c0 (fun _ => True) (fun _ => False) rfl rfl (Kd.R_of_own hrow (fun _ _ => trivial)) hC0 (fun _ _ h => h) (fun _ h => h.elim) (fun _ _ => trivial) hT.bel (by have := hT.out.lt; omega) (by rw [Nat.mul_one]; simp only [List.length_append]; omega) ?_
              intro v1 W3 ho3 hb3 hg3 _
              obtain ⟨A3, n3, c3, rfl⟩ : ∃ A n c, v1 = .slice A n c := by
                obtain ⟨A, c, e, _, _⟩ := OwnRow.reads ho3.2
                exact ⟨A, _, c, e⟩
              replace hT := hT.grown (by decide) hrow hg3
              replace hrow := Kd.own_of_R ho3
              refine hK _ _ ?_
              clear hK K
              refine wpAnyIn_ready (rs := [4]) (by kernel_rfl) (by simp) ?_
              refine AllReadyIn.cons rfl (fun K hK => ?_) ?_
              · have hcO := hT.out.cell
                have hfO := hT.out.frozen
                go_simp
                replace hrow := own_setOut hrow hT (.slice A3 n3 c3)
                replace hT := hT.setOut (.slice A3 n3 c3)
                refine hK _ _ ?_
                clear hK K
                refine wpAnyIn_done (by kernel_rfl) ?_ _
                exact Post7.intro _ _ _ _ _ hT hrow
              exact AllReadyIn.nil
            exact AllReadyIn.nil
          exact AllReadyIn.nil
        exact AllReadyIn.nil
      refine AllReadyIn.cons rfl (fun K hK => ?_) ?_
      · go_simp
        refine hK _ _ ?_
        clear hK K
        refine wpAnyIn_ready (rs := [0, 2]) (by kernel_rfl) (by simp) ?_
        refine AllReadyIn.cons rfl (fun K hK => ?_) ?_
        · have hcO := hT.out.cell
          go_simp
          refine hK _ _ ?_
          clear hK K hcO
          refine wpAnyIn_ready (rs := [2]) (by kernel_rfl) (by simp) ?_
          refine AllReadyIn.cons rfl (fun K hK => ?_) ?_
          · go_simp
            refine ⟨trivial, fun hd => Bool.noConfusion (show false = true from hd), ?_⟩
            refine (CallsIn.inRound l (callsIn_wide.2 (leb_Int.calls 10 _ _ _ hi))).mono ?_
            rintro e W2 ⟨v0, rfl, hR, hb2⟩
            go_simp
            replace hT := hT.below hb2
            replace hrow := own_below hrow hb2
            refine hK _ _ ?_
            clear hK K
            refine wpAnyIn_ready (rs := [3]) (by kernel_rfl) (by simp) ?_
            refine AllReadyIn.cons rfl (fun K hK => ?_) ?_
            · refine step_in (by intro c h; cases h) ?_
              obtain ⟨A0, c0, rfl, hlc0, hC0⟩ := OwnRow.reads hR.2
              refine Kd.R_append_rows_step (Kd.int .u8) (w0 := W) w.heap.size (by rfl) _ _ 23 5 (.int .u8 0) 1 rfl Try.underlying23 info5 rfl (by decide) (by omega) v _ _ A0 _ c0 (fun _ => True) (fun _ => False) rfl rfl (Kd.R_of_own hrow (fun _ _ => trivial)) hC0 (fun _ _ h => h) (fun _ h => h.elim) (fun _ _ => trivial) hT.bel (by have := hT.out.lt; omega) (by rw [Nat.mul_one]; simp only [List.length_append]; omega) ?_
              intro v1 W3 ho3 hb3 hg3 _
              obtain ⟨A3, n3, c3, rfl⟩ : ∃ A n c, v1 = .slice A n c := by
                obtain ⟨A, c, e, _, _⟩ := OwnRow.reads ho3.2
                exact ⟨A, _, c, e⟩
              replace hT := hT.grown (by decide) hrow hg3
              replace hrow := Kd.own_of_R ho3
              refine hK _ _ ?_
              clear hK K
              refine wpAnyIn_ready (rs := [4]) (by kernel_rfl) (by simp) ?_
              refine AllReadyIn.cons rfl (fun K hK => ?_) ?_
              · have hcO := hT.out.cell
                have hfO := hT.out.frozen
                go_simp
                replace hrow := own_setOut hrow hT (.slice A3 n3 c3)
                replace hT := hT.setOut (.slice A3 n3 c3)
                refine hK _ _ ?_
                clear hK K
                refine wpAnyIn_done (by kernel_rfl) ?_ _
                exact Post7.intro _ _ _ _ _ hT hrow
              exact AllReadyIn.nil
            exact AllReadyIn.nil
          exact AllReadyIn.nil
        refine AllReadyIn.cons rfl (fun K hK => ?_) ?_
        · go_simp
          refine ⟨trivial, fun hd => Bool.noConfusion (show false = true from hd), ?_⟩
          refine (CallsIn.inRound l (callsIn_wide.2 (leb_Int.calls 10 _ _ _ hi))).mono ?_
          rintro e W2 ⟨v0, rfl, hR, hb2⟩
          go_simp
          replace hT := hT.below hb2
          replace hrow := own_below hrow hb2
          refine hK _ _ ?_
          clear hK K
          refine wpAnyIn_ready (rs := [0]) (by kernel_rfl) (by simp) ?_
          refine AllReadyIn.cons rfl (fun K hK => ?_) ?_
          · have hcO := hT.out.cell
            go_simp
            refine hK _ _ ?_
            clear hK K hcO
            refine wpAnyIn_ready (rs := [3]) (by kernel_rfl) (by simp) ?_
            refine AllReadyIn.cons rfl (fun K hK => ?_) ?_
            · refine step_in (by intro c h; cases h) ?_
              obtain ⟨A0, c0, rfl, hlc0, hC0⟩ := OwnRow.reads hR.2
              refine Kd.R_append_rows_step (Kd.int .u8) (w0 := W) w.heap.size (by rfl) _ _ 23 5 (.int .u8 0) 1 rfl Try.underlying23 info5 rfl (by decide) (by omega) v _ _ A0 _ c0 (fun _ => True) (fun _ => False) rfl rfl (Kd.R_of_own hrow (fun _ _ => trivial)) hC0 (fun _ _ h => h) (fun _ h => h.elim) (fun _ _ => trivial) hT.bel (by have := hT.out.lt; omega) (by rw [Nat.mul_one]; simp only [List.length_append]; omega) ?_
              intro v1 W3 ho3 hb3 hg3 _
              obtain ⟨A3, n3, c3, rfl⟩ : ∃ A n c, v1 = .slice A n c := by
                obtain ⟨A, c, e, _, _⟩ := OwnRow.reads ho3.2
                exact ⟨A, _, c, e⟩
              replace hT := hT.grown (by decide) hrow hg3
              replace hrow := Kd.own_of_R ho3
              refine hK _ _ ?_
              clear hK K
              refine wpAnyIn_ready (rs := [4]) (by kernel_rfl) (by simp) ?_
              refine AllReadyIn.cons rfl (fun K hK => ?_) ?_
              · have hcO := hT.out.cell
                have hfO := hT.out.frozen
                go_simp
                replace hrow := own_setOut hrow hT (.slice A3 n3 c3)
                replace hT := hT.setOut (.slice A3 n3 c3)
                refine hK _ _ ?_
                clear hK K
                refine wpAnyIn_done (by kernel_rfl) ?_ _
                exact Post7.intro _ _ _ _ _ hT hrow
              exact AllReadyIn.nil
            exact AllReadyIn.nil
          exact AllReadyIn.nil
        exact AllReadyIn.nil
      exact AllReadyIn.nil
    rintro e a' W4 ⟨rfl, t16, t17, t18, t19, v'', rfl, hT, hrow⟩
    have hcN := hT.cnt.cell
    have hfN := hT.cnt.frozen
    gi_wp2
    have hk : (pre.length : Int) + 1 = (((pre ++ [x]).length : Nat) : Int) := by simp
    rw [hk]
    have hT2 := hT.setCnt (.int .u64 (((pre ++ [x]).length : Nat) : Int))
    have hr2 := own_setCnt hrow hT (.int .u64 (((pre ++ [x]).length : Nat) : Int))
    refine ⟨hT2.oth.from _, hT2.kp, ⟨_, hT2.out, ?_, trivial⟩, hT2.cnt, hT2.row, hB.trans hT2.bel⟩
    rw [List.map_append, List.map_cons, List.map_nil, flat_snoc, ← List.append_assoc]
    exact hr2
  case done =>
    rintro D ys W hD hys ⟨⟨v, hv, hrow, _⟩, hcn, hbx, hB⟩ hK
    rw [hys] at hrow
    have hyl : ys.length = (st xs).length := by rw [← hys, List.length_map]
    have hst := st_length xs
    have hfl : (flat (st xs)).length ≤ 20 * ys.length := by rw [← hys]; exact flat_len ys
    rw [hyl] at hcn hfl
    have hT : T w.heap.size 49 (.slice A xs.length cap) W W v (.int .u64 ((st xs).length : Int)) := ⟨hv, hcn, hbx, hbx, Below.refl _ _, KeepsOthers.refl _⟩
    have hu : leb_Uint.f 10 ((st xs).length : Int) = some (putU (st xs).length) := by
      have := LebP.uint_f (k := 10) (by omega) (a := ((st xs).length : Int)) (by omega) (by omega)
      simpa using this
    have hlu : (putU (st xs).length).length ≤ 10 := putU_len64 (by omega)
    gi_wp2
    refine wpIn_mono (Q := Post9 w D A xs cap W (.int .u64 ((st xs).length : Int)) (runs xs)) ?_ ?_
    · replace hrow : W.drew.ownsRow _ _ _ _ _ _ := hrow
      replace hT := hT.below (below_drewN' _ W 1)
      refine wpIn_region_any (by kernel_rfl) ?_
      change wpAnyIn _ _ _ _ _ _ _ _ _ (World.drew _)
      obtain ⟨W1, hW1⟩ : ∃ W1, W1 = W.drew := ⟨_, rfl⟩
      change T _ _ _ _ (World.drew _) _ _ at hT
      rw [← hW1] at hT hrow ⊢
      clear hW1
      refine wpAnyIn_ready (rs := [0, 2]) (by kernel_rfl) (by simp) ?_
      refine AllReadyIn.cons rfl (fun K hK' => ?_) ?_
      · have hcO := hT.cnt.cell
        go_simp
        refine hK' _ _ ?_
        clear hK' K hcO
        refine wpAnyIn_ready (rs := [1, 2]) (by kernel_rfl) (by simp) ?_
        refine AllReadyIn.cons rfl (fun K hK' => ?_) ?_
        · go_simp
          refine ⟨trivial, ?_⟩
          refine ((callsIn_wide.2 (leb_Uint.calls 10 _ _ _ hu))).mono ?_
          rintro e W2 ⟨v0, rfl, hR, hb2⟩
          go_simp
          have hsz1 := hT.out.lt
          replace hT := hT.below hb2
          have hrow0 := Kd.own_of_R (Kd.R_lower hR (by omega) (base' := w.heap.size))
          replace hrow := own_below hrow hb2
          refine hK' _ _ ?_
          clear hK' K
          refine wpAnyIn_ready (rs := [2]) (by kernel_rfl) (by simp) ?_
          refine AllReadyIn.cons rfl (fun K hK' => ?_) ?_
          · have hcO := hT.out.cell
            go_simp
            refine hK' _ _ ?_
            clear hK' K hcO
            refine wpAnyIn_ready (rs := [3]) (by kernel_rfl) (by simp) ?_
            refine AllReadyIn.cons rfl (fun K hK' => ?_) ?_
            · refine step_wide (by intro c h; cases h) ?_
              obtain ⟨A0, c0, rfl, hlc0, hC0⟩ := OwnRow.reads (Kd.R_of_own (h1 := fun _ => rfl) hrow (fun _ _ => trivial) (ok := fun _ => True)).2
              refine Kd.R_append_rows_step (Kd.int .u8) (w0 := W) w.heap.size (by rfl) _ _ 23 5 (.int .u8 0) 1 rfl Try.underlying23 info5 rfl (by decide) (by omega) v0 _ _ A0 _ c0 (fun _ => True) (fun _ => False) rfl rfl (Kd.R_of_own hrow0 (fun _ _ => trivial)) hC0 (fun _ _ h => h) (fun _ h => h.elim) (fun _ _ => trivial) hT.bel (by have := hT.out.lt; omega) (by rw [Nat.mul_one]; omega) ?_
              intro v1 W3 ho3 hb3 hg3 _
              replace hT := hT.grown (by decide) hrow0 hg3
              refine hK' _ _ ?_
              clear hK' K
              refine wpAnyIn_ready (rs := [4]) (by kernel_rfl) (by simp) ?_
              refine AllReadyIn.cons rfl (fun K hK' => ?_) ?_
              · go_simp
                refine hK' _ _ ?_
                clear hK' K
                refine wpAnyIn_done (by kernel_rfl) ?_ _
                exact Post9.intro _ _ _ _ () hT ho3
              exact AllReadyIn.nil
            exact AllReadyIn.nil
          exact AllReadyIn.nil
        refine AllReadyIn.cons rfl (fun K hK' => ?_) ?_
        · have hcO := hT.out.cell
          go_simp
          refine hK' _ _ ?_
          clear hK' K hcO
          refine wpAnyIn_ready (rs := [1]) (by kernel_rfl) (by simp) ?_
          refine AllReadyIn.cons rfl (fun K hK' => ?_) ?_
          · go_simp
            refine ⟨trivial, ?_⟩
            refine ((callsIn_wide.2 (leb_Uint.calls 10 _ _ _ hu))).mono ?_
            rintro e W2 ⟨v0, rfl, hR, hb2⟩
            go_simp
            have hsz1 := hT.out.lt
            replace hT := hT.below hb2
            have hrow0 := Kd.own_of_R (Kd.R_lower hR (by omega) (base' := w.heap.size))
            replace hrow := own_below hrow hb2
            refine hK' _ _ ?_
            clear hK' K
            refine wpAnyIn_ready (rs := [3]) (by kernel_rfl) (by simp) ?_
            refine AllReadyIn.cons rfl (fun K hK' => ?_) ?_
            · refine step_wide (by intro c h; cases h) ?_
              obtain ⟨A0, c0, rfl, hlc0, hC0⟩ := OwnRow.reads (Kd.R_of_own (h1 := fun _ => rfl) hrow (fun _ _ => trivial) (ok := fun _ => True)).2
              refine Kd.R_append_rows_step (Kd.int .u8) (w0 := W) w.heap.size (by rfl) _ _ 23 5 (.int .u8 0) 1 rfl Try.underlying23 info5 rfl (by decide) (by omega) v0 _ _ A0 _ c0 (fun _ => True) (fun _ => False) rfl rfl (Kd.R_of_own hrow0 (fun _ _ => trivial)) hC0 (fun _ _ h => h) (fun _ h => h.elim) (fun _ _ => trivial) hT.bel (by have := hT.out.lt; omega) (by rw [Nat.mul_one]; omega) ?_
              intro v1 W3 ho3 hb3 hg3 _
              replace hT := hT.grown (by decide) hrow0 hg3
              refine hK' _ _ ?_
              clear hK' K
              refine wpAnyIn_ready (rs := [4]) (by kernel_rfl) (by simp) ?_
              refine AllReadyIn.cons rfl (fun K hK' => ?_) ?_
              · go_simp
                refine hK' _ _ ?_
                clear hK' K
                refine wpAnyIn_done (by kernel_rfl) ?_ _
                exact Post9.intro _ _ _ _ () hT ho3
              exact AllReadyIn.nil
            exact AllReadyIn.nil
          exact AllReadyIn.nil
        exact AllReadyIn.nil
      refine AllReadyIn.cons rfl (fun K hK' => ?_) ?_
      · have hcO := hT.out.cell
        go_simp
        refine hK' _ _ ?_
        clear hK' K hcO
        refine wpAnyIn_ready (rs := [0]) (by kernel_rfl) (by simp) ?_
        refine AllReadyIn.cons rfl (fun K hK' => ?_) ?_
        · have hcO := hT.cnt.cell
          go_simp
          refine hK' _ _ ?_
          clear hK' K hcO
          refine wpAnyIn_ready (rs := [1]) (by kernel_rfl) (by simp) ?_
          refine AllReadyIn.cons rfl (fun K hK' => ?_) ?_
          · go_simp
            refine ⟨trivial, ?_⟩
            refine ((callsIn_wide.2 (leb_Uint.calls 10 _ _ _ hu))).mono ?_
            rintro e W2 ⟨v0, rfl, hR, hb2⟩
            go_simp
            have hsz1 := hT.out.lt
            replace hT := hT.below hb2
            have hrow0 := Kd.own_of_R (Kd.R_lower hR (by omega) (base' := w.heap.size))
            replace hrow := own_below hrow hb2
            refine hK' _ _ ?_
            clear hK' K
            refine wpAnyIn_ready (rs := [3]) (by kernel_rfl) (by simp) ?_
            refine AllReadyIn.cons rfl (fun K hK' => ?_) ?_
            · refine step_wide (by intro c h; cases h) ?_
              obtain ⟨A0, c0, rfl, hlc0, hC0⟩ := OwnRow.reads (Kd.R_of_own (h1 := fun _ => rfl) hrow (fun _ _ => trivial) (ok := fun _ => True)).2
              refine Kd.R_append_rows_step (Kd.int .u8) (w0 := W) w.heap.size (by rfl) _ _ 23 5 (.int .u8 0) 1 rfl Try.underlying23 info5 rfl (by decide) (by omega) v0 _ _ A0 _ c0 (fun _ => True) (fun _ => False) rfl rfl (Kd.R_of_own hrow0 (fun _ _ => trivial)) hC0 (fun _ _ h => h) (fun _ h => h.elim) (fun _ _ => trivial) hT.bel (by have := hT.out.lt; omega) (by rw [Nat.mul_one]; omega) ?_
              intro v1 W3 ho3 hb3 hg3 _
              replace hT := hT.grown (by decide) hrow0 hg3
              refine hK' _ _ ?_
              clear hK' K
              refine wpAnyIn_ready (rs := [4]) (by kernel_rfl) (by simp) ?_
              refine AllReadyIn.cons rfl (fun K hK' => ?_) ?_
              · go_simp
                refine hK' _ _ ?_
                clear hK' K
                refine wpAnyIn_done (by kernel_rfl) ?_ _
                exact Post9.intro _ _ _ _ () hT ho3
              exact AllReadyIn.nil
            exact AllReadyIn.nil
          exact AllReadyIn.nil
        exact AllReadyIn.nil
      exact AllReadyIn.nil
    rintro e a' W4 ⟨rfl, t22, t23, t24, t25, v2, v', rfl, hT, hr⟩
    gi_wp2
    have hK4 := hT.oth.same D _ hK rfl
    refine ⟨by simp, .inl ⟨_, _, rfl, run_takeDeferred hK4, ?_⟩⟩
    refine ⟨_, results_tmp rfl _ _ _, v', rfl, Kd.R_of_own (ownsRow_putObj (Kd.own_of_R hr) _ hK4 rfl) (fun _ _ => trivial), (hB.trans hT.bel).trans (belowK_b (w := w) (Nat.le_refl _) W4 D _ _ (by rw [hs3] at hD; omega) hK4 rfl rfl)⟩
  case stop =>
    rintro D c pre W _ _ h _
    exact h.elim
end Go.Proofs.Ytpnnjefhchppfaa.ColS

set_option linter.unusedVariables false
set_option linter.unusedSimpArgs false
namespace Go.Proofs.Ytpnnjefhchppfaa.PA
open Go.RowKit Go.Proofs.YtpnnjefhchppfaaW.PrintWords
def column_Runs.f (l : List Int) : Option (List Int) :=
  if l.length ≤ 4398046511104 ∧ (l.all fun x => (Lit.int .i64 x).wf) = true then some (ColS.runs l) else none
theorem column_Runs.calls (A0 : Option Addr) (c0 : Nat) (l0 : List Int) (r : List Int) (w : World) (hr0 : Kd.C (Kd.int .i64) w A0 l0.length l0) (hc0 : l0.length ≤ c0) (h : column_Runs.f l0 = some r) :
    Calls Try.prog 23 #[.slice A0 l0.length c0] w fun e w' => ∃ v0_ : Value, e = .returned (v0_) ∧ Kd.R (Kd.int .u8) 5 w' w.heap.size (fun _ => True) v0_ r ∧ Below w.heap.size w w' := by
  unfold column_Runs.f at h
  split at h
  · rename_i hc
    obtain rfl := Option.some.inj h
    exact callsIn_wide.1 (ColS.Runs_in 3 (Nat.le_refl _) A0 c0 l0 hc.1 (fun x hx => List.all_eq_true.1 hc.2 x hx) w hr0)
  · cases h
end Go.Proofs.Ytpnnjefhchppfaa.PA

