/- Own texts of this claim, one behind the other (wip/tools/merge.py). -/
import Derived.Maps.AppendAt
import Derived.Test.YtcffooeiennmjaaMF24
import Derived.Test.YtcffooeiennmjaaMF21
/- column.Flags: what it lays. -/
set_option linter.unusedVariables false
set_option linter.unusedSimpArgs false
namespace Go.Proofs.Ytcffooeiennmjaa.ColS
open Go Go.RowKit Go.Shelf Go.BigFrame Go.Proofs Go.Proofs.YtcffooeiennmjaaW.PrintWords Go.Proofs.Ytcffooeiennmjaa.LebT Go.Proofs.Ytcffooeiennmjaa.PA
attribute [local go_sem] Oper.semAt_some

/-- What is laid for the stretches of truths: f0 is what stands ahead (a nought where the first is true). -/
def flatB (ps : List (Bool × Nat)) : List Int := ps.flatMap (fun p => putU p.2)
theorem flatB_snoc (ps : List (Bool × Nat)) (p : Bool × Nat) : flatB (ps ++ [p]) = flatB ps ++ putU p.2 := by simp [flatB]
theorem flatB_len (pre : List P58) : (flatB (pre.map (·.1))).length ≤ 10 * pre.length := by
  induction pre with
  | nil => simp [flatB]
  | cons p t ih =>
    have h2 := p.2
    have h3 : (putU p.1.2).length ≤ 10 := putU_len64 (by omega)
    have e : flatB ((p :: t).map (·.1)) = putU p.1.2 ++ flatB (t.map (·.1)) := by simp [flatB]
    rw [e]
    simp only [List.length_append, List.length_cons]
    omega
def flags (xs : List Bool) : List Int :=
  match xs with
  | [] => putU 0
  | true :: t => putU ((st (true :: t)).length + 1) ++ (0 :: flatB (st (true :: t)))
  | false :: t => putU (st (false :: t)).length ++ flatB (st (false :: t))
/-- The boxes of a function that collects: out (t1), n (t2), the row (t3), one behind the other. -/
structure TB (n₀ Bs t3 : Nat) (sl : Value) (W0 Wi : World) (v c : Value) : Prop where
  hB : n₀ + 2 ≤ Bs
  out : Boxed Wi n₀ 23 v
  cnt : Boxed Wi (n₀ + 1) 22 c
  row0 : Boxed W0 Bs t3 sl
  row : Boxed Wi Bs t3 sl
  bel : Below n₀ W0 Wi
  oth : KeepsOthers W0 Wi
section
variable {n₀ Bs t3 : Nat} {sl : Value} {W0 Wi Wj : World} {v c : Value}
theorem TB.kp (h : TB n₀ Bs t3 sl W0 Wi v c) : Kp n₀ Bs W0 Wi := ⟨h.bel, h.row.trans h.row0.symm⟩
theorem TB.grown (h : TB n₀ Bs t3 sl W0 Wi v c) (h3 : t3 ≠ 5) {k : Nat} {xs : List Value} {u : Value} (hr : Wi.ownsRow n₀ 5 1 u k xs) (hg : Wi.grownBy Wj u.ownBlock) : TB n₀ Bs t3 sl W0 Wj v c :=
  ⟨h.hB, h.out.kept hg (h.out.not_row (by decide) hr), h.cnt.kept hg (h.cnt.not_row (by decide) hr), h.row0, h.row.kept hg (h.row.not_row h3 hr),
   h.bel.grown hg (by have := h.out.lt; omega) (fun j e => by
    rcases hr.2 with ⟨rfl, _⟩ | ⟨g, cap, cur, rfl, hb, _, _⟩
    · simp [Value.ownBlock] at e
    · obtain rfl : g = j := by simpa [Value.ownBlock] using e
      exact hb),
   h.oth.trans (KeepsOthers.of_grownBy hg (fun j o ej hj => by
    rcases hr.2 with ⟨rfl, _⟩ | ⟨g, cap, cur, rfl, _, hgb, _⟩
    · simp [Value.ownBlock] at ej
    · obtain rfl : g = j := by simpa [Value.ownBlock] using ej
      rw [hgb] at hj; cases hj; rfl))⟩
theorem TB.below (h : TB n₀ Bs t3 sl W0 Wi v c) (hb : Below Wi.heap.size Wi Wj) : TB n₀ Bs t3 sl W0 Wj v c :=
  ⟨h.hB, (hb.block _ h.out.lt).trans h.out, (hb.block _ h.cnt.lt).trans h.cnt, h.row0, (hb.block _ h.row.lt).trans h.row, h.bel.trans (hb.mono (by have := h.out.lt; omega)), h.oth.trans (keepsOthers_below hb)⟩
theorem TB.setOut (h : TB n₀ Bs t3 sl W0 Wi v c) (v' : Value) : TB n₀ Bs t3 sl W0 (Wi.setCell ⟨n₀, 0, none⟩ v') v' c :=
  ⟨h.hB, h.out.set v', h.cnt.other (by omega) v', h.row0, h.row.other (by have := h.hB; omega) v', h.bel.setCell (p := ⟨n₀, 0, none⟩) (Nat.le_refl _) v', h.oth.trans (KeepsOthers.setCell _ _ _)⟩
theorem TB.setCnt (h : TB n₀ Bs t3 sl W0 Wi v c) (c' : Value) : TB n₀ Bs t3 sl W0 (Wi.setCell ⟨n₀ + 1, 0, none⟩ c') v c' :=
  ⟨h.hB, h.out.other (by omega) c', h.cnt.set c', h.row0, h.row.other (by have := h.hB; omega) c', h.bel.setCell (p := ⟨n₀ + 1, 0, none⟩) (Nat.le_succ _) c', h.oth.trans (KeepsOthers.setCell _ _ _)⟩
end

theorem own_setOutB {n₀ Bs t3 : Nat} {sl : Value} {W0 Wi : World} {v c v' : Value} {k : Nat} {xs : List Value} (h : Wi.ownsRow n₀ 5 1 v' k xs) (hT : TB n₀ Bs t3 sl W0 Wi v c) (u : Value) : (Wi.setCell ⟨n₀, 0, none⟩ u).ownsRow n₀ 5 1 v' k xs :=
  h.kept (grownBy_setCell' Wi n₀ u) (.inr (hT.out.not_row (by decide) h).symm)
theorem own_setCntB {n₀ Bs t3 : Nat} {sl : Value} {W0 Wi : World} {v c v' : Value} {k : Nat} {xs : List Value} (h : Wi.ownsRow n₀ 5 1 v' k xs) (hT : TB n₀ Bs t3 sl W0 Wi v c) (u : Value) : (Wi.setCell ⟨n₀ + 1, 0, none⟩ u).ownsRow n₀ 5 1 v' k xs :=
  h.kept (grownBy_setCell' Wi (n₀ + 1) u) (.inr (hT.cnt.not_row (by decide) h).symm)
def PostF10 (w : World) (Bs : Nat) (A : Option Addr) (xs : List Bool) (cap : Nat) (x : P58) (cn : Value) (W : World) (t7 t8 t9 t10 t11 t12 t13 t14 t15 t16 t17 t18 : Value) (r : List Int) (e : Exit) (a' : Act) (W' : World) : Prop :=
  e = .normal ∧ ∃ t23 t24 t25 t26 t27 v', a' = { tmps := #[.slice A xs.length cap, undef, .slice none 0 0, .pointer (some ⟨w.heap.size, 0, none⟩), .pointer (some ⟨w.heap.size + 1, 0, none⟩), undef, .int .i64 (x.1.2 : Int), t7, t8, t9, t10, t11, t12, t13, t14, t15, t16, t17, t18, .slice A xs.length cap, .func (.func 58) #[] #[.pointer (some ⟨Bs, 0, none⟩)], .bool x.1.1, .int .i64 (x.1.2 : Int), t23, t24, t25, t26, t27, undef, undef, undef, undef, undef, undef], defers := [] } ∧ TB w.heap.size Bs 61 (.slice A xs.length cap) W W' v' cn ∧ W'.ownsRow w.heap.size 5 1 v' r.length (encs (Value.int .u8) r)
theorem PostF10.intro {w : World} {Bs : Nat} {A : Option Addr} {xs : List Bool} {cap : Nat} {x : P58} {cn : Value} {W : World} {t7 t8 t9 t10 t11 t12 t13 t14 t15 t16 t17 t18 : Value} {r : List Int} {W' : World} (t23 t24 t25 t26 t27 v' : Value) (hT : TB w.heap.size Bs 61 (.slice A xs.length cap) W W' v' cn) (hr : W'.ownsRow w.heap.size 5 1 v' r.length (encs (Value.int .u8) r)) :
    PostF10 w Bs A xs cap x cn W t7 t8 t9 t10 t11 t12 t13 t14 t15 t16 t17 t18 r .normal { tmps := #[.slice A xs.length cap, undef, .slice none 0 0, .pointer (some ⟨w.heap.size, 0, none⟩), .pointer (some ⟨w.heap.size + 1, 0, none⟩), undef, .int .i64 (x.1.2 : Int), t7, t8, t9, t10, t11, t12, t13, t14, t15, t16, t17, t18, .slice A xs.length cap, .func (.func 58) #[] #[.pointer (some ⟨Bs, 0, none⟩)], .bool x.1.1, .int .i64 (x.1.2 : Int), t23, t24, t25, t26, t27, undef, undef, undef, undef, undef, undef], defers := [] } W' := ⟨rfl, t23, t24, t25, t26, t27, v', rfl, hT, hr⟩
def PostF12 (w : World) (D Bs : Nat) (A : Option Addr) (xs : List Bool) (cap : Nat) (W : World) (c : Value) (t7 t8 t9 t10 t11 t12 t13 t14 t15 t16 t17 t18 : Value) (r : List Int) (e : Exit) (a' : Act) (W' : World) : Prop :=
  e = .normal ∧ ∃ t30 t31 t32 t33 v v', a' = { tmps := #[.slice A xs.length cap, undef, v', .pointer (some ⟨w.heap.size, 0, none⟩), .pointer (some ⟨w.heap.size + 1, 0, none⟩), undef, undef, t7, t8, t9, t10, t11, t12, t13, t14, t15, t16, t17, t18, .slice A xs.length cap, .func (.func 58) #[] #[.pointer (some ⟨Bs, 0, none⟩)], undef, undef, undef, undef, undef, undef, undef, undef, undef, t30, t31, t32, t33], defers := [{ target := .collected D, args := #[] }] } ∧ TB w.heap.size Bs 61 (.slice A xs.length cap) W W' v c ∧ (Kd.int .u8).R 5 W' w.heap.size (fun _ => True) v' r
theorem PostF12.intro {w : World} {D Bs : Nat} {A : Option Addr} {xs : List Bool} {cap : Nat} {W : World} {c : Value} {t7 t8 t9 t10 t11 t12 t13 t14 t15 t16 t17 t18 : Value} {r : List Int} {v v' : Value} {W' : World} (t30 t31 t32 t33 : Value) (_u : Unit) (hT : TB w.heap.size Bs 61 (.slice A xs.length cap) W W' v c) (hr : (Kd.int .u8).R 5 W' w.heap.size (fun _ => True) v' r) :
    PostF12 w D Bs A xs cap W c t7 t8 t9 t10 t11 t12 t13 t14 t15 t16 t17 t18 r .normal { tmps := #[.slice A xs.length cap, undef, v', .pointer (some ⟨w.heap.size, 0, none⟩), .pointer (some ⟨w.heap.size + 1, 0, none⟩), undef, undef, t7, t8, t9, t10, t11, t12, t13, t14, t15, t16, t17, t18, .slice A xs.length cap, .func (.func 58) #[] #[.pointer (some ⟨Bs, 0, none⟩)], undef, undef, undef, undef, undef, undef, undef, undef, undef, t30, t31, t32, t33], defers := [{ target := .collected D, args := #[] }] } W' := ⟨rfl, t30, t31, t32, t33, v, v', rfl, hT, hr⟩
def IF (n₀ Bs m0 : Nat) (f0 : List Int) (sl : Value) (w : World) (pre : List P58) (W : World) : Prop :=
  (∃ v, Boxed W n₀ 23 v ∧ W.ownsRow n₀ 5 1 v (f0 ++ flatB (pre.map (·.1))).length (encs (Value.int .u8) (f0 ++ flatB (pre.map (·.1)))) ∧ True) ∧ Boxed W (n₀ + 1) 22 (.int .u64 ((m0 + pre.length : Nat) : Int)) ∧ Boxed W Bs 61 sl ∧ Below n₀ w W
theorem IF_own (n₀ Bs m0 B : Nat) (f0 : List Int) (sl : Value) (w : World) (h1 : n₀ ≤ w.heap.size) (h2 : n₀ ≤ B) : OwnFrom B (IF n₀ Bs m0 f0 sl w) :=
  OwnFrom.and (Own.from (holdsRow_own n₀ n₀ 23 5 1 (fun pre : List P58 => (f0 ++ flatB (pre.map (·.1))).length) (fun pre => encs (Value.int .u8) (f0 ++ flatB (pre.map (·.1)))) (fun pre v => True)) _)
    (OwnFrom.and (Own.from (boxed_own (n₀ + 1) 22 (fun pre : List P58 => .int .u64 ((m0 + pre.length : Nat) : Int))) _) (OwnFrom.and (Own.from (boxed_own Bs 61 (fun _ => sl)) _) (ownFrom_below h1 h2)))

set_option maxRecDepth 100000 in
set_option maxHeartbeats 2000000 in
theorem Flags_in (n : Nat) (hn : 3 ≤ n) (A : Option Addr) (cap : Nat) (xs : List Bool) (hlen : xs.length ≤ 4398046511104) (w : World) (hr0 : Kd.bool.C w A xs.length xs) :
    CallsIn Fence.wide n Try.prog 42 #[.slice A xs.length cap] w fun e w' => ∃ v0_ : Value, e = .returned v0_ ∧ (Kd.int .u8).R 5 w' w.heap.size (fun _ => True) v0_ (flags xs) ∧ Below w.heap.size w w' := by
  refine callsIn_of_wp_marks Try.func42 rfl trivial ?_ rfl
  simp only [Try.ntmps42, List.size_toArray, List.length_cons, List.length_nil, Nat.reduceAdd, Nat.reduceSub, Array.replicate_succ, Array.replicate_zero, List.push_toArray, List.append_toArray, List.nil_append, List.cons_append]
  have h1 : 1 ≤ n := by omega
  by_cases hx : xs.length = 0
  · gi_wp2_with (refine ⟨trivial, ?_⟩; gi_at_call 15; refine (callsIn_wide.2 (leb_Uint.calls 10 0 (putU 0) _ (by have := LebP.uint_f (k := 10) (by omega) (a := 0) (by omega) (by omega); simpa using this))).mono ?_; rintro e w2 ⟨v0, rfl, hR, hb2⟩)
    obtain rfl : xs = [] := List.eq_nil_of_length_eq_zero hx
    exact ⟨_, results_tmp rfl _ _ _, v0, rfl, hR, hb2⟩
  · gi_wp2
    rename_i Kr hKr K1 hK1 K0 hK0
    have key : ∀ (W : World) (v : Value) (f0 : List Int) (m0 : Nat) (t7 t8 t9 t10 t11 t12 t13 t14 t15 t16 t17 t18 : Value), Boxed W w.heap.size 23 v → W.ownsRow w.heap.size 5 1 v f0.length (encs (Value.int .u8) f0) → Boxed W (w.heap.size + 1) 22 (.int .u64 (m0 : Int)) → Below w.heap.size w W → f0.length ≤ 1 → m0 ≤ 1 →
        flags xs = putU (m0 + (st xs).length) ++ (f0 ++ flatB (st xs)) → Kr { tmps := #[.slice A xs.length cap, undef, .slice none 0 0, .pointer (some ⟨w.heap.size, 0, none⟩), .pointer (some ⟨w.heap.size + 1, 0, none⟩), undef, undef, t7, t8, t9, t10, t11, t12, t13, t14, t15, t16, t17, t18, undef, undef, undef, undef, undef, undef, undef, undef, undef, undef, undef, undef, undef, undef, undef], defers := [] } W := by
      intro W v f0 m0 t7 t8 t9 t10 t11 t12 t13 t14 t15 t16 t17 t18 hv hrow hcn hB hf0 hm0 hspec
      refine hKr _ _ ?_
      clear hKr hK1 hK0
      have hWsz := hcn.lt
      gi_wp2_with (refine ⟨trivial, ?_⟩; gi_at_call 55; refine (mk58 (n - 1) A xs.length cap _).mono ?_; rintro e w' ⟨rfl, rfl⟩)
      obtain ⟨Bs, hBs⟩ : ∃ Bs, Bs = W.heap.size := ⟨_, rfl⟩
      have b3 := Boxed.new W 61 (.slice A xs.length cap)
      have hs3 : (W.alloc (.cells #[.slice A xs.length cap] 61)).heap.size = Bs + 1 := by rw [World.size_alloc, hBs]
      have hB0 : Below w.heap.size w (W.alloc (.cells #[.slice A xs.length cap] 61)) := hB.alloc (by omega) _
      replace hv := hv.alloc (.cells #[.slice A xs.length cap] 61)
      replace hcn := hcn.alloc (.cells #[.slice A xs.length cap] 61)
      replace hrow : (W.alloc (.cells #[.slice A xs.length cap] 61)).ownsRow w.heap.size 5 1 v f0.length (encs (Value.int .u8) f0) := hrow.alloc _
      rw [← hBs] at b3 ⊢
      obtain ⟨W0, hW0⟩ : ∃ W0, W.alloc (.cells #[.slice A xs.length cap] 61) = W0 := ⟨_, rfl⟩
      rw [hW0] at b3 hs3 hB0 hv hcn hrow ⊢
      have hle : w.heap.size + 2 ≤ Bs := by omega
      clear hBs hW0 hWsz hB
      refine wpIn_rangeFunc_ownG rfl h1 (gf := 58) (lb := #[.pointer (some ⟨Bs, 0, none⟩)]) rfl trivial (enters_of Try.func58 (by kernel_rfl) rfl)
        (stops58 (n - 1) Bs w.heap.size cap A xs (by omega) _ (by rw [hs3]; omega) (by rw [hs3]; omega) b3.cell (fun W' h => Kd.C_below hr0 (hB0.trans h)))
        (fun h k => h.trans k) (fun W l o o' hl => Kp.put (by rw [hs3]; omega) (by rw [hs3]; omega) W l o o' hl) (Below.refl _ _) (fun _ => rfl)
        (IF w.heap.size Bs m0 f0 (.slice A xs.length cap) w)
        (fun _ _ _ => False)
        (IF_own _ _ _ _ _ _ _ (Nat.le_refl _) (by rw [hs3]; omega))
        (fun _ _ _ _ _ hs _ _ => hs)
        ⟨⟨_, hv, by simpa [flatB] using hrow, trivial⟩, hcn, b3, hB0⟩
        (fun x => { tmps := #[.slice A xs.length cap, undef, .slice none 0 0, .pointer (some ⟨w.heap.size, 0, none⟩), .pointer (some ⟨w.heap.size + 1, 0, none⟩), undef, .int .i64 (x.1.2 : Int), t7, t8, t9, t10, t11, t12, t13, t14, t15, t16, t17, t18, .slice A xs.length cap, .func (.func 58) #[] #[.pointer (some ⟨Bs, 0, none⟩)], .bool x.1.1, .int .i64 (x.1.2 : Int), undef, undef, undef, undef, undef, undef, undef, undef, undef, undef, undef], defers := [] }) ?assign ?body ?done ?stop
      case assign =>
        intro l x W K hK
        simp only [enc58]
        gi_wp2
        exact hK
      case body =>
        rintro l pre x W ⟨⟨v, hv, hrow, _⟩, hcn, hbx, hB⟩ hlt
        have hxr := x.2
        have hu : leb_Uint.f 10 (IntKind.u64.wrap (x.1.2 : Int)) = some (putU x.1.2) := by
          rw [show IntKind.u64.wrap (x.1.2 : Int) = (x.1.2 : Int) by rw [IntKind.wrap_u64]; omega]
          have := LebP.uint_f (k := 10) (by omega) (a := (x.1.2 : Int)) (by omega) (by omega)
          simpa using this
        have hlu : (putU x.1.2).length ≤ 10 := putU_len64 (by omega)
        have hst := st_length xs
        have hpl : (flatB (pre.map (·.1))).length ≤ 10 * pre.length := flatB_len pre
        have hT : TB w.heap.size Bs 61 (.slice A xs.length cap) W W v (.int .u64 ((m0 + pre.length : Nat) : Int)) := ⟨by omega, hv, hcn, hbx, hbx, Below.refl _ _, KeepsOthers.refl _⟩
        gi_wp2
        refine wpIn_mono (Q := PostF10 w Bs A xs cap x (.int .u64 ((m0 + pre.length : Nat) : Int)) W t7 t8 t9 t10 t11 t12 t13 t14 t15 t16 t17 t18 (f0 ++ flatB (pre.map (·.1)) ++ putU x.1.2)) ?_ ?_
        · replace hrow : W.drew.ownsRow _ _ _ _ _ _ := hrow
          replace hT := hT.below (below_drewN' _ W 1)
          refine wpIn_region_any (by kernel_rfl) ?_
          change wpAnyIn _ _ _ _ _ _ _ _ _ (World.drew _)
          obtain ⟨W1, hW1⟩ : ∃ W1, W1 = W.drew := ⟨_, rfl⟩
          change TB _ _ _ _ _ (World.drew _) _ _ at hT
          rw [← hW1] at hT hrow ⊢
          clear hW1
          refine wpAnyIn_ready (rs := [0, 1]) (by kernel_rfl) (by simp) ?_
          refine AllReadyIn.cons rfl (fun K hK => ?_) ?_
          · have hcO := hT.out.cell
            go_simp
            refine hK _ _ ?_
            clear hK K hcO
            refine wpAnyIn_ready (rs := [1]) (by kernel_rfl) (by simp) ?_
            refine AllReadyIn.cons rfl (fun K hK => ?_) ?_
            · go_simp
              refine hK _ _ ?_
              clear hK K
              refine wpAnyIn_ready (rs := [2]) (by kernel_rfl) (by simp) ?_
              refine AllReadyIn.cons rfl (fun K hK => ?_) ?_
              · go_simp
                refine hK _ _ ?_
                clear hK K
                refine wpAnyIn_ready (rs := [3]) (by kernel_rfl) (by simp) ?_
                refine AllReadyIn.cons rfl (fun K hK => ?_) ?_
                · go_simp
                  refine ⟨trivial, fun hd => Bool.noConfusion (show false = true from hd), ?_⟩
                  refine (CallsIn.inRound l (callsIn_wide.2 (leb_Uint.calls 10 _ _ _ hu))).mono ?_
                  rintro e W2 ⟨v0, rfl, hR, hb2⟩
                  go_simp
                  replace hT := hT.below hb2
                  replace hrow := own_below hrow hb2
                  refine hK _ _ ?_
                  clear hK K
                  refine wpAnyIn_ready (rs := [4]) (by kernel_rfl) (by simp) ?_
                  refine AllReadyIn.cons rfl (fun K hK => ?_) ?_
                  · refine step_in (by intro c h; cases h) ?_
                    obtain ⟨A0, c0, rfl, hlc0, hC0⟩ := OwnRow.reads hR.2
                    refine Kd.R_append_rows_step (Kd.int .u8) (w0 := W) w.heap.size (by rfl) _ _ 23 5 (.int .u8 0) 1 rfl Try.underlying23 info5 rfl (by decide) (by omega) v _ _ A0 _ c0 (fun _ => True) (fun _ => False) rfl rfl (Kd.R_of_own hrow (fun _ _ => trivial)) hC0 (fun _ _ h => h) (fun _ h => h.elim) (fun _ _ => trivial) hT.bel (by have := hT.out.lt; omega) (by rw [Nat.mul_one]; simp only [List.length_append]; omega) ?_
                    intro v1 W3 ho3 hb3 hg3 _
                    obtain ⟨A3, n3, c3, rfl⟩ : ∃ A n c, v1 = .slice A n c := by
                      obtain ⟨A, c, e, _, _⟩ := OwnRow.reads ho3.2
                      exact ⟨A, _, c, e⟩
                    replace hT := hT.grown (by decide) hrow hg3
                    replace hrow := Kd.own_of_R ho3
                    refine hK _ _ ?_
                    clear hK K
                    refine wpAnyIn_ready (rs := [5]) (by kernel_rfl) (by simp) ?_
                    refine AllReadyIn.cons rfl (fun K hK => ?_) ?_
                    · have hcO := hT.out.cell
                      have hfO := hT.out.frozen
                      go_simp
                      replace hrow := own_setOutB hrow hT (.slice A3 n3 c3)
                      replace hT := hT.setOut (.slice A3 n3 c3)
                      refine hK _ _ ?_
                      clear hK K
                      refine wpAnyIn_done (by kernel_rfl) ?_ _
                      exact PostF10.intro _ _ _ _ _ _ hT hrow
                    exact AllReadyIn.nil
                  exact AllReadyIn.nil
                exact AllReadyIn.nil
              exact AllReadyIn.nil
            exact AllReadyIn.nil
          refine AllReadyIn.cons rfl (fun K hK => ?_) ?_
          · go_simp
            refine hK _ _ ?_
            clear hK K
            refine wpAnyIn_ready (rs := [0, 2]) (by kernel_rfl) (by simp) ?_
            refine AllReadyIn.cons rfl (fun K hK => ?_) ?_
            · have hcO := hT.out.cell
              go_simp
              refine hK _ _ ?_
              clear hK K hcO
              refine wpAnyIn_ready (rs := [2]) (by kernel_rfl) (by simp) ?_
              refine AllReadyIn.cons rfl (fun K hK => ?_) ?_
              · go_simp
                refine hK _ _ ?_
                clear hK K
                refine wpAnyIn_ready (rs := [3]) (by kernel_rfl) (by simp) ?_
                refine AllReadyIn.cons rfl (fun K hK => ?_) ?_
                · go_simp
                  refine ⟨trivial, fun hd => Bool.noConfusion (show false = true from hd), ?_⟩
                  refine (CallsIn.inRound l (callsIn_wide.2 (leb_Uint.calls 10 _ _ _ hu))).mono ?_
                  rintro e W2 ⟨v0, rfl, hR, hb2⟩
                  go_simp
                  replace hT := hT.below hb2
                  replace hrow := own_below hrow hb2
                  refine hK _ _ ?_
                  clear hK K
                  refine wpAnyIn_ready (rs := [4]) (by kernel_rfl) (by simp) ?_
                  refine AllReadyIn.cons rfl (fun K hK => ?_) ?_
                  · refine step_in (by intro c h; cases h) ?_
                    obtain ⟨A0, c0, rfl, hlc0, hC0⟩ := OwnRow.reads hR.2
                    refine Kd.R_append_rows_step (Kd.int .u8) (w0 := W) w.heap.size (by rfl) _ _ 23 5 (.int .u8 0) 1 rfl Try.underlying23 info5 rfl (by decide) (by omega) v _ _ A0 _ c0 (fun _ => True) (fun _ => False) rfl rfl (Kd.R_of_own hrow (fun _ _ => trivial)) hC0 (fun _ _ h => h) (fun _ h => h.elim) (fun _ _ => trivial) hT.bel (by have := hT.out.lt; omega) (by rw [Nat.mul_one]; simp only [List.length_append]; omega) ?_
                    intro v1 W3 ho3 hb3 hg3 _
                    obtain ⟨A3, n3, c3, rfl⟩ : ∃ A n c, v1 = .slice A n c := by
                      obtain ⟨A, c, e, _, _⟩ := OwnRow.reads ho3.2
                      exact ⟨A, _, c, e⟩
                    replace hT := hT.grown (by decide) hrow hg3
                    replace hrow := Kd.own_of_R ho3
                    refine hK _ _ ?_
                    clear hK K
                    refine wpAnyIn_ready (rs := [5]) (by kernel_rfl) (by simp) ?_
                    refine AllReadyIn.cons rfl (fun K hK => ?_) ?_
                    · have hcO := hT.out.cell
                      have hfO := hT.out.frozen
                      go_simp
                      replace hrow := own_setOutB hrow hT (.slice A3 n3 c3)
                      replace hT := hT.setOut (.slice A3 n3 c3)
                      refine hK _ _ ?_
                      clear hK K
                      refine wpAnyIn_done (by kernel_rfl) ?_ _
                      exact PostF10.intro _ _ _ _ _ _ hT hrow
                    exact AllReadyIn.nil
                  exact AllReadyIn.nil
                exact AllReadyIn.nil
              exact AllReadyIn.nil
            refine AllReadyIn.cons rfl (fun K hK => ?_) ?_
            · go_simp
              refine hK _ _ ?_
              clear hK K
              refine wpAnyIn_ready (rs := [0, 3]) (by kernel_rfl) (by simp) ?_
              refine AllReadyIn.cons rfl (fun K hK => ?_) ?_
              · have hcO := hT.out.cell
                go_simp
                refine hK _ _ ?_
                clear hK K hcO
                refine wpAnyIn_ready (rs := [3]) (by kernel_rfl) (by simp) ?_
                refine AllReadyIn.cons rfl (fun K hK => ?_) ?_
                · go_simp
                  refine ⟨trivial, fun hd => Bool.noConfusion (show false = true from hd), ?_⟩
                  refine (CallsIn.inRound l (callsIn_wide.2 (leb_Uint.calls 10 _ _ _ hu))).mono ?_
                  rintro e W2 ⟨v0, rfl, hR, hb2⟩
                  go_simp
                  replace hT := hT.below hb2
                  replace hrow := own_below hrow hb2
                  refine hK _ _ ?_
                  clear hK K
                  refine wpAnyIn_ready (rs := [4]) (by kernel_rfl) (by simp) ?_
                  refine AllReadyIn.cons rfl (fun K hK => ?_) ?_
                  · refine step_in (by intro c h; cases h) ?_
                    obtain ⟨A0, c0, rfl, hlc0, hC0⟩ := OwnRow.reads hR.2
                    refine Kd.R_append_rows_step (Kd.int .u8) (w0 := W) w.heap.size (by rfl) _ _ 23 5 (.int .u8 0) 1 rfl Try.underlying23 info5 rfl (by decide) (by omega) v _ _ A0 _ c0 (fun _ => True) (fun _ => False) rfl rfl (Kd.R_of_own hrow (fun _ _ => trivial)) hC0 (fun _ _ h => h) (fun _ h => h.elim) (fun _ _ => trivial) hT.bel (by have := hT.out.lt; omega) (by rw [Nat.mul_one]; simp only [List.length_append]; omega) ?_
                    intro v1 W3 ho3 hb3 hg3 _
                    obtain ⟨A3, n3, c3, rfl⟩ : ∃ A n c, v1 = .slice A n c := by
                      obtain ⟨A, c, e, _, _⟩ := OwnRow.reads ho3.2
                      exact ⟨A, _, c, e⟩
                    replace hT := hT.grown (by decide) hrow hg3
                    replace hrow := Kd.own_of_R ho3
                    refine hK _ _ ?_
                    clear hK K
                    refine wpAnyIn_ready (rs := [5]) (by kernel_rfl) (by simp) ?_
                    refine AllReadyIn.cons rfl (fun K hK => ?_) ?_
                    · have hcO := hT.out.cell
                      have hfO := hT.out.frozen
                      go_simp
                      replace hrow := own_setOutB hrow hT (.slice A3 n3 c3)
                      replace hT := hT.setOut (.slice A3 n3 c3)
                      refine hK _ _ ?_
                      clear hK K
                      refine wpAnyIn_done (by kernel_rfl) ?_ _
                      exact PostF10.intro _ _ _ _ _ _ hT hrow
                    exact AllReadyIn.nil
                  exact AllReadyIn.nil
                exact AllReadyIn.nil
              refine AllReadyIn.cons rfl (fun K hK => ?_) ?_
              · go_simp
                refine ⟨trivial, fun hd => Bool.noConfusion (show false = true from hd), ?_⟩
                refine (CallsIn.inRound l (callsIn_wide.2 (leb_Uint.calls 10 _ _ _ hu))).mono ?_
                rintro e W2 ⟨v0, rfl, hR, hb2⟩
                go_simp
                replace hT := hT.below hb2
                replace hrow := own_below hrow hb2
                refine hK _ _ ?_
                clear hK K
                refine wpAnyIn_ready (rs := [0]) (by kernel_rfl) (by simp) ?_
                refine AllReadyIn.cons rfl (fun K hK => ?_) ?_
                · have hcO := hT.out.cell
                  go_simp
                  refine hK _ _ ?_
                  clear hK K hcO
                  refine wpAnyIn_ready (rs := [4]) (by kernel_rfl) (by simp) ?_
                  refine AllReadyIn.cons rfl (fun K hK => ?_) ?_
                  · refine step_in (by intro c h; cases h) ?_
                    obtain ⟨A0, c0, rfl, hlc0, hC0⟩ := OwnRow.reads hR.2
                    refine Kd.R_append_rows_step (Kd.int .u8) (w0 := W) w.heap.size (by rfl) _ _ 23 5 (.int .u8 0) 1 rfl Try.underlying23 info5 rfl (by decide) (by omega) v _ _ A0 _ c0 (fun _ => True) (fun _ => False) rfl rfl (Kd.R_of_own hrow (fun _ _ => trivial)) hC0 (fun _ _ h => h) (fun _ h => h.elim) (fun _ _ => trivial) hT.bel (by have := hT.out.lt; omega) (by rw [Nat.mul_one]; simp only [List.length_append]; omega) ?_
                    intro v1 W3 ho3 hb3 hg3 _
                    obtain ⟨A3, n3, c3, rfl⟩ : ∃ A n c, v1 = .slice A n c := by
                      obtain ⟨A, c, e, _, _⟩ := OwnRow.reads ho3.2
                      exact ⟨A, _, c, e⟩
                    replace hT := hT.grown (by decide) hrow hg3
                    replace hrow := Kd.own_of_R ho3
                    refine hK _ _ ?_
                    clear hK K
                    refine wpAnyIn_ready (rs := [5]) (by kernel_rfl) (by simp) ?_
                    refine AllReadyIn.cons rfl (fun K hK => ?_) ?_
                    · have hcO := hT.out.cell
                      have hfO := hT.out.frozen
                      go_simp
                      replace hrow := own_setOutB hrow hT (.slice A3 n3 c3)
                      replace hT := hT.setOut (.slice A3 n3 c3)
                      refine hK _ _ ?_
                      clear hK K
                      refine wpAnyIn_done (by kernel_rfl) ?_ _
                      exact PostF10.intro _ _ _ _ _ _ hT hrow
                    exact AllReadyIn.nil
                  exact AllReadyIn.nil
                exact AllReadyIn.nil
              exact AllReadyIn.nil
            exact AllReadyIn.nil
          exact AllReadyIn.nil
        rintro e a' W4 ⟨rfl, t23, t24, t25, t26, t27, v'', rfl, hT, hrow⟩
        have hcN := hT.cnt.cell
        have hfN := hT.cnt.frozen
        gi_wp2
        have hk : IntKind.u64.wrap (((m0 + pre.length : Nat) : Int) + 1) = ((m0 + (pre ++ [x]).length : Nat) : Int) := by rw [IntKind.wrap_u64]; simp; omega
        have hk2 : (m0 : Int) + (pre.length : Int) + 1 = ((m0 + (pre ++ [x]).length : Nat) : Int) := by simp; omega
        try rw [hk]
        try rw [hk2]
        have hT2 := hT.setCnt (.int .u64 ((m0 + (pre ++ [x]).length : Nat) : Int))
        have hr2 := own_setCntB hrow hT (.int .u64 ((m0 + (pre ++ [x]).length : Nat) : Int))
        refine ⟨hT2.oth.from _, hT2.kp, ⟨_, hT2.out, ?_, trivial⟩, hT2.cnt, hT2.row, hB.trans hT2.bel⟩
        rw [List.map_append, List.map_cons, List.map_nil, flatB_snoc, ← List.append_assoc]
        exact hr2
      case done =>
        rintro D ys W hD hys ⟨⟨v, hv, hrow, _⟩, hcn, hbx, hB⟩ hK
        rw [hys] at hrow
        have hyl : ys.length = (st xs).length := by rw [← hys, List.length_map]
        have hst := st_length xs
        have hfl : (flatB (st xs)).length ≤ 10 * ys.length := by rw [← hys]; exact flatB_len ys
        rw [hyl] at hcn hfl
        have hT : TB w.heap.size Bs 61 (.slice A xs.length cap) W W v (.int .u64 ((m0 + (st xs).length : Nat) : Int)) := ⟨by omega, hv, hcn, hbx, hbx, Below.refl _ _, KeepsOthers.refl _⟩
        have hu : leb_Uint.f 10 ((m0 : Int) + ((st xs).length : Int)) = some (putU (m0 + (st xs).length)) := by
          have := LebP.uint_f (k := 10) (by omega) (a := (m0 : Int) + ((st xs).length : Int)) (by omega) (by omega)
          rw [this, show ((m0 : Int) + ((st xs).length : Int)).toNat = m0 + (st xs).length by omega]
        have hlu : (putU (m0 + (st xs).length)).length ≤ 10 := putU_len64 (by omega)
        gi_wp2
        refine wpIn_mono (Q := PostF12 w D Bs A xs cap W (.int .u64 ((m0 + (st xs).length : Nat) : Int)) t7 t8 t9 t10 t11 t12 t13 t14 t15 t16 t17 t18 (putU (m0 + (st xs).length) ++ (f0 ++ flatB (st xs)))) ?_ ?_
        · replace hrow : W.drew.ownsRow _ _ _ _ _ _ := hrow
          replace hT := hT.below (below_drewN' _ W 1)
          refine wpIn_region_any (by kernel_rfl) ?_
          change wpAnyIn _ _ _ _ _ _ _ _ _ (World.drew _)
          obtain ⟨W1, hW1⟩ : ∃ W1, W1 = W.drew := ⟨_, rfl⟩
          change TB _ _ _ _ _ (World.drew _) _ _ at hT
          rw [← hW1] at hT hrow ⊢
          clear hW1
          refine wpAnyIn_ready (rs := [0, 2]) (by kernel_rfl) (by simp) ?_
          refine AllReadyIn.cons rfl (fun K hK' => ?_) ?_
          · have hcO := hT.cnt.cell
            go_simp
            refine hK' _ _ ?_
            clear hK' K hcO
            refine wpAnyIn_ready (rs := [1, 2]) (by kernel_rfl) (by simp) ?_
            refine AllReadyIn.cons rfl (fun K hK' => ?_) ?_
            · go_simp
              refine ⟨trivial, ?_⟩
              refine ((callsIn_wide.2 (leb_Uint.calls 10 _ _ _ hu))).mono ?_
              rintro e W2 ⟨v0, rfl, hR, hb2⟩
              go_simp
              have hsz1 := hT.out.lt
              replace hT := hT.below hb2
              have hrow0 := Kd.own_of_R (Kd.R_lower hR (by omega) (base' := w.heap.size))
              replace hrow := own_below hrow hb2
              refine hK' _ _ ?_
              clear hK' K
              refine wpAnyIn_ready (rs := [2]) (by kernel_rfl) (by simp) ?_
              refine AllReadyIn.cons rfl (fun K hK' => ?_) ?_
              · have hcO := hT.out.cell
                go_simp
                refine hK' _ _ ?_
                clear hK' K hcO
                refine wpAnyIn_ready (rs := [3]) (by kernel_rfl) (by simp) ?_
                refine AllReadyIn.cons rfl (fun K hK' => ?_) ?_
                · refine step_wide (by intro c h; cases h) ?_
                  obtain ⟨A0, c0, rfl, hlc0, hC0⟩ := OwnRow.reads (Kd.R_of_own (h1 := fun _ => rfl) hrow (fun _ _ => trivial) (ok := fun _ => True)).2
                  refine Kd.R_append_rows_step (Kd.int .u8) (w0 := W) w.heap.size (by rfl) _ _ 23 5 (.int .u8 0) 1 rfl Try.underlying23 info5 rfl (by decide) (by omega) v0 _ _ A0 _ c0 (fun _ => True) (fun _ => False) rfl rfl (Kd.R_of_own hrow0 (fun _ _ => trivial)) hC0 (fun _ _ h => h) (fun _ h => h.elim) (fun _ _ => trivial) hT.bel (by have := hT.out.lt; omega) (by rw [Nat.mul_one]; simp only [List.length_append]; omega) ?_
                  intro v1 W3 ho3 hb3 hg3 _
                  replace hT := hT.grown (by decide) hrow0 hg3
                  refine hK' _ _ ?_
                  clear hK' K
                  refine wpAnyIn_ready (rs := [4]) (by kernel_rfl) (by simp) ?_
                  refine AllReadyIn.cons rfl (fun K hK' => ?_) ?_
                  · go_simp
                    refine hK' _ _ ?_
                    clear hK' K
                    refine wpAnyIn_done (by kernel_rfl) ?_ _
                    exact PostF12.intro _ _ _ _ () hT ho3
                  exact AllReadyIn.nil
                exact AllReadyIn.nil
              exact AllReadyIn.nil
            refine AllReadyIn.cons rfl (fun K hK' => ?_) ?_
            · have hcO := hT.out.cell
              go_simp
              refine hK' _ _ ?_
              clear hK' K hcO
              refine wpAnyIn_ready (rs := [1]) (by kernel_rfl) (by simp) ?_
              refine AllReadyIn.cons rfl (fun K hK' => ?_) ?_
              · go_simp
                refine ⟨trivial, ?_⟩
                refine ((callsIn_wide.2 (leb_Uint.calls 10 _ _ _ hu))).mono ?_
                rintro e W2 ⟨v0, rfl, hR, hb2⟩
                go_simp
                have hsz1 := hT.out.lt
                replace hT := hT.below hb2
                have hrow0 := Kd.own_of_R (Kd.R_lower hR (by omega) (base' := w.heap.size))
                replace hrow := own_below hrow hb2
                refine hK' _ _ ?_
                clear hK' K
                refine wpAnyIn_ready (rs := [3]) (by kernel_rfl) (by simp) ?_
                refine AllReadyIn.cons rfl (fun K hK' => ?_) ?_
                · refine step_wide (by intro c h; cases h) ?_
                  obtain ⟨A0, c0, rfl, hlc0, hC0⟩ := OwnRow.reads (Kd.R_of_own (h1 := fun _ => rfl) hrow (fun _ _ => trivial) (ok := fun _ => True)).2
                  refine Kd.R_append_rows_step (Kd.int .u8) (w0 := W) w.heap.size (by rfl) _ _ 23 5 (.int .u8 0) 1 rfl Try.underlying23 info5 rfl (by decide) (by omega) v0 _ _ A0 _ c0 (fun _ => True) (fun _ => False) rfl rfl (Kd.R_of_own hrow0 (fun _ _ => trivial)) hC0 (fun _ _ h => h) (fun _ h => h.elim) (fun _ _ => trivial) hT.bel (by have := hT.out.lt; omega) (by rw [Nat.mul_one]; simp only [List.length_append]; omega) ?_
                  intro v1 W3 ho3 hb3 hg3 _
                  replace hT := hT.grown (by decide) hrow0 hg3
                  refine hK' _ _ ?_
                  clear hK' K
                  refine wpAnyIn_ready (rs := [4]) (by kernel_rfl) (by simp) ?_
                  refine AllReadyIn.cons rfl (fun K hK' => ?_) ?_
                  · go_simp
                    refine hK' _ _ ?_
                    clear hK' K
                    refine wpAnyIn_done (by kernel_rfl) ?_ _
                    exact PostF12.intro _ _ _ _ () hT ho3
                  exact AllReadyIn.nil
                exact AllReadyIn.nil
              exact AllReadyIn.nil
            exact AllReadyIn.nil
          refine AllReadyIn.cons rfl (fun K hK' => ?_) ?_
          · have hcO := hT.out.cell
            go_simp
            refine hK' _ _ ?_
            clear hK' K hcO
            refine wpAnyIn_ready (rs := [0]) (by kernel_rfl) (by simp) ?_
            refine AllReadyIn.cons rfl (fun K hK' => ?_) ?_
            · have hcO := hT.cnt.cell
              go_simp
              refine hK' _ _ ?_
              clear hK' K hcO
              refine wpAnyIn_ready (rs := [1]) (by kernel_rfl) (by simp) ?_
              refine AllReadyIn.cons rfl (fun K hK' => ?_) ?_
              · go_simp
                refine ⟨trivial, ?_⟩
                refine ((callsIn_wide.2 (leb_Uint.calls 10 _ _ _ hu))).mono ?_
                rintro e W2 ⟨v0, rfl, hR, hb2⟩
                go_simp
                have hsz1 := hT.out.lt
                replace hT := hT.below hb2
                have hrow0 := Kd.own_of_R (Kd.R_lower hR (by omega) (base' := w.heap.size))
                replace hrow := own_below hrow hb2
                refine hK' _ _ ?_
                clear hK' K
                refine wpAnyIn_ready (rs := [3]) (by kernel_rfl) (by simp) ?_
                refine AllReadyIn.cons rfl (fun K hK' => ?_) ?_
                · refine step_wide (by intro c h; cases h) ?_
                  obtain ⟨A0, c0, rfl, hlc0, hC0⟩ := OwnRow.reads (Kd.R_of_own (h1 := fun _ => rfl) hrow (fun _ _ => trivial) (ok := fun _ => True)).2
                  refine Kd.R_append_rows_step (Kd.int .u8) (w0 := W) w.heap.size (by rfl) _ _ 23 5 (.int .u8 0) 1 rfl Try.underlying23 info5 rfl (by decide) (by omega) v0 _ _ A0 _ c0 (fun _ => True) (fun _ => False) rfl rfl (Kd.R_of_own hrow0 (fun _ _ => trivial)) hC0 (fun _ _ h => h) (fun _ h => h.elim) (fun _ _ => trivial) hT.bel (by have := hT.out.lt; omega) (by rw [Nat.mul_one]; simp only [List.length_append]; omega) ?_
                  intro v1 W3 ho3 hb3 hg3 _
                  replace hT := hT.grown (by decide) hrow0 hg3
                  refine hK' _ _ ?_
                  clear hK' K
                  refine wpAnyIn_ready (rs := [4]) (by kernel_rfl) (by simp) ?_
                  refine AllReadyIn.cons rfl (fun K hK' => ?_) ?_
                  · go_simp
                    refine hK' _ _ ?_
                    clear hK' K
                    refine wpAnyIn_done (by kernel_rfl) ?_ _
                    exact PostF12.intro _ _ _ _ () hT ho3
                  exact AllReadyIn.nil
                exact AllReadyIn.nil
              exact AllReadyIn.nil
            exact AllReadyIn.nil
          exact AllReadyIn.nil
        rintro e a' W4 ⟨rfl, t30, t31, t32, t33, v2, v', rfl, hT, hr⟩
        rw [← hspec] at hr
        gi_wp2
        have hK4 := hT.oth.same D _ hK rfl
        refine ⟨by simp, .inl ⟨_, _, rfl, run_takeDeferred hK4, ?_⟩⟩
        refine ⟨_, results_tmp rfl _ _ _, v', rfl, Kd.R_of_own (ownsRow_putObj (Kd.own_of_R hr) _ hK4 rfl) (fun _ _ => trivial), (hB.trans hT.bel).trans (belowK_b (w := w) (Nat.le_refl _) W4 D _ _ (by rw [hs3] at hD; omega) hK4 rfl rfl)⟩
      case stop =>
        rintro D c pre W _ _ h _
        exact h.elim
    clear hKr
    have b1 := Boxed.new w 23 (.slice none 0 0)
    have b2 := Boxed.new (w.alloc (.cells #[.slice none 0 0] 23)) 22 (.int .u64 0)
    rw [World.size_alloc] at b2
    have hB0 : Below w.heap.size w ((w.alloc (.cells #[.slice none 0 0] 23)).alloc (.cells #[.int .u64 0] 22)) := ((Below.refl _ w).alloc (Nat.le_refl _) _).alloc (by simp) _
    obtain ⟨b, t, rfl⟩ : ∃ b t, xs = b :: t := by
      cases xs with
      | nil => exact absurd rfl hx
      | cons b t => exact ⟨b, t, rfl⟩
    have hcc : ∃ ad, A = some ad ∧ ((w.alloc (.cells #[.slice none 0 0] 23)).alloc (.cells #[.int .u64 0] 22)).cell? ad = some (.bool b) := by
      obtain ⟨ad, c1, hA, hc1, hK1, hcell1⟩ := Kd.C_get (Kd.C_below hr0 hB0) false (0 : Int) (by omega) (by simp)
      obtain rfl : c1 = [.bool ((b :: t).getD (0 : Int).toNat false)] := hK1
      have := hcell1 0 _ rfl
      simp [Addr.add] at this
      exact ⟨ad, hA, by simpa using this⟩
    obtain ⟨ad, rfl, hcad⟩ := hcc
    have hlen0 : (b :: t).length = t.length + 1 := rfl
    cases b with
    | false =>
      go_simp
      gi_wp2
      exact key _ _ [] 0 _ _ _ _ _ _ _ _ _ _ _ _ (b1.alloc _) (World.ownsRow_nil _ _ _ _) b2 hB0 (by simp) (by simp) (by simp [flags])
    | true =>
      obtain ⟨i0, hi, hz0, hz1, hz2⟩ := info_parts info5
      have b1' := b1.alloc (.cells #[.int .u64 0] 22)
      obtain ⟨W1, hW1⟩ : ∃ W1, W1 = (w.alloc (.cells #[.slice none 0 0] 23)).alloc (.cells #[.int .u64 0] 22) := ⟨_, rfl⟩
      rw [← hW1] at b1' b2 hB0 hcad ⊢
      clear hW1 b1
      obtain ⟨v, hv, hrow⟩ : ∃ v, Boxed W1 w.heap.size 23 v ∧ W1.ownsRow w.heap.size 5 1 v 0 [] := ⟨_, b1', World.ownsRow_nil _ _ _ _⟩
      clear b1'
      have hc := hv.cell
      have hsz := b2.lt
      have hne := hv.not_row (by decide) hrow
      have hne2 := b2.not_row (by decide) hrow
      go_simp
      gi_wp2_with (gi_at_builtin; refine wpListIn_append_own _ rfl _ _ 23 rfl w.heap.size 5 i0 (.int .u8 0) 1 1 Try.underlying23 hi hz0 hz1 hz2 rfl (by decide) _ 0 [] rfl (hrow.alloc _) ⟨W1.heap.size, 0, none⟩ 1 1 [.int .u8 0] rfl rfl (cell_one_new _ _ _) (by simp [Value.oneCell']) (by decide) (by decide) (by simp; omega) ?_; intro v' w1 hown' hgrow _; obtain ⟨g', cap', rfl⟩ := ownsRow_succ hown'; obtain ⟨hv1, hv2, hr2, hk2, hb2⟩ := hv.appended (by decide) hrow (by omega) (Nat.le_refl _) hown' hgrow; have hc1 := hv1.cell; have hf1 := hv1.frozen; have c1 := (b2.alloc (.cells #[.int .u8 0] 5)).kept hgrow hne2; have c2 := c1.other (B' := w.heap.size) (by omega) (.slice (some ⟨g', 0, none⟩) (0 + 1) cap'); have hcn := c2.cell; have hfn := c2.frozen)
      have hr3 := hr2.kept (grownBy_setCell' _ (w.heap.size + 1) (.int .u64 1)) (.inr (c2.not_row (by decide) hr2).symm)
      exact key _ _ [0] 1 _ _ _ _ _ _ _ _ _ _ _ _ (hv2.other (by omega) _) hr3 (c2.set _) ((hB0.trans hb2).setCell (p := ⟨w.heap.size + 1, 0, none⟩) (Nat.le_succ _) _) (by simp) (by simp) (by simp [flags, Nat.add_comm])
end Go.Proofs.Ytcffooeiennmjaa.ColS
namespace Go.Proofs.Ytcffooeiennmjaa.PA
open Go.RowKit Go.Proofs.YtcffooeiennmjaaW.PrintWords
def column_Runs.f (l : List Int) : Option (List Int) :=
  if l.length ≤ 4398046511104 ∧ (l.all fun x => (Lit.int .i64 x).wf) = true then some (ColS.runs l) else none
theorem column_Runs.calls (A0 : Option Addr) (c0 : Nat) (l0 : List Int) (r : List Int) (w : World) (hr0 : Kd.C (Kd.int .i64) w A0 l0.length l0) (hc0 : l0.length ≤ c0) (h : column_Runs.f l0 = some r) :
    Calls Try.prog 38 #[.slice A0 l0.length c0] w fun e w' => ∃ v0_ : Value, e = .returned (v0_) ∧ Kd.R (Kd.int .u8) 5 w' w.heap.size (fun _ => True) v0_ r ∧ Below w.heap.size w w' := by
  unfold column_Runs.f at h
  split at h
  · rename_i hc
    obtain rfl := Option.some.inj h
    exact callsIn_wide.1 (ColS.Runs_in 3 (Nat.le_refl _) A0 c0 l0 hc.1 (fun x hx => List.all_eq_true.1 hc.2 x hx) w hr0)
  · cases h
def column_Flags.f (l : List Bool) : Option (List Int) :=
  if l.length ≤ 4398046511104 then some (ColS.flags l) else none
theorem column_Flags.calls (A0 : Option Addr) (c0 : Nat) (l0 : List Bool) (r : List Int) (w : World) (hr0 : Kd.C Kd.bool w A0 l0.length l0) (hc0 : l0.length ≤ c0) (h : column_Flags.f l0 = some r) :
    Calls Try.prog 42 #[.slice A0 l0.length c0] w fun e w' => ∃ v0_ : Value, e = .returned (v0_) ∧ Kd.R (Kd.int .u8) 5 w' w.heap.size (fun _ => True) v0_ r ∧ Below w.heap.size w w' := by
  unfold column_Flags.f at h
  split at h
  · rename_i hc
    obtain rfl := Option.some.inj h
    exact callsIn_wide.1 (ColS.Flags_in 3 (Nat.le_refl _) A0 c0 l0 hc w hr0)
  · cases h
end Go.Proofs.Ytcffooeiennmjaa.PA

-- Written by a program of this session (wip/tools/myprint.py), out of the translation's print. Lean checks it.
namespace Go.Proofs.Ytcffooeiennmjaa.PA
open Go.RowKit Go.Proofs.YtcffooeiennmjaaW.PrintWords Go.Proofs.YtcffooeiennmjaaW.PrintLast Go.Proofs.YtcffooeiennmjaaW.PrintMore
attribute [local go_sem] max2_int min2_int max_two min_two max_three min_three max_four min_four   -- for this text's walks alone
set_option linter.unusedVariables false
set_option linter.unusedSimpArgs false

/-! ### column_Deltas: function 40 -/
def column_Deltas.l0 : Nat → List Int → List Int → List Int → Int → Int → Option (List Int)
  | 0, _, _, _, _, _ => none
  | k + 1, x0, x3, x9, x10, x11 => if x11 < x10 then (if 0 ≤ x11 then (if x11 < (x9.length : Int) then (if x11 < (x3.length : Int) then ((some (x3.set (x11 : Int).toNat (rd x9 x11) : List Int)).bind fun y404 => (if x11 > 0 then (if 0 ≤ (wrap64 (x11 - 1)) then (if (wrap64 (x11 - 1)) < (x0.length : Int) then (column_Deltas.l0 k x0 (y404.set (x11 : Int).toNat (wrap64 ((rd y404 x11) - (rd x0 (wrap64 (x11 - 1)))))) x9 x10 (wrap64 (x11 + 1))) else (none)) else (none)) else (column_Deltas.l0 k x0 y404 x9 x10 (wrap64 (x11 + 1))))) else (none)) else (none)) else (none)) else ((column_Runs.f x3).bind fun t408 => (some t408))
def column_Deltas.f (k : Nat) (l0 : List Int) : Option (List Int) := if 0 ≤ (l0.length : Int) then (if ((l0.length : Int) : Int).toNat ≤ 35184372088832 then (column_Deltas.l0 k l0 (List.replicate ((l0.length : Int) : Int).toNat 0) l0 (l0.length : Int) 0) else (none)) else (none)
theorem column_Deltas.mono_l : ∀ k, (∀ y0 y1 y2 y3 y4, LeO (column_Deltas.l0 k y0 y1 y2 y3 y4) (column_Deltas.l0 (k + 1) y0 y1 y2 y3 y4))
  | 0 => fun _ _ _ _ _ r h => by simp [column_Deltas.l0] at h
  | k + 1 => by
    have ih0 := column_Deltas.mono_l k
    · intro y0 y1 y2 y3 y4
      unfold column_Deltas.l0
      repeat' first
      | (with_reducible exact ih0 _ _ _ _ _)
      | (with_reducible exact LeO.refl _)
      | (with_reducible exact LeO.none _)
      | (with_reducible refine LeO.ite ?_ ?_)
      | (with_reducible refine LeO.bind ?_ (fun _ => ?_))
      | exact ih0 _ _ _ _ _
      | exact LeO.none _
      | refine LeO.ite ?_ ?_
      | refine LeO.bind ?_ (fun _ => ?_)
theorem column_Deltas.mono : ∀ a0 k, LeO (column_Deltas.f k a0) (column_Deltas.f (k + 1) a0) := by
  intro a0 k
  have ih0 := column_Deltas.mono_l k
  unfold column_Deltas.f
  repeat' first
      | (with_reducible exact ih0 _ _ _ _ _)
      | (with_reducible exact LeO.refl _)
      | (with_reducible exact LeO.none _)
      | (with_reducible refine LeO.ite ?_ ?_)
      | (with_reducible refine LeO.bind ?_ (fun _ => ?_))
      | exact ih0 _ _ _ _ _
      | exact LeO.none _
      | refine LeO.ite ?_ ?_
      | refine LeO.bind ?_ (fun _ => ?_)
def column_Deltas.T7 : Bool × List (List Nat × List Nat) := (true, [([], []), ([], []), ([0, 1], [0, 1]), ([2], [2]), ([], []), ([], []), ([5], [5]), ([4, 6], [4, 6]), ([7], [7]), ([3, 8], [3, 8]), ([0, 1, 0, 1, 2, 3, 4, 5, 6, 7, 8, 9], [0, 1]), ([10, 9, 0, 1, 2, 3, 4, 5, 6, 7, 8, 9], [9, 10])])
def column_Deltas.B7 : List Nat := [0, 0, 3, 7, 0, 0, 32, 112, 240, 511, 1023, 2047]
theorem column_Deltas.tab7 : rtab .any (opsOf Try.f40 7) = column_Deltas.T7 := by kernel_rfl
theorem column_Deltas.bits7 : waitsOk column_Deltas.T7.2 column_Deltas.B7 = true := by kernel_rfl
set_option maxHeartbeats 8000000 in
set_option maxRecDepth 100000 in
theorem column_Deltas.calls (k : Nat) (A0 : Option Addr) (c0 : Nat) (l0 : List Int) (r : List Int) (w : World) (hr0 : Kd.C (Kd.int .i64) w A0 l0.length l0) (hc0 : l0.length ≤ c0) (h : column_Deltas.f k l0 = some r) :
    Calls Try.prog 40 #[.slice A0 l0.length c0] w fun e w' => ∃ v0_ : Value, e = .returned (v0_) ∧ Kd.R (Kd.int .u8) 5 w' w.heap.size (fun _ => True) v0_ r ∧ Below w.heap.size w w' := by
  have HR0 := Aside0.mk hr0
  have HC0 := Aside0.mk hc0
  clear hr0 hc0
  have HB := Aside0.mk (Below.refl w.heap.size w)
  have H : (if 0 ≤ (l0.length : Int) then (if ((l0.length : Int) : Int).toNat ≤ 35184372088832 then (column_Deltas.l0 k l0 (List.replicate ((l0.length : Int) : Int).toNat 0) l0 (l0.length : Int) 0) else (none)) else (none)) = some r := h
  clear h
  by_cases c2 : 0 ≤ (l0.length : Int)
  · rw [if_pos c2] at H
    have c2b0 := eq_true c2
    have c2b1 : decide (0 ≤ (l0.length : Int)) = true := decide_eq_true c2
    clear c2
    by_cases c3 : ((l0.length : Int) : Int).toNat ≤ 35184372088832
    · rw [if_pos c3] at H
      have c3b0 := eq_true c3
      have c3b1 : decide (((l0.length : Int) : Int).toNat ≤ 35184372088832) = true := decide_eq_true c3
      clear c3
      obtain ⟨y400, hy400⟩ : ∃ y_ : List Int, y_ = (List.replicate ((l0.length : Int) : Int).toNat 0) := ⟨_, rfl⟩
      replace H : (column_Deltas.l0 k l0 y400 l0 (l0.length : Int) 0) = some r := by first | (rw [hy400]; with_reducible exact H) | (have H2_ := (Option.bind_some _ _).symm.trans H; rw [hy400]; with_reducible exact H2_) | (have H2_ := (Option.bind_some _ _).symm.trans H; with_reducible exact H2_) | with_reducible exact H | (rw [hy400]; exact H) | exact H
      have Ny400 := Aside0.mk hy400
      clear hy400
      have H' := Aside0.mk H
      clear H
      go_enter Try.func40, Try.ntmps40
      go_wp2_with (first | ((with_reducible refine gate_dst (N := 8) rfl ?_); refine Kd.R_make (Kd.int .i64) _ 2 rfl (N := 8) rfl 40 _ _ rfl (l0.length : Int) rfl rfl Try.underlying40 (.int .i64 0) 8 info2 rfl (by decide) (by omega) 0 (ok := fun _ => True) (okp := fun _ => True) rfl (fun _ hk => hk) trivial (of_decide_eq_true (by first | (with_reducible assumption) | assumption)) (Nat.le_trans (Nat.mul_le_mul_right _ (of_decide_eq_true (by first | (with_reducible assumption) | assumption) : (l0.length : Int).toNat ≤ 35184372088832)) (by omega)) (Below.refl _ _) (Nat.le_refl _) ?_; intro v401 w4 ho5 hb hg_ hnew_; clear hg_ hnew_; (first | rw [← Ny400.out] at ho5 | (simp only [Int.reduceToNat] at ho5; rw [← Ny400.out] at ho5)); have n0_ := Aside0.mk (Kd.R_lower ho5 (below_size (by repeat (first | (with_reducible first | exact HB.out | apply below_alloc | apply pw_below_drewN | apply below_drew1) | exact HB.out)))); have n1_ := Aside0.mk (below_step (by repeat (first | (with_reducible first | exact HB.out | apply below_alloc | apply pw_below_drewN | apply below_drew1) | exact HB.out)) hb); clear HB; have HO402 := n0_; have HB := n1_; clear n0_ n1_; clear hb ho5))
      go_loopg [11] k (fun kq v11 w' => ∃ (x3_1 : List Int) (x11_1 : Int), v11 = .int .i64 x11_1 ∧ Aside0 (column_Deltas.l0 kq l0 x3_1 l0 (l0.length : Int) x11_1 = some r) ∧ Aside0 (kq ≤ k) ∧ Aside0 (Kd.R (Kd.int .i64) 2 w' w.heap.size (fun _ => True) v401 x3_1) ∧ Aside0 (Below w.heap.size w w'))
      case atStart => exact ⟨(y400), (0), (by first | rfl | (simp; done) | (simp [*]; done)), H', ⟨Nat.le_refl _⟩, ⟨by (with_reducible repeat (first | apply Kd.R_alloc | apply Kd.R_drewN | apply Kd.R_drew)); exact HO402.out⟩, ⟨by repeat (first | (with_reducible first | exact HB.out | apply below_alloc | apply pw_below_drewN | apply below_drew1) | exact HB.out)⟩⟩
      case round =>
        clear H'
        try clear c2
        try clear c2b0
        try clear c2b1
        try clear p2
        try clear c3
        try clear c3b0
        try clear c3b1
        try clear c4
        obtain ⟨x3_1, x11_1, rfl, HA, HK1, HO_3, HB⟩ := hrel
        cases gk with
        | zero => exact absurd HA.out (by simp [column_Deltas.l0])
        | succ k1 =>
          have H := HA.out
          clear HA
          simp only [column_Deltas.l0] at H
          by_cases c6 : x11_1 < (l0.length : Int)
          · rw [if_pos c6] at H
            have c6b0 : decide (x11_1 < (l0.length : Int)) = true := decide_eq_true c6
            clear c6
            by_cases c7 : 0 ≤ x11_1
            · rw [if_pos c7] at H
              have c7b0 : decide (0 ≤ x11_1) = true := decide_eq_true c7
              clear c7
              by_cases c8 : x11_1 < (l0.length : Int)
              · rw [if_pos c8] at H
                have c8b0 : decide (x11_1 < (l0.length : Int)) = true := decide_eq_true c8
                clear c8
                by_cases c9 : x11_1 < (x3_1.length : Int)
                · rw [if_pos c9] at H
                  have c9b0 : decide (x11_1 < (x3_1.length : Int)) = true := decide_eq_true c9
                  clear c9
                  obtain ⟨y404, hy404⟩ : ∃ y_ : List Int, y_ = (x3_1.set (x11_1 : Int).toNat (rd l0 x11_1)) := ⟨_, rfl⟩
                  replace H : (if x11_1 > 0 then (if 0 ≤ (wrap64 (x11_1 - 1)) then (if (wrap64 (x11_1 - 1)) < (l0.length : Int) then (column_Deltas.l0 k1 l0 (y404.set (x11_1 : Int).toNat (wrap64 ((rd y404 x11_1) - (rd l0 (wrap64 (x11_1 - 1)))))) l0 (l0.length : Int) (wrap64 (x11_1 + 1))) else (none)) else (none)) else (column_Deltas.l0 k1 l0 y404 l0 (l0.length : Int) (wrap64 (x11_1 + 1)))) = some r := by first | (rw [hy404]; with_reducible exact H) | (have H2_ := (Option.bind_some _ _).symm.trans H; rw [hy404]; with_reducible exact H2_) | (have H2_ := (Option.bind_some _ _).symm.trans H; with_reducible exact H2_) | with_reducible exact H | (rw [hy404]; exact H) | exact H
                  have Ny404 := Aside0.mk hy404
                  clear hy404
                  by_cases c11 : x11_1 > 0
                  · rw [if_pos c11] at H
                    have c11b0 : decide (0 < x11_1) = true := decide_eq_true c11
                    clear c11
                    obtain ⟨ji12, hji12⟩ : ∃ j_ : Int, (wrap64 (x11_1 - 1)) = j_ := ⟨_, rfl⟩
                    replace H : (if 0 ≤ (ji12) then (if (ji12) < (l0.length : Int) then (column_Deltas.l0 k1 l0 (y404.set (x11_1 : Int).toNat (wrap64 ((rd y404 x11_1) - (rd l0 (ji12))))) l0 (l0.length : Int) (wrap64 (x11_1 + 1))) else (none)) else (none)) = some r := by first | (rw [hji12] at H; exact H) | (simp only [hji12] at H ⊢; exact H)
                    have hji12w : (IntKind.i64.wrap (x11_1 - 1)) = ji12 := (i64_w _).trans hji12
                    by_cases c13 : 0 ≤ (ji12)
                    · rw [if_pos c13] at H
                      have c13b0 : decide (0 ≤ (ji12)) = true := decide_eq_true c13
                      clear c13
                      by_cases c14 : (ji12) < (l0.length : Int)
                      · rw [if_pos c14] at H
                        have c14b0 : decide ((ji12) < (l0.length : Int)) = true := decide_eq_true c14
                        clear c14
                        obtain ⟨y407, hy407⟩ : ∃ y_ : List Int, y_ = (y404.set (x11_1 : Int).toNat (wrap64 ((rd y404 x11_1) - (rd l0 (ji12))))) := ⟨_, rfl⟩
                        replace H : (column_Deltas.l0 k1 l0 y407 l0 (l0.length : Int) (wrap64 (x11_1 + 1))) = some r := by first | (rw [hy407]; with_reducible exact H) | (have H2_ := (Option.bind_some _ _).symm.trans H; rw [hy407]; with_reducible exact H2_) | (have H2_ := (Option.bind_some _ _).symm.trans H; with_reducible exact H2_) | with_reducible exact H | (rw [hy407]; exact H) | exact H
                        have Ny407 := Aside0.mk hy407
                        clear hy407
                        have H' := Aside0.mk H
                        clear H
                        have p403 : 0 ≤ (x11_1 : Int) := of_decide_eq_true (by first | (with_reducible assumption) | assumption)
                        have q403 : x11_1 < (l0.length : Int) := of_decide_eq_true (by first | (with_reducible assumption) | assumption)
                        obtain ⟨ad403, e403, hx403_0⟩ := Kd.at_int HR0.out x11_1 p403 q403
                        cases e403
                        replace hx403_0 := (HB.out.cell (World.block_lt_of_cell? w _ hx403_0)).trans hx403_0
                        replace p403 := eq_true p403
                        replace q403 := eq_true q403
                        have p10 : 0 ≤ (x11_1 : Int) := of_decide_eq_true (by first | (with_reducible assumption) | assumption)
                        have q10 : (x11_1 : Int) < ((x3_1.length : Int) : Int) := of_decide_eq_true (by first | (with_reducible assumption) | assumption)
                        obtain ⟨go10, co10, eo10, gb10, gl10, cl10, HG10⟩ := Kd.R_form HO_3.out (by omega)
                        (first | cases eo10 | (injection eo10 with ea_ en_ ec_; (first | subst ea_ | (injection ea_ with ea_; subst ea_)); subst ec_; clear en_))
                        have GB10 := Aside0.mk gb10
                        have GG10 := Aside0.mk HG10
                        clear gb10 gl10 HG10
                        obtain ⟨hx10_0, hf10_0⟩ := Kd.R_celln 0 HO_3.out (x11_1 : Int) p10 q10
                        replace p10 := eq_true p10
                        replace q10 := eq_true q10
                        have HP16 := Kd.R_putg HO_3.out (x11_1 : Int) (rd l0 x11_1)
                        try go_wp2_with (first | ((with_reducible refine gate_store (t := 2) (p := 19) rfl ?_); refine store_event (t := 2) (p := 19) (v := ?vo_w17) (w1 := (wr.setCell ⟨go10, (x11_1 : Int).toNat, none⟩ (.int .i64 (rd l0 x11_1)))) ?hg ?ho ?hn ?hr ?_; (case ho => rfl); (case hg => rfl); (case hn => rfl); (case hr => first | (go_simp; done) | (go_simp; rfl)); intro w17 hw; have hg : wr.grownBy w17 (some go10) := (by rw [hw]; exact HP16.2); have hp_ : Kd.R (Kd.int .i64) 2 w17 w.heap.size (fun _ => True) (.slice (some ⟨go10, 0, none⟩) x3_1.length co10) y404 := (by rw [hw, Ny404.out]; exact HP16.1); clear HP16; have n0_ := Aside0.mk (hp_); have n1_ := Aside0.mk ((by rw [hw]; exact below_set (HB.out) GB10.out : Below w.heap.size w w17)); clear HO_3; clear HB; have HO_3 := n0_; have HB := n1_; clear n0_ n1_; clear hg hw hp_))
                        have n0_ := Aside0.mk (Kd.R_drew HO_3.out)
                        have n1_ := Aside0.mk (below_drew1 HB.out)
                        clear HO_3
                        clear HB
                        have HO_3 := n0_
                        have HB := n1_
                        clear n0_ n1_
                        have p405 : 0 ≤ (x11_1 : Int) := of_decide_eq_true (by first | (with_reducible assumption) | assumption)
                        have q405 : x11_1 < (y404.length : Int) := (by have h_ : (x11_1 : Int) < ((x3_1.length : Int) : Int) := of_decide_eq_true (by first | (with_reducible assumption) | assumption); first | (have e_ := (Kd.R_reads' HO_3.out).1; omega) | simpa only [Ny404.out, List.length_set] using h_)
                        have ql405 : ((x11_1 : Int) < ((x3_1.length : Int) : Int)) = True := eq_true (of_decide_eq_true (by first | (with_reducible assumption) | assumption))
                        obtain ⟨ad405, e405, hx405_0⟩ := Kd.at_int (Kd.R_reads' HO_3.out).2.2 x11_1 p405 q405
                        obtain rfl : (⟨go10, 0, none⟩ : Addr) = ad405 := (by injection e405)
                        (first | simp only [add_plain] at hx405_0 | simp only [add_at] at hx405_0 | simp only [Addr.add, Nat.zero_add] at hx405_0 | skip)
                        replace p405 := eq_true p405
                        replace q405 := eq_true q405
                        have p406 : 0 ≤ ((ji12) : Int) := of_decide_eq_true (by first | (with_reducible assumption) | assumption)
                        have q406 : (ji12) < (l0.length : Int) := of_decide_eq_true (by first | (with_reducible assumption) | assumption)
                        obtain ⟨ad406, e406, hx406_0⟩ := Kd.at_int HR0.out (ji12) p406 q406
                        have hw406_0 := hx406_0
                        obtain rfl : ad403 = ad406 := (by injection e406)
                        replace hx406_0 := (HB.out.cell (World.block_lt_of_cell? w _ hx406_0)).trans hx406_0
                        replace p406 := eq_true p406
                        replace q406 := eq_true q406
                        have p15 : 0 ≤ (x11_1 : Int) := of_decide_eq_true (by first | (with_reducible assumption) | assumption)
                        have q15 : (x11_1 : Int) < ((x3_1.length : Int) : Int) := of_decide_eq_true (by first | (with_reducible assumption) | assumption)
                        obtain ⟨hx15_0, hf15_0⟩ := Kd.R_celln 0 HO_3.out (x11_1 : Int) p15 q15
                        replace p15 := eq_true p15
                        replace q15 := eq_true q15
                        have HP19 := Kd.R_putn HO_3.out (x11_1 : Int) (wrap64 ((rd y404 x11_1) - (rd l0 (ji12))))
                        rw [← Ny407.out] at HP19
                        have HQ19 := Aside0.mk HP19
                        clear HP19
                        refine start_ (n := 12) (S := fun w' => w'.cell? ⟨go10, (x11_1).toNat, none⟩ = some (.int .i64 (rd y404 x11_1)) ∧ w'.cell? (ad403.add ((ji12)).toNat) = some (.int .i64 (rd l0 (ji12)))) (ds := [11]) #[false, false, false, false, false, false, false, false, false, false, false, false] (by kernel_rfl) rfl rfl ⟨hx405_0, ((HB.out.cell (World.block_lt_of_cell? w _ hw406_0)).trans hw406_0)⟩ (fun hHeld => ?_); refine with_tabW column_Deltas.tab7 column_Deltas.bits7 (fun HT_ HW_ => ?_)
                        generalize w17.drew = w18 at HO_3 HB HQ19 hf15_0 hx15_0 hx405_0 hx406_0 hHeld ⊢
                        refine pure_ (i := 0) (N := some 22) (v := ?_) (a' := ?_) #[true, false, false, false, false, false, false, false, false, false, false, false] rfl rfl (any_of HT_.out (by kernel_rfl)) (fun _ _ _ h => h) (Or.inl ⟨by rfl, ?_⟩) ?_ ?_
                        rotate_left
                        · intro w'
                          go_simp
                          with_reducible rfl
                        rotate_left
                        · simp only [Act.put, List.setIfInBounds_toArray, List.set_cons_zero, List.set_cons_succ, i64_w, i32_w]
                          rfl
                        refine pure_ (i := 1) (N := some 23) (v := ?_) (a' := ?_) #[true, true, false, false, false, false, false, false, false, false, false, false] rfl rfl (any_of HT_.out (by kernel_rfl)) (fun _ _ _ h => h) (Or.inl ⟨by rfl, ?_⟩) ?_ ?_
                        rotate_left
                        · intro w'
                          go_simp
                          with_reducible rfl
                        rotate_left
                        · simp only [Act.put, List.setIfInBounds_toArray, List.set_cons_zero, List.set_cons_succ, i64_w, i32_w]
                          rfl
                        refine pure_ (i := 2) (N := some 24) (v := ?_) (a' := ?_) #[true, true, true, false, false, false, false, false, false, false, false, false] rfl rfl (any_of HT_.out (by kernel_rfl)) (fun _ _ _ h => h) (Or.inl ⟨by rfl, ?_⟩) ?_ ?_
                        rotate_left
                        · intro w'
                          go_simp
                          with_reducible rfl
                        rotate_left
                        · simp only [Act.put, List.setIfInBounds_toArray, List.set_cons_zero, List.set_cons_succ, i64_w, i32_w]
                          rfl
                        refine pure_ (i := 4) (N := some 26) (v := ?_) (a' := ?_) #[true, true, true, false, true, false, false, false, false, false, false, false] rfl rfl (any_of HT_.out (by kernel_rfl)) (fun _ _ _ h => h) (Or.inl ⟨by rfl, ?_⟩) ?_ ?_
                        rotate_left
                        · intro w'
                          go_simp
                          with_reducible rfl
                        rotate_left
                        · simp only [Act.put, List.setIfInBounds_toArray, List.set_cons_zero, List.set_cons_succ, i64_w, i32_w]
                          rfl
                        refine pure_ (i := 5) (N := some 27) (v := ?_) (a' := ?_) #[true, true, true, false, true, true, false, false, false, false, false, false] rfl rfl (any_of HT_.out (by kernel_rfl)) (fun _ _ _ h => h) (Or.inl ⟨by rfl, ?_⟩) ?_ ?_
                        rotate_left
                        · intro w'
                          go_simp
                          with_reducible rfl
                        rotate_left
                        · simp only [Act.put, List.setIfInBounds_toArray, List.set_cons_zero, List.set_cons_succ, i64_w, i32_w]
                          rfl
                        refine pure_ (i := 6) (N := some 28) (v := ?_) (a' := ?_) #[true, true, true, false, true, true, true, false, false, false, false, false] rfl rfl (any_of HT_.out (by kernel_rfl)) (fun _ _ _ h => h) (Or.inl ⟨by rfl, ?_⟩) ?_ ?_
                        rotate_left
                        · intro w'
                          go_simp
                          with_reducible rfl
                        rotate_left
                        · simp only [Act.put, List.setIfInBounds_toArray, List.set_cons_zero, List.set_cons_succ, i64_w, i32_w]
                          rfl
                        refine pure_ (i := 7) (N := some 29) (v := ?_) (a' := ?_) #[true, true, true, false, true, true, true, true, false, false, false, false] rfl rfl (any_of HT_.out (by kernel_rfl)) (fun _ _ _ h => h) (Or.inl ⟨by rfl, ?_⟩) ?_ ?_
                        rotate_left
                        · intro w'
                          go_simp
                          with_reducible rfl
                        rotate_left
                        · simp only [Act.put, List.setIfInBounds_toArray, List.set_cons_zero, List.set_cons_succ, i64_w, i32_w]
                          rfl
                        refine take_ (i := 3) (N := some 25) (v := ?_) (a' := ?_) #[true, true, true, true, true, true, true, true, false, false, false, false] rfl rfl (take_ofW HT_.out HW_.out (by kernel_rfl)) (fun _ _ _ h => h) (Or.inl ⟨by rfl, ?_⟩) hHeld ?_ ?_
                        rotate_left
                        · rintro w' ⟨s0, s1⟩
                          go_simp
                          with_reducible rfl
                        rotate_left
                        · simp only [Act.put, List.setIfInBounds_toArray, List.set_cons_zero, List.set_cons_succ, i64_w, i32_w]
                          rfl
                        refine take_ (i := 8) (N := some 30) (v := ?_) (a' := ?_) #[true, true, true, true, true, true, true, true, true, false, false, false] rfl rfl (take_ofW HT_.out HW_.out (by kernel_rfl)) (fun _ _ _ h => h) (Or.inl ⟨by rfl, ?_⟩) hHeld ?_ ?_
                        rotate_left
                        · rintro w' ⟨s0, s1⟩
                          go_simp
                          with_reducible rfl
                        rotate_left
                        · simp only [Act.put, List.setIfInBounds_toArray, List.set_cons_zero, List.set_cons_succ, i64_w, i32_w]
                          rfl
                        refine pure_ (i := 9) (N := some 31) (v := ?_) (a' := ?_) #[true, true, true, true, true, true, true, true, true, true, false, false] rfl rfl (any_of HT_.out (by kernel_rfl)) (fun _ _ _ h => h) (Or.inl ⟨by rfl, ?_⟩) ?_ ?_
                        rotate_left
                        · intro w'
                          go_simp
                          with_reducible rfl
                        rotate_left
                        · simp only [Act.put, List.setIfInBounds_toArray, List.set_cons_zero, List.set_cons_succ, i64_w, i32_w]
                          rfl
                        refine pure_ (i := 10) (N := some 32) (v := ?_) (a' := ?_) #[true, true, true, true, true, true, true, true, true, true, true, false] rfl rfl (any_of HT_.out (by kernel_rfl)) (fun _ _ _ h => h) (Or.inl ⟨by rfl, ?_⟩) ?_ ?_
                        rotate_left
                        · intro w'
                          go_simp
                          with_reducible rfl
                        rotate_left
                        · simp only [Act.put, List.setIfInBounds_toArray, List.set_cons_zero, List.set_cons_succ, i64_w, i32_w]
                          rfl
                        refine last_ (i := 11) (N := none) #[true, true, true, true, true, true, true, true, true, true, true, true] rfl rfl (one_of HT_.out (by kernel_rfl)) (by decide) (fun K hK => ?_)
                        refine skip_ (w1 := ?_) (by rfl) rfl ?_ ?_
                        rotate_left
                        · go_simp
                          rfl
                        refine hK.out _ _ ?_
                        clear hK K
                        refine done_ (done_of HT_.out (by kernel_rfl)) ?_
                        try go_wp2
                        go_roundg k1
                        case measure => have := HK1.out; omega
                        case rel => exact ⟨(y407), (wrap64 (x11_1 + 1)), (by first | rfl | (simp; done) | (simp [*]; done)), H', ⟨by have := HK1.out; omega⟩, ⟨by (with_reducible repeat (first | apply Kd.R_alloc | apply Kd.R_drewN | apply Kd.R_drew)); exact HQ19.out⟩, ⟨by repeat (first | (with_reducible first | exact HB.out | apply below_alloc | apply pw_below_drewN | apply below_drew1 | refine below_set ?_ GB10.out) | exact HB.out)⟩⟩
                      · rw [if_neg c14] at H
                        exact absurd H (by simp)
                    · rw [if_neg c13] at H
                      exact absurd H (by simp)
                  · rw [if_neg c11] at H
                    have c11b0 : decide (0 < x11_1) = false := decide_eq_false c11
                    clear c11
                    have H' := Aside0.mk H
                    clear H
                    have p403 : 0 ≤ (x11_1 : Int) := of_decide_eq_true (by first | (with_reducible assumption) | assumption)
                    have q403 : x11_1 < (l0.length : Int) := of_decide_eq_true (by first | (with_reducible assumption) | assumption)
                    obtain ⟨ad403, e403, hx403_0⟩ := Kd.at_int HR0.out x11_1 p403 q403
                    cases e403
                    replace hx403_0 := (HB.out.cell (World.block_lt_of_cell? w _ hx403_0)).trans hx403_0
                    replace p403 := eq_true p403
                    replace q403 := eq_true q403
                    have p10 : 0 ≤ (x11_1 : Int) := of_decide_eq_true (by first | (with_reducible assumption) | assumption)
                    have q10 : (x11_1 : Int) < ((x3_1.length : Int) : Int) := of_decide_eq_true (by first | (with_reducible assumption) | assumption)
                    obtain ⟨go10, co10, eo10, gb10, gl10, cl10, HG10⟩ := Kd.R_form HO_3.out (by omega)
                    (first | cases eo10 | (injection eo10 with ea_ en_ ec_; (first | subst ea_ | (injection ea_ with ea_; subst ea_)); subst ec_; clear en_))
                    have GB10 := Aside0.mk gb10
                    have GG10 := Aside0.mk HG10
                    clear gb10 gl10 HG10
                    obtain ⟨hx10_0, hf10_0⟩ := Kd.R_celln 0 HO_3.out (x11_1 : Int) p10 q10
                    replace p10 := eq_true p10
                    replace q10 := eq_true q10
                    have HP20 := Kd.R_putg HO_3.out (x11_1 : Int) (rd l0 x11_1)
                    go_wp2_with (first | ((with_reducible refine gate_store (t := 2) (p := 19) rfl ?_); refine store_event (t := 2) (p := 19) (v := ?vo_w21) (w1 := (wr.setCell ⟨go10, (x11_1 : Int).toNat, none⟩ (.int .i64 (rd l0 x11_1)))) ?hg ?ho ?hn ?hr ?_; (case ho => rfl); (case hg => rfl); (case hn => rfl); (case hr => first | (go_simp; done) | (go_simp; rfl)); intro w21 hw; have hg : wr.grownBy w21 (some go10) := (by rw [hw]; exact HP20.2); have hp_ : Kd.R (Kd.int .i64) 2 w21 w.heap.size (fun _ => True) (.slice (some ⟨go10, 0, none⟩) x3_1.length co10) y404 := (by rw [hw, Ny404.out]; exact HP20.1); clear HP20; have n0_ := Aside0.mk (hp_); have n1_ := Aside0.mk ((by rw [hw]; exact below_set (HB.out) GB10.out : Below w.heap.size w w21)); clear HO_3; clear HB; have HO_3 := n0_; have HB := n1_; clear n0_ n1_; clear hg hw hp_))
                    go_roundg k1
                    case measure => have := HK1.out; omega
                    case rel => exact ⟨(y404), (wrap64 (x11_1 + 1)), (by first | rfl | (simp; done) | (simp [*]; done)), H', ⟨by have := HK1.out; omega⟩, ⟨by (with_reducible repeat (first | apply Kd.R_alloc | apply Kd.R_drewN | apply Kd.R_drew)); exact HO_3.out⟩, ⟨by repeat (first | (with_reducible first | exact HB.out | apply below_alloc | apply pw_below_drewN | apply below_drew1) | exact HB.out)⟩⟩
                · rw [if_neg c9] at H
                  exact absurd H (by simp)
              · rw [if_neg c8] at H
                exact absurd H (by simp)
            · rw [if_neg c7] at H
              exact absurd H (by simp)
          · rw [if_neg c6] at H
            have c6b0 : decide (x11_1 < (l0.length : Int)) = false := decide_eq_false c6
            clear c6
            replace H := Option.bind_eq_some_iff.mp H
            obtain ⟨t408, A220, H⟩ := H
            replace H : (some t408) = some r := H
            have A22 := Aside0.mk A220
            clear A220
            obtain rfl := Option.some.inj H
            obtain ⟨Ao23, co23, eo23⟩ := Kd.R_slice HO_3.out
            subst eo23
            go_wp2_with (first | ((with_reducible refine gate_callee (f := 38) rfl ?_); refine goesL_ (some 35) rfl rfl Try.func38 (by kernel_rfl) rfl #[.slice Ao23 x3_1.length co23] rfl (by (try simp only [List.map_toArray, List.map_cons, List.map_nil]); first | done | rfl | (simp only [List.length_drop, List.length_take]; rfl)) ?_; (with_reducible refine (column_Runs.calls _ _ x3_1 t408 _ ?side1 ?side2 A22.out).mono ?_); (case side1 => repeat (first | exact (Kd.R_reads' HO_3.out).2.2 | (with_reducible refine Kd.C_alloc ?_ _) | (with_reducible refine Kd.C_drewN ?_ _) | (with_reducible refine Kd.C_drew ?_))); (case side2 => exact (Kd.R_reads' HO_3.out).2.1); rintro e w24 ⟨v409, rfl, ho0, hb⟩; refine ⟨_, rfl, ?_⟩; have n0_ := Aside0.mk (Kd.R_below (by (with_reducible repeat (first | apply Kd.R_alloc | apply Kd.R_drewN | apply Kd.R_drew)); exact HO_3.out) hb); have n1_ := Aside0.mk (Kd.R_lower ho0 (below_size (by repeat (first | (with_reducible first | exact HB.out | apply below_alloc | apply pw_below_drewN | apply below_drew1) | exact HB.out)))); have n2_ := Aside0.mk (below_step (by repeat (first | (with_reducible first | exact HB.out | apply below_alloc | apply pw_below_drewN | apply below_drew1) | exact HB.out)) hb); clear HO_3; clear HB; have HO_3 := n0_; have HO410 := n1_; have HB := n2_; clear n0_ n1_ n2_; (try clear hb); (try clear hb2); (try clear hk); (try clear hi); (try clear ho0)))
            go_ret
            exact ⟨_, by first | rfl | (simp [errW_none, errW_some] <;> rfl) | (simp [*, errW_none, errW_some] <;> rfl), by (with_reducible repeat (first | apply Kd.R_alloc | apply Kd.R_drewN | apply Kd.R_drew)); exact HO410.out, by repeat (first | (with_reducible first | exact HB.out | apply below_alloc | apply pw_below_drewN | apply below_drew1) | exact HB.out)⟩
    · rw [if_neg c3] at H
      exact absurd H (by simp)
  · rw [if_neg c2] at H
    exact absurd H (by simp)

end Go.Proofs.Ytcffooeiennmjaa.PA
