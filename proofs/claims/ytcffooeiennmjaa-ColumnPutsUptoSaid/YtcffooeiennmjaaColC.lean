/- column.Flags: what it lays. -/
import Derived.Maps.AppendAt
import Derived.Test.YtcffooeiennmjaaColR
set_option linter.unusedVariables false
set_option linter.unusedSimpArgs false
namespace Go.Proofs.Ytcffooeiennmjaa.ColS
open Go Go.RowKit Go.Shelf Go.BigFrame Go.Proofs Go.Proofs.YtcffooeiennmjaaW.PrintWords Go.Proofs.Ytcffooeiennmjaa.LebT Go.Proofs.Ytcffooeiennmjaa.PA
attribute [local go_sem] Oper.semAt_some

/-- What is laid for the stretches of truths: f0 is what stands ahead (a nought where the first is true). -/
def flatB (ps : List (Bool × Nat)) : List Int := ps.flatMap (fun p => putU p.2)
theorem flatB_snoc (ps : List (Bool × Nat)) (p : Bool × Nat) : flatB (ps ++ [p]) = flatB ps ++ putU p.2 := by simp [flatB]
theorem flatB_len (pre : List P58) : (flatB (pre.map (·.1))).length ≤ 10 * pre.length := by
  induction pre with
  | nil => simp [flatB]
  | cons p t ih =>
    have h2 := p.2
    have h3 : (putU p.1.2).length ≤ 10 := putU_len64 (by omega)
    have e : flatB ((p :: t).map (·.1)) = putU p.1.2 ++ flatB (t.map (·.1)) := by simp [flatB]
    rw [e]
    simp only [List.length_append, List.length_cons]
    omega
def flags (xs : List Bool) : List Int :=
  match xs with
  | [] => putU 0
  | true :: t => putU ((st (true :: t)).length + 1) ++ (0 :: flatB (st (true :: t)))
  | false :: t => putU (st (false :: t)).length ++ flatB (st (false :: t))
/-- The boxes of a function that collects: out (t1), n (t2), the row (t3), one behind the other. -/
structure TB (n₀ Bs t3 : Nat) (sl : Value) (W0 Wi : World) (v c : Value) : Prop where
  hB : n₀ + 2 ≤ Bs
  out : Boxed Wi n₀ 23 v
  cnt : Boxed Wi (n₀ + 1) 22 c
  row0 : Boxed W0 Bs t3 sl
  row : Boxed Wi Bs t3 sl
  bel : Below n₀ W0 Wi
  oth : KeepsOthers W0 Wi
section
variable {n₀ Bs t3 : Nat} {sl : Value} {W0 Wi Wj : World} {v c : Value}
theorem TB.kp (h : TB n₀ Bs t3 sl W0 Wi v c) : Kp n₀ Bs W0 Wi := ⟨h.bel, h.row.trans h.row0.symm⟩
theorem TB.grown (h : TB n₀ Bs t3 sl W0 Wi v c) (h3 : t3 ≠ 5) {k : Nat} {xs : List Value} {u : Value} (hr : Wi.ownsRow n₀ 5 1 u k xs) (hg : Wi.grownBy Wj u.ownBlock) : TB n₀ Bs t3 sl W0 Wj v c :=
  ⟨h.hB, h.out.kept hg (h.out.not_row (by decide) hr), h.cnt.kept hg (h.cnt.not_row (by decide) hr), h.row0, h.row.kept hg (h.row.not_row h3 hr),
   h.bel.grown hg (by have := h.out.lt; omega) (fun j e => by
    rcases hr.2 with ⟨rfl, _⟩ | ⟨g, cap, cur, rfl, hb, _, _⟩
    · simp [Value.ownBlock] at e
    · obtain rfl : g = j := by simpa [Value.ownBlock] using e
      exact hb),
   h.oth.trans (KeepsOthers.of_grownBy hg (fun j o ej hj => by
    rcases hr.2 with ⟨rfl, _⟩ | ⟨g, cap, cur, rfl, _, hgb, _⟩
    · simp [Value.ownBlock] at ej
    · obtain rfl : g = j := by simpa [Value.ownBlock] using ej
      rw [hgb] at hj; cases hj; rfl))⟩
theorem TB.below (h : TB n₀ Bs t3 sl W0 Wi v c) (hb : Below Wi.heap.size Wi Wj) : TB n₀ Bs t3 sl W0 Wj v c :=
  ⟨h.hB, (hb.block _ h.out.lt).trans h.out, (hb.block _ h.cnt.lt).trans h.cnt, h.row0, (hb.block _ h.row.lt).trans h.row, h.bel.trans (hb.mono (by have := h.out.lt; omega)), h.oth.trans (keepsOthers_below hb)⟩
theorem TB.setOut (h : TB n₀ Bs t3 sl W0 Wi v c) (v' : Value) : TB n₀ Bs t3 sl W0 (Wi.setCell ⟨n₀, 0, none⟩ v') v' c :=
  ⟨h.hB, h.out.set v', h.cnt.other (by omega) v', h.row0, h.row.other (by have := h.hB; omega) v', h.bel.setCell (p := ⟨n₀, 0, none⟩) (Nat.le_refl _) v', h.oth.trans (KeepsOthers.setCell _ _ _)⟩
theorem TB.setCnt (h : TB n₀ Bs t3 sl W0 Wi v c) (c' : Value) : TB n₀ Bs t3 sl W0 (Wi.setCell ⟨n₀ + 1, 0, none⟩ c') v c' :=
  ⟨h.hB, h.out.other (by omega) c', h.cnt.set c', h.row0, h.row.other (by have := h.hB; omega) c', h.bel.setCell (p := ⟨n₀ + 1, 0, none⟩) (Nat.le_succ _) c', h.oth.trans (KeepsOthers.setCell _ _ _)⟩
end

theorem own_setOutB {n₀ Bs t3 : Nat} {sl : Value} {W0 Wi : World} {v c v' : Value} {k : Nat} {xs : List Value} (h : Wi.ownsRow n₀ 5 1 v' k xs) (hT : TB n₀ Bs t3 sl W0 Wi v c) (u : Value) : (Wi.setCell ⟨n₀, 0, none⟩ u).ownsRow n₀ 5 1 v' k xs :=
  h.kept (grownBy_setCell' Wi n₀ u) (.inr (hT.out.not_row (by decide) h).symm)
theorem own_setCntB {n₀ Bs t3 : Nat} {sl : Value} {W0 Wi : World} {v c v' : Value} {k : Nat} {xs : List Value} (h : Wi.ownsRow n₀ 5 1 v' k xs) (hT : TB n₀ Bs t3 sl W0 Wi v c) (u : Value) : (Wi.setCell ⟨n₀ + 1, 0, none⟩ u).ownsRow n₀ 5 1 v' k xs :=
  h.kept (grownBy_setCell' Wi (n₀ + 1) u) (.inr (hT.cnt.not_row (by decide) h).symm)
def PostF10 (w : World) (Bs : Nat) (A : Option Addr) (xs : List Bool) (cap : Nat) (x : P58) (cn : Value) (W : World) (t7 t8 t9 t10 t11 t12 t13 t14 t15 t16 t17 t18 : Value) (r : List Int) (e : Exit) (a' : Act) (W' : World) : Prop :=
  e = .normal ∧ ∃ t23 t24 t25 t26 t27 v', a' = { tmps := #[.slice A xs.length cap, undef, .slice none 0 0, .pointer (some ⟨w.heap.size, 0, none⟩), .pointer (some ⟨w.heap.size + 1, 0, none⟩), undef, .int .i64 (x.1.2 : Int), t7, t8, t9, t10, t11, t12, t13, t14, t15, t16, t17, t18, .slice A xs.length cap, .func (.func 58) #[] #[.pointer (some ⟨Bs, 0, none⟩)], .bool x.1.1, .int .i64 (x.1.2 : Int), t23, t24, t25, t26, t27, undef, undef, undef, undef, undef, undef], defers := [] } ∧ TB w.heap.size Bs 61 (.slice A xs.length cap) W W' v' cn ∧ W'.ownsRow w.heap.size 5 1 v' r.length (encs (Value.int .u8) r)
theorem PostF10.intro {w : World} {Bs : Nat} {A : Option Addr} {xs : List Bool} {cap : Nat} {x : P58} {cn : Value} {W : World} {t7 t8 t9 t10 t11 t12 t13 t14 t15 t16 t17 t18 : Value} {r : List Int} {W' : World} (t23 t24 t25 t26 t27 v' : Value) (hT : TB w.heap.size Bs 61 (.slice A xs.length cap) W W' v' cn) (hr : W'.ownsRow w.heap.size 5 1 v' r.length (encs (Value.int .u8) r)) :
    PostF10 w Bs A xs cap x cn W t7 t8 t9 t10 t11 t12 t13 t14 t15 t16 t17 t18 r .normal { tmps := #[.slice A xs.length cap, undef, .slice none 0 0, .pointer (some ⟨w.heap.size, 0, none⟩), .pointer (some ⟨w.heap.size + 1, 0, none⟩), undef, .int .i64 (x.1.2 : Int), t7, t8, t9, t10, t11, t12, t13, t14, t15, t16, t17, t18, .slice A xs.length cap, .func (.func 58) #[] #[.pointer (some ⟨Bs, 0, none⟩)], .bool x.1.1, .int .i64 (x.1.2 : Int), t23, t24, t25, t26, t27, undef, undef, undef, undef, undef, undef], defers := [] } W' := ⟨rfl, t23, t24, t25, t26, t27, v', rfl, hT, hr⟩
def PostF12 (w : World) (D Bs : Nat) (A : Option Addr) (xs : List Bool) (cap : Nat) (W : World) (c : Value) (t7 t8 t9 t10 t11 t12 t13 t14 t15 t16 t17 t18 : Value) (r : List Int) (e : Exit) (a' : Act) (W' : World) : Prop :=
  e = .normal ∧ ∃ t30 t31 t32 t33 v v', a' = { tmps := #[.slice A xs.length cap, undef, v', .pointer (some ⟨w.heap.size, 0, none⟩), .pointer (some ⟨w.heap.size + 1, 0, none⟩), undef, undef, t7, t8, t9, t10, t11, t12, t13, t14, t15, t16, t17, t18, .slice A xs.length cap, .func (.func 58) #[] #[.pointer (some ⟨Bs, 0, none⟩)], undef, undef, undef, undef, undef, undef, undef, undef, undef, t30, t31, t32, t33], defers := [{ target := .collected D, args := #[] }] } ∧ TB w.heap.size Bs 61 (.slice A xs.length cap) W W' v c ∧ (Kd.int .u8).R 5 W' w.heap.size (fun _ => True) v' r
theorem PostF12.intro {w : World} {D Bs : Nat} {A : Option Addr} {xs : List Bool} {cap : Nat} {W : World} {c : Value} {t7 t8 t9 t10 t11 t12 t13 t14 t15 t16 t17 t18 : Value} {r : List Int} {v v' : Value} {W' : World} (t30 t31 t32 t33 : Value) (_u : Unit) (hT : TB w.heap.size Bs 61 (.slice A xs.length cap) W W' v c) (hr : (Kd.int .u8).R 5 W' w.heap.size (fun _ => True) v' r) :
    PostF12 w D Bs A xs cap W c t7 t8 t9 t10 t11 t12 t13 t14 t15 t16 t17 t18 r .normal { tmps := #[.slice A xs.length cap, undef, v', .pointer (some ⟨w.heap.size, 0, none⟩), .pointer (some ⟨w.heap.size + 1, 0, none⟩), undef, undef, t7, t8, t9, t10, t11, t12, t13, t14, t15, t16, t17, t18, .slice A xs.length cap, .func (.func 58) #[] #[.pointer (some ⟨Bs, 0, none⟩)], undef, undef, undef, undef, undef, undef, undef, undef, undef, t30, t31, t32, t33], defers := [{ target := .collected D, args := #[] }] } W' := ⟨rfl, t30, t31, t32, t33, v, v', rfl, hT, hr⟩
def IF (n₀ Bs m0 : Nat) (f0 : List Int) (sl : Value) (w : World) (pre : List P58) (W : World) : Prop :=
  (∃ v, Boxed W n₀ 23 v ∧ W.ownsRow n₀ 5 1 v (f0 ++ flatB (pre.map (·.1))).length (encs (Value.int .u8) (f0 ++ flatB (pre.map (·.1)))) ∧ True) ∧ Boxed W (n₀ + 1) 22 (.int .u64 ((m0 + pre.length : Nat) : Int)) ∧ Boxed W Bs 61 sl ∧ Below n₀ w W
theorem IF_own (n₀ Bs m0 B : Nat) (f0 : List Int) (sl : Value) (w : World) (h1 : n₀ ≤ w.heap.size) (h2 : n₀ ≤ B) : OwnFrom B (IF n₀ Bs m0 f0 sl w) :=
  OwnFrom.and (Own.from (holdsRow_own n₀ n₀ 23 5 1 (fun pre : List P58 => (f0 ++ flatB (pre.map (·.1))).length) (fun pre => encs (Value.int .u8) (f0 ++ flatB (pre.map (·.1)))) (fun pre v => True)) _)
    (OwnFrom.and (Own.from (boxed_own (n₀ + 1) 22 (fun pre : List P58 => .int .u64 ((m0 + pre.length : Nat) : Int))) _) (OwnFrom.and (Own.from (boxed_own Bs 61 (fun _ => sl)) _) (ownFrom_below h1 h2)))

set_option maxRecDepth 100000 in
set_option maxHeartbeats 2000000 in
theorem Flags_in (n : Nat) (hn : 3 ≤ n) (A : Option Addr) (cap : Nat) (xs : List Bool) (hlen : xs.length ≤ 4398046511104) (w : World) (hr0 : Kd.bool.C w A xs.length xs) :
    CallsIn Fence.wide n Try.prog 42 #[.slice A xs.length cap] w fun e w' => ∃ v0_ : Value, e = .returned v0_ ∧ (Kd.int .u8).R 5 w' w.heap.size (fun _ => True) v0_ (flags xs) ∧ Below w.heap.size w w' := by
  refine callsIn_of_wp_marks Try.func42 rfl trivial ?_ rfl
  simp only [Try.ntmps42, List.size_toArray, List.length_cons, List.length_nil, Nat.reduceAdd, Nat.reduceSub, Array.replicate_succ, Array.replicate_zero, List.push_toArray, List.append_toArray, List.nil_append, List.cons_append]
  have h1 : 1 ≤ n := by omega
  by_cases hx : xs.length = 0
  · gi_wp2_with (refine ⟨trivial, ?_⟩; gi_at_call 15; refine (callsIn_wide.2 (leb_Uint.calls 10 0 (putU 0) _ (by have := LebP.uint_f (k := 10) (by omega) (a := 0) (by omega) (by omega); simpa using this))).mono ?_; rintro e w2 ⟨v0, rfl, hR, hb2⟩)
    obtain rfl : xs = [] := List.eq_nil_of_length_eq_zero hx
    exact ⟨_, results_tmp rfl _ _ _, v0, rfl, hR, hb2⟩
  · gi_wp2
    rename_i Kr hKr K1 hK1 K0 hK0
    have key : ∀ (W : World) (v : Value) (f0 : List Int) (m0 : Nat) (t7 t8 t9 t10 t11 t12 t13 t14 t15 t16 t17 t18 : Value), Boxed W w.heap.size 23 v → W.ownsRow w.heap.size 5 1 v f0.length (encs (Value.int .u8) f0) → Boxed W (w.heap.size + 1) 22 (.int .u64 (m0 : Int)) → Below w.heap.size w W → f0.length ≤ 1 → m0 ≤ 1 →
        flags xs = putU (m0 + (st xs).length) ++ (f0 ++ flatB (st xs)) → Kr { tmps := #[.slice A xs.length cap, undef, .slice none 0 0, .pointer (some ⟨w.heap.size, 0, none⟩), .pointer (some ⟨w.heap.size + 1, 0, none⟩), undef, undef, t7, t8, t9, t10, t11, t12, t13, t14, t15, t16, t17, t18, undef, undef, undef, undef, undef, undef, undef, undef, undef, undef, undef, undef, undef, undef, undef], defers := [] } W := by
      intro W v f0 m0 t7 t8 t9 t10 t11 t12 t13 t14 t15 t16 t17 t18 hv hrow hcn hB hf0 hm0 hspec
      refine hKr _ _ ?_
      clear hKr hK1 hK0
      have hWsz := hcn.lt
      gi_wp2_with (refine ⟨trivial, ?_⟩; gi_at_call 55; refine (mk58 (n - 1) A xs.length cap _).mono ?_; rintro e w' ⟨rfl, rfl⟩)
      obtain ⟨Bs, hBs⟩ : ∃ Bs, Bs = W.heap.size := ⟨_, rfl⟩
      have b3 := Boxed.new W 61 (.slice A xs.length cap)
      have hs3 : (W.alloc (.cells #[.slice A xs.length cap] 61)).heap.size = Bs + 1 := by rw [World.size_alloc, hBs]
      have hB0 : Below w.heap.size w (W.alloc (.cells #[.slice A xs.length cap] 61)) := hB.alloc (by omega) _
      replace hv := hv.alloc (.cells #[.slice A xs.length cap] 61)
      replace hcn := hcn.alloc (.cells #[.slice A xs.length cap] 61)
      replace hrow : (W.alloc (.cells #[.slice A xs.length cap] 61)).ownsRow w.heap.size 5 1 v f0.length (encs (Value.int .u8) f0) := hrow.alloc _
      rw [← hBs] at b3 ⊢
      obtain ⟨W0, hW0⟩ : ∃ W0, W.alloc (.cells #[.slice A xs.length cap] 61) = W0 := ⟨_, rfl⟩
      rw [hW0] at b3 hs3 hB0 hv hcn hrow ⊢
      have hle : w.heap.size + 2 ≤ Bs := by omega
      clear hBs hW0 hWsz hB
      refine wpIn_rangeFunc_ownG rfl h1 (gf := 58) (lb := #[.pointer (some ⟨Bs, 0, none⟩)]) rfl trivial (enters_of Try.func58 (by kernel_rfl) rfl)
        (stops58 (n - 1) Bs w.heap.size cap A xs (by omega) _ (by rw [hs3]; omega) (by rw [hs3]; omega) b3.cell (fun W' h => Kd.C_below hr0 (hB0.trans h)))
        (fun h k => h.trans k) (fun W l o o' hl => Kp.put (by rw [hs3]; omega) (by rw [hs3]; omega) W l o o' hl) (Below.refl _ _) (fun _ => rfl)
        (IF w.heap.size Bs m0 f0 (.slice A xs.length cap) w)
        (fun _ _ _ => False)
        (IF_own _ _ _ _ _ _ _ (Nat.le_refl _) (by rw [hs3]; omega))
        (fun _ _ _ _ _ hs _ _ => hs)
        ⟨⟨_, hv, by simpa [flatB] using hrow, trivial⟩, hcn, b3, hB0⟩
        (fun x => { tmps := #[.slice A xs.length cap, undef, .slice none 0 0, .pointer (some ⟨w.heap.size, 0, none⟩), .pointer (some ⟨w.heap.size + 1, 0, none⟩), undef, .int .i64 (x.1.2 : Int), t7, t8, t9, t10, t11, t12, t13, t14, t15, t16, t17, t18, .slice A xs.length cap, .func (.func 58) #[] #[.pointer (some ⟨Bs, 0, none⟩)], .bool x.1.1, .int .i64 (x.1.2 : Int), undef, undef, undef, undef, undef, undef, undef, undef, undef, undef, undef], defers := [] }) ?assign ?body ?done ?stop
      case assign =>
        intro l x W K hK
        simp only [enc58]
        gi_wp2
        exact hK
      case body =>
        rintro l pre x W ⟨⟨v, hv, hrow, _⟩, hcn, hbx, hB⟩ hlt
        have hxr := x.2
        have hu : leb_Uint.f 10 (IntKind.u64.wrap (x.1.2 : Int)) = some (putU x.1.2) := by
          rw [show IntKind.u64.wrap (x.1.2 : Int) = (x.1.2 : Int) by rw [IntKind.wrap_u64]; omega]
          have := LebP.uint_f (k := 10) (by omega) (a := (x.1.2 : Int)) (by omega) (by omega)
          simpa using this
        have hlu : (putU x.1.2).length ≤ 10 := putU_len64 (by omega)
        have hst := st_length xs
        have hpl : (flatB (pre.map (·.1))).length ≤ 10 * pre.length := flatB_len pre
        have hT : TB w.heap.size Bs 61 (.slice A xs.length cap) W W v (.int .u64 ((m0 + pre.length : Nat) : Int)) := ⟨by omega, hv, hcn, hbx, hbx, Below.refl _ _, KeepsOthers.refl _⟩
        gi_wp2
        refine wpIn_mono (Q := PostF10 w Bs A xs cap x (.int .u64 ((m0 + pre.length : Nat) : Int)) W t7 t8 t9 t10 t11 t12 t13 t14 t15 t16 t17 t18 (f0 ++ flatB (pre.map (·.1)) ++ putU x.1.2)) ?_ ?_
        · replace hrow : W.drew.ownsRow _ _ _ _ _ _ := hrow
          replace hT := hT.below (below_drewN' _ W 1)
          refine wpIn_region_any (by kernel_rfl) ?_
          change wpAnyIn _ _ _ _ _ _ _ _ _ (World.drew _)
          obtain ⟨W1, hW1⟩ : ∃ W1, W1 = W.drew := ⟨_, rfl⟩
          change TB _ _ _ _ _ (World.drew _) _ _ at hT
          rw [← hW1] at hT hrow ⊢
          clear hW1
          refine wpAnyIn_ready (rs := [0, 1]) (by kernel_rfl) (by simp) ?_
          refine AllReadyIn.cons rfl (fun K hK => ?_) ?_
          · have hcO := hT.out.cell
            go_simp
            refine hK _ _ ?_
            clear hK K hcO
            refine wpAnyIn_ready (rs := [1]) (by kernel_rfl) (by simp) ?_
            refine AllReadyIn.cons rfl (fun K hK => ?_) ?_
            · go_simp
              refine hK _ _ ?_
              clear hK K
              refine wpAnyIn_ready (rs := [2]) (by kernel_rfl) (by simp) ?_
              refine AllReadyIn.cons rfl (fun K hK => ?_) ?_
              · go_simp
                refine hK _ _ ?_
                clear hK K
                refine wpAnyIn_ready (rs := [3]) (by kernel_rfl) (by simp) ?_
                refine AllReadyIn.cons rfl (fun K hK => ?_) ?_
                · go_simp
                  refine ⟨trivial, fun hd => Bool.noConfusion (show false = true from hd), ?_⟩
                  refine (CallsIn.inRound l (callsIn_wide.2 (leb_Uint.calls 10 _ _ _ hu))).mono ?_
                  rintro e W2 ⟨v0, rfl, hR, hb2⟩
                  go_simp
                  replace hT := hT.below hb2
                  replace hrow := own_below hrow hb2
                  refine hK _ _ ?_
                  clear hK K
                  refine wpAnyIn_ready (rs := [4]) (by kernel_rfl) (by simp) ?_
                  refine AllReadyIn.cons rfl (fun K hK => ?_) ?_
                  · refine step_in (by intro c h; cases h) ?_
                    obtain ⟨A0, c0, rfl, hlc0, hC0⟩ := OwnRow.reads hR.2
                    refine Kd.R_append_rows_step (Kd.int .u8) (w0 := W) w.heap.size (by rfl) _ _ 23 5 (.int .u8 0) 1 rfl Try.underlying23 info5 rfl (by decide) (by omega) v _ _ A0 _ c0 (fun _ => True) (fun _ => False) rfl rfl (Kd.R_of_own hrow (fun _ _ => trivial)) hC0 (fun _ _ h => h) (fun _ h => h.elim) (fun _ _ => trivial) hT.bel (by have := hT.out.lt; omega) (by rw [Nat.mul_one]; simp only [List.length_append]; omega) ?_
                    intro v1 W3 ho3 hb3 hg3 _
                    obtain ⟨A3, n3, c3, rfl⟩ : ∃ A n c, v1 = .slice A n c := by
                      obtain ⟨A, c, e, _, _⟩ := OwnRow.reads ho3.2
                      exact ⟨A, _, c, e⟩
                    replace hT := hT.grown (by decide) hrow hg3
                    replace hrow := Kd.own_of_R ho3
                    refine hK _ _ ?_
                    clear hK K
                    refine wpAnyIn_ready (rs := [5]) (by kernel_rfl) (by simp) ?_
                    refine AllReadyIn.cons rfl (fun K hK => ?_) ?_
                    · have hcO := hT.out.cell
                      have hfO := hT.out.frozen
                      go_simp
                      replace hrow := own_setOutB hrow hT (.slice A3 n3 c3)
                      replace hT := hT.setOut (.slice A3 n3 c3)
                      refine hK _ _ ?_
                      clear hK K
                      refine wpAnyIn_done (by kernel_rfl) ?_ _
                      exact PostF10.intro _ _ _ _ _ _ hT hrow
                    exact AllReadyIn.nil
                  exact AllReadyIn.nil
                exact AllReadyIn.nil
              exact AllReadyIn.nil
            exact AllReadyIn.nil
          refine AllReadyIn.cons rfl (fun K hK => ?_) ?_
          · go_simp
            refine hK _ _ ?_
            clear hK K
            refine wpAnyIn_ready (rs := [0, 2]) (by kernel_rfl) (by simp) ?_
            refine AllReadyIn.cons rfl (fun K hK => ?_) ?_
            · have hcO := hT.out.cell
              go_simp
              refine hK _ _ ?_
              clear hK K hcO
              refine wpAnyIn_ready (rs := [2]) (by kernel_rfl) (by simp) ?_
              refine AllReadyIn.cons rfl (fun K hK => ?_) ?_
              · go_simp
                refine hK _ _ ?_
                clear hK K
                refine wpAnyIn_ready (rs := [3]) (by kernel_rfl) (by simp) ?_
                refine AllReadyIn.cons rfl (fun K hK => ?_) ?_
                · go_simp
                  refine ⟨trivial, fun hd => Bool.noConfusion (show false = true from hd), ?_⟩
                  refine (CallsIn.inRound l (callsIn_wide.2 (leb_Uint.calls 10 _ _ _ hu))).mono ?_
                  rintro e W2 ⟨v0, rfl, hR, hb2⟩
                  go_simp
                  replace hT := hT.below hb2
                  replace hrow := own_below hrow hb2
                  refine hK _ _ ?_
                  clear hK K
                  refine wpAnyIn_ready (rs := [4]) (by kernel_rfl) (by simp) ?_
                  refine AllReadyIn.cons rfl (fun K hK => ?_) ?_
                  · refine step_in (by intro c h; cases h) ?_
                    obtain ⟨A0, c0, rfl, hlc0, hC0⟩ := OwnRow.reads hR.2
                    refine Kd.R_append_rows_step (Kd.int .u8) (w0 := W) w.heap.size (by rfl) _ _ 23 5 (.int .u8 0) 1 rfl Try.underlying23 info5 rfl (by decide) (by omega) v _ _ A0 _ c0 (fun _ => True) (fun _ => False) rfl rfl (Kd.R_of_own hrow (fun _ _ => trivial)) hC0 (fun _ _ h => h) (fun _ h => h.elim) (fun _ _ => trivial) hT.bel (by have := hT.out.lt; omega) (by rw [Nat.mul_one]; simp only [List.length_append]; omega) ?_
                    intro v1 W3 ho3 hb3 hg3 _
                    obtain ⟨A3, n3, c3, rfl⟩ : ∃ A n c, v1 = .slice A n c := by
                      obtain ⟨A, c, e, _, _⟩ := OwnRow.reads ho3.2
                      exact ⟨A, _, c, e⟩
                    replace hT := hT.grown (by decide) hrow hg3
                    replace hrow := Kd.own_of_R ho3
                    refine hK _ _ ?_
                    clear hK K
                    refine wpAnyIn_ready (rs := [5]) (by kernel_rfl) (by simp) ?_
                    refine AllReadyIn.cons rfl (fun K hK => ?_) ?_
                    · have hcO := hT.out.cell
                      have hfO := hT.out.frozen
                      go_simp
                      replace hrow := own_setOutB hrow hT (.slice A3 n3 c3)
                      replace hT := hT.setOut (.slice A3 n3 c3)
                      refine hK _ _ ?_
                      clear hK K
                      refine wpAnyIn_done (by kernel_rfl) ?_ _
                      exact PostF10.intro _ _ _ _ _ _ hT hrow
                    exact AllReadyIn.nil
                  exact AllReadyIn.nil
                exact AllReadyIn.nil
              exact AllReadyIn.nil
            refine AllReadyIn.cons rfl (fun K hK => ?_) ?_
            · go_simp
              refine hK _ _ ?_
              clear hK K
              refine wpAnyIn_ready (rs := [0, 3]) (by kernel_rfl) (by simp) ?_
              refine AllReadyIn.cons rfl (fun K hK => ?_) ?_
              · have hcO := hT.out.cell
                go_simp
                refine hK _ _ ?_
                clear hK K hcO
                refine wpAnyIn_ready (rs := [3]) (by kernel_rfl) (by simp) ?_
                refine AllReadyIn.cons rfl (fun K hK => ?_) ?_
                · go_simp
                  refine ⟨trivial, fun hd => Bool.noConfusion (show false = true from hd), ?_⟩
                  refine (CallsIn.inRound l (callsIn_wide.2 (leb_Uint.calls 10 _ _ _ hu))).mono ?_
                  rintro e W2 ⟨v0, rfl, hR, hb2⟩
                  go_simp
                  replace hT := hT.below hb2
                  replace hrow := own_below hrow hb2
                  refine hK _ _ ?_
                  clear hK K
                  refine wpAnyIn_ready (rs := [4]) (by kernel_rfl) (by simp) ?_
                  refine AllReadyIn.cons rfl (fun K hK => ?_) ?_
                  · refine step_in (by intro c h; cases h) ?_
                    obtain ⟨A0, c0, rfl, hlc0, hC0⟩ := OwnRow.reads hR.2
                    refine Kd.R_append_rows_step (Kd.int .u8) (w0 := W) w.heap.size (by rfl) _ _ 23 5 (.int .u8 0) 1 rfl Try.underlying23 info5 rfl (by decide) (by omega) v _ _ A0 _ c0 (fun _ => True) (fun _ => False) rfl rfl (Kd.R_of_own hrow (fun _ _ => trivial)) hC0 (fun _ _ h => h) (fun _ h => h.elim) (fun _ _ => trivial) hT.bel (by have := hT.out.lt; omega) (by rw [Nat.mul_one]; simp only [List.length_append]; omega) ?_
                    intro v1 W3 ho3 hb3 hg3 _
                    obtain ⟨A3, n3, c3, rfl⟩ : ∃ A n c, v1 = .slice A n c := by
                      obtain ⟨A, c, e, _, _⟩ := OwnRow.reads ho3.2
                      exact ⟨A, _, c, e⟩
                    replace hT := hT.grown (by decide) hrow hg3
                    replace hrow := Kd.own_of_R ho3
                    refine hK _ _ ?_
                    clear hK K
                    refine wpAnyIn_ready (rs := [5]) (by kernel_rfl) (by simp) ?_
                    refine AllReadyIn.cons rfl (fun K hK => ?_) ?_
                    · have hcO := hT.out.cell
                      have hfO := hT.out.frozen
                      go_simp
                      replace hrow := own_setOutB hrow hT (.slice A3 n3 c3)
                      replace hT := hT.setOut (.slice A3 n3 c3)
                      refine hK _ _ ?_
                      clear hK K
                      refine wpAnyIn_done (by kernel_rfl) ?_ _
                      exact PostF10.intro _ _ _ _ _ _ hT hrow
                    exact AllReadyIn.nil
                  exact AllReadyIn.nil
                exact AllReadyIn.nil
              refine AllReadyIn.cons rfl (fun K hK => ?_) ?_
              · go_simp
                refine ⟨trivial, fun hd => Bool.noConfusion (show false = true from hd), ?_⟩
                refine (CallsIn.inRound l (callsIn_wide.2 (leb_Uint.calls 10 _ _ _ hu))).mono ?_
                rintro e W2 ⟨v0, rfl, hR, hb2⟩
                go_simp
                replace hT := hT.below hb2
                replace hrow := own_below hrow hb2
                refine hK _ _ ?_
                clear hK K
                refine wpAnyIn_ready (rs := [0]) (by kernel_rfl) (by simp) ?_
                refine AllReadyIn.cons rfl (fun K hK => ?_) ?_
                · have hcO := hT.out.cell
                  go_simp
                  refine hK _ _ ?_
                  clear hK K hcO
                  refine wpAnyIn_ready (rs := [4]) (by kernel_rfl) (by simp) ?_
                  refine AllReadyIn.cons rfl (fun K hK => ?_) ?_
                  · refine step_in (by intro c h; cases h) ?_
                    obtain ⟨A0, c0, rfl, hlc0, hC0⟩ := OwnRow.reads hR.2
                    refine Kd.R_append_rows_step (Kd.int .u8) (w0 := W) w.heap.size (by rfl) _ _ 23 5 (.int .u8 0) 1 rfl Try.underlying23 info5 rfl (by decide) (by omega) v _ _ A0 _ c0 (fun _ => True) (fun _ => False) rfl rfl (Kd.R_of_own hrow (fun _ _ => trivial)) hC0 (fun _ _ h => h) (fun _ h => h.elim) (fun _ _ => trivial) hT.bel (by have := hT.out.lt; omega) (by rw [Nat.mul_one]; simp only [List.length_append]; omega) ?_
                    intro v1 W3 ho3 hb3 hg3 _
                    obtain ⟨A3, n3, c3, rfl⟩ : ∃ A n c, v1 = .slice A n c := by
                      obtain ⟨A, c, e, _, _⟩ := OwnRow.reads ho3.2
                      exact ⟨A, _, c, e⟩
                    replace hT := hT.grown (by decide) hrow hg3
                    replace hrow := Kd.own_of_R ho3
                    refine hK _ _ ?_
                    clear hK K
                    refine wpAnyIn_ready (rs := [5]) (by kernel_rfl) (by simp) ?_
                    refine AllReadyIn.cons rfl (fun K hK => ?_) ?_
                    · have hcO := hT.out.cell
                      have hfO := hT.out.frozen
                      go_simp
                      replace hrow := own_setOutB hrow hT (.slice A3 n3 c3)
                      replace hT := hT.setOut (.slice A3 n3 c3)
                      refine hK _ _ ?_
                      clear hK K
                      refine wpAnyIn_done (by kernel_rfl) ?_ _
                      exact PostF10.intro _ _ _ _ _ _ hT hrow
                    exact AllReadyIn.nil
                  exact AllReadyIn.nil
                exact AllReadyIn.nil
              exact AllReadyIn.nil
            exact AllReadyIn.nil
          exact AllReadyIn.nil
        rintro e a' W4 ⟨rfl, t23, t24, t25, t26, t27, v'', rfl, hT, hrow⟩
        have hcN := hT.cnt.cell
        have hfN := hT.cnt.frozen
        gi_wp2
        have hk : IntKind.u64.wrap (((m0 + pre.length : Nat) : Int) + 1) = ((m0 + (pre ++ [x]).length : Nat) : Int) := by rw [IntKind.wrap_u64]; simp; omega
        have hk2 : (m0 : Int) + (pre.length : Int) + 1 = ((m0 + (pre ++ [x]).length : Nat) : Int) := by simp; omega
        try rw [hk]
        try rw [hk2]
        have hT2 := hT.setCnt (.int .u64 ((m0 + (pre ++ [x]).length : Nat) : Int))
        have hr2 := own_setCntB hrow hT (.int .u64 ((m0 + (pre ++ [x]).length : Nat) : Int))
        refine ⟨hT2.oth.from _, hT2.kp, ⟨_, hT2.out, ?_, trivial⟩, hT2.cnt, hT2.row, hB.trans hT2.bel⟩
        rw [List.map_append, List.map_cons, List.map_nil, flatB_snoc, ← List.append_assoc]
        exact hr2
      case done =>
        rintro D ys W hD hys ⟨⟨v, hv, hrow, _⟩, hcn, hbx, hB⟩ hK
        rw [hys] at hrow
        have hyl : ys.length = (st xs).length := by rw [← hys, List.length_map]
        have hst := st_length xs
        have hfl : (flatB (st xs)).length ≤ 10 * ys.length := by rw [← hys]; exact flatB_len ys
        rw [hyl] at hcn hfl
        have hT : TB w.heap.size Bs 61 (.slice A xs.length cap) W W v (.int .u64 ((m0 + (st xs).length : Nat) : Int)) := ⟨by omega, hv, hcn, hbx, hbx, Below.refl _ _, KeepsOthers.refl _⟩
        have hu : leb_Uint.f 10 ((m0 : Int) + ((st xs).length : Int)) = some (putU (m0 + (st xs).length)) := by
          have := LebP.uint_f (k := 10) (by omega) (a := (m0 : Int) + ((st xs).length : Int)) (by omega) (by omega)
          rw [this, show ((m0 : Int) + ((st xs).length : Int)).toNat = m0 + (st xs).length by omega]
        have hlu : (putU (m0 + (st xs).length)).length ≤ 10 := putU_len64 (by omega)
        gi_wp2
        refine wpIn_mono (Q := PostF12 w D Bs A xs cap W (.int .u64 ((m0 + (st xs).length : Nat) : Int)) t7 t8 t9 t10 t11 t12 t13 t14 t15 t16 t17 t18 (putU (m0 + (st xs).length) ++ (f0 ++ flatB (st xs)))) ?_ ?_
        · replace hrow : W.drew.ownsRow _ _ _ _ _ _ := hrow
          replace hT := hT.below (below_drewN' _ W 1)
          refine wpIn_region_any (by kernel_rfl) ?_
          change wpAnyIn _ _ _ _ _ _ _ _ _ (World.drew _)
          obtain ⟨W1, hW1⟩ : ∃ W1, W1 = W.drew := ⟨_, rfl⟩
          change TB _ _ _ _ _ (World.drew _) _ _ at hT
          rw [← hW1] at hT hrow ⊢
          clear hW1
          refine wpAnyIn_ready (rs := [0, 2]) (by kernel_rfl) (by simp) ?_
          refine AllReadyIn.cons rfl (fun K hK' => ?_) ?_
          · have hcO := hT.cnt.cell
            go_simp
            refine hK' _ _ ?_
            clear hK' K hcO
            refine wpAnyIn_ready (rs := [1, 2]) (by kernel_rfl) (by simp) ?_
            refine AllReadyIn.cons rfl (fun K hK' => ?_) ?_
            · go_simp
              refine ⟨trivial, ?_⟩
              refine ((callsIn_wide.2 (leb_Uint.calls 10 _ _ _ hu))).mono ?_
              rintro e W2 ⟨v0, rfl, hR, hb2⟩
              go_simp
              have hsz1 := hT.out.lt
              replace hT := hT.below hb2
              have hrow0 := Kd.own_of_R (Kd.R_lower hR (by omega) (base' := w.heap.size))
              replace hrow := own_below hrow hb2
              refine hK' _ _ ?_
              clear hK' K
              refine wpAnyIn_ready (rs := [2]) (by kernel_rfl) (by simp) ?_
              refine AllReadyIn.cons rfl (fun K hK' => ?_) ?_
              · have hcO := hT.out.cell
                go_simp
                refine hK' _ _ ?_
                clear hK' K hcO
                refine wpAnyIn_ready (rs := [3]) (by kernel_rfl) (by simp) ?_
                refine AllReadyIn.cons rfl (fun K hK' => ?_) ?_
                · refine step_wide (by intro c h; cases h) ?_
                  obtain ⟨A0, c0, rfl, hlc0, hC0⟩ := OwnRow.reads (Kd.R_of_own (h1 := fun _ => rfl) hrow (fun _ _ => trivial) (ok := fun _ => True)).2
                  refine Kd.R_append_rows_step (Kd.int .u8) (w0 := W) w.heap.size (by rfl) _ _ 23 5 (.int .u8 0) 1 rfl Try.underlying23 info5 rfl (by decide) (by omega) v0 _ _ A0 _ c0 (fun _ => True) (fun _ => False) rfl rfl (Kd.R_of_own hrow0 (fun _ _ => trivial)) hC0 (fun _ _ h => h) (fun _ h => h.elim) (fun _ _ => trivial) hT.bel (by have := hT.out.lt; omega) (by rw [Nat.mul_one]; simp only [List.length_append]; omega) ?_
                  intro v1 W3 ho3 hb3 hg3 _
                  replace hT := hT.grown (by decide) hrow0 hg3
                  refine hK' _ _ ?_
                  clear hK' K
                  refine wpAnyIn_ready (rs := [4]) (by kernel_rfl) (by simp) ?_
                  refine AllReadyIn.cons rfl (fun K hK' => ?_) ?_
                  · go_simp
                    refine hK' _ _ ?_
                    clear hK' K
                    refine wpAnyIn_done (by kernel_rfl) ?_ _
                    exact PostF12.intro _ _ _ _ () hT ho3
                  exact AllReadyIn.nil
                exact AllReadyIn.nil
              exact AllReadyIn.nil
            refine AllReadyIn.cons rfl (fun K hK' => ?_) ?_
            · have hcO := hT.out.cell
              go_simp
              refine hK' _ _ ?_
              clear hK' K hcO
              refine wpAnyIn_ready (rs := [1]) (by kernel_rfl) (by simp) ?_
              refine AllReadyIn.cons rfl (fun K hK' => ?_) ?_
              · go_simp
                refine ⟨trivial, ?_⟩
                refine ((callsIn_wide.2 (leb_Uint.calls 10 _ _ _ hu))).mono ?_
                rintro e W2 ⟨v0, rfl, hR, hb2⟩
                go_simp
                have hsz1 := hT.out.lt
                replace hT := hT.below hb2
                have hrow0 := Kd.own_of_R (Kd.R_lower hR (by omega) (base' := w.heap.size))
                replace hrow := own_below hrow hb2
                refine hK' _ _ ?_
                clear hK' K
                refine wpAnyIn_ready (rs := [3]) (by kernel_rfl) (by simp) ?_
                refine AllReadyIn.cons rfl (fun K hK' => ?_) ?_
                · refine step_wide (by intro c h; cases h) ?_
                  obtain ⟨A0, c0, rfl, hlc0, hC0⟩ := OwnRow.reads (Kd.R_of_own (h1 := fun _ => rfl) hrow (fun _ _ => trivial) (ok := fun _ => True)).2
                  refine Kd.R_append_rows_step (Kd.int .u8) (w0 := W) w.heap.size (by rfl) _ _ 23 5 (.int .u8 0) 1 rfl Try.underlying23 info5 rfl (by decide) (by omega) v0 _ _ A0 _ c0 (fun _ => True) (fun _ => False) rfl rfl (Kd.R_of_own hrow0 (fun _ _ => trivial)) hC0 (fun _ _ h => h) (fun _ h => h.elim) (fun _ _ => trivial) hT.bel (by have := hT.out.lt; omega) (by rw [Nat.mul_one]; simp only [List.length_append]; omega) ?_
                  intro v1 W3 ho3 hb3 hg3 _
                  replace hT := hT.grown (by decide) hrow0 hg3
                  refine hK' _ _ ?_
                  clear hK' K
                  refine wpAnyIn_ready (rs := [4]) (by kernel_rfl) (by simp) ?_
                  refine AllReadyIn.cons rfl (fun K hK' => ?_) ?_
                  · go_simp
                    refine hK' _ _ ?_
                    clear hK' K
                    refine wpAnyIn_done (by kernel_rfl) ?_ _
                    exact PostF12.intro _ _ _ _ () hT ho3
                  exact AllReadyIn.nil
                exact AllReadyIn.nil
              exact AllReadyIn.nil
            exact AllReadyIn.nil
          refine AllReadyIn.cons rfl (fun K hK' => ?_) ?_
          · have hcO := hT.out.cell
            go_simp
            refine hK' _ _ ?_
            clear hK' K hcO
            refine wpAnyIn_ready (rs := [0]) (by kernel_rfl) (by simp) ?_
            refine AllReadyIn.cons rfl (fun K hK' => ?_) ?_
            · have hcO := hT.cnt.cell
              go_simp
              refine hK' _ _ ?_
              clear hK' K hcO
              refine wpAnyIn_ready (rs := [1]) (by kernel_rfl) (by simp) ?_
              refine AllReadyIn.cons rfl (fun K hK' => ?_) ?_
              · go_simp
                refine ⟨trivial, ?_⟩
                refine ((callsIn_wide.2 (leb_Uint.calls 10 _ _ _ hu))).mono ?_
                rintro e W2 ⟨v0, rfl, hR, hb2⟩
                go_simp
                have hsz1 := hT.out.lt
                replace hT := hT.below hb2
                have hrow0 := Kd.own_of_R (Kd.R_lower hR (by omega) (base' := w.heap.size))
                replace hrow := own_below hrow hb2
                refine hK' _ _ ?_
                clear hK' K
                refine wpAnyIn_ready (rs := [3]) (by kernel_rfl) (by simp) ?_
                refine AllReadyIn.cons rfl (fun K hK' => ?_) ?_
                · refine step_wide (by intro c h; cases h) ?_
                  obtain ⟨A0, c0, rfl, hlc0, hC0⟩ := OwnRow.reads (Kd.R_of_own (h1 := fun _ => rfl) hrow (fun _ _ => trivial) (ok := fun _ => True)).2
                  refine Kd.R_append_rows_step (Kd.int .u8) (w0 := W) w.heap.size (by rfl) _ _ 23 5 (.int .u8 0) 1 rfl Try.underlying23 info5 rfl (by decide) (by omega) v0 _ _ A0 _ c0 (fun _ => True) (fun _ => False) rfl rfl (Kd.R_of_own hrow0 (fun _ _ => trivial)) hC0 (fun _ _ h => h) (fun _ h => h.elim) (fun _ _ => trivial) hT.bel (by have := hT.out.lt; omega) (by rw [Nat.mul_one]; simp only [List.length_append]; omega) ?_
                  intro v1 W3 ho3 hb3 hg3 _
                  replace hT := hT.grown (by decide) hrow0 hg3
                  refine hK' _ _ ?_
                  clear hK' K
                  refine wpAnyIn_ready (rs := [4]) (by kernel_rfl) (by simp) ?_
                  refine AllReadyIn.cons rfl (fun K hK' => ?_) ?_
                  · go_simp
                    refine hK' _ _ ?_
                    clear hK' K
                    refine wpAnyIn_done (by kernel_rfl) ?_ _
                    exact PostF12.intro _ _ _ _ () hT ho3
                  exact AllReadyIn.nil
                exact AllReadyIn.nil
              exact AllReadyIn.nil
            exact AllReadyIn.nil
          exact AllReadyIn.nil
        rintro e a' W4 ⟨rfl, t30, t31, t32, t33, v2, v', rfl, hT, hr⟩
        rw [← hspec] at hr
        gi_wp2
        have hK4 := hT.oth.same D _ hK rfl
        refine ⟨by simp, .inl ⟨_, _, rfl, run_takeDeferred hK4, ?_⟩⟩
        refine ⟨_, results_tmp rfl _ _ _, v', rfl, Kd.R_of_own (ownsRow_putObj (Kd.own_of_R hr) _ hK4 rfl) (fun _ _ => trivial), (hB.trans hT.bel).trans (belowK_b (w := w) (Nat.le_refl _) W4 D _ _ (by rw [hs3] at hD; omega) hK4 rfl rfl)⟩
      case stop =>
        rintro D c pre W _ _ h _
        exact h.elim
    clear hKr
    have b1 := Boxed.new w 23 (.slice none 0 0)
    have b2 := Boxed.new (w.alloc (.cells #[.slice none 0 0] 23)) 22 (.int .u64 0)
    rw [World.size_alloc] at b2
    have hB0 : Below w.heap.size w ((w.alloc (.cells #[.slice none 0 0] 23)).alloc (.cells #[.int .u64 0] 22)) := ((Below.refl _ w).alloc (Nat.le_refl _) _).alloc (by simp) _
    obtain ⟨b, t, rfl⟩ : ∃ b t, xs = b :: t := by
      cases xs with
      | nil => exact absurd rfl hx
      | cons b t => exact ⟨b, t, rfl⟩
    have hcc : ∃ ad, A = some ad ∧ ((w.alloc (.cells #[.slice none 0 0] 23)).alloc (.cells #[.int .u64 0] 22)).cell? ad = some (.bool b) := by
      obtain ⟨ad, c1, hA, hc1, hK1, hcell1⟩ := Kd.C_get (Kd.C_below hr0 hB0) false (0 : Int) (by omega) (by simp)
      obtain rfl : c1 = [.bool ((b :: t).getD (0 : Int).toNat false)] := hK1
      have := hcell1 0 _ rfl
      simp [Addr.add] at this
      exact ⟨ad, hA, by simpa using this⟩
    obtain ⟨ad, rfl, hcad⟩ := hcc
    have hlen0 : (b :: t).length = t.length + 1 := rfl
    cases b with
    | false =>
      go_simp
      gi_wp2
      exact key _ _ [] 0 _ _ _ _ _ _ _ _ _ _ _ _ (b1.alloc _) (World.ownsRow_nil _ _ _ _) b2 hB0 (by simp) (by simp) (by simp [flags])
    | true =>
      obtain ⟨i0, hi, hz0, hz1, hz2⟩ := info_parts info5
      have b1' := b1.alloc (.cells #[.int .u64 0] 22)
      obtain ⟨W1, hW1⟩ : ∃ W1, W1 = (w.alloc (.cells #[.slice none 0 0] 23)).alloc (.cells #[.int .u64 0] 22) := ⟨_, rfl⟩
      rw [← hW1] at b1' b2 hB0 hcad ⊢
      clear hW1 b1
      obtain ⟨v, hv, hrow⟩ : ∃ v, Boxed W1 w.heap.size 23 v ∧ W1.ownsRow w.heap.size 5 1 v 0 [] := ⟨_, b1', World.ownsRow_nil _ _ _ _⟩
      clear b1'
      have hc := hv.cell
      have hsz := b2.lt
      have hne := hv.not_row (by decide) hrow
      have hne2 := b2.not_row (by decide) hrow
      go_simp
      gi_wp2_with (gi_at_builtin; refine wpListIn_append_own _ rfl _ _ 23 rfl w.heap.size 5 i0 (.int .u8 0) 1 1 Try.underlying23 hi hz0 hz1 hz2 rfl (by decide) _ 0 [] rfl (hrow.alloc _) ⟨W1.heap.size, 0, none⟩ 1 1 [.int .u8 0] rfl rfl (cell_one_new _ _ _) (by simp [Value.oneCell']) (by decide) (by decide) (by simp; omega) ?_; intro v' w1 hown' hgrow _; obtain ⟨g', cap', rfl⟩ := ownsRow_succ hown'; obtain ⟨hv1, hv2, hr2, hk2, hb2⟩ := hv.appended (by decide) hrow (by omega) (Nat.le_refl _) hown' hgrow; have hc1 := hv1.cell; have hf1 := hv1.frozen; have c1 := (b2.alloc (.cells #[.int .u8 0] 5)).kept hgrow hne2; have c2 := c1.other (B' := w.heap.size) (by omega) (.slice (some ⟨g', 0, none⟩) (0 + 1) cap'); have hcn := c2.cell; have hfn := c2.frozen)
      have hr3 := hr2.kept (grownBy_setCell' _ (w.heap.size + 1) (.int .u64 1)) (.inr (c2.not_row (by decide) hr2).symm)
      exact key _ _ [0] 1 _ _ _ _ _ _ _ _ _ _ _ _ (hv2.other (by omega) _) hr3 (c2.set _) ((hB0.trans hb2).setCell (p := ⟨w.heap.size + 1, 0, none⟩) (Nat.le_succ _) _) (by simp) (by simp) (by simp [flags, Nat.add_comm])
end Go.Proofs.Ytcffooeiennmjaa.ColS
namespace Go.Proofs.Ytcffooeiennmjaa.PA
open Go.RowKit Go.Proofs.YtcffooeiennmjaaW.PrintWords
def column_Runs.f (l : List Int) : Option (List Int) :=
  if l.length ≤ 4398046511104 ∧ (l.all fun x => (Lit.int .i64 x).wf) = true then some (ColS.runs l) else none
theorem column_Runs.calls (A0 : Option Addr) (c0 : Nat) (l0 : List Int) (r : List Int) (w : World) (hr0 : Kd.C (Kd.int .i64) w A0 l0.length l0) (hc0 : l0.length ≤ c0) (h : column_Runs.f l0 = some r) :
    Calls Try.prog 38 #[.slice A0 l0.length c0] w fun e w' => ∃ v0_ : Value, e = .returned (v0_) ∧ Kd.R (Kd.int .u8) 5 w' w.heap.size (fun _ => True) v0_ r ∧ Below w.heap.size w w' := by
  unfold column_Runs.f at h
  split at h
  · rename_i hc
    obtain rfl := Option.some.inj h
    exact callsIn_wide.1 (ColS.Runs_in 3 (Nat.le_refl _) A0 c0 l0 hc.1 (fun x hx => List.all_eq_true.1 hc.2 x hx) w hr0)
  · cases h
def column_Flags.f (l : List Bool) : Option (List Int) :=
  if l.length ≤ 4398046511104 then some (ColS.flags l) else none
theorem column_Flags.calls (A0 : Option Addr) (c0 : Nat) (l0 : List Bool) (r : List Int) (w : World) (hr0 : Kd.C Kd.bool w A0 l0.length l0) (hc0 : l0.length ≤ c0) (h : column_Flags.f l0 = some r) :
    Calls Try.prog 42 #[.slice A0 l0.length c0] w fun e w' => ∃ v0_ : Value, e = .returned (v0_) ∧ Kd.R (Kd.int .u8) 5 w' w.heap.size (fun _ => True) v0_ r ∧ Below w.heap.size w w' := by
  unfold column_Flags.f at h
  split at h
  · rename_i hc
    obtain rfl := Option.some.inj h
    exact callsIn_wide.1 (ColS.Flags_in 3 (Nat.le_refl _) A0 c0 l0 hc w hr0)
  · cases h
end Go.Proofs.Ytcffooeiennmjaa.PA
