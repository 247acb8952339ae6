/- Own texts of this claim. -/
import Derived.Test.YtpnnjefhchppfaaCg25
import Derived.Test.YtpnnjefhchppfaaCg31
import Derived.Test.YtpnnjefhchppfaaCg34
import Derived.Test.YtpnnjefhchppfaaCg37
set_option linter.unusedVariables false
set_option linter.unusedSimpArgs false
namespace Go.Proofs.Ytpnnjefhchppfaa.ColX
open Go Go.RowKit Go.Proofs.YtpnnjefhchppfaaW.PrintWords Go.Proofs.YtpnnjefhchppfaaW.PrintLast Go.Proofs.YtpnnjefhchppfaaW.PrintMore Go.Proofs.Ytpnnjefhchppfaa.LebT Go.Proofs.Ytpnnjefhchppfaa.PA Go.Proofs.Ytpnnjefhchppfaa.ColS
theorem cell_b {W1 W : World} (hT : Below W1.heap.size W1 W) {p : Addr} {v : Value} (h : W1.cell? p = some v) : W.cell? p = some v := by
 have hlt : p.block < W1.heap.size := by
  apply Decidable.byContradiction
  intro hn
  have : W1.heap[p.block]? = none := Array.getElem?_eq_none (by omega)
  simp [World.cell?, this] at h
 exact (hT.cell hlt).trans h
def PostX (W1 : World) (A0 : Option Addr) (c0 : Nat) (xs : List Int) (A1 : Option Addr) (c1 : Nat) (v2 : Value) (i : Nat) (r : List Int) (e : Exit) (a' : Act) (W' : World) : Prop :=
 e = .normal ∧ ∃ t12 t13 t14 t15 t16 t17 t18 t19 t20 t21 t22 t23 t24 t25 t26 t27 t28 t29 t30 t31 t32 t33 v', a' = { tmps := #[.slice A0 xs.length c0, undef, .slice none 0 0, .slice A1 (st xs).length c1, v', .int .i64 (i : Int), .slice A0 xs.length c0, .slice A1 (st xs).length c1, .slice A1 (st xs).length c1, .int .i64 ((st xs).length : Int), .int .u64 ((st xs).length : Int), v2, t12, t13, t14, t15, t16, t17, t18, t19, t20, t21, t22, t23, t24, t25, t26, t27, t28, t29, t30, t31, t32, t33, undef], defers := [] } ∧ Below W1.heap.size W1 W' ∧ Kd.R (Kd.int .u8) 5 W' W1.heap.size (fun _ => True) v' r
theorem PostX.intro {W1 : World} {A0 : Option Addr} {c0 : Nat} {xs : List Int} {A1 : Option Addr} {c1 : Nat} {v2 : Value} {i : Nat} {r : List Int} {W' : World} {t12 t13 t14 t15 t16 t17 t18 t19 t20 t21 t22 t23 t24 t25 t26 t27 t28 t29 t30 t31 t32 t33 : Value} (v' : Value) (hT : Below W1.heap.size W1 W') (hr : Kd.R (Kd.int .u8) 5 W' W1.heap.size (fun _ => True) v' r) :
  PostX W1 A0 c0 xs A1 c1 v2 i r .normal { tmps := #[.slice A0 xs.length c0, undef, .slice none 0 0, .slice A1 (st xs).length c1, v', .int .i64 (i : Int), .slice A0 xs.length c0, .slice A1 (st xs).length c1, .slice A1 (st xs).length c1, .int .i64 ((st xs).length : Int), .int .u64 ((st xs).length : Int), v2, t12, t13, t14, t15, t16, t17, t18, t19, t20, t21, t22, t23, t24, t25, t26, t27, t28, t29, t30, t31, t32, t33, undef], defers := [] } W' := ⟨rfl, t12, t13, t14, t15, t16, t17, t18, t19, t20, t21, t22, t23, t24, t25, t26, t27, t28, t29, t30, t31, t32, t33, v', rfl, hT, hr⟩
theorem flat_len' (ps : List (Int × Nat)) (h : ∀ p ∈ ps, (Lit.int .i64 p.1).wf = true ∧ p.2 < 18446744073709551616) : (flat ps).length ≤ 20 * ps.length := by
 induction ps with
 | nil => simp [flat]
 | cons p t ih =>
  have hp := h p (by simp)
  have h1 := LebP.wf_i64 hp.1
  have h3 : (putU p.2).length ≤ 10 := putU_len64 hp.2
  have h4 : (putI p.1).length ≤ 10 := putI_len64 h1.1 h1.2
  have e : flat (p :: t) = putU p.2 ++ putI p.1 ++ flat t := by simp [flat]
  have := ih (fun q hq => h q (by simp [hq]))
  rw [e]
  simp only [List.length_append, List.length_cons]
  omega
def rsOf (xs : List Int) : List S78 := (st xs).map (fun p => ⟨(p.2 : Int), p.1⟩)

theorem st_snoc_same {α : Type} [DecidableEq α] (x : α) : ∀ ys : List α, ys.getLast? = some x → ∃ p n, st ys = p ++ [(x, n)] ∧ st (ys ++ [x]) = p ++ [(x, n + 1)]
 | [], h => by simp at h
 | [y], h => by
  obtain rfl : y = x := by simpa using h
  exact ⟨[], 1, rfl, by simp [st]⟩
 | y :: z :: t, h => by
  obtain ⟨p, n, h1, h2⟩ := st_snoc_same x (z :: t) (by simpa using h)
  cases p with
  | nil =>
   by_cases hy : y = x
   ·exact ⟨[], n + 1, by rw [st, h1]; simp [hy], by rw [List.cons_append, st, h2]; simp [hy]⟩
   ·exact ⟨[(y, 1)], n, by rw [st, h1]; simp [hy], by rw [List.cons_append, st, h2]; simp [hy]⟩
  | cons a p' =>
   obtain ⟨a, m⟩ := a
   by_cases hy : y = a
   ·exact ⟨(a, m + 1) :: p', n, by rw [st, h1]; simp [hy], by rw [List.cons_append, st, h2]; simp [hy]⟩
   ·exact ⟨(y, 1) :: (a, m) :: p', n, by rw [st, h1]; simp [hy], by rw [List.cons_append, st, h2]; simp [hy]⟩
theorem st_snoc_new {α : Type} [DecidableEq α] (x : α) : ∀ ys : List α, ys.getLast? ≠ some x → st (ys ++ [x]) = st ys ++ [(x, 1)]
 | [], _ => by simp [st]
 | [y], h => by
  have hy : y ≠ x := by simpa using h
  simp [st, hy]
 | y :: z :: t, h => by
  have ih := st_snoc_new x (z :: t) (by simpa using h)
  obtain ⟨n, r, hr⟩ := st_head z t
  rw [hr] at ih
  rw [List.cons_append, st, ih]
  simp only [List.cons_append]
  rw [st.eq_def (y :: z :: t)]
  simp only [hr]
  by_cases hy : y = z <;> simp [hy]
theorem split_l0 (xs : List Int) (hlen : xs.length ≤ 4398046511104) : ∀ (d k i : Nat), i + d = xs.length → d < k → stemmaref03_Split.l0 k xs (rsOf (xs.take i)) (i : Int) = some (rsOf xs)
 | d, 0, i, _, h => by omega
 | 0, k + 1, i, hi, _ => by
  have h1 : ¬ ((i : Int) < (xs.length : Int)) := by omega
  rw [stemmaref03_Split.l0, if_neg h1, List.take_of_length_le (by omega)]
 | d + 1, k + 1, i, hi, hk => by
  have ih := split_l0 xs hlen d k (i + 1) (by omega) (by omega)
  have hlt : i < xs.length := by omega
  have h1 : ((i : Int) < (xs.length : Int)) := by omega
  have h3 : (0 : Int) ≤ (i : Int) := by omega
  have hw : wrap64 ((i : Int) + 1) = ((i + 1 : Nat) : Int) := by unfold wrap64; omega
  have hrl : (rsOf (xs.take i)).length ≤ i := by
   have := st_length (xs.take i)
   rw [List.length_take] at this
   simp only [rsOf, List.length_map]; omega
  have h8 : (rsOf (xs.take i)).length < 8796093022208 := by omega
  have hrd : rd xs (i : Int) = xs[i] := by simp [rd, List.getD_eq_getElem?_getD, hlt]
  have htk : xs.take (i + 1) = xs.take i ++ [xs[i]] := by rw [List.take_add_one, List.getElem?_eq_getElem hlt]; rfl
  rw [stemmaref03_Split.l0, if_pos h1, hw, hrd]
  by_cases h0 : (i : Int) > 0
  ·have hlast : (xs.take i).getLast? = some xs[i - 1] := by
    rw [List.getLast?_eq_getElem?, List.length_take, List.getElem?_take, if_pos (by omega)]
    rw [show min i xs.length - 1 = i - 1 by omega, List.getElem?_eq_getElem (by omega)]
   have hw2 : wrap64 ((i : Int) - 1) = ((i - 1 : Nat) : Int) := by unfold wrap64; omega
   have hrd2 : rd xs ((i - 1 : Nat) : Int) = xs[i - 1] := by simp [rd, List.getD_eq_getElem?_getD, show i - 1 < xs.length by omega]
   rw [if_pos h0, if_pos h3, hw2, if_pos (by omega), if_pos (by omega), hrd2]
   by_cases hs : xs[i] = xs[i - 1]
   ·obtain ⟨p, n, e1, e2⟩ := st_snoc_same xs[i] (xs.take i) (by rw [hlast, hs])
    have er : rsOf (xs.take i) = p.map (fun p => ⟨(p.2 : Int), p.1⟩) ++ [⟨(n : Int), xs[i]⟩] := by rw [rsOf, e1]; simp
    have hn : n ≤ xs.length := by
     have := st_mem (xs.take i) (xs[i], n) (by rw [e1]; simp)
     have := this.2
     rw [List.length_take] at this
     omega
    have hpl : (rsOf (xs.take i)).length = p.length + 1 := by rw [er]; simp
    have hw3 : wrap64 (((rsOf (xs.take i)).length : Int) - 1) = ((p.length : Nat) : Int) := by rw [hpl]; unfold wrap64; omega
    rw [if_pos hs, hw3, if_pos (by omega), if_pos (by omega)]
    have hrr : rd_T78 (rsOf (xs.take i)) ((p.length : Nat) : Int) = ⟨(n : Int), xs[i]⟩ := by
     rw [er]; simp [rd_T78, List.getD_eq_getElem?_getD]
    rw [hrr, Int.toNat_natCast]
    have hw4 : wrap64 ((n : Int) + 1) = ((n + 1 : Nat) : Int) := by unfold wrap64; omega
    simp only [hw4]
    rw [htk] at ih
    have e3 : rsOf (xs.take i ++ [xs[i]]) = (rsOf (xs.take i)).set p.length ⟨((n + 1 : Nat) : Int), xs[i]⟩ := by
     rw [er, rsOf, e2]
     simp
    rw [e3] at ih
    exact ih
   ·have hne : (xs.take i).getLast? ≠ some xs[i] := by rw [hlast]; exact fun h => hs (Option.some.inj h).symm
    rw [if_neg hs, if_pos h8]
    have e3 : rsOf (xs.take i ++ [xs[i]]) = rsOf (xs.take i) ++ [⟨1, xs[i]⟩] := by rw [rsOf, st_snoc_new _ _ hne]; simp [rsOf]
    rw [htk, e3] at ih
    exact ih
  ·obtain rfl : i = 0 := by omega
   rw [if_neg h0, if_pos h3, if_pos h8]
   have e3 : rsOf (xs.take 0 ++ [xs[0]]) = rsOf (xs.take 0) ++ [⟨1, xs[0]⟩] := by simp [rsOf, st]
   rw [htk, e3] at ih
   exact ih
theorem split_f (xs : List Int) (hlen : xs.length ≤ 4398046511104) : stemmaref03_Split.f (xs.length + 1) xs = some (rsOf xs) := by
 have := split_l0 xs hlen xs.length (xs.length + 1) 0 (by omega) (by omega)
 simpa [stemmaref03_Split.f, rsOf, st] using this
set_option maxRecDepth 100000 in
set_option maxHeartbeats 1000000 in
theorem Runs_calls (k : Nat) (A0 : Option Addr) (c0 : Nat) (xs : List Int) (hlen : xs.length ≤ 4398046511104) (hwf : ∀ x ∈ xs, (Lit.int .i64 x).wf = true) (hs : stemmaref03_Split.f k xs = some (rsOf xs)) (w : World) (hr0 : Kd.C (Kd.int .i64) w A0 xs.length xs) (hc0 : xs.length ≤ c0) :
  Calls Try.prog 34 #[.slice A0 xs.length c0] w fun e w' => ∃ v0_ : Value, e = .returned (v0_) ∧ Kd.R (Kd.int .u8) 5 w' w.heap.size (fun _ => True) v0_ (runs xs) ∧ Below w.heap.size w w' := by
 have hst := st_length xs
 have hrl : (rsOf xs).length = (st xs).length := by simp [rsOf]
 have hu0 : stemmaref02_Uint.f 10 ((st xs).length : Int) = some (putU (st xs).length) := by
  have := LebP.rUint_f (k := 10) (by omega) (a := ((st xs).length : Int)) (by omega) (by omega)
  rw [this, Int.toNat_natCast]
 go_enter Try.func34, Try.ntmps34
 go_wp2_with (first
  | ((with_reducible refine gate_callee (f := 54) rfl ?_); refine goesL_ (some 7) rfl rfl Try.func54 (by kernel_rfl) rfl #[.slice A0 xs.length c0] rfl zc_ ?_; refine (stemmaref03_Split.calls k A0 c0 xs (rsOf xs) _ hr0 hc0 hs).mono ?_; rintro e W1 ⟨v1, rfl, hR1, hb1⟩; refine ⟨_, rfl, ?_⟩; obtain ⟨A1, c1, rfl, hlc1, hC1⟩ := Kd.R_reads hR1)
  | ((with_reducible refine gate_callee (f := 35) rfl ?_); refine goesL_ (some 11) rfl rfl Try.func35 (by kernel_rfl) rfl #[.int .u64 ((st xs).length : Int)] rfl zc_ ?_; refine (stemmaref02_Uint.calls 10 _ _ _ hu0).mono ?_; rintro e W2 ⟨v2, rfl, hR2, hb2⟩; refine ⟨_, rfl, ?_⟩))
 have hlu0 : (putU (st xs).length).length ≤ 10 := putU_len64 (by omega)
 have hB1 : Below W1.heap.size W1 W2 := hb2
 go_loopg [4, 5] ((st xs).length + 1) (fun kq v4 v5 w' => ∃ i : Nat, v5 = .int .i64 (i : Int) ∧ i ≤ (st xs).length ∧ (st xs).length < i + kq ∧ Below W1.heap.size W1 w' ∧ Kd.R (Kd.int .u8) 5 w' W1.heap.size (fun _ => True) v4 (putU (st xs).length ++ flat ((st xs).take i)))
 case atStart => exact ⟨0, rfl, Nat.zero_le _, by omega, hb2, by simpa [flat] using hR2⟩
 case round =>
  obtain ⟨i, rfl, hi, hik, hT, hrow⟩ := hrel
  cases gk with
  | zero => omega
  | succ k1 =>
   by_cases hlt : i < (st xs).length
   ·obtain ⟨A4, c4, rfl, hl4, hC4⟩ := Kd.R_reads hrow
    have hRl : (rsOf xs)[i]? = some ⟨((st xs)[i].2 : Int), (st xs)[i].1⟩ := by simp [rsOf, hlt]
    obtain ⟨many, val, hmv⟩ : ∃ many val, (st xs)[i] = (val, many) := ⟨_, _, rfl⟩
    have hmem := st_mem xs (st xs)[i] (List.getElem_mem hlt)
    rw [hmv] at hRl hmem
    have hwv := hwf val hmem.1
    have hvr := LebP.wf_i64 hwv
    obtain ⟨ad, rfl, hm0, hm1⟩ := at_T78 hC1 (i : Int) (by omega) (by rw [hrl]; omega)
    have hrd : rd_T78 (rsOf xs) (i : Int) = ⟨(many : Int), val⟩ := by simp [rd_T78, List.getD_eq_getElem?_getD, hRl]
    rw [hrd, Int.toNat_natCast] at hm0 hm1
    have hu : stemmaref02_Uint.f 10 (IntKind.u64.wrap (many : Int)) = some (putU many) := by
     have h2 := hmem.2
     have := LebP.rUint_f (k := 10) (by omega) (a := (many : Int)) (by omega) (by omega)
     rw [show IntKind.u64.wrap (many : Int) = (many : Int) by rw [IntKind.wrap_u64]; omega, this, Int.toNat_natCast]
    have hi' : stemmaref02_Int.f 10 val = some (putI val) := LebP.rInt_f (by omega) hvr.1 hvr.2
    have hlu : (putU many).length ≤ 10 := putU_len64 (by have := hmem.2; omega)
    have hli : (putI val).length ≤ 10 := putI_len64 hvr.1 hvr.2
    have hfl : (flat ((st xs).take i)).length ≤ 20 * i := by
     have := flat_len' ((st xs).take i) (fun p hp => by have := st_mem xs p (List.mem_of_mem_take hp); exact ⟨hwf _ this.1, by have := this.2; omega⟩)
     rw [List.length_take] at this
     omega
    have hlb : (putU (st xs).length ++ flat ((st xs).take i)).length ≤ 10 + 20 * i := by simp only [List.length_append]; omega
    obtain ⟨acc, hacc⟩ : ∃ acc, acc = putU (st xs).length ++ flat ((st xs).take i) := ⟨_, rfl⟩
    rw [← hacc] at hrow hlb hl4 hC4 ⊢
    have hnext : acc ++ putU many ++ putI val = putU (st xs).length ++ flat ((st xs).take (i + 1)) := by
     rw [hacc, List.take_add_one, List.getElem?_eq_getElem hlt, hmv]
     simp [flat]
    clear hacc
    go_wp2
    refine wp_mono (Q := PostX W1 A0 c0 xs (some ad) c1 v2 i (putU (st xs).length ++ flat ((st xs).take (i + 1)))) ?_ ?_
    ·obtain ⟨W, hW⟩ : ∃ W, W = wr.drew := ⟨_, rfl⟩
     replace hT := hT.trans (below_drewN' W1.heap.size wr 1)
     replace hrow : Kd.R (Kd.int .u8) 5 wr.drew W1.heap.size (fun _ => True) _ acc := Kd.R_drew hrow
     change Below _ _ wr.drew at hT
     refine wp_region_any (by kernel_rfl) ?_
     change wpAny _ _ _ _ _ _ _ (World.drew _)
     rw [← hW] at hT hrow ⊢
     clear hW hik hRl hmem hrl hs
     refine wpAny_take (i := 0) (v := ?v16) rfl (by kernel_rfl) (by kernel_rfl) (by kernel_rfl) (fun _ _ _ h => nomatch h.1) (Or.inl ⟨by rfl, ?hy16⟩) ?rest16
     case hy16 => (intro w_; go_simp; try with_reducible rfl)
     case rest16 =>
      refine wpAny_take (i := 1) (v := ?v17) rfl (by kernel_rfl) (by kernel_rfl) (by kernel_rfl) (fun _ _ _ h => nomatch h.1) (Or.inl ⟨by rfl, ?hy17⟩) ?rest17
      case hy17 => (intro w_; go_simp; try with_reducible rfl)
      case rest17 =>
       refine wpAny_take (i := 2) (v := ?v18) rfl (by kernel_rfl) (by kernel_rfl) (by kernel_rfl) (fun _ _ _ h => nomatch h.1) (Or.inl ⟨by rfl, ?hy18⟩) ?rest18
       case hy18 => (intro w_; go_simp; try with_reducible rfl)
       case rest18 =>
        refine wpAny_take (i := 3) (v := ?v19) rfl (by kernel_rfl) (by kernel_rfl) (by kernel_rfl) (fun _ _ _ h => nomatch h.1) (Or.inl ⟨by rfl, ?hy19⟩) ?rest19
        case hy19 => (intro w_; go_simp; try with_reducible rfl)
        case rest19 =>
         refine wpAny_take (i := 4) (v := ?v20) rfl (by kernel_rfl) (by kernel_rfl) (by kernel_rfl) (fun _ _ _ h => nomatch h.1) (Or.inl ⟨by rfl, ?hy20⟩) ?rest20
         case hy20 => (intro w_; go_simp; try with_reducible rfl)
         case rest20 =>
          refine wpAny_take (i := 9) (v := ?v21) rfl (by kernel_rfl) (by kernel_rfl) (by kernel_rfl) (fun _ _ _ h => nomatch h.1) (Or.inl ⟨by rfl, ?hy21⟩) ?rest21
          case hy21 => (intro w_; go_simp; try with_reducible rfl)
          case rest21 =>
           refine wpAny_take (i := 10) (v := ?v22) rfl (by kernel_rfl) (by kernel_rfl) (by kernel_rfl) (fun _ _ _ h => nomatch h.1) (Or.inl ⟨by rfl, ?hy22⟩) ?rest22
           case hy22 => (intro w_; go_simp; try with_reducible rfl)
           case rest22 =>
            refine wpAny_take (i := 11) (v := ?v23) rfl (by kernel_rfl) (by kernel_rfl) (by kernel_rfl) (fun _ _ _ h => nomatch h.1) (Or.inl ⟨by rfl, ?hy23⟩) ?rest23
            case hy23 => (intro w_; go_simp; try with_reducible rfl)
            case rest23 =>
             refine wpAny_take (i := 12) (v := ?v24) rfl (by kernel_rfl) (by kernel_rfl) (by kernel_rfl) (fun _ _ _ h => nomatch h.1) (Or.inl ⟨by rfl, ?hy24⟩) ?rest24
             case hy24 => (intro w_; go_simp; try with_reducible rfl)
             case rest24 =>
              refine wpAny_ready (rs := [5, 13]) (by kernel_rfl) (by simp) ?_
              refine AllReady.cons rfl (fun K hK => ?_) ?_
              ·have hcO := cell_b hT hm0
               go_simp
               refine hK _ _ ?_
               clear hK K hcO
               refine wpAny_take (i := 6) (v := ?v25) rfl (by kernel_rfl) (by kernel_rfl) (by kernel_rfl) (fun _ _ _ h => nomatch h.1) (Or.inl ⟨by rfl, ?hy25⟩) ?rest25
               case hy25 => (intro w_; go_simp; try with_reducible rfl)
               case rest25 =>
                refine wpAny_ready (rs := [7, 13]) (by kernel_rfl) (by simp) ?_
                refine AllReady.cons rfl (fun K hK => ?_) ?_
                ·go_simp
                 refine (stemmaref02_Uint.calls 10 _ _ _ hu).mono ?_
                 rintro e W2 ⟨u, rfl, hR, hb2⟩
                 go_simp
                 have hsz := hT.size
                 replace hT := hT.trans (hb2.mono hsz)
                 replace hrow := Kd.R_below hrow hb2
                 replace hR := Kd.R_lower hR (base' := W1.heap.size) hsz
                 obtain ⟨Au, cu, rfl, hlu, hCu⟩ := Kd.R_reads hR
                 refine hK _ _ ?_
                 clear hK K
                 refine wpAny_ready (rs := [8, 13]) (by kernel_rfl) (by simp) ?_
                 refine AllReady.cons rfl (fun K hK => ?_) ?_
                 ·refine Kd.R_append_rows_step (Kd.int .u8) (w0 := W1) W1.heap.size (by rfl) _ _ 23 5 (.int .u8 0) 1 rfl Try.underlying23 info5 rfl (by decide) (by omega) _ _ _ Au _ cu (fun _ => True) (fun _ => False) rfl rfl hrow hCu (fun _ _ h => h) (fun _ h => h.elim) (fun _ _ => trivial) hT (by have := hT.size; omega) (by rw [Nat.mul_one]; omega) ?_
                  intro xu W3 ho3 hb3 hg3 _
                  clear hrow hT
                  have hrow := ho3
                  have hT := hb3
                  clear ho3 hb3
                  refine hK _ _ ?_
                  clear hK K
                  refine wpAny_ready (rs := [13]) (by kernel_rfl) (by simp) ?_
                  refine AllReady.cons rfl (fun K hK => ?_) ?_
                  ·have hcO := cell_b hT hm1
                   go_simp
                   refine hK _ _ ?_
                   clear hK K hcO
                   refine wpAny_ready (rs := [14]) (by kernel_rfl) (by simp) ?_
                   refine AllReady.cons rfl (fun K hK => ?_) ?_
                   ·go_simp
                    refine (stemmaref02_Int.calls 10 _ _ _ hi').mono ?_
                    rintro e W2 ⟨v, rfl, hR, hb2⟩
                    go_simp
                    have hsz := hT.size
                    replace hT := hT.trans (hb2.mono hsz)
                    replace hrow := Kd.R_below hrow hb2
                    replace hR := Kd.R_lower hR (base' := W1.heap.size) hsz
                    obtain ⟨Av, cv, rfl, hlv, hCv⟩ := Kd.R_reads hR
                    refine hK _ _ ?_
                    clear hK K
                    refine wpAny_ready (rs := [15]) (by kernel_rfl) (by simp) ?_
                    refine AllReady.cons rfl (fun K hK => ?_) ?_
                    ·refine Kd.R_append_rows_step (Kd.int .u8) (w0 := W1) W1.heap.size (by rfl) _ _ 23 5 (.int .u8 0) 1 rfl Try.underlying23 info5 rfl (by decide) (by omega) _ _ _ Av _ cv (fun _ => True) (fun _ => False) rfl rfl hrow hCv (fun _ _ h => h) (fun _ h => h.elim) (fun _ _ => trivial) hT (by have := hT.size; omega) (by rw [Nat.mul_one]; simp only [List.length_append]; omega) ?_
                     intro xv W3 ho3 hb3 hg3 _
                     clear hrow hT
                     have hrow := ho3
                     have hT := hb3
                     clear ho3 hb3
                     refine hK _ _ ?_
                     clear hK K
                     refine wpAny_take (i := 16) (v := ?v26) rfl (by kernel_rfl) (by kernel_rfl) (by kernel_rfl) (fun _ _ _ h => nomatch h.1) (Or.inl ⟨by rfl, ?hy26⟩) ?rest26
                     case hy26 => (intro w_; go_simp; try with_reducible rfl)
                     case rest26 =>
                      refine wpAny_done (by kernel_rfl) ?_ _
                      exact PostX.intro _ hT (by rw [← hnext]; exact hrow)
                    exact AllReady.nil
                   exact AllReady.nil
                  exact AllReady.nil
                 refine AllReady.cons rfl (fun K hK => ?_) ?_
                 ·have hcO := cell_b hT hm1
                  go_simp
                  refine hK _ _ ?_
                  clear hK K hcO
                  refine wpAny_ready (rs := [8]) (by kernel_rfl) (by simp) ?_
                  refine AllReady.cons rfl (fun K hK => ?_) ?_
                  ·refine Kd.R_append_rows_step (Kd.int .u8) (w0 := W1) W1.heap.size (by rfl) _ _ 23 5 (.int .u8 0) 1 rfl Try.underlying23 info5 rfl (by decide) (by omega) _ _ _ Au _ cu (fun _ => True) (fun _ => False) rfl rfl hrow hCu (fun _ _ h => h) (fun _ h => h.elim) (fun _ _ => trivial) hT (by have := hT.size; omega) (by rw [Nat.mul_one]; omega) ?_
                   intro xu W3 ho3 hb3 hg3 _
                   clear hrow hT
                   have hrow := ho3
                   have hT := hb3
                   clear ho3 hb3
                   refine hK _ _ ?_
                   clear hK K
                   refine wpAny_ready (rs := [14]) (by kernel_rfl) (by simp) ?_
                   refine AllReady.cons rfl (fun K hK => ?_) ?_
                   ·go_simp
                    refine (stemmaref02_Int.calls 10 _ _ _ hi').mono ?_
                    rintro e W2 ⟨v, rfl, hR, hb2⟩
                    go_simp
                    have hsz := hT.size
                    replace hT := hT.trans (hb2.mono hsz)
                    replace hrow := Kd.R_below hrow hb2
                    replace hR := Kd.R_lower hR (base' := W1.heap.size) hsz
                    obtain ⟨Av, cv, rfl, hlv, hCv⟩ := Kd.R_reads hR
                    refine hK _ _ ?_
                    clear hK K
                    refine wpAny_ready (rs := [15]) (by kernel_rfl) (by simp) ?_
                    refine AllReady.cons rfl (fun K hK => ?_) ?_
                    ·refine Kd.R_append_rows_step (Kd.int .u8) (w0 := W1) W1.heap.size (by rfl) _ _ 23 5 (.int .u8 0) 1 rfl Try.underlying23 info5 rfl (by decide) (by omega) _ _ _ Av _ cv (fun _ => True) (fun _ => False) rfl rfl hrow hCv (fun _ _ h => h) (fun _ h => h.elim) (fun _ _ => trivial) hT (by have := hT.size; omega) (by rw [Nat.mul_one]; simp only [List.length_append]; omega) ?_
                     intro xv W3 ho3 hb3 hg3 _
                     clear hrow hT
                     have hrow := ho3
                     have hT := hb3
                     clear ho3 hb3
                     refine hK _ _ ?_
                     clear hK K
                     refine wpAny_take (i := 16) (v := ?v27) rfl (by kernel_rfl) (by kernel_rfl) (by kernel_rfl) (fun _ _ _ h => nomatch h.1) (Or.inl ⟨by rfl, ?hy27⟩) ?rest27
                     case hy27 => (intro w_; go_simp; try with_reducible rfl)
                     case rest27 =>
                      refine wpAny_done (by kernel_rfl) ?_ _
                      exact PostX.intro _ hT (by rw [← hnext]; exact hrow)
                    exact AllReady.nil
                   exact AllReady.nil
                  exact AllReady.nil
                 exact AllReady.nil
                refine AllReady.cons rfl (fun K hK => ?_) ?_
                ·have hcO := cell_b hT hm1
                 go_simp
                 refine hK _ _ ?_
                 clear hK K hcO
                 refine wpAny_ready (rs := [7]) (by kernel_rfl) (by simp) ?_
                 refine AllReady.cons rfl (fun K hK => ?_) ?_
                 ·go_simp
                  refine (stemmaref02_Uint.calls 10 _ _ _ hu).mono ?_
                  rintro e W2 ⟨u, rfl, hR, hb2⟩
                  go_simp
                  have hsz := hT.size
                  replace hT := hT.trans (hb2.mono hsz)
                  replace hrow := Kd.R_below hrow hb2
                  replace hR := Kd.R_lower hR (base' := W1.heap.size) hsz
                  obtain ⟨Au, cu, rfl, hlu, hCu⟩ := Kd.R_reads hR
                  refine hK _ _ ?_
                  clear hK K
                  refine wpAny_ready (rs := [8]) (by kernel_rfl) (by simp) ?_
                  refine AllReady.cons rfl (fun K hK => ?_) ?_
                  ·refine Kd.R_append_rows_step (Kd.int .u8) (w0 := W1) W1.heap.size (by rfl) _ _ 23 5 (.int .u8 0) 1 rfl Try.underlying23 info5 rfl (by decide) (by omega) _ _ _ Au _ cu (fun _ => True) (fun _ => False) rfl rfl hrow hCu (fun _ _ h => h) (fun _ h => h.elim) (fun _ _ => trivial) hT (by have := hT.size; omega) (by rw [Nat.mul_one]; omega) ?_
                   intro xu W3 ho3 hb3 hg3 _
                   clear hrow hT
                   have hrow := ho3
                   have hT := hb3
                   clear ho3 hb3
                   refine hK _ _ ?_
                   clear hK K
                   refine wpAny_ready (rs := [14]) (by kernel_rfl) (by simp) ?_
                   refine AllReady.cons rfl (fun K hK => ?_) ?_
                   ·go_simp
                    refine (stemmaref02_Int.calls 10 _ _ _ hi').mono ?_
                    rintro e W2 ⟨v, rfl, hR, hb2⟩
                    go_simp
                    have hsz := hT.size
                    replace hT := hT.trans (hb2.mono hsz)
                    replace hrow := Kd.R_below hrow hb2
                    replace hR := Kd.R_lower hR (base' := W1.heap.size) hsz
                    obtain ⟨Av, cv, rfl, hlv, hCv⟩ := Kd.R_reads hR
                    refine hK _ _ ?_
                    clear hK K
                    refine wpAny_ready (rs := [15]) (by kernel_rfl) (by simp) ?_
                    refine AllReady.cons rfl (fun K hK => ?_) ?_
                    ·refine Kd.R_append_rows_step (Kd.int .u8) (w0 := W1) W1.heap.size (by rfl) _ _ 23 5 (.int .u8 0) 1 rfl Try.underlying23 info5 rfl (by decide) (by omega) _ _ _ Av _ cv (fun _ => True) (fun _ => False) rfl rfl hrow hCv (fun _ _ h => h) (fun _ h => h.elim) (fun _ _ => trivial) hT (by have := hT.size; omega) (by rw [Nat.mul_one]; simp only [List.length_append]; omega) ?_
                     intro xv W3 ho3 hb3 hg3 _
                     clear hrow hT
                     have hrow := ho3
                     have hT := hb3
                     clear ho3 hb3
                     refine hK _ _ ?_
                     clear hK K
                     refine wpAny_take (i := 16) (v := ?v28) rfl (by kernel_rfl) (by kernel_rfl) (by kernel_rfl) (fun _ _ _ h => nomatch h.1) (Or.inl ⟨by rfl, ?hy28⟩) ?rest28
                     case hy28 => (intro w_; go_simp; try with_reducible rfl)
                     case rest28 =>
                      refine wpAny_done (by kernel_rfl) ?_ _
                      exact PostX.intro _ hT (by rw [← hnext]; exact hrow)
                    exact AllReady.nil
                   exact AllReady.nil
                  exact AllReady.nil
                 exact AllReady.nil
                exact AllReady.nil
              refine AllReady.cons rfl (fun K hK => ?_) ?_
              ·have hcO := cell_b hT hm1
               go_simp
               refine hK _ _ ?_
               clear hK K hcO
               refine wpAny_ready (rs := [5]) (by kernel_rfl) (by simp) ?_
               refine AllReady.cons rfl (fun K hK => ?_) ?_
               ·have hcO := cell_b hT hm0
                go_simp
                refine hK _ _ ?_
                clear hK K hcO
                refine wpAny_take (i := 6) (v := ?v29) rfl (by kernel_rfl) (by kernel_rfl) (by kernel_rfl) (fun _ _ _ h => nomatch h.1) (Or.inl ⟨by rfl, ?hy29⟩) ?rest29
                case hy29 => (intro w_; go_simp; try with_reducible rfl)
                case rest29 =>
                 refine wpAny_ready (rs := [7]) (by kernel_rfl) (by simp) ?_
                 refine AllReady.cons rfl (fun K hK => ?_) ?_
                 ·go_simp
                  refine (stemmaref02_Uint.calls 10 _ _ _ hu).mono ?_
                  rintro e W2 ⟨u, rfl, hR, hb2⟩
                  go_simp
                  have hsz := hT.size
                  replace hT := hT.trans (hb2.mono hsz)
                  replace hrow := Kd.R_below hrow hb2
                  replace hR := Kd.R_lower hR (base' := W1.heap.size) hsz
                  obtain ⟨Au, cu, rfl, hlu, hCu⟩ := Kd.R_reads hR
                  refine hK _ _ ?_
                  clear hK K
                  refine wpAny_ready (rs := [8]) (by kernel_rfl) (by simp) ?_
                  refine AllReady.cons rfl (fun K hK => ?_) ?_
                  ·refine Kd.R_append_rows_step (Kd.int .u8) (w0 := W1) W1.heap.size (by rfl) _ _ 23 5 (.int .u8 0) 1 rfl Try.underlying23 info5 rfl (by decide) (by omega) _ _ _ Au _ cu (fun _ => True) (fun _ => False) rfl rfl hrow hCu (fun _ _ h => h) (fun _ h => h.elim) (fun _ _ => trivial) hT (by have := hT.size; omega) (by rw [Nat.mul_one]; omega) ?_
                   intro xu W3 ho3 hb3 hg3 _
                   clear hrow hT
                   have hrow := ho3
                   have hT := hb3
                   clear ho3 hb3
                   refine hK _ _ ?_
                   clear hK K
                   refine wpAny_ready (rs := [14]) (by kernel_rfl) (by simp) ?_
                   refine AllReady.cons rfl (fun K hK => ?_) ?_
                   ·go_simp
                    refine (stemmaref02_Int.calls 10 _ _ _ hi').mono ?_
                    rintro e W2 ⟨v, rfl, hR, hb2⟩
                    go_simp
                    have hsz := hT.size
                    replace hT := hT.trans (hb2.mono hsz)
                    replace hrow := Kd.R_below hrow hb2
                    replace hR := Kd.R_lower hR (base' := W1.heap.size) hsz
                    obtain ⟨Av, cv, rfl, hlv, hCv⟩ := Kd.R_reads hR
                    refine hK _ _ ?_
                    clear hK K
                    refine wpAny_ready (rs := [15]) (by kernel_rfl) (by simp) ?_
                    refine AllReady.cons rfl (fun K hK => ?_) ?_
                    ·refine Kd.R_append_rows_step (Kd.int .u8) (w0 := W1) W1.heap.size (by rfl) _ _ 23 5 (.int .u8 0) 1 rfl Try.underlying23 info5 rfl (by decide) (by omega) _ _ _ Av _ cv (fun _ => True) (fun _ => False) rfl rfl hrow hCv (fun _ _ h => h) (fun _ h => h.elim) (fun _ _ => trivial) hT (by have := hT.size; omega) (by rw [Nat.mul_one]; simp only [List.length_append]; omega) ?_
                     intro xv W3 ho3 hb3 hg3 _
                     clear hrow hT
                     have hrow := ho3
                     have hT := hb3
                     clear ho3 hb3
                     refine hK _ _ ?_
                     clear hK K
                     refine wpAny_take (i := 16) (v := ?v30) rfl (by kernel_rfl) (by kernel_rfl) (by kernel_rfl) (fun _ _ _ h => nomatch h.1) (Or.inl ⟨by rfl, ?hy30⟩) ?rest30
                     case hy30 => (intro w_; go_simp; try with_reducible rfl)
                     case rest30 =>
                      refine wpAny_done (by kernel_rfl) ?_ _
                      exact PostX.intro _ hT (by rw [← hnext]; exact hrow)
                    exact AllReady.nil
                   exact AllReady.nil
                  exact AllReady.nil
                 exact AllReady.nil
               exact AllReady.nil
              exact AllReady.nil
    ·rintro e a' W' ⟨rfl, t12, t13, t14, t15, t16, t17, t18, t19, t20, t21, t22, t23, t24, t25, t26, t27, t28, t29, t30, t31, t32, t33, v', rfl, hT, hrow⟩
     go_wp2
     go_roundg k1
     case measure => omega
     case rel => exact ⟨i + 1, by simp, by omega, by omega, hT, hrow⟩
   ·obtain rfl : i = (st xs).length := by omega
    go_wp2
    go_ret
    rw [List.take_length] at hrow
    exact ⟨_, rfl, Kd.R_lower hrow hb1.size, hb1.trans (hT.mono hb1.size)⟩
end Go.Proofs.Ytpnnjefhchppfaa.ColX
namespace Go.Proofs.Ytpnnjefhchppfaa.PA
open Go.RowKit Go.Proofs.YtpnnjefhchppfaaW.PrintWords
def stemmaref03_Runs.f (l : List Int) : Option (List Int) :=
 if l.length ≤ 4398046511104 ∧ (l.all fun x => (Lit.int .i64 x).wf) = true then some (ColS.runs l) else none
theorem stemmaref03_Runs.calls (A0 : Option Addr) (c0 : Nat) (l0 : List Int) (r : List Int) (w : World) (hr0 : Kd.C (Kd.int .i64) w A0 l0.length l0) (hc0 : l0.length ≤ c0) (h : stemmaref03_Runs.f l0 = some r) :
  Calls Try.prog 34 #[.slice A0 l0.length c0] w fun e w' => ∃ v0_ : Value, e = .returned (v0_) ∧ Kd.R (Kd.int .u8) 5 w' w.heap.size (fun _ => True) v0_ r ∧ Below w.heap.size w w' := by
 unfold stemmaref03_Runs.f at h
 split at h
 ·rename_i hc
  obtain rfl := Option.some.inj h
  exact ColX.Runs_calls (l0.length + 1) A0 c0 l0 hc.1 (fun x hx => List.all_eq_true.1 hc.2 x hx) (ColX.split_f l0 hc.1) w hr0 hc0
 ·cases h
end Go.Proofs.Ytpnnjefhchppfaa.PA

namespace Go.Proofs.Ytpnnjefhchppfaa.PA
open Go.RowKit Go.Proofs.YtpnnjefhchppfaaW.PrintWords Go.Proofs.YtpnnjefhchppfaaW.PrintLast Go.Proofs.YtpnnjefhchppfaaW.PrintMore
attribute [local go_sem] max2_int min2_int max_two min_two max_three min_three max_four min_four
set_option linter.unusedVariables false
set_option linter.unusedSimpArgs false

def stemmaref03_Deltas.f (k : Nat) (l0 : List Int) : Option (List Int) := (stemmaref03_Differences.f k l0).bind fun t185 => ((stemmaref03_Runs.f t185).bind fun t188 => (some t188))
theorem stemmaref03_Deltas.mono : ∀ a0 k, LeO (stemmaref03_Deltas.f k a0) (stemmaref03_Deltas.f (k + 1) a0) := by
 intro a0 k
 unfold stemmaref03_Deltas.f
 repeat' first
   | (with_reducible exact stemmaref03_Differences.mono _ _)
   | (with_reducible exact LeO.refl _)
   | (with_reducible exact LeO.none _)
   | (with_reducible refine LeO.ite ?_ ?_)
   | (with_reducible refine LeO.bind ?_ (fun _ => ?_))
   | exact stemmaref03_Differences.mono _ _
   | exact LeO.none _
   | refine LeO.ite ?_ ?_
   | refine LeO.bind ?_ (fun _ => ?_)
set_option maxHeartbeats 8000000 in
set_option maxRecDepth 100000 in
theorem stemmaref03_Deltas.calls (k : Nat) (A0 : Option Addr) (c0 : Nat) (l0 : List Int) (r : List Int) (w : World) (hr0 : Kd.C (Kd.int .i64) w A0 l0.length l0) (hc0 : l0.length ≤ c0) (h : stemmaref03_Deltas.f k l0 = some r) :
  Calls Try.prog 36 #[.slice A0 l0.length c0] w fun e w' => ∃ v0_ : Value, e = .returned (v0_) ∧ Kd.R (Kd.int .u8) 5 w' w.heap.size (fun _ => True) v0_ r ∧ Below w.heap.size w w' := by
 have HR0 := Aside0.mk hr0
 have HC0 := Aside0.mk hc0
 clear hr0 hc0
 have HB := Aside0.mk (Below.refl w.heap.size w)
 have H : ((stemmaref03_Differences.f k l0).bind fun t185 => ((stemmaref03_Runs.f t185).bind fun t188 => (some t188))) = some r := h
 clear h
 replace H := Option.bind_eq_some_iff.mp H
 obtain ⟨t185, A20, H⟩ := H
 replace H : ((stemmaref03_Runs.f t185).bind fun t188 => (some t188)) = some r := H
 have A2 := Aside0.mk A20
 clear A20
 replace H := Option.bind_eq_some_iff.mp H
 obtain ⟨t188, A30, H⟩ := H
 replace H : (some t188) = some r := H
 have A3 := Aside0.mk A30
 clear A30
 obtain rfl := Option.some.inj H
 go_enter Try.func36, Try.ntmps36
 go_wp2_with (first | ((with_reducible refine gate_callee (f := 56) rfl ?_); refine goesL_ (some 4) rfl rfl Try.func56 (by kernel_rfl) rfl #[.slice A0 l0.length c0] rfl zc_ ?_; (with_reducible refine (stemmaref03_Differences.calls k _ _ l0 t185 _ ?side1 ?side2 A2.out).mono ?_); (case side1 => repeat (first | exact HR0.out | (with_reducible refine Kd.C_alloc ?_ _) | (with_reducible refine Kd.C_drewN ?_ _) | (with_reducible refine Kd.C_drew ?_))); (case side2 => exact HC0.out); rintro e w4 ⟨v186, rfl, ho0, hb⟩; refine ⟨_, rfl, ?_⟩; have n0_ := Aside0.mk (Kd.R_lower ho0 (below_size (zb_ HB.out))); have n1_ := Aside0.mk (below_step (zb_ HB.out) hb); clear HB; have HO187 := n0_; have HB := n1_; clear n0_ n1_; (try clear hb); (try clear hb2); (try clear hk); (try clear hi); (try clear ho0); obtain ⟨Ao5, co5, eo5⟩ := Kd.R_slice HO187.out; subst eo5) | ((with_reducible refine gate_callee (f := 34) rfl ?_); refine goesL_ (some 5) rfl rfl Try.func34 (by kernel_rfl) rfl #[.slice Ao5 t185.length co5] rfl zc_ ?_; (with_reducible refine (stemmaref03_Runs.calls _ _ t185 t188 _ ?side1 ?side2 A3.out).mono ?_); (case side1 => repeat (first | exact (Kd.R_reads' HO187.out).2.2 | (with_reducible refine Kd.C_alloc ?_ _) | (with_reducible refine Kd.C_drewN ?_ _) | (with_reducible refine Kd.C_drew ?_))); (case side2 => exact (Kd.R_reads' HO187.out).2.1); rintro e w6 ⟨v189, rfl, ho0, hb⟩; refine ⟨_, rfl, ?_⟩; have n0_ := Aside0.mk (Kd.R_below (zr_ HO187.out) hb); have n1_ := Aside0.mk (Kd.R_lower ho0 (below_size (zb_ HB.out))); have n2_ := Aside0.mk (below_step (zb_ HB.out) hb); clear HO187; clear HB; have HO187 := n0_; have HO190 := n1_; have HB := n2_; clear n0_ n1_ n2_; (try clear hb); (try clear hb2); (try clear hk); (try clear hi); (try clear ho0)))
 go_ret
 exact ⟨_, by first | rfl | (simp [errW_none, errW_some] <;> rfl) | (simp [*, errW_none, errW_some] <;> rfl), by (with_reducible repeat (first | apply Kd.R_alloc | apply Kd.R_drewN | apply Kd.R_drew)); exact HO190.out, by repeat (first | (with_reducible first | exact HB.out | apply below_alloc | apply pw_below_drewN | apply below_drew1) | exact HB.out)⟩

end Go.Proofs.Ytpnnjefhchppfaa.PA

set_option linter.unusedVariables false
set_option linter.unusedSimpArgs false
namespace Go.Proofs.Ytpnnjefhchppfaa.ColT
open Go Go.RowKit Go.Proofs.Ytpnnjefhchppfaa.PA Go.Proofs.YtpnnjefhchppfaaW.PrintWords Go.Proofs.YtpnnjefhchppfaaW.PrintLast Go.Proofs.YtpnnjefhchppfaaW.PrintMore Go.Proofs.Ytpnnjefhchppfaa.LebT Go.Proofs.Ytpnnjefhchppfaa.LebP Go.Proofs.Ytpnnjefhchppfaa.ColS
theorem diff_l0 (l : List Int) (hl : l.length ≤ 4398046511104) : ∀ (d k i : Nat) (acc : List Int) (a : Int), i + d = l.length → acc.length = i → d < k → stemmaref03_Differences.l0 k l acc a (i : Int) = some (acc ++ dif a (l.drop i))
  | d, 0, i, _, _, _, _, h => by omega
  | 0, k + 1, i, acc, a, hi, ha, _ => by
    have h1 : ¬ ((i : Int) < (l.length : Int)) := by omega
    rw [stemmaref03_Differences.l0, if_neg h1, List.drop_of_length_le (by omega)]
    simp [dif]
  | d + 1, k + 1, i, acc, a, hi, ha, hk => by
    have hlt : i < l.length := by omega
    have h1 : ((i : Int) < (l.length : Int)) := by omega
    have ih := diff_l0 l hl d k (i + 1) (acc ++ [wrap64 (rd l (i : Int) - a)]) (rd l (i : Int)) (by omega) (by simp [ha]) (by omega)
    rw [stemmaref03_Differences.l0, if_pos h1, if_pos (by omega), if_pos (by omega), show wrap64 ((i : Int) + 1) = ((i + 1 : Nat) : Int) from w64a i 1 (by omega), ih, LebP.rd_drop l i hlt, dif]
    simp
theorem diff_f (l : List Int) (hl : l.length ≤ 4398046511104) (hw : ∀ x ∈ l, -9223372036854775808 ≤ x ∧ x < 9223372036854775808) {k : Nat} (hk : l.length < k) : stemmaref03_Differences.f k l = some (dif0 l) := by
  unfold stemmaref03_Differences.f
  have := diff_l0 l hl l.length k 0 [] 0 (by omega) rfl hk
  rw [show ((0 : Nat) : Int) = 0 from rfl] at this
  rw [this]
  cases l with
  | nil => rfl
  | cons x r =>
    have hx := hw x (by simp)
    simp only [List.drop_zero, dif, dif0, List.nil_append]
    rw [show wrap64 (x - 0) = x by unfold wrap64; omega]
theorem all_wf (l : List Int) (hw : ∀ x ∈ l, -9223372036854775808 ≤ x ∧ x < 9223372036854775808) : (l.all fun x => (Lit.int .i64 x).wf) = true := by
  rw [List.all_eq_true]
  intro x hx
  have := hw x hx
  simp [Lit.wf, IntKind.min, IntKind.max, IntKind.signed, IntKind.bits]
  omega
theorem rruns_some (l : List Int) (hl : l.length ≤ 4398046511104) (hw : ∀ x ∈ l, -9223372036854775808 ≤ x ∧ x < 9223372036854775808) : stemmaref03_Runs.f l = some (runs l) := by
  rw [stemmaref03_Runs.f, if_pos ⟨hl, all_wf l hw⟩]
end Go.Proofs.Ytpnnjefhchppfaa.ColT

