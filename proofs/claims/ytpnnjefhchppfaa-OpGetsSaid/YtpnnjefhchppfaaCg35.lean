/- Own texts of this claim. -/
import Derived.LoopTactic
import Derived.WalkSpells
import Derived.Lib.Hide
import Derived.Test.YtpnnjefhchppfaaCg25
set_option linter.unusedVariables false
set_option linter.unusedSimpArgs false
namespace Go.Proofs.Ytpnnjefhchppfaa.PA
open Go Go.RowKit Go.Proofs.YtpnnjefhchppfaaW.PrintWords Go.Proofs.YtpnnjefhchppfaaW.PrintLast Go.Proofs.YtpnnjefhchppfaaW.PrintMore
set_option maxHeartbeats 1000000 in
set_option maxRecDepth 100000 in
theorem grow_nil (n : Nat) (w : World) (hn : n < 140737488355328) :
    Calls Try.prog 50 #[.slice none 0 0, .int .i64 (n : Int)] w fun e w' => ∃ v0_ : Value, e = .returned (v0_) ∧ Kd.R (Kd.int .u8) 5 w' w.heap.size (fun _ => True) v0_ ([] : List Int) ∧ Below w.heap.size w w' := by
  by_cases h0 : n = 0
  · subst h0
    go_enter Try.func50, Try.ntmps50
    go_wp2
    go_ret
    exact ⟨_, rfl, Kd.R_nil _ _ _ _ _, Below.refl _ _⟩
  · have h1 : 0 < (n : Int) := by omega
    obtain ⟨i0, hi0, _, hsz, _⟩ := info_parts info5
    go_enter Try.func50, Try.ntmps50
    go_wp2_with (at_builtin; refine Kd.R_append_zeros (Kd.int .u8) (w0 := w) w.heap.size rfl (.tmp 20) (.tmp 21) 23 3 5 (.int .u8 0) 1 rfl Try.underlying23 Try.underlying3 info5 rfl (by decide) (by omega) (.slice none 0 0) ([] : List Int) 0 (n : Int) (fun _ => True) rfl rfl rfl (fun _ _ => trivial) (Kd.R_nil _ _ _ _ _) (by omega) (Below.refl _ _) (Nat.le_refl _) (by simp; omega) ?_; intro v1 w1 ho hb hg hat; obtain ⟨A, c, rfl, hlc, _⟩ := Kd.R_reads ho; have hcut := cut_to (P := Try.prog) 23 5 .i64 Try.underlying23 hi0 A _ c 0 (by omega) (by omega) hlc; have HO := Aside0.mk (Kd.R_take (m := 0) ho (by omega)); have HB := Aside0.mk hb; clear ho hb hg hat hlc; go_wp2)
    go_ret
    exact ⟨_, rfl, by have := HO.out; simpa using this, HB.out⟩

def rd_L1 (xs : List (List Int)) (i : Int) : (List Int) := xs.getD i.toNat ([] : List Int)
theorem at_L1 {w : World} {A : Option Addr} {n : Nat} {xs : List (List Int)} (h : Kd.C (Kd.slice 5 (Kd.int .u8)) w A n xs) (i : Int) (h0 : 0 ≤ i) (h1 : i < n) : ∃ ad A0 c0, A = some ad ∧ w.cell? (ad.add i.toNat) = some (.slice A0 (rd_L1 xs i).length c0) ∧ (rd_L1 xs i).length ≤ c0 ∧ (Kd.int .u8).C w A0 (rd_L1 xs i).length (rd_L1 xs i) := by
  obtain ⟨ad, c, e, _, hK, hc0⟩ := Kd.C_get h ([] : List Int) i h0 h1
  have hc : ∀ j u, c[j]? = some u → w.cell? (ad.add (i.toNat * 1 + j)) = some u := hc0
  obtain ⟨A0, c0, rfl, l0, g0⟩ := hK
  exact ⟨ad, A0, c0, e, by have hq := hc 0 _ rfl; rwa [Nat.mul_one, Nat.add_zero] at hq, l0, g0⟩
theorem reps_C {α : Type} {d : Kd α} {w : World} {g t : Nat} {xs : List α} {vs : List Value} (hr : Reps (d.K w) d.sz xs vs) (hb : w.heap[g]? = some (.cells vs.toArray t (0, 0))) (hm : xs.length ≤ 9223372036854775807) : d.C w (some ⟨g, 0, none⟩) xs.length xs := by
  refine ⟨rfl, hm, fun _ => ⟨_, rfl, fun j p hj => ⟨(vs.drop (j * d.sz)).take d.sz, ?_, hr.2 j p hj, fun i u hu => ?_⟩⟩⟩
  · have hjl := (List.getElem?_eq_some_iff.1 hj).1
    have h1 : j * d.sz + d.sz ≤ vs.length := by rw [hr.1, ← Nat.succ_mul]; exact Nat.mul_le_mul_right _ hjl
    rw [List.length_take, List.length_drop]
    omega
  · rw [List.getElem?_take] at hu
    split at hu
    case isFalse => cases hu
    rw [List.getElem?_drop] at hu
    have := blk_cell hb (j * d.sz + i)
    simp only [Addr.add, Nat.zero_add] at this ⊢
    by_cases h0 : j * d.sz + i = 0
    · rw [if_pos h0]
      rw [h0] at this hu
      rw [this]
      simpa using hu
    · rw [if_neg h0, this]
      simpa using hu
theorem seven {W : World} {B : Nat} {o1 o2 o3 o4 o5 o6 o7 : Nat → Prop} {v1 v2 v3 v4 v5 v6 v7 : Value} {x1 x2 x3 x4 x5 x6 x7 : List Int} (h1 : Kd.R (Kd.int .u8) 5 W B o1 v1 x1) (h2 : Kd.R (Kd.int .u8) 5 W B o2 v2 x2) (h3 : Kd.R (Kd.int .u8) 5 W B o3 v3 x3) (h4 : Kd.R (Kd.int .u8) 5 W B o4 v4 x4) (h5 : Kd.R (Kd.int .u8) 5 W B o5 v5 x5) (h6 : Kd.R (Kd.int .u8) 5 W B o6 v6 x6) (h7 : Kd.R (Kd.int .u8) 5 W B o7 v7 x7) :
    Kd.C (Kd.slice 5 (Kd.int .u8)) (W.alloc (.cells #[v1, v2, v3, v4, v5, v6, v7] 23)) (some ⟨W.heap.size, 0, none⟩) 7 [x1, x2, x3, x4, x5, x6, x7] := by
  have key : ∀ {o : Nat → Prop} {v : Value} {x : List Int}, Kd.R (Kd.int .u8) 5 W B o v x → (Kd.slice 5 (Kd.int .u8)).K (W.alloc (.cells #[v1, v2, v3, v4, v5, v6, v7] 23)) x [v] := fun h => Kd.K_of_M (self := Kd.slice 5 (Kd.int .u8)) (base := B) ⟨_, rfl, Kd.R_alloc h _⟩
  exact reps_C (d := Kd.slice 5 (Kd.int .u8)) (xs := [x1, x2, x3, x4, x5, x6, x7]) (Reps.one (key h1) (Reps.one (key h2) (Reps.one (key h3) (Reps.one (key h4) (Reps.one (key h5) (Reps.one (key h6) (Reps.one (key h7) (Reps.none _ _)))))))) (blk_new W _) (by simp)
theorem sum_take_snoc (l : List (List Int)) (i : Nat) (h : i < l.length) : ((l.take (i + 1)).map List.length).sum = ((l.take i).map List.length).sum + (l.getD i []).length := by
  rw [List.take_succ_eq_append_getElem h, List.map_append, List.sum_append]
  simp [List.getD_eq_getElem?_getD, h]
theorem sum_take_le (l : List (List Int)) : ∀ i : Nat, ((l.take i).map List.length).sum ≤ (l.map List.length).sum := by
  induction l with
  | nil => simp
  | cons x r ih =>
    intro i
    cases i with
    | zero => simp
    | succ i =>
      have := ih i
      simp only [List.take_succ_cons, List.map_cons, List.sum_cons]
      omega
theorem flat_take_snoc (l : List (List Int)) (i : Nat) (h : i < l.length) : (l.take (i + 1)).flatten = (l.take i).flatten ++ l.getD i [] := by
  rw [List.take_succ_eq_append_getElem h, List.flatten_append]
  simp [List.getD_eq_getElem?_getD, h]
def slices_Concat_byte_byte.f (l : List (List Int)) : Option (List Int) := if l.length ≤ 4611686018427387904 ∧ (l.map List.length).sum < 140737488355328 then some l.flatten else none
set_option maxHeartbeats 1000000 in
set_option maxRecDepth 100000 in
theorem slices_Concat_byte_byte.calls (A0 : Option Addr) (c0 : Nat) (l0 : List (List Int)) (r : List Int) (w : World) (hr0 : Kd.C (Kd.slice 5 (Kd.int .u8)) w A0 l0.length l0) (hc0 : l0.length ≤ c0) (h : slices_Concat_byte_byte.f l0 = some r) :
    Calls Try.prog 22 #[.slice A0 l0.length c0] w fun e w' => ∃ v0_ : Value, e = .returned (v0_) ∧ Kd.R (Kd.int .u8) 5 w' w.heap.size (fun _ => True) v0_ r ∧ Below w.heap.size w w' := by
  unfold slices_Concat_byte_byte.f at h
  split at h
  case isFalse => cases h
  rename_i hl
  obtain rfl := Option.some.inj h
  obtain ⟨hl1, hl2⟩ := hl
  have HR0 := Aside0.mk hr0
  have LM := Aside0.mk hl2
  clear hr0 hl2 h
  have HB := Aside0.mk (Below.refl w.heap.size w)
  go_enter Try.func22, Try.ntmps22
  go_wp2
  go_loop [3, 5, 11] (fun s _ i => ∃ k : Nat, k ≤ l0.length ∧ i = .int .i64 k ∧ s = .int .i64 (((l0.take k).map List.length).sum : Nat)) (fun _ _ i => l0.length - (intOf i).toNat)
  case atStart => exact ⟨0, Nat.zero_le _, rfl, rfl⟩
  case round =>
    obtain ⟨k, hk, rfl, rfl⟩ := hrel
    by_cases hlt : k < l0.length
    · obtain ⟨ad, A1, c1, rfl, hx, hl3, hi3⟩ := Go.Proofs.Ytpnnjefhchppfaa.PA.at_L1 HR0.out (k : Int) (by omega) (by omega)
      rw [Int.toNat_natCast] at hx
      have h1 := sum_take_snoc l0 k hlt
      have h2 := sum_take_le l0 (k + 1)
      have h3 := LM.out
      have er : rd_L1 l0 (k : Int) = l0.getD k [] := rfl
      rw [er] at hx
      obtain ⟨S, hS⟩ : ∃ S, ((l0.take k).map List.length).sum = S := ⟨_, rfl⟩
      obtain ⟨m, hm⟩ : ∃ m, (l0.getD k []).length = m := ⟨_, rfl⟩
      rw [hS, hm] at h1
      rw [hm] at hx
      rw [hS]
      have h4 : S + m < 140737488355328 := by omega
      have H1 := Lib.hid h1
      clear h1 h2 h3 hS hm er hl3 hi3
      have h5 : ¬ ((S : Int) + (m : Int) < 0) := by omega
      go_wp2
      go_round
      case rel => exact ⟨k + 1, by omega, by go_num, by rw [H1.out]; go_num⟩
      case measure => simp [intOf]; omega
    · obtain rfl : k = l0.length := by omega
      rw [List.take_length]
      obtain ⟨S, hS⟩ : ∃ S, (l0.map List.length).sum = S := ⟨_, rfl⟩
      have LM2 := LM.out
      rw [hS] at LM2 ⊢
      have HS := Lib.hid hS
      clear hS
      go_wp2_with (go_at_call 50; refine (grow_nil S _ LM2).mono ?_; rintro e w1 ⟨v1, rfl, ho1, hb1⟩; have HO1 := Aside0.mk ho1; have HB1 := Aside0.mk hb1; clear ho1 hb1)
      go_loopw [6, 8, 27] (fun v _ i wr => ∃ k : Nat, k ≤ l0.length ∧ i = .int .i64 k ∧ Aside0 (Kd.R (Kd.int .u8) 5 wr w.heap.size (fun _ => True) v (l0.take k).flatten) ∧ Aside0 (Below w.heap.size w wr)) (fun _ _ i _ => l0.length - (intOf i).toNat)
      case atStart => exact ⟨0, Nat.zero_le _, rfl, ⟨by simpa using HO1.out⟩, HB1⟩
      case round =>
        obtain ⟨j, hj, rfl, HO2, HB2⟩ := hrel
        by_cases hlt : j < l0.length
        · obtain ⟨ad, A1, c1, rfl, hx, hl3, hi3⟩ := Go.Proofs.Ytpnnjefhchppfaa.PA.at_L1 HR0.out (j : Int) (by omega) (by omega)
          rw [Int.toNat_natCast] at hx
          have h1 := sum_take_snoc l0 j hlt
          have h2 := sum_take_le l0 (j + 1)
          have h3 := HS.out
          have h6 := flat_take_snoc l0 j hlt
          have er : rd_L1 l0 (j : Int) = l0.getD j [] := rfl
          rw [er] at hx hl3 hi3
          have hfl : (l0.take j).flatten.length = ((l0.take j).map List.length).sum := List.length_flatten
          obtain ⟨Y, hY⟩ : ∃ Y, l0.getD j [] = Y := ⟨_, rfl⟩
          rw [hY] at h1 h6 hx hl3 hi3
          have h4 : (l0.take j).flatten.length + Y.length < 140737488355328 := by omega
          replace hx := (HB2.out.cell (World.block_lt_of_cell? w _ hx)).trans hx
          have H4 := Aside0.mk h4
          have H6 := Aside0.mk h6
          have HI := Aside0.mk hi3
          clear h1 h2 h3 h4 h6 hY er hfl hi3 hl3
          go_wp2_with ((with_reducible refine gate_builtin (b := .append) (xs := #[.tmp 31, .tmp 32]) rfl ?_); at_builtin; refine Kd.R_append_rows (Kd.int .u8) (w0 := w) w.heap.size rfl (.tmp 31) (.tmp 32) 23 5 (.int .u8 0) 1 rfl Try.underlying23 info5 rfl (by decide) (by omega) _ (l0.take j).flatten Y _ _ _ (fun _ => True) (fun _ => False) rfl rfl ?aO ?aR (fun _ _ h => h) (fun _ h => h.elim) ?aF ?aB ?aS ?aL ?_; (case aR => exact (Kd.C_below HI.out HB2.out)); (case aB => exact HB2.out); (case aF => exact (fun _ _ => trivial)); (case aO => exact HO2.out); (case aS => exact HB2.out.size); (case aL => have := H4.out; omega); intro v103 w6 ho2 hb2 hg2 hat2; have HO3 := Aside0.mk ho2; have HB3 := Aside0.mk hb2; clear ho2 hb2 hg2 hat2)
          go_roundw
          case rel => exact ⟨j + 1, by omega, by go_num, ⟨by rw [H6.out]; exact HO3.out⟩, HB3⟩
          case measure => simp [intOf]; omega
        · obtain rfl : j = l0.length := by omega
          go_wp2
          go_ret
          exact ⟨_, rfl, by have := HO2.out; rwa [List.take_length] at this, HB2.out⟩
end Go.Proofs.Ytpnnjefhchppfaa.PA

