/- slices.Clone, slices.Grow of nil, slices.Concat: rows of bytes of the call's own. -/
import Derived.Test.YtonpiacnljcohaaDoorPAx0
import Derived.LoopTactic
import Derived.WalkSpells
import Derived.Lib.Hide
set_option linter.unusedVariables false
set_option linter.unusedSimpArgs false
namespace Go.Proofs.YtonpiacnljcohaaDoor.PA
open Go Go.RowKit Go.Proofs.YtonpiacnljcohaaDoorW.PrintWords Go.Proofs.YtonpiacnljcohaaDoorW.PrintLast Go.Proofs.YtonpiacnljcohaaDoorW.PrintMore
def slices_Clone_byte_byte.f (l : List Int) : Option (List Int) := if l.length < 140737488355328 then some l else none
set_option maxHeartbeats 1000000 in
set_option maxRecDepth 100000 in
theorem slices_Clone_byte_byte.calls (A0 : Option Addr) (c0 : Nat) (l0 : List Int) (r : List Int) (w : World) (hr0 : Kd.C (Kd.int .u8) w A0 l0.length l0) (hc0 : l0.length ≤ c0) (h : slices_Clone_byte_byte.f l0 = some r) :
    Calls Tryd.prog 45 #[.slice A0 l0.length c0] w fun e w' => ∃ v0_ : Value, e = .returned (v0_) ∧ Kd.R (Kd.int .u8) 5 w' w.heap.size (fun _ => True) v0_ r ∧ Below w.heap.size w w' := by
  unfold slices_Clone_byte_byte.f at h
  split at h
  case isFalse => cases h
  rename_i hl
  obtain rfl := Option.some.inj h
  have HR0 := Aside0.mk hr0
  have LM := Aside0.mk hl
  clear hr0 hl h
  have heql := fun W : World => Lib.run_eql_slice_nil (P := Tryd.prog) W 22 5 A0 l0.length c0 0 0 Tryd.underlying22
  cases A0 with
  | none =>
    have hn : l0 = [] := by
      have := HR0.out.2.2
      cases l0 with
      | nil => rfl
      | cons x t => obtain ⟨ad, he, _⟩ := this (by simp); cases he
    subst hn
    simp only [Option.isNone_none, List.length_nil] at heql ⊢
    go_enter Tryd.func45, Tryd.ntmps45
    go_wp2
    go_ret
    exact ⟨_, rfl, Kd.R_nil _ _ _ _ _, Below.refl _ _⟩
  | some ad =>
    simp only [Option.isNone_some] at heql
    go_enter Tryd.func45, Tryd.ntmps45
    go_wp2_with (first | ((with_reducible refine gate_dst (N := 5) rfl ?_); refine Kd.R_lit (Kd.int .u8) (w0 := w) w.heap.size 5 ?hg (N := 5) ?hd (xs := ([] : List Int)) (inner := []) (ok := fun _ => True) (okp := fun _ => True) ?hr ?hp (fun _ hk => hk) trivial (Below.refl _ _) (Nat.le_refl _) (by simp) ?_; (case hd => rfl); (case hg => rfl); (case hr => first | (go_simp; done) | (go_simp; rfl)); (case hp => exact (Reps.none _ _)); intro v360 w18 ho19 hb hg_ hnew_; clear hg_ hnew_) | ((with_reducible refine gate_builtin (b := .append) (xs := #[.tmp 5, .tmp 6]) rfl ?_); at_builtin; refine Kd.R_append_rows (Kd.int .u8) (w0 := w) w.heap.size rfl (.tmp 5) (.tmp 6) 22 5 (.int .u8 0) 1 rfl Tryd.underlying22 info5 rfl (by decide) (by omega) v360 ([] : List Int) l0 _ _ _ (fun _ => True) (fun _ => False) rfl rfl ?aO ?aR (fun _ _ h => h) (fun _ h => h.elim) ?aF ?aB ?aS ?aL ?_; (case aR => exact (Kd.C_below HR0.out hb)); (case aB => exact hb); (case aF => exact (fun _ _ => trivial)); (case aO => exact ho19); (case aS => exact hb.size); (case aL => have := LM.out; simp; omega); intro v103 w6 ho2 hb2 hg2 hat2; have HO := Aside0.mk ho2; have HB := Aside0.mk hb2; clear ho2 hb2 hg2 hat2 ho19 hb))
    go_ret
    exact ⟨_, rfl, by have := HO.out; rwa [List.nil_append] at this, HB.out⟩
set_option maxHeartbeats 1000000 in
set_option maxRecDepth 100000 in
theorem grow_nil (n : Nat) (w : World) (hn : n < 140737488355328) :
    Calls Tryd.prog 52 #[.slice none 0 0, .int .i64 (n : Int)] w fun e w' => ∃ v0_ : Value, e = .returned (v0_) ∧ Kd.R (Kd.int .u8) 5 w' w.heap.size (fun _ => True) v0_ ([] : List Int) ∧ Below w.heap.size w w' := by
  by_cases h0 : n = 0
  · subst h0
    go_enter Tryd.func52, Tryd.ntmps52
    go_wp2
    go_ret
    exact ⟨_, rfl, Kd.R_nil _ _ _ _ _, Below.refl _ _⟩
  · have h1 : 0 < (n : Int) := by omega
    obtain ⟨i0, hi0, _, hsz, _⟩ := info_parts info5
    go_enter Tryd.func52, Tryd.ntmps52
    go_wp2_with (at_builtin; refine Kd.R_append_zeros (Kd.int .u8) (w0 := w) w.heap.size rfl (.tmp 20) (.tmp 21) 22 3 5 (.int .u8 0) 1 rfl Tryd.underlying22 Tryd.underlying3 info5 rfl (by decide) (by omega) (.slice none 0 0) ([] : List Int) 0 (n : Int) (fun _ => True) rfl rfl rfl (fun _ _ => trivial) (Kd.R_nil _ _ _ _ _) (by omega) (Below.refl _ _) (Nat.le_refl _) (by simp; omega) ?_; intro v1 w1 ho hb hg hat; obtain ⟨A, c, rfl, hlc, _⟩ := Kd.R_reads ho; have hcut := cut_to (P := Tryd.prog) 22 5 .i64 Tryd.underlying22 hi0 A _ c 0 (by omega) (by omega) hlc; have HO := Aside0.mk (Kd.R_take (m := 0) ho (by omega)); have HB := Aside0.mk hb; clear ho hb hg hat hlc; go_wp2)
    go_ret
    exact ⟨_, rfl, by have := HO.out; simpa using this, HB.out⟩

theorem sum_take_snoc (l : List (List Int)) (i : Nat) (h : i < l.length) : ((l.take (i + 1)).map List.length).sum = ((l.take i).map List.length).sum + (l.getD i []).length := by
  rw [List.take_succ_eq_append_getElem h, List.map_append, List.sum_append]
  simp [List.getD_eq_getElem?_getD, h]
theorem sum_take_le (l : List (List Int)) : ∀ i : Nat, ((l.take i).map List.length).sum ≤ (l.map List.length).sum := by
  induction l with
  | nil => simp
  | cons x r ih =>
    intro i
    cases i with
    | zero => simp
    | succ i =>
      have := ih i
      simp only [List.take_succ_cons, List.map_cons, List.sum_cons]
      omega
theorem flat_take_snoc (l : List (List Int)) (i : Nat) (h : i < l.length) : (l.take (i + 1)).flatten = (l.take i).flatten ++ l.getD i [] := by
  rw [List.take_succ_eq_append_getElem h, List.flatten_append]
  simp [List.getD_eq_getElem?_getD, h]
def slices_Concat_byte_byte.f (l : List (List Int)) : Option (List Int) := if l.length ≤ 4611686018427387904 ∧ (l.map List.length).sum < 140737488355328 then some l.flatten else none
set_option maxHeartbeats 1000000 in
set_option maxRecDepth 100000 in
theorem slices_Concat_byte_byte.calls (A0 : Option Addr) (c0 : Nat) (l0 : List (List Int)) (r : List Int) (w : World) (hr0 : Kd.C (Kd.slice 5 (Kd.int .u8)) w A0 l0.length l0) (hc0 : l0.length ≤ c0) (h : slices_Concat_byte_byte.f l0 = some r) :
    Calls Tryd.prog 42 #[.slice A0 l0.length c0] w fun e w' => ∃ v0_ : Value, e = .returned (v0_) ∧ Kd.R (Kd.int .u8) 5 w' w.heap.size (fun _ => True) v0_ r ∧ Below w.heap.size w w' := by
  unfold slices_Concat_byte_byte.f at h
  split at h
  case isFalse => cases h
  rename_i hl
  obtain rfl := Option.some.inj h
  obtain ⟨hl1, hl2⟩ := hl
  have HR0 := Aside0.mk hr0
  have LM := Aside0.mk hl2
  clear hr0 hl2 h
  have HB := Aside0.mk (Below.refl w.heap.size w)
  go_enter Tryd.func42, Tryd.ntmps42
  go_wp2
  go_loop [3, 5, 11] (fun s _ i => ∃ k : Nat, k ≤ l0.length ∧ i = .int .i64 k ∧ s = .int .i64 (((l0.take k).map List.length).sum : Nat)) (fun _ _ i => l0.length - (intOf i).toNat)
  case atStart => exact ⟨0, Nat.zero_le _, rfl, rfl⟩
  case round =>
    obtain ⟨k, hk, rfl, rfl⟩ := hrel
    by_cases hlt : k < l0.length
    · obtain ⟨ad, A1, c1, rfl, hx, hl3, hi3⟩ := Go.Proofs.YtonpiacnljcohaaDoor.PA.at_L1 HR0.out (k : Int) (by omega) (by omega)
      rw [Int.toNat_natCast] at hx
      have h1 := sum_take_snoc l0 k hlt
      have h2 := sum_take_le l0 (k + 1)
      have h3 := LM.out
      have er : rd_L1 l0 (k : Int) = l0.getD k [] := rfl
      rw [er] at hx
      obtain ⟨S, hS⟩ : ∃ S, ((l0.take k).map List.length).sum = S := ⟨_, rfl⟩
      obtain ⟨m, hm⟩ : ∃ m, (l0.getD k []).length = m := ⟨_, rfl⟩
      rw [hS, hm] at h1
      rw [hm] at hx
      rw [hS]
      have h4 : S + m < 140737488355328 := by omega
      have H1 := Lib.hid h1
      clear h1 h2 h3 hS hm er hl3 hi3
      have h5 : ¬ ((S : Int) + (m : Int) < 0) := by omega
      go_wp2
      go_round
      case rel => exact ⟨k + 1, by omega, by go_num, by rw [H1.out]; go_num⟩
      case measure => simp [intOf]; omega
    · obtain rfl : k = l0.length := by omega
      rw [List.take_length]
      obtain ⟨S, hS⟩ : ∃ S, (l0.map List.length).sum = S := ⟨_, rfl⟩
      have LM2 := LM.out
      rw [hS] at LM2 ⊢
      have HS := Lib.hid hS
      clear hS
      go_wp2_with (go_at_call 52; refine (grow_nil S _ LM2).mono ?_; rintro e w1 ⟨v1, rfl, ho1, hb1⟩; have HO1 := Aside0.mk ho1; have HB1 := Aside0.mk hb1; clear ho1 hb1)
      go_loopw [6, 8, 27] (fun v _ i wr => ∃ k : Nat, k ≤ l0.length ∧ i = .int .i64 k ∧ Aside0 (Kd.R (Kd.int .u8) 5 wr w.heap.size (fun _ => True) v (l0.take k).flatten) ∧ Aside0 (Below w.heap.size w wr)) (fun _ _ i _ => l0.length - (intOf i).toNat)
      case atStart => exact ⟨0, Nat.zero_le _, rfl, ⟨by simpa using HO1.out⟩, HB1⟩
      case round =>
        obtain ⟨j, hj, rfl, HO2, HB2⟩ := hrel
        by_cases hlt : j < l0.length
        · obtain ⟨ad, A1, c1, rfl, hx, hl3, hi3⟩ := Go.Proofs.YtonpiacnljcohaaDoor.PA.at_L1 HR0.out (j : Int) (by omega) (by omega)
          rw [Int.toNat_natCast] at hx
          have h1 := sum_take_snoc l0 j hlt
          have h2 := sum_take_le l0 (j + 1)
          have h3 := HS.out
          have h6 := flat_take_snoc l0 j hlt
          have er : rd_L1 l0 (j : Int) = l0.getD j [] := rfl
          rw [er] at hx hl3 hi3
          have hfl : (l0.take j).flatten.length = ((l0.take j).map List.length).sum := List.length_flatten
          obtain ⟨Y, hY⟩ : ∃ Y, l0.getD j [] = Y := ⟨_, rfl⟩
          rw [hY] at h1 h6 hx hl3 hi3
          have h4 : (l0.take j).flatten.length + Y.length < 140737488355328 := by omega
          replace hx := (HB2.out.cell (World.block_lt_of_cell? w _ hx)).trans hx
          have H4 := Aside0.mk h4
          have H6 := Aside0.mk h6
          have HI := Aside0.mk hi3
          clear h1 h2 h3 h4 h6 hY er hfl hi3 hl3
          go_wp2_with ((with_reducible refine gate_builtin (b := .append) (xs := #[.tmp 31, .tmp 32]) rfl ?_); at_builtin; refine Kd.R_append_rows (Kd.int .u8) (w0 := w) w.heap.size rfl (.tmp 31) (.tmp 32) 22 5 (.int .u8 0) 1 rfl Tryd.underlying22 info5 rfl (by decide) (by omega) _ (l0.take j).flatten Y _ _ _ (fun _ => True) (fun _ => False) rfl rfl ?aO ?aR (fun _ _ h => h) (fun _ h => h.elim) ?aF ?aB ?aS ?aL ?_; (case aR => exact (Kd.C_below HI.out HB2.out)); (case aB => exact HB2.out); (case aF => exact (fun _ _ => trivial)); (case aO => exact HO2.out); (case aS => exact HB2.out.size); (case aL => have := H4.out; omega); intro v103 w6 ho2 hb2 hg2 hat2; have HO3 := Aside0.mk ho2; have HB3 := Aside0.mk hb2; clear ho2 hb2 hg2 hat2)
          go_roundw
          case rel => exact ⟨j + 1, by omega, by go_num, ⟨by rw [H6.out]; exact HO3.out⟩, HB3⟩
          case measure => simp [intOf]; omega
        · obtain rfl : j = l0.length := by omega
          go_wp2
          go_ret
          exact ⟨_, rfl, by have := HO2.out; rwa [List.take_length] at this, HB2.out⟩
end Go.Proofs.YtonpiacnljcohaaDoor.PA
