/- Posts: one that is not there; the closed case. -/
import Derived.Test.YtnjnljnhpihemaaPoV
import Derived.Test.YtnjnljnhpihemaaMark
set_option linter.unusedVariables false
set_option linter.unusedSimpArgs false
namespace Go.Proofs.Ytnjnljnhpihemaa.Po
open Go Go.RowKit Go.Proofs.YtnjnljnhpihemaaW.PrintWords Go.Proofs.YtnjnljnhpihemaaW.PrintLast Go.Proofs.YtnjnljnhpihemaaW.PrintMore Go.Proofs.Ytnjnljnhpihemaa.PA
section
variable (w : World) (a b k : Int)
set_option maxRecDepth 100000 in
set_option maxHeartbeats 4000000 in
theorem nil_clear : Calls Try.prog 18 #[.pointer none] w fun e w' => e = .returned (.tuple #[]) ∧ Below w.heap.size w w' := by
  go_enter Try.func18, Try.ntmps18
  go_wp2
  exact bodyPost_end (results_none rfl _ _ _) rfl ⟨rfl, Below.refl _ _⟩
set_option maxRecDepth 100000 in
set_option maxHeartbeats 4000000 in
theorem nil_look : Calls Try.prog 19 #[.pointer none, .agg #[.int .i64 a, .int .i64 b]] w fun e w' => e = .returned (.int .i64 1) ∧ Below w.heap.size w w' := by
  go_enter Try.func19, Try.ntmps19
  go_wp2
  go_ret
  exact ⟨rfl, below_alloc (Below.refl _ _) _⟩
set_option maxRecDepth 100000 in
set_option maxHeartbeats 4000000 in
theorem nil_Look : Calls Try.prog 11 #[.pointer none, .int .i64 a, .int .i64 b, .int .i64 k] w fun e w' => e = .returned (.tuple #[.slice none 0 0, .int .i64 1]) ∧ Below w.heap.size w w' := by
  go_enter Try.func11, Try.ntmps11
  go_wp2_with (go_at_call 19; refine (nil_look _ a b).mono ?_; rintro e w2 ⟨rfl, hb⟩; have HB := Aside0.mk ((below_alloc (Below.refl w.heap.size w) _).trans (hb.mono (below_alloc (Below.refl w.heap.size w) _).size)); clear hb)
  go_ret2
  exact ⟨rfl, HB.out⟩
set_option maxRecDepth 100000 in
set_option maxHeartbeats 4000000 in
theorem nil_Take : Calls Try.prog 10 #[.pointer none, .int .i64 a, .int .i64 b, .int .i64 k] w fun e w' => e = .returned (.tuple #[.slice none 0 0, .int .i64 1]) ∧ Below w.heap.size w w' := by
  go_enter Try.func10, Try.ntmps10
  go_wp2_with (go_at_call 11; refine (nil_Look _ a b k).mono ?_; rintro e w2 ⟨rfl, hb⟩; have HB := Aside0.mk hb; clear hb)
  go_ret2
  exact ⟨rfl, HB.out⟩
set_option maxRecDepth 100000 in
set_option maxHeartbeats 4000000 in
theorem nil_Drop : Calls Try.prog 14 #[.pointer none, .int .i64 a, .int .i64 b, .int .i64 k] w fun e w' => e = .returned (.int .i64 1) ∧ Below w.heap.size w w' := by
  go_enter Try.func14, Try.ntmps14
  go_wp2_with (go_at_call 10; refine (nil_Take _ a b k).mono ?_; rintro e w2 ⟨rfl, hb⟩; have HB := Aside0.mk hb; clear hb)
  go_ret
  exact ⟨rfl, HB.out⟩
set_option maxRecDepth 100000 in
set_option maxHeartbeats 4000000 in
theorem nil_Double : Calls Try.prog 13 #[.pointer none, .int .i64 a, .int .i64 b, .int .i64 k] w fun e w' => e = .returned (.int .i64 1) ∧ Below w.heap.size w w' := by
  go_enter Try.func13, Try.ntmps13
  go_wp2_with (go_at_call 11; refine (nil_Look _ a b k).mono ?_; rintro e w2 ⟨rfl, hb⟩; have HB := Aside0.mk hb; clear hb)
  go_ret
  exact ⟨rfl, HB.out⟩
set_option maxRecDepth 100000 in
set_option maxHeartbeats 4000000 in
theorem nil_Len : Calls Try.prog 12 #[.pointer none, .int .i64 a, .int .i64 b] w fun e w' => e = .returned (.int .i64 0) ∧ Below w.heap.size w w' := by
  go_enter Try.func12, Try.ntmps12
  go_wp2
  go_ret
  exact ⟨rfl, Below.refl _ _⟩
set_option maxRecDepth 100000 in
set_option maxHeartbeats 4000000 in
theorem nil_Send (A : Option Addr) (m c : Nat) : Calls Try.prog 8 #[.pointer none, .int .i64 a, .int .i64 b, .slice A m c] w fun e w' => e = .returned (.int .i64 1) ∧ Below w.heap.size w w' := by
  go_enter Try.func8, Try.ntmps8
  go_wp2_with (go_at_call 19; refine (nil_look _ a b).mono ?_; rintro e w2 ⟨rfl, hb⟩; have HB := Aside0.mk ((below_alloc (Below.refl w.heap.size w) _).trans (hb.mono (below_alloc (Below.refl w.heap.size w) _).size)); clear hb)
  go_ret
  exact ⟨rfl, HB.out⟩
end
theorem R_one (w : World) (x : Int) : Kd.R (Kd.int .u8) 5 (w.alloc (.cells #[.int .u8 x] 5)) w.heap.size (fun _ => True) (.slice (some ⟨w.heap.size, 0, none⟩) 1 1) [x] :=
  ⟨fun _ _ => trivial, [.int .u8 x], ⟨by simp [Kd.int, Kd.scalar], .inr ⟨w.heap.size, 1, #[.int .u8 x], rfl, Nat.le_refl _, blk_new w _, Nat.le_refl _, by decide, by simp [Kd.int, Kd.scalar], by simp [Kd.int, Kd.scalar]⟩⟩, Kd.reps_scalar [x]⟩
/-- A letter of one constant byte, marked. -/
theorem letter (w : World) (x : Int) : ∃ W1, (convert 23 23 (.slice (some ⟨w.heap.size, 0, none⟩) 1 1)).run Try.prog (w.alloc (.cells #[.int .u8 x] 5)) = .ok (.slice (some ⟨w.heap.size, 0, none⟩) 1 1) W1 ∧ Kd.C (Kd.int .u8) W1 (some ⟨w.heap.size, 0, none⟩) 1 [x] ∧ Below w.heap.size w W1 := by
  obtain ⟨W1, h1, h2, h3, _⟩ := mark_run (P := Try.prog) 23 5 Try.underlying23 Try.underlying5 (R_one w x) (by decide)
  obtain ⟨A, c, e, _, hF⟩ := h2
  injection e with e1 _ _
  subst e1
  exact ⟨W1, h1, Kd.F_now hF, (below_alloc (Below.refl _ _) _).trans h3⟩
set_option maxRecDepth 100000 in
set_option maxHeartbeats 4000000 in
theorem awake_calls (w : World) : Calls Try.prog 9 #[] w fun e w' => e = .returned (.bool true) ∧ Below w.heap.size w w' := by
  have HN := Aside0.mk (New_calls 2 (by omega) (by omega))
  go_enter Try.func9, Try.ntmps9
  go_upto_region 2 with (go_at_call 7; refine (HN.out w).mono ?_; rintro e w2 ⟨gp, gm, rfl, hP⟩; have HP := Aside0.mk hP; clear hP)
  obtain ⟨W1, hcv, hC, hb⟩ := letter w2 97
  have HP1 := Aside0.mk (HP.out.step hb)
  have HC1 := Aside0.mk hC
  clear hC hb HP HN
  go_wp2_with fail
  refine (Send_ok HP1.out (a := 0) (b := 1) (by omega) (by omega) (by omega) (by omega) (by omega) (by omega) _ 1 [97] (by decide) HC1.out (by decide) (by decide)).mono ?_
  rintro e w4 ⟨rfl, L4, S4, hP4⟩
  obtain ⟨W5, hcv2, hC5, hb5⟩ := letter w4 98
  have HP5 := Aside0.mk (hP4.step hb5)
  have HC5 := Aside0.mk hC5
  clear hcv HP1 HC1 hP4 hC5 hb5
  go_wp2_with fail
  have hq1 : upd (fun _ _ => []) 0 1 ((fun _ _ => ([] : List (List Int))) (0 : Int) (1 : Int) ++ [[97]]) 0 1 = [[97]] := upd_same
  generalize upd (fun _ _ => []) 0 1 ((fun _ _ => ([] : List (List Int))) (0 : Int) (1 : Int) ++ [[97]]) = Q1 at *
  refine (Send_ok HP5.out (a := 0) (b := 1) (by omega) (by omega) (by omega) (by omega) (by omega) (by omega) _ 1 [98] (by decide) HC5.out (by decide) (by rw [hq1]; decide)).mono ?_
  rintro e w6 ⟨rfl, L6, S6, hP6⟩
  rw [hq1] at hP6
  have hq2 : upd Q1 0 1 ([[97]] ++ [[98]]) 0 1 = [[97], [98]] := upd_same
  generalize upd Q1 0 1 ([[97]] ++ [[98]]) = Q2 at *
  have HP6 := Aside0.mk hP6
  have HQ2 := Aside0.mk hq2
  clear hcv2 hP6 HP5 HC5 hq1 hq2
  go_wp2_with fail
  have HT := Take_ok HP6.out (a := 0) (b := 1) (by omega) (by omega) (by omega) (by omega) (by omega) (by omega) 1 [98] (by rw [HQ2.out]; rfl) (by decide) (by rw [HQ2.out]; decide)
  rw [show ((1 : Nat) : Int) = 1 from rfl] at HT
  refine HT.mono ?_
  rintro e w7 ⟨A, c, L7, S7, rfl, hO, hP7, _⟩
  rw [HQ2.out] at hP7
  have hq3 : upd Q2 0 1 (([[97], [98]] : List (List Int)).eraseIdx 1) 0 1 = [[97]] := upd_same
  generalize upd Q2 0 1 (([[97], [98]] : List (List Int)).eraseIdx 1) = Q3 at *
  have s1 := Kd.C_string (src := 23) (dst := 9) (c := c) Try.underlying23 Try.underlying5 Try.underlying9 (Kd.R_reads' hO).2.2
  rw [show ([98] : List Int).length = 1 from rfl] at s1
  have HLen := Len_calls hP7 (a := 0) (b := 1) ⟨by omega, by omega⟩ ⟨by omega, by omega⟩
  rw [hq3] at HLen
  have HLEN := Aside0.mk HLen
  have HB7 := Aside0.mk hP7.below
  have hst : (strOfNums [98]).toList = ([98] : List UInt8) := by decide +kernel
  clear HT hO hP7 HLen hq3 HP6 HQ2
  go_wp2_with (go_at_call 12; refine HLEN.out.mono ?_; rintro e w8 ⟨rfl, rfl⟩)
  go_ret
  exact ⟨rfl, HB7.out⟩
end Go.Proofs.Ytnjnljnhpihemaa.Po
