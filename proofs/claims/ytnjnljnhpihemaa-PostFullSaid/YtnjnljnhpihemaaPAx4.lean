/- stemmalaw23.PostFull, walked. -/
import Derived.Test.YtnjnljnhpihemaaPoF
set_option linter.unusedVariables false
set_option linter.unusedSimpArgs false
namespace Go.Proofs.Ytnjnljnhpihemaa.PA
open Go Go.RowKit Go.Proofs.YtnjnljnhpihemaaW.PrintWords Go.Proofs.YtnjnljnhpihemaaW.PrintLast Go.Proofs.Ytnjnljnhpihemaa.Po
def stemmalaw23_PostFull.f (l : List Int) (kk : Int) : Option Bool := if 0 ≤ kk ∧ kk < 256 then some true else none
def Z0 : Int → Int → List (List Int) := fun _ _ => []
set_option maxRecDepth 100000 in
set_option maxHeartbeats 4000000 in
theorem stemmalaw23_PostFull.calls (A : Option Addr) (c : Nat) (l : List Int) (kk : Int) (r : Bool) (w : World) (hr0 : Kd.C (Kd.int .u8) w A l.length l) (hc0 : l.length ≤ c) (hr_ : Aside0 (r = true)) (h : stemmalaw23_PostFull.f l kk = some r) :
    Calls Try.prog 4 #[.slice A l.length c, .int .u8 kk] w fun e w' => e = .returned (.bool r) ∧ Below w.heap.size w w' := by
  obtain ⟨rfl⟩ := hr_
  unfold stemmalaw23_PostFull.f at h
  split at h
  case isFalse => cases h
  case isTrue hh =>
  obtain ⟨kn, rfl⟩ := Int.eq_ofNat_of_zero_le hh.1
  have HKN : Aside0 (kn < 256) := ⟨by omega⟩
  have HR := Aside0.mk hr0
  have HC := Aside0.mk hc0
  have HN := Aside0.mk (New_calls 2 (by omega) (by omega))
  clear h hh hr0 hc0
  go_enter Try.func4, Try.ntmps4
  go_upto_region 2 with (go_at_call 7; refine (HN.out w).mono ?_; rintro e w2 ⟨gp, gm, rfl, hP⟩; have HP := Aside0.mk hP; clear hP)
  by_cases hl : l.length ≤ 1000
  · have t1 : decide (1000 < (l.length : Int)) = false := decide_eq_false (by omega)
    have t2 : (1000 < l.length) = False := eq_false (by omega)
    have HL := Aside0.mk hl
    clear hl HN
    go_wp2_with fail
    go_loopw [7] (fun i wr => ∃ j : Nat, j ≤ 64 ∧ i = .int .i64 j ∧ Aside0 (∃ L S, Ps w gp gm 2 L (upd Z0 1 0 (List.replicate j l)) S wr)) (fun i _ => 64 - (intOf i).toNat)
    case atStart => exact ⟨0, by omega, rfl, ⟨[], _, by rw [List.replicate_zero, show ([] : List (List Int)) = Z0 1 0 from rfl, upd_self]; exact HP.out⟩⟩
    case round =>
      clear HP
      obtain ⟨j, hj, rfl, ⟨L, S, hP⟩⟩ := hrel
      by_cases hlt : j < 64
      · have HS := Send_ok hP (a := 1) (b := 0) (by omega) (by omega) (by omega) (by omega) (by omega) (by omega) A c l HC.out (Kd.C_below HR.out hP.below) (by have := HL.out; omega) (by rw [upd_same, List.length_replicate]; omega)
        rw [upd_same, upd_upd, ← List.replicate_succ'] at HS
        have HS := Aside0.mk HS
        clear hP
        go_wp2_with fail
        refine HS.out.mono ?_
        rintro e w4 ⟨rfl, L4, S4, hP4⟩
        have HP4 := Aside0.mk hP4
        clear hP4 HS
        go_wp2
        go_roundw
        case rel => exact ⟨j + 1, by omega, by go_num, ⟨L4, S4, HP4.out⟩⟩
        case measure => simp [intOf]; omega
      · obtain rfl : j = 64 := by omega
        rw [show ((64 : Nat) : Int) = 64 from rfl]
        obtain ⟨Q1, hQ1⟩ : ∃ q, upd Z0 1 0 (List.replicate 64 l) = q := ⟨_, rfl⟩
        have hq10 : Q1 1 0 = List.replicate 64 l := by rw [← hQ1]; exact upd_same
        have hq01 : Q1 0 1 = [] := by rw [← hQ1]; exact upd_other (by omega)
        rw [hQ1] at hP
        obtain ⟨m, hm⟩ : ∃ m, kn % 64 = m := ⟨_, rfl⟩
        have hm64 : m < 64 := by omega
        have hix : (wrap64 (kn : Int)).tmod 64 = (m : Int) := by
          have h1 : wrap64 (kn : Int) = (kn : Int) := by have := HKN.out; unfold wrap64; omega
          rw [h1, Int.tmod_eq_emod_of_nonneg (by omega)]
          omega
        have HM := Aside0.mk hm64
        have HF := Aside0.mk (Send_full hP (a := 1) (b := 0) (by omega) (by omega) (by omega) (by omega) (by omega) (by omega) A c l HC.out (Kd.C_below HR.out hP.below) (by have := HL.out; omega) (by rw [hq10, List.length_replicate]; omega))
        have HQ10 := Aside0.mk hq10
        have HQ01 := Aside0.mk hq01
        clear hP hq10 hq01 hQ1 hj hlt hm64
        go_wp2_with fail
        refine HF.out.mono ?_
        rintro e w4 ⟨rfl, hP4⟩
        have HP4 := Aside0.mk hP4
        clear hP4 HF
        have HD := Aside0.mk (Double_full HP4.out (a := 1) (b := 0) (by omega) (by omega) (by omega) (by omega) (by omega) (by omega) m l (by rw [HQ10.out, List.getElem?_replicate, if_pos HM.out]) (by have := HL.out; omega) (by rw [HQ10.out, List.length_replicate]; omega))
        clear HP4
        go_wp2_with fail
        refine HD.out.mono ?_
        rintro e w5 ⟨rfl, hP5⟩
        have HS := Aside0.mk (Send_ok hP5 (a := 0) (b := 1) (by omega) (by omega) (by omega) (by omega) (by omega) (by omega) A c l HC.out (Kd.C_below HR.out hP5.below) (by have := HL.out; omega) (by rw [HQ01.out]; decide))
        clear hP5 HD
        go_wp2_with fail
        refine HS.out.mono ?_
        rintro e w6 ⟨rfl, L6, S6, hP6⟩
        obtain ⟨Q2, hQ2⟩ : ∃ q, upd Q1 0 1 (Q1 0 1 ++ [l]) = q := ⟨_, rfl⟩
        have hq2 : Q2 1 0 = List.replicate 64 l := by rw [← hQ2, upd_other (by omega)]; exact HQ10.out
        rw [hQ2] at hP6
        have HX := Drop_ok hP6 (a := 1) (b := 0) (by omega) (by omega) (by omega) (by omega) (by omega) (by omega) m l (by rw [hq2, List.getElem?_replicate, if_pos HM.out]) (by have := HL.out; omega) (by rw [hq2, List.length_replicate]; omega)
        rw [hq2, List.eraseIdx_replicate, if_pos HM.out] at HX
        have HX := Aside0.mk HX
        clear hP6 hQ2 hq2 HS HQ01 HQ10
        go_wp2_with fail
        refine HX.out.mono ?_
        rintro e w7 ⟨rfl, L7, S7, hP7⟩
        obtain ⟨Q3, hQ3⟩ : ∃ q, upd Q2 1 0 (List.replicate (64 - 1) l) = q := ⟨_, rfl⟩
        have hq3 : Q3 1 0 = List.replicate 63 l := by rw [← hQ3]; exact upd_same
        rw [hQ3] at hP7
        have HY := Double_ok hP7 (a := 1) (b := 0) (by omega) (by omega) (by omega) (by omega) (by omega) (by omega) 0 l (by rw [hq3, List.getElem?_replicate, if_pos (by decide)]) (by have := HL.out; omega) (by rw [hq3, List.length_replicate]; omega)
        rw [hq3, show ((0 : Nat) : Int) = 0 from rfl] at HY
        have HY := Aside0.mk HY
        clear hP7 hQ3 hq3 HX
        go_wp2_with fail
        refine HY.out.mono ?_
        rintro e w8 ⟨rfl, L8, S8, hP8⟩
        have HLen := Len_calls hP8 (a := 1) (b := 0) ⟨by omega, by omega⟩ ⟨by omega, by omega⟩
        rw [upd_same, List.length_append, List.length_replicate, List.length_singleton, show ((63 + 1 : Nat) : Int) = 64 from rfl] at HLen
        have HLEN := Aside0.mk HLen
        have HB8 := Aside0.mk hP8.below
        clear hP8 HLen HY
        go_wp2_with (first | (go_at_call 12; refine HLEN.out.mono ?_; rintro e w9 ⟨rfl, rfl⟩) | (go_at_call 9; refine (awake_calls _).mono ?_; rintro e w10 ⟨rfl, hb⟩; have H10 := Aside0.mk (HB8.out.trans (hb.mono HB8.out.size)); clear hb))
        go_ret
        exact ⟨rfl, H10.out⟩
  · have t1 : decide (1000 < (l.length : Int)) = true := decide_eq_true (by omega)
    have t2 : (1000 < l.length) = True := eq_true (by omega)
    clear hl HN
    go_wp2_with (go_at_call 9; refine (awake_calls _).mono ?_; rintro e w8 ⟨rfl, hb⟩; have H8 := Aside0.mk (HP.out.below.trans (hb.mono HP.out.below.size)); clear hb)
    go_ret
    exact ⟨rfl, H8.out⟩
end Go.Proofs.Ytnjnljnhpihemaa.PA
