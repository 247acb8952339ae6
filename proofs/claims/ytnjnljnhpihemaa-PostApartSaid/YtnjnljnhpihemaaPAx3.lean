/- stemmalaw23.PostApart, walked. -/
import Derived.Test.YtnjnljnhpihemaaPoG
import Derived.BigQuiet
set_option linter.unusedVariables false
set_option linter.unusedSimpArgs false
namespace Go.Proofs.Ytnjnljnhpihemaa.Po
open Go Go.RowKit Go.Proofs.YtnjnljnhpihemaaW.PrintWords Go.Proofs.YtnjnljnhpihemaaW.PrintLast Go.Proofs.YtnjnljnhpihemaaW.PrintMore Go.Proofs.Ytnjnljnhpihemaa.PA
theorem at_ll {w : World} {A : Option Addr} {n : Nat} {xs : List (List Int)} (h : Kd.C KR w A n xs) (i : Int) (h0 : 0 ≤ i) (h1 : i < n) : ∃ ad A0 c0, A = some ad ∧ w.cell? (ad.add i.toNat) = some (.slice A0 (xs.getD i.toNat []).length c0) ∧ (xs.getD i.toNat []).length ≤ c0 ∧ Kd.C (Kd.int .u8) w A0 (xs.getD i.toNat []).length (xs.getD i.toNat []) := by
  obtain ⟨ad, c, e, _, hK, hc0⟩ := Kd.C_get h [] i h0 h1
  have hc : ∀ j u, c[j]? = some u → w.cell? (ad.add (i.toNat * 1 + j)) = some u := hc0
  obtain ⟨A0, c0, rfl, l0, g0⟩ := hK
  exact ⟨ad, A0, c0, e, by have hq := hc 0 _ rfl; rwa [Nat.mul_one, Nat.add_zero] at hq, l0, g0⟩
theorem at_b {w : World} {A : Option Addr} {n : Nat} {xs : List Int} (h : Kd.C (Kd.int .u8) w A n xs) (i : Nat) (h1 : i < n) : ∃ ad x, A = some ad ∧ xs[i]? = some x ∧ w.cell? (ad.add i) = some (.int .u8 x) := by
  have hn : xs.length = n := h.1
  obtain ⟨ad, c, e, _, hK, hc⟩ := Kd.C_get h 0 (i : Int) (by omega) (by omega)
  rw [Int.toNat_natCast] at hK hc
  have hx : xs[i]? = some (xs.getD i 0) := by simp [List.getD_eq_getElem?_getD, hn, h1]
  have hk : c = [.int .u8 (xs.getD i 0)] := by simpa [Kd.int, Kd.scalar] using hK
  subst hk
  exact ⟨ad, _, e, hx, by have hq := hc 0 _ rfl; rwa [show (Kd.int .u8).sz = 1 from rfl, Nat.mul_one, Nat.add_zero] at hq⟩
theorem at_own {w W : World} {B g n cap : Nat} {q : List (List Int)} (h : Kd.R (KF w) 23 W B (fun _ => True) (.slice (some ⟨g, 0, none⟩) n cap) q) (hb : Below w.heap.size w W) (k : Nat) (l : List Int) (hl : q[k]? = some l) : ∃ A0 c0, W.cell? ⟨g, k, none⟩ = some (.slice A0 l.length c0) ∧ l.length ≤ c0 ∧ Kd.C (Kd.int .u8) W A0 l.length l := by
  have hC := (Kd.R_reads' h).2.2
  have hlt := (List.getElem?_eq_some_iff.1 hl).1
  obtain ⟨ad, c, e, _, hK, hc0⟩ := Kd.C_get hC [] (k : Int) (by omega) (by omega)
  rw [Int.toNat_natCast] at hK hc0
  rw [show q.getD k [] = l by rw [List.getD_eq_getElem?_getD, hl]; rfl] at hK
  injection e with e
  subst e
  have hc : ∀ j u, c[j]? = some u → W.cell? ((⟨g, 0, none⟩ : Addr).add (k * 1 + j)) = some u := hc0
  have hadd : ∀ i, (⟨g, 0, none⟩ : Addr).add i = ⟨g, i, none⟩ := fun i => by unfold Addr.add; split <;> simp_all
  obtain ⟨A0, c0, rfl, l0, g0⟩ := (hK : KR.K w l c)
  exact ⟨A0, c0, by have hq := hc 0 _ rfl; rwa [Nat.mul_one, Nat.add_zero, hadd] at hq, l0, Kd.C_below g0 hb⟩
structure PA1 (w : World) (gp gm : Nat) (l0 : List (List Int)) (i : Nat) (wr : World) : Prop where
  ps : ∃ L Q S, Ps w gp gm 3 L Q S wr ∧ Q 0 1 = l0.take i ∧ Q 2 1 = bts i ∧ Q 1 0 = []
  sm : ∀ p ∈ l0.take i, p.length ≤ 1000000
/-- While the letters are drawn out of the post: what is left of them is the caller's own row. -/
structure PA3 (w : World) (gp gm n : Nat) (wr : World) : Prop where
  ps : ∃ L Q S, Ps w gp gm 3 L Q S wr ∧ Q 0 1 = [] ∧ Q 2 1 = bts n ∧ Q 1 0 = []
structure PA2 (w : World) (gp gm n : Nat) (Lf : List (List Int)) (v : Value) (wr : World) : Prop where
  ps : ∃ L Q S, Ps w gp gm 3 L Q S wr ∧ Q 0 1 = Lf ∧ Q 2 1 = bts n ∧ Q 1 0 = []
  ow : ∃ B, w.heap.size ≤ B ∧ Kd.R (KF w) 23 wr B (fun _ => True) v Lf
  sm : ∀ p ∈ Lf, p.length ≤ 1000000
end Go.Proofs.Ytnjnljnhpihemaa.Po
namespace Go.Proofs.Ytnjnljnhpihemaa.PA
open Go Go.RowKit Go.Proofs.YtnjnljnhpihemaaW.PrintWords Go.Proofs.YtnjnljnhpihemaaW.PrintLast Go.Proofs.Ytnjnljnhpihemaa.Po
open Classical in
noncomputable def stemmalaw23_PostApart.f (l0 : List (List Int)) (l1 : List Int) : Option Bool := if ∀ x ∈ l1, 0 ≤ x ∧ x < 256 then some true else none
set_option maxRecDepth 100000 in
set_option maxHeartbeats 4000000 in
theorem stemmalaw23_PostApart.calls (A0 : Option Addr) (c0 : Nat) (l0 : List (List Int)) (A1 : Option Addr) (c1 : Nat) (l1 : List Int) (r : Bool) (w : World) (hr0 : Kd.C KR w A0 l0.length l0) (hc0 : l0.length ≤ c0) (hr1 : Kd.C (Kd.int .u8) w A1 l1.length l1) (hc1 : l1.length ≤ c1) (hr_ : Aside0 (r = true)) (h : stemmalaw23_PostApart.f l0 l1 = some r) :
    Calls Try.prog 3 #[.slice A0 l0.length c0, .slice A1 l1.length c1] w fun e w' => e = .returned (.bool r) ∧ Below w.heap.size w w' := by
  obtain ⟨rfl⟩ := hr_
  unfold stemmalaw23_PostApart.f at h
  split at h
  case isFalse => cases h
  case isTrue hh =>
  have HX1 := Aside0.mk hh
  have HR0 := Aside0.mk hr0
  have HC0 := Aside0.mk hc0
  have HR1 := Aside0.mk hr1
  have HC1 := Aside0.mk hc1
  have HN := Aside0.mk (New_calls 3 (by omega) (by omega))
  clear h hh hr0 hc0 hr1 hc1
  go_enter Try.func3, Try.ntmps3
  go_upto_region 2 with (go_at_call 7; refine (HN.out w).mono ?_; rintro e w2 ⟨gp, gm, rfl, hP⟩; have HP := Aside0.mk hP; clear hP)
  go_upto_region 5 with fail
  obtain ⟨n, hn⟩ : ∃ n : Nat, (if (40 : Int) < (l0.length : Int) then (40 : Int) else (l0.length : Int)) = (n : Int) := by
    by_cases h : (40 : Int) < (l0.length : Int)
    · exact ⟨40, if_pos h⟩
    · exact ⟨l0.length, if_neg h⟩
  have hn1 : n ≤ l0.length ∧ n ≤ 40 := by split at hn <;> omega
  rw [hn]
  have HN1 := Aside0.mk hn1
  clear hn hn1 HN
  go_wp2_with fail
  go_loopw [8] (fun i wr => ∃ k : Nat, k ≤ n ∧ i = .int .i64 k ∧ Aside0 (PA1 w gp gm l0 k wr)) (fun i _ => n - (intOf i).toNat)
  case atStart => exact ⟨0, by omega, rfl, ⟨⟨_, _, _, HP.out, rfl, rfl, rfl⟩, fun p hp => by simp at hp⟩⟩
  case round =>
    clear HP
    obtain ⟨k, hk, rfl, HP⟩ := hrel
    by_cases hlt : k < n
    · have hkl : k < l0.length := by have := HN1.out; omega
      have hk40 : k < 40 := by have := HN1.out; omega
      obtain ⟨ad, A2, c2, rfl, hx, hl2, hC2⟩ := at_ll HR0.out (k : Int) (by omega) (by have := HN1.out; omega)
      rw [Int.toNat_natCast] at hx hl2 hC2
      have hgt : (l0.take (k + 1)) = l0.take k ++ [l0.getD k []] := by
        have : k < l0.length := by have := HN1.out; omega
        rw [List.take_succ_eq_append_getElem this]
        simp [List.getD_eq_getElem?_getD, this]
      generalize l0.getD k [] = P at *
      obtain ⟨⟨L, Q, S, hP, hq1, hq2, hq3⟩, hsm⟩ := HP.out
      replace hx := (hP.below.cell (World.block_lt_of_cell? w _ hx)).trans hx
      have HGT := Aside0.mk hgt
      clear hgt HP
      by_cases hP1 : P.length ≤ 1000000
      · have t1 : decide (1000000 < (P.length : Int)) = false := decide_eq_false (by omega)
        have t2 : (1000000 < P.length) = False := eq_false (by omega)
        have HSM : Aside0 (∀ p ∈ l0.take (k + 1), p.length ≤ 1000000) := ⟨by
          rw [HGT.out]
          intro p hp
          rcases List.mem_append.1 hp with hp | hp
          · exact hsm p hp
          · rw [List.mem_singleton.1 hp]; exact hP1⟩
        have HS := Aside0.mk (Send_ok hP (a := 0) (b := 1) (by omega) (by omega) (by omega) (by omega) (by omega) (by omega) A2 c2 P hl2 (Kd.C_below hC2 hP.below) (by omega) (by rw [hq1, List.length_take]; have := HN1.out; omega))
        have HQ := Aside0.mk (And.intro hq1 (And.intro hq2 hq3))
        clear hP hC2 hsm hq1 hq2 hq3
        go_wp2_with fail
        refine HS.out.mono ?_
        rintro e w4 ⟨rfl, L4, S4, hP4⟩
        have HP4 := Aside0.mk hP4
        clear hP4 HS
        go_wp2_with fail
        obtain ⟨Q4, hQ4⟩ : ∃ q, upd Q 0 1 (Q 0 1 ++ [P]) = q := ⟨_, rfl⟩
        have h4 : Q4 0 1 = l0.take (k + 1) ∧ Q4 2 1 = bts k ∧ Q4 1 0 = [] := by
          rw [← hQ4, upd_same, upd_other (by omega), upd_other (by omega), HQ.out.1, HGT.out]
          exact ⟨rfl, HQ.out.2⟩
        rw [hQ4] at HP4
        clear hQ4 HQ
        have HB5 := below_alloc (Below.refl w4.heap.size w4) (.cells #[.int .u8 (k : Int)] 5)
        have HS := Aside0.mk (Send_ok (HP4.out.step HB5) (a := 2) (b := 1) (by omega) (by omega) (by omega) (by omega) (by omega) (by omega) (some ⟨w4.heap.size, 0, none⟩) 1 [(k : Int)] (by simp) (Kd.R_reads' (R_one w4 k)).2.2 (by simp) (by rw [h4.2.1, bts_len]; have := HN1.out; omega))
        have HQ := Aside0.mk h4
        clear HB5 h4 HP4
        refine HS.out.mono ?_
        rintro e w5 ⟨rfl, L5, S5, hP5⟩
        have HP5 := Aside0.mk hP5
        clear hP5 HS
        go_wp2
        go_roundw
        case rel =>
          refine ⟨k + 1, by omega, by go_num, ⟨⟨L5, _, S5, HP5.out, ?_, ?_, ?_⟩, HSM.out⟩⟩
          · rw [upd_other (by omega)]; exact HQ.out.1
          · rw [upd_same, HQ.out.2.1, bts_succ]
          · rw [upd_other (by omega)]; exact HQ.out.2.2
        case measure => simp [intOf]; omega
      · have t1 : decide (1000000 < (P.length : Int)) = true := decide_eq_true (by omega)
        have t2 : (1000000 < P.length) = True := eq_true (by omega)
        have HB := Aside0.mk hP.below
        clear hP hC2 hsm hq1 hq2 hq3
        go_wp2_with (go_at_call 9; refine (awake_calls _).mono ?_; rintro e w8 ⟨rfl, hb⟩; have H8 := Aside0.mk (HB.out.trans (hb.mono HB.out.size)); clear hb)
        go_ret
        exact ⟨rfl, H8.out⟩
    · obtain rfl : n = k := by omega
      have hs := fun W => slice_take_run (A := A0) (m := l0.length) (c := c0) (k := n) (by have := HN1.out; have := HC0.out; omega) W
      obtain ⟨⟨L, Q, S, hP, hq1, hq2, hq3⟩, hsm⟩ := HP.out
      have HB9 := below_alloc (Below.refl wr.heap.size wr) (.cells #[] 23)
      have hwr := HP.out.ps
      have HS0 := Aside0.mk hP.below.size
      have HT : Aside0 ((l0.take n).length = n) := ⟨by rw [List.length_take]; have := HN1.out; omega⟩
      have HO9 : Aside0 (Kd.R (KF w) 23 (wr.alloc (.cells #[] 23)) wr.heap.size (fun _ => True) (.slice (some ⟨wr.heap.size, 0, none⟩) 0 0) ([] : List (List Int))) := ⟨⟨fun _ _ => trivial, [], ⟨rfl, .inr ⟨wr.heap.size, 0, #[], rfl, Nat.le_refl _, blk_new wr _, Nat.le_refl _, by decide, rfl, by simp⟩⟩, Reps.none _ _⟩⟩
      have HI9 := Aside0.mk (rows_take (rows_in HR0.out (hP.below.trans (HB9.mono hP.below.size))) HN1.out.1)
      have HB := Aside0.mk HB9
      have HPS := Aside0.mk (And.intro hP (And.intro hq1 (And.intro hq2 (And.intro hq3 hsm))))
      clear HP hP hq1 hq2 hq3 hsm hlt hk HB9 hwr
      go_upto_region 11 with ((with_reducible refine gate_builtin (b := .append) (xs := #[.tmp 68, .tmp 71]) rfl ?_); at_builtin; refine Kd.R_append_rows (KF w) (w0 := wr) wr.heap.size rfl (.tmp 68) (.tmp 71) 22 23 (.slice none 0 0) 24 rfl Try.underlying22 info_row rfl Nat.zero_lt_one (by decide) (.slice (some ⟨wr.heap.size, 0, none⟩) 0 0) ([] : List (List Int)) (l0.take n) A0 n c0 (fun _ => True) (fun _ => False) rfl rfl HO9.out HI9.out (fun _ _ h => h) (fun _ h => h.elim) (fun _ _ => trivial) HB.out HB.out.size (by have := HN1.out; rw [List.length_nil]; omega) ?_; intro v9 w9 ho hb hg hat; rw [List.nil_append] at ho; have HO := Aside0.mk ho; have HB2 := Aside0.mk hb; clear ho hb hg hat)
      have HP2 : Aside0 (PA2 w gp gm n (l0.take n) v9 w9) := ⟨⟨⟨L, Q, S, HPS.out.1.step HB2.out, HPS.out.2.1, HPS.out.2.2.1, HPS.out.2.2.2.1⟩, ⟨_, HS0.out, HO.out⟩, HPS.out.2.2.2.2⟩⟩
      have hn40 : n ≤ 40 := HN1.out.2
      clear HPS HB2 HO HB HI9 HO9 hs HR0 HN1 HS0
      generalize l0.take n = Lf0 at *
      go_wp2_with fail
      go_loopw [9, 10] (fun v i wr => ∃ (k : Nat) (Lf : List (List Int)), k ≤ n ∧ Lf.length + k = n ∧ i = .int .i64 k ∧ Aside0 (PA2 w gp gm n Lf v wr)) (fun _ i _ => n - (intOf i).toNat)
      case atStart => exact ⟨0, Lf0, by omega, by rw [HT.out]; omega, rfl, HP2⟩
      case round =>
        clear HP2 HT
        obtain ⟨k, Lf, hk, hlen, rfl, HP⟩ := hrel
        by_cases hlt : k < n
        · obtain ⟨⟨L2, Q2, S2, hP, hq1, hq2, hq3⟩, ⟨B, hB0, hR⟩, hsm⟩ := HP.out
          obtain ⟨g, cap, rfl, hgB, hgl, cells, hcell⟩ := Kd.R_form hR (by omega)
          have HPS := Aside0.mk (And.intro hP (And.intro hq1 (And.intro hq2 hq3)))
          have HOW := Aside0.mk (And.intro hB0 hR)
          have HSM := Aside0.mk hsm
          have hbw := hP.below
          have HBW := Aside0.mk hbw
          have hpos : 0 < Lf.length := by omega
          clear hP hq1 hq2 hq3 hR hsm hgB hgl hcell HP
          go_upto_if 81 with fail
          go_cut [11] from 73 to 118 (fun s11 wx => wx = wr ∧ ∃ kk : Nat, kk < Lf.length ∧ s11 = .int .i64 kk)
          case first =>
            by_cases hlo : k < l1.length
            · obtain ⟨ad1, x, rfl, hxl, hx⟩ := at_b HR1.out k hlo
              have hx01 := HX1.out x (List.mem_of_getElem? hxl)
              replace hx := (HBW.out.cell (World.block_lt_of_cell? w _ hx)).trans hx
              have hz : ¬ ((Lf.length : Int) = 0) := by omega
              have hz2 : ¬ (Lf.length = 0) := by omega
              have hwx : wrap64 x = x := by unfold wrap64; omega
              clear hxl
              go_wp2_with fail
              go_meet
              exact ⟨rfl, (x % Lf.length).toNat, by have := Int.emod_lt_of_pos x (show (0 : Int) < Lf.length by omega); have := Int.emod_nonneg x hz; omega, by rw [Int.toNat_of_nonneg (Int.emod_nonneg x hz)]⟩
            · go_wp2_with fail
              go_meet
              exact ⟨rfl, 0, hpos, rfl⟩
          case rest =>
            obtain ⟨rfl, kk, hkk, rfl⟩ := hcut
            obtain ⟨l, hl⟩ : ∃ l, Lf[kk]? = some l := ⟨_, List.getElem?_eq_getElem hkk⟩
            have hl1 := HSM.out l (List.mem_of_getElem? hl)
            have HT := Aside0.mk (Take_ok HPS.out.1 (a := 0) (b := 1) (by omega) (by omega) (by omega) (by omega) (by omega) (by omega) kk l (by rw [HPS.out.2.1]; exact hl) (by omega) (by rw [HPS.out.2.1]; omega))
            have HL := Aside0.mk hl
            clear hbw hl
            go_wp2_with fail
            refine HT.out.mono ?_
            rintro e w3 ⟨A3, c3, L3, S3, rfl, hO3, hP3, hsz3, hk3⟩
            rw [HPS.out.2.1] at hP3
            have HR3 := Aside0.mk (own_kept HOW.out.2 HPS.out.1.mb hk3)
            have hgt : wc.heap.size ≤ w3.heap.size := hsz3
            obtain ⟨A4, c4, hx4, hc4, hC4⟩ := at_own HR3.out hP3.below kk l HL.out
            have s1 := fun k => Kd.C_string (src := 23) (dst := 9) (c := c3) Try.underlying23 Try.underlying5 Try.underlying9 (Kd.C_drewN (Kd.R_reads' hO3).2.2 k)
            have s2 := fun k => Kd.C_string (src := 23) (dst := 9) (c := c4) Try.underlying23 Try.underlying5 Try.underlying9 (Kd.C_drewN hC4 k)
            have HP3 := Aside0.mk hP3
            have HX4 := Aside0.mk hx4
            have HS1 := Aside0.mk s1
            have HS2 := Aside0.mk s2
            clear hO3 hP3 hk3 hsz3 hC4 s1 s2 HT HBW hx4
            go_upto_region 18 with fail
            have s1 := HS1.out
            have s2 := HS2.out
            have hx4 := HX4.out
            go_quiet (fail)
            have hbq : Below w3.heap.size w3 (w3.drewN nq) := pw_below_drewN (Below.refl _ _) nq
            have HR4 := Aside0.mk (Kd.R_below HR3.out hbq)
            have HP4 := Aside0.mk (HP3.out.step hbq)
            clear s1 s2 hx4 HS1 HS2 HX4 HR3 HP3 hc4 hgt hbq
            generalize w3.drewN nq = w4 at *
            have HS4 := Aside0.mk HP4.out.below.size
            obtain ⟨-, hcap, hC4⟩ := Kd.R_reads' HR4.out
            have hs1 := fun W => slice_take_run (A := some ⟨g, 0, none⟩) (m := Lf.length) (c := cap) (k := kk) (by omega) W
            obtain ⟨A5, hA5⟩ : ∃ A1, A1 = if cap = kk + 1 then some (⟨g, 0, none⟩ : Addr) else (some (⟨g, 0, none⟩ : Addr)).map (·.add ((kk + 1) * 1)) := ⟨_, rfl⟩
            have hs2 := fun W => slice_drop_run (g := g) (m := Lf.length) (c := cap) (k := kk) (by omega) hA5 W
            have hwk : wrap64 ((kk : Int) + 1) = (kk : Int) + 1 := by have := hlen; unfold wrap64; omega
            have HA5 := Aside0.mk hA5
            have HC4 := Aside0.mk hC4
            have HSZ := Aside0.mk hcap
            have hkk40 : kk ≤ 40 := by omega
            clear hA5 hC4 hcap
            have HLN := Aside0.mk hlen
            clear hlen
            go_upto_region 13 with (first | ((with_reducible refine gate_builtin (b := .append) (xs := #[.tmp 108, .tmp 111]) rfl ?_); at_builtin; refine Kd.R_append_rows (KF w) (w0 := w4) w4.heap.size rfl (.tmp 108) (.tmp 111) 22 23 (.slice none 0 0) 24 rfl Try.underlying22 info_row rfl Nat.zero_lt_one (by decide) (.slice none 0 0) ([] : List (List Int)) (Lf.take kk) (some ⟨g, 0, none⟩) kk cap (fun _ => True) (fun _ => False) rfl rfl (Kd.R_nil _ _ _ _ _) (rows_take HC4.out (by omega)) (fun _ _ h => h) (fun _ h => h.elim) (fun _ _ => trivial) (Below.refl _ _) (Nat.le_refl _) (by rw [List.length_nil]; omega) ?_; intro v5 w5 ho hb hg hat; rw [List.nil_append] at ho; have HO5 := Aside0.mk ho; have HB5 := Aside0.mk hb; clear ho hb hg hat) | ((with_reducible refine gate_builtin (b := .append) (xs := #[.tmp 113, .tmp 117]) rfl ?_); at_builtin; refine Kd.R_append_rows (KF w) (w0 := w4) w4.heap.size rfl (.tmp 113) (.tmp 117) 22 23 (.slice none 0 0) 24 rfl Try.underlying22 info_row rfl Nat.zero_lt_one (by decide) v5 (Lf.take kk) (Lf.drop (kk + 1)) A5 (Lf.length - (kk + 1)) (cap - (kk + 1)) (fun _ => True) (fun _ => False) rfl rfl HO5.out (rows_drop (Kd.C_below HC4.out HB5.out) (by omega) HSZ.out HA5.out) (fun _ _ h => h) (fun _ h => h.elim) (fun _ _ => trivial) HB5.out HB5.out.size (by have := HLN.out; rw [List.length_take]; omega) ?_; intro v6 w6 ho hb hg hat; rw [← List.eraseIdx_eq_take_drop_succ] at ho; have HO6 := Aside0.mk ho; have HB6 := Aside0.mk hb; clear ho hb hg hat))
            have HP6 : Aside0 (PA2 w gp gm n (Lf.eraseIdx kk) v6 w6) := ⟨⟨⟨L3, _, S3, HP4.out.step HB6.out, upd_same, (upd_other (by omega)).trans HPS.out.2.2.1, (upd_other (by omega)).trans HPS.out.2.2.2⟩, ⟨_, HS4.out, HO6.out⟩, fun p hp => HSM.out p (List.mem_of_mem_eraseIdx hp)⟩⟩
            have HL6 : (Lf.eraseIdx kk).length + (k + 1) = n := by rw [List.length_eraseIdx, if_pos hkk]; have := HLN.out; omega
            have HLE := Aside0.mk HL6
            clear HO5 HO6 HB5 HB6 HSZ HC4 HA5 hs1 hs2 HP4 HR4 HS4 HSM HOW HPS HL6
            go_wp2
            go_roundw
            case rel => exact ⟨k + 1, _, by omega, HLE.out, by simp, HP6⟩
            case measure => simp [intOf]; omega
        · obtain rfl : n = k := by omega
          obtain rfl : Lf = [] := List.eq_nil_of_length_eq_zero (by omega)
          have HP2 : Aside0 (PA3 w gp gm n wr) := ⟨⟨HP.out.ps⟩⟩
          clear HP hk hlen hlt
          go_wp2_with fail
          go_loopw [15] (fun i wr => ∃ k : Nat, k ≤ n ∧ i = .int .i64 k ∧ Aside0 (PA3 w gp gm n wr)) (fun i _ => n - (intOf i).toNat)
          case atStart => exact ⟨0, by omega, rfl, HP2⟩
          case round =>
            clear HP2
            obtain ⟨k, hk, rfl, HP⟩ := hrel
            obtain ⟨⟨L2, Q2, S2, hP, hq1, hq2, hq3⟩⟩ := HP.out
            by_cases hlt : k < n
            · have HLK := Aside0.mk (Look_ok hP (a := 2) (b := 1) (by omega) (by omega) (by omega) (by omega) (by omega) (by omega) k [(k : Int)] (by rw [hq2]; exact bts_get n k hlt) (by simp))
              have HQ := Aside0.mk (And.intro hq1 (And.intro hq2 hq3))
              clear hP hq1 hq2 hq3 HP
              go_wp2_with fail
              refine HLK.out.mono ?_
              rintro e w3 ⟨A3, c3, rfl, hO3, hP3, -⟩
              obtain ⟨ad3, x3, rfl, hx3, hc3⟩ := at_b (Kd.R_reads' hO3).2.2 0 (by simp)
              obtain rfl : (k : Int) = x3 := by simpa using hx3
              have HP3 : Aside0 (PA3 w gp gm n w3) := ⟨⟨_, _, _, hP3, HQ.out.1, HQ.out.2.1, HQ.out.2.2⟩⟩
              rw [show ad3.add 0 = ad3 by unfold Addr.add; split <;> simp_all] at hc3
              have hl1 : ([(k : Int)] : List Int).length = 1 := rfl
              rw [hl1]
              have hk256 : (k : Int) % 256 = (k : Int) := by omega
              clear hO3 hP3 HLK hx3 HQ hl1
              go_wp2_with fail
              go_roundw
              case rel => exact ⟨k + 1, by omega, by go_num, HP3⟩
              case measure => simp [intOf]; omega
            · obtain rfl : n = k := by omega
              have HL1 := Len_calls hP (a := 0) (b := 1) ⟨by omega, by omega⟩ ⟨by omega, by omega⟩
              have HL2 := Len_calls hP (a := 2) (b := 1) ⟨by omega, by omega⟩ ⟨by omega, by omega⟩
              have HL3 := Len_calls hP (a := 1) (b := 0) ⟨by omega, by omega⟩ ⟨by omega, by omega⟩
              rw [hq1] at HL1
              rw [hq2, bts_len] at HL2
              rw [hq3] at HL3
              have HL1 := Aside0.mk HL1
              have HL2 := Aside0.mk HL2
              have HL3 := Aside0.mk HL3
              have HB := Aside0.mk hP.below
              clear hP hq1 hq2 hq3 HP hk hlt
              go_wp2_with fail
              refine HL1.out.mono ?_
              rintro e w9 ⟨rfl, rfl⟩
              go_wp2_with fail
              refine HL2.out.mono ?_
              rintro e w9 ⟨rfl, rfl⟩
              go_wp2_with fail
              refine HL3.out.mono ?_
              rintro e w9 ⟨rfl, rfl⟩
              go_wp2_with (go_at_call 9; refine (awake_calls _).mono ?_; rintro e w8 ⟨rfl, hb⟩; have H8 := Aside0.mk (HB.out.trans (hb.mono HB.out.size)); clear hb)
              go_ret
              exact ⟨rfl, H8.out⟩
end Go.Proofs.Ytnjnljnhpihemaa.PA
