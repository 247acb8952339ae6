/- A hash read out of its 64 digits, by both. -/
import Derived.Test.YtkimpjlaailhcaaDoorShaL
import Derived.Test.YtkimpjlaailhcaaDoorMine
import Derived.Test.YtkimpjlaailhcaaDoorPAx26
import Derived.Test.YtkimpjlaailhcaaDoorPAx27
import Derived.Laws.BitsAllLaws
set_option linter.unusedVariables false
set_option linter.unusedSimpArgs false
namespace Go.Proofs.YtkimpjlaailhcaaDoor.Sha
open Go Go.RowKit Go.Proofs.YtkimpjlaailhcaaDoorW.PrintWords Go.Proofs.YtkimpjlaailhcaaDoorW.PrintLast Go.Proofs.YtkimpjlaailhcaaDoor.Ar Go.Proofs.YtkimpjlaailhcaaDoor.PA
/-- A digit's worth. -/
def dig (c : Int) : Int := if 48 ≤ c ∧ c ≤ 57 then c - 48 else if 97 ≤ c ∧ c ≤ 102 then c - 87 else -1
theorem dig_range (c : Int) : -1 ≤ dig c ∧ dig c ≤ 15 := by unfold dig; split <;> (try split) <;> omega
theorem digit_f (c : Int) (h0 : 0 ≤ c) (h1 : c ≤ 255) : sha_digit.f 1 c = some (dig c) := by
  unfold sha_digit.f dig
  by_cases e : 48 ≤ c
  · rw [if_pos e, sha_digit.j0]
    by_cases e2 : c ≤ 57
    · rw [if_pos (decide_eq_true e2), if_pos ⟨e, e2⟩]; congr 1; omega
    · rw [if_neg (by simpa using e2), if_neg (show ¬(48 ≤ c ∧ c ≤ 57) by omega)]
      by_cases e3 : 97 ≤ c
      · rw [if_pos e3]
        by_cases e4 : c ≤ 102
        · rw [if_pos e4, if_pos ⟨e3, e4⟩]; congr 1; omega
        · rw [if_neg e4, if_neg (show ¬(97 ≤ c ∧ c ≤ 102) by omega)]
      · rw [if_neg e3, if_neg (show ¬(97 ≤ c ∧ c ≤ 102) by omega)]
  · rw [if_neg e, sha_digit.j0, if_neg (by simp), if_neg (show ¬ c ≥ 97 by omega), if_neg (show ¬(48 ≤ c ∧ c ≤ 57) by omega), if_neg (show ¬(97 ≤ c ∧ c ≤ 102) by omega)]
theorem value_all : ∀ c : Fin 256, stemmaref01_value.f 18 ((c : Nat) : Int) = some (dig ((c : Nat) : Int)) := by decide +kernel
theorem value_f (c : Int) (h0 : 0 ≤ c) (h1 : c ≤ 255) : stemmaref01_value.f 18 c = some (dig c) := by
  obtain ⟨n, rfl⟩ := Int.eq_ofNat_of_zero_le h0
  exact value_all ⟨n, by omega⟩
theorem digit_calls (c : Int) (h0 : 0 ≤ c) (h1 : c ≤ 255) (w : World) : Calls Tryd.prog 26 #[.int .u8 c] w fun e w' => e = .returned (.int .i64 (dig c)) ∧ ∃ m, w' = w.drewN m :=
  (sha_digit.calls 1 c (dig c) w (digit_f c h0 h1)).mono (fun e w' ⟨h, d⟩ => ⟨h, d.out⟩)
theorem value_calls (c : Int) (h0 : 0 ≤ c) (h1 : c ≤ 255) (w : World) : Calls Tryd.prog 27 #[.int .u8 c] w fun e w' => e = .returned (.int .i64 (dig c)) ∧ ∃ m, w' = w.drewN m :=
  (stemmaref01_value.calls 18 c (dig c) w (value_f c h0 h1)).mono (fun e w' ⟨h, d⟩ => ⟨h, d.out⟩)
theorem str_idx {P : Program} (T : TypeId) (hT : P.underlying T = some .string) (s : ByteArray) (i : Int) (h0 : 0 ≤ i) (h1 : i < (s.size : Int)) (W : World) : (Instr.index T (.string s) (.int .i64 i)).run P W = .ok (.int .u8 (bt s i)) W := by
  rw [run_index_string W T s .i64 i hT]
  have h2 : i.toNat < s.size := by omega
  have hb := bt_at s i h2
  simp only [h0, h2, hb, h1]
  simp [h0, h2, hb, h1]
theorem or_all : ∀ a b : Fin 16, Go.bits .or .i64 (((a : Nat) : Int) * 16) ((b : Nat) : Int) % 256 = 16 * ((a : Nat) : Int) + ((b : Nat) : Int) := by decide +kernel
theorem or_sum (h l : Int) (h0 : 0 ≤ h) (h1 : h ≤ 15) (l0 : 0 ≤ l) (l1 : l ≤ 15) : Go.bits .or .i64 (h * 16) l % 256 = 16 * h + l := by
  obtain ⟨a, rfl⟩ := Int.eq_ofNat_of_zero_le h0
  obtain ⟨b, rfl⟩ := Int.eq_ofNat_of_zero_le l0
  exact or_all ⟨a, by omega⟩ ⟨b, by omega⟩
def hiD (t : ByteArray) (k : Nat) : Int := dig (bt t (2 * (k : Int)))
def loD (t : ByteArray) (k : Nat) : Int := dig (bt t (2 * (k : Int) + 1))
def badB (t : ByteArray) (k : Nat) : Bool := decide (hiD t k < 0) || decide (loD t k < 0)
def pst (t : ByteArray) (k : Nat) (l : List Int) : List Int := l.set k (16 * hiD t k + loD t k)
def pout (t : ByteArray) (k : Nat) : List Int := it (pst t) (List.replicate 32 0) k
theorem pout_len (t : ByteArray) (k : Nat) : (pout t k).length = 32 := (it_len (fun _ _ => List.length_set) k).trans rfl
def z32' : List Int := List.replicate 32 0
def parseF (t : ByteArray) : List Int × Int :=
  if t.size < 64 then (z32', 3) else if 64 < t.size then (z32', 7) else if (List.range 32).any (badB t) then (z32', 4) else (pout t 32, 0)
theorem parse_len (t : ByteArray) : (parseF t).1.length = 32 := by
  have hz : z32'.length = 32 := List.length_replicate
  have hp := pout_len t 32
  rw [parseF]
  generalize (List.range 32).any (badB t) = b
  generalize pout t 32 = O at *
  by_cases h1 : t.size < 64
  · rw [if_pos h1]; exact hz
  · rw [if_neg h1]
    by_cases h2 : 64 < t.size
    · rw [if_pos h2]; exact hz
    · rw [if_neg h2]
      cases b
      · exact hp
      · exact hz
structure Pr (w : World) (l : List Int) (wr : World) : Prop where
  below : Below w.heap.size w wr
  rs : wr.heap[w.heap.size]? = some (.cells (ns .u8 z32') 24 (0, 0))
  hb : wr.heap[w.heap.size + 1]? = some (.cells (ns .u8 l) 24 (0, 0))
theorem Pr.drewN {w : World} {l : List Int} {wr : World} (h : Pr w l wr) (n : Nat) : Pr w l (wr.drewN n) := ⟨pw_below_drewN h.below n, h.rs, h.hb⟩
theorem Pr.at_ {w : World} {l : List Int} {wr wq : World} {n : Nat} (h : Pr w l wr) (hq : wr.drewN n = wq) : Pr w l wq := hq ▸ h.drewN n
theorem Pr.set {w : World} {l : List Int} {wr : World} (h : Pr w l wr) (i : Nat) (v : Int) : Pr w (l.set i v) (wr.setCell ⟨w.heap.size + 1, i, none⟩ (.int .u8 v)) :=
  ⟨h.below.setCell (by simp) _, blk_far h.rs (by simp) _, set_ h.hb i v⟩
/-- The result's cell, written whole. -/
theorem pr_put {w wr : World} {l O : List Int} (h : Pr w l wr) (hO : O.length = 32) : ((wr.setRow w.heap.size (splice (ns .u8 z32').toList 0 (ns .u8 O).toList).toArray).heap[w.heap.size]? = some (.cells (ns .u8 O) 24 (0, 0))) ∧ Below w.heap.size w (wr.setRow w.heap.size (splice (ns .u8 z32').toList 0 (ns .u8 O).toList).toArray) := by
  have hz : z32'.length = 32 := List.length_replicate
  have e : splice (ns .u8 z32').toList 0 (ns .u8 O).toList = (ns .u8 O).toList := splice_all _ _ (by rw [Array.length_toList, Array.length_toList, ns_size, ns_size, hO, hz])
  rw [e, Array.toArray_toList]
  exact ⟨Ar.blk_row h.rs _, below_setRow h.below (Nat.le_refl _) _⟩
theorem bad_ex {t : ByteArray} {k : Nat} (hk : k < 32) (h : badB t k = true) (h1 : ¬ t.size < 64) (h2 : ¬ 64 < t.size) : parseF t = (z32', 4) := by
  rw [parseF, if_neg h1, if_neg h2, if_pos (List.any_eq_true.2 ⟨k, List.mem_range.2 hk, h⟩)]
theorem bad_none {t : ByteArray} (h : ∀ j, j < 32 → badB t j = false) (h1 : ¬ t.size < 64) (h2 : ¬ 64 < t.size) : parseF t = (pout t 32, 0) := by
  rw [parseF, if_neg h1, if_neg h2, if_neg]
  intro hh
  obtain ⟨j, hj, hb⟩ := List.any_eq_true.1 hh
  rw [h j (List.mem_range.1 hj)] at hb
  cases hb
set_option maxRecDepth 100000 in
set_option maxHeartbeats 4000000 in
theorem Parse_calls (t : ByteArray) (w : World) (ht : t.size ≤ 140737488351232) :
    Calls Tryd.prog 19 #[.string t] w fun e w' => e = .returned (.tuple #[.agg (ns .u8 (parseF t).1), .int .i64 (parseF t).2]) ∧ Below w.heap.size w w' := by
  have hbz : (Tryd.prog.built 24 []) = some (ns .u8 z32') := by kernel_rfl
  have h0 : Pr w z32' ((w.alloc (.cells (ns .u8 z32') 24)).alloc (.cells (ns .u8 z32') 24)) := ⟨below_alloc (below_alloc (Below.refl _ _) _) _, blk_alloc (blk_new w _) _, new_at _ _ _ (by simp)⟩
  have H0 := Aside0.mk h0
  have HB := Aside0.mk hbz
  clear h0 hbz
  go_enter Tryd.func19, Tryd.ntmps19
  go_upto_region 2 with (fail)
  change Code.wp _ _ _ _ ((w.alloc (.cells (ns .u8 z32') 24)).alloc (.cells (ns .u8 z32') 24))
  generalize (w.alloc (.cells (ns .u8 z32') 24)).alloc (.cells (ns .u8 z32') 24) = w1 at *
  have HLZ : Aside0 (z32'.length = 32) := ⟨List.length_replicate⟩
  by_cases h1 : t.size < 64
  · have HP : Aside0 (parseF t = (z32', 3)) := ⟨by rw [parseF, if_pos h1]⟩
    go_wp2_with (first | ((with_reducible refine gate_ (Op.load 24 (.tmp 4)) rfl ?_); refine wpList_load_row rfl 24 (.tmp 4) rfl (w.heap.size + 1) rfl _ (ns .u8 z32') _ _ H0.out.hb Tryd.underlying24 rfl (by rw [ns_size, HLZ.out]; kernel_rfl) ?_) | ((with_reducible refine gate_ (Op.store 24 (.tmp 2) (.tmp 12)) rfl ?_); refine wpList_store_at rfl 24 (.tmp 2) (.tmp 12) rfl _ 0 _ rfl rfl _ _ H0.out.rs (by rw [ns_size, HLZ.out]; simp) (by rw [ns_size, HLZ.out]; kernel_rfl) (ns_one _ _) ?_))
    refine bodyPost_ret (results_ct rfl _ _ w.heap.size 24 (ns .u8 z32') (0, 0) _ rfl (pr_put H0.out HLZ.out).1 Tryd.underlying24 rfl (by rw [ns_size, HLZ.out]; kernel_rfl)) rfl ?_
    exact ⟨by rw [HP.out]; rfl, (pr_put H0.out HLZ.out).2⟩
  · by_cases h2 : 64 < t.size
    · have HP : Aside0 (parseF t = (z32', 7)) := ⟨by rw [parseF, if_neg h1, if_pos h2]⟩
      go_wp2_with (first | ((with_reducible refine gate_ (Op.load 24 (.tmp 4)) rfl ?_); refine wpList_load_row rfl 24 (.tmp 4) rfl (w.heap.size + 1) rfl _ (ns .u8 z32') _ _ H0.out.hb Tryd.underlying24 rfl (by rw [ns_size, HLZ.out]; kernel_rfl) ?_) | ((with_reducible refine gate_ (Op.store 24 (.tmp 2) (.tmp 17)) rfl ?_); refine wpList_store_at rfl 24 (.tmp 2) (.tmp 17) rfl _ 0 _ rfl rfl _ _ H0.out.rs (by rw [ns_size, HLZ.out]; simp) (by rw [ns_size, HLZ.out]; kernel_rfl) (ns_one _ _) ?_))
      refine bodyPost_ret (results_ct rfl _ _ w.heap.size 24 (ns .u8 z32') (0, 0) _ rfl (pr_put H0.out HLZ.out).1 Tryd.underlying24 rfl (by rw [ns_size, HLZ.out]; kernel_rfl)) rfl ?_
      exact ⟨by rw [HP.out]; rfl, (pr_put H0.out HLZ.out).2⟩
    · have HN := Aside0.mk (And.intro h1 h2)
      have hsz : t.size = 64 := by omega
      clear h1 h2 ht
      go_wp2_with (fail)
      go_loopw [18] (fun i wr => ∃ k : Nat, k ≤ 32 ∧ (∀ j, j < k → badB t j = false) ∧ i = .int .i64 k ∧ Pr w (pout t k) wr) (fun i _ => 32 - (intOf i).toNat)
      case atStart => exact ⟨0, by omega, fun j hj => by omega, rfl, H0.out⟩
      case round =>
        clear H0
        obtain ⟨k, hk, hg, rfl, hm⟩ := hrel
        by_cases hlt : k < 32
        · obtain ⟨i, hi⟩ : ∃ i : Int, 2 * (k : Int) = i := ⟨_, rfl⟩
          obtain ⟨j, hj⟩ : ∃ j : Int, i + 1 = j := ⟨_, rfl⟩
          have i1 : IntKind.i64.wrap (2 * (k : Int)) = i := by rw [IntKind.wrap_i64]; omega
          have i2 : IntKind.i64.wrap (i + 1) = j := by rw [IntKind.wrap_i64]; omega
          have z1 : (0 : Int) ≤ i := by omega
          have z2 : i < (t.size : Int) := by omega
          have z3 : (0 : Int) ≤ j := by omega
          have z4 : j < (t.size : Int) := by omega
          have x1 := fun W => str_idx (P := Tryd.prog) 9 Tryd.underlying9 t i z1 z2 W
          have x2 := fun W => str_idx (P := Tryd.prog) 9 Tryd.underlying9 t j z3 z4 W
          have r1 := bt_range t i
          have r2 := bt_range t j
          have HM := Aside0.mk hm
          have HGD := Aside0.mk hg
          have HK := Aside0.mk (And.intro hk hlt)
          have HC := Aside0.mk (fun W => digit_calls (bt t i) r1.1 r1.2 W)
          have HD := Aside0.mk (fun W => digit_calls (bt t j) r2.1 r2.2 W)
          have HH : Aside0 (hiD t k = dig (bt t i) ∧ loD t k = dig (bt t j)) := ⟨by rw [hiD, hi], by rw [loD, hi, hj]⟩
          clear hm hg r1 r2 hk hsz hi hj z1 z2 z3 z4
          have g1 := Aside0.mk (dig_range (bt t i))
          have g2 := Aside0.mk (dig_range (bt t j))
          generalize bt t i = b1 at *
          generalize bt t j = b2 at *
          generalize dig b1 = h at *
          generalize dig b2 = l at *
          go_upto_region 9 with (fail)
          go_quiet ((go_at_call 26; first | with_reducible exact Calls.quiet_of (HC.out _) | with_reducible exact Calls.quiet_of (HD.out _)))
          generalize hq : wr.drewN nq = wq
          have HM := Aside0.mk (HM.out.at_ hq)
          clear hq x1 x2 i1 i2 HC HD
          by_cases n1 : h < 0
          · have HP : Aside0 (parseF t = (z32', 4)) := ⟨bad_ex HK.out.2 (by rw [badB, HH.out.1, HH.out.2]; simp [n1]) HN.out.1 HN.out.2⟩
            go_wp2_with (first | ((with_reducible refine gate_ (Op.build 24 #[]) rfl ?_); refine wpList_build_as rfl 24 _ rfl [] rfl (ns .u8 z32') HB.out ?_) | ((with_reducible refine gate_ (Op.store 24 (.tmp 2) (.tmp 38)) rfl ?_); refine wpList_store_at rfl 24 (.tmp 2) (.tmp 38) rfl w.heap.size 0 (ns .u8 z32') rfl rfl _ _ HM.out.rs (by rw [ns_size, HLZ.out]; simp) (by rw [ns_size, HLZ.out]; kernel_rfl) (ns_one _ _) ?_))
            refine bodyPost_ret (results_ct rfl _ _ w.heap.size 24 (ns .u8 z32') (0, 0) _ rfl (pr_put HM.out HLZ.out).1 Tryd.underlying24 rfl (by rw [ns_size, HLZ.out]; kernel_rfl)) rfl ?_
            exact ⟨by rw [HP.out]; rfl, (pr_put HM.out HLZ.out).2⟩
          · by_cases n2 : l < 0
            · have HP : Aside0 (parseF t = (z32', 4)) := ⟨bad_ex HK.out.2 (by rw [badB, HH.out.1, HH.out.2]; simp [n2]) HN.out.1 HN.out.2⟩
              go_wp2_with (first | ((with_reducible refine gate_ (Op.build 24 #[]) rfl ?_); refine wpList_build_as rfl 24 _ rfl [] rfl (ns .u8 z32') HB.out ?_) | ((with_reducible refine gate_ (Op.store 24 (.tmp 2) (.tmp 38)) rfl ?_); refine wpList_store_at rfl 24 (.tmp 2) (.tmp 38) rfl w.heap.size 0 (ns .u8 z32') rfl rfl _ _ HM.out.rs (by rw [ns_size, HLZ.out]; simp) (by rw [ns_size, HLZ.out]; kernel_rfl) (ns_one _ _) ?_))
              refine bodyPost_ret (results_ct rfl _ _ w.heap.size 24 (ns .u8 z32') (0, 0) _ rfl (pr_put HM.out HLZ.out).1 Tryd.underlying24 rfl (by rw [ns_size, HLZ.out]; kernel_rfl)) rfl ?_
              exact ⟨by rw [HP.out]; rfl, (pr_put HM.out HLZ.out).2⟩
            · have HGD2 : Aside0 (∀ j, j < k + 1 → badB t j = false) := ⟨fun j hj => by
                rcases Nat.lt_or_ge j k with h' | h'
                · exact HGD.out j h'
                · obtain rfl : j = k := by omega
                  rw [badB, HH.out.1, HH.out.2]; simp [n1, n2]⟩
              have c0 := cell HM.out.hb k (by rw [pout_len]; exact HK.out.2)
              have f0 := blk_frozen HM.out.hb k
              have m1 := g1.out
              have m2 := g2.out
              go_wp2
              rw [or_sum h l (by omega) m1.2 (by omega) m2.2]
              go_roundw
              case rel => exact ⟨k + 1, by have := HK.out; omega, HGD2.out, by go_num, by
                have e := HM.out.set k (16 * h + l)
                rw [← HH.out.1, ← HH.out.2] at e ⊢
                exact e⟩
              case measure => have := HK.out; simp [intOf]; omega
        · obtain rfl : k = 32 := by omega
          rw [show ((32 : Nat) : Int) = 32 from rfl]
          have HM := Aside0.mk hm
          have HP : Aside0 (parseF t = (pout t 32, 0)) := ⟨bad_none hg HN.out.1 HN.out.2⟩
          have HPL : Aside0 ((pout t 32).length = 32) := ⟨pout_len t 32⟩
          clear hm hg hlt hk
          generalize pout t 32 = P at *
          go_wp2_with (first | ((with_reducible refine gate_ (Op.load 24 (.tmp 4)) rfl ?_); refine wpList_load_row rfl 24 (.tmp 4) rfl (w.heap.size + 1) rfl _ (ns .u8 P) _ _ HM.out.hb Tryd.underlying24 rfl (by rw [ns_size, HPL.out]; kernel_rfl) ?_) | ((with_reducible refine gate_ (Op.store 24 (.tmp 2) (.tmp 47)) rfl ?_); refine wpList_store_at rfl 24 (.tmp 2) (.tmp 47) rfl _ 0 _ rfl rfl _ _ HM.out.rs (by rw [ns_size, ns_size, HLZ.out, HPL.out]; simp) (by rw [ns_size, HPL.out]; kernel_rfl) (ns_one _ _) ?_))
          refine bodyPost_ret (results_ct rfl _ _ w.heap.size 24 (ns .u8 P) (0, 0) _ rfl (pr_put HM.out HPL.out).1 Tryd.underlying24 rfl (by rw [ns_size, HPL.out]; kernel_rfl)) rfl ?_
          exact ⟨by rw [HP.out]; rfl, (pr_put HM.out HPL.out).2⟩
set_option maxRecDepth 100000 in
set_option maxHeartbeats 4000000 in
theorem RParse_calls (t : ByteArray) (w : World) (ht : t.size ≤ 140737488351232) :
    Calls Tryd.prog 20 #[.string t] w fun e w' => e = .returned (.tuple #[.agg (ns .u8 (parseF t).1), .int .i64 (parseF t).2]) ∧ Below w.heap.size w w' := by
  have hbz : (Tryd.prog.built 24 []) = some (ns .u8 z32') := by kernel_rfl
  have h0 : Pr w z32' ((w.alloc (.cells (ns .u8 z32') 24)).alloc (.cells (ns .u8 z32') 24)) := ⟨below_alloc (below_alloc (Below.refl _ _) _) _, blk_alloc (blk_new w _) _, new_at _ _ _ (by simp)⟩
  have H0 := Aside0.mk h0
  have HB := Aside0.mk hbz
  clear h0 hbz
  go_enter Tryd.func20, Tryd.ntmps20
  go_upto_region 2 with (fail)
  change Code.wp _ _ _ _ ((w.alloc (.cells (ns .u8 z32') 24)).alloc (.cells (ns .u8 z32') 24))
  generalize (w.alloc (.cells (ns .u8 z32') 24)).alloc (.cells (ns .u8 z32') 24) = w1 at *
  have HLZ : Aside0 (z32'.length = 32) := ⟨List.length_replicate⟩
  by_cases h1 : t.size < 64
  · have HP : Aside0 (parseF t = (z32', 3)) := ⟨by rw [parseF, if_pos h1]⟩
    go_wp2_with (first | ((with_reducible refine gate_ (Op.load 24 (.tmp 4)) rfl ?_); refine wpList_load_row rfl 24 (.tmp 4) rfl (w.heap.size + 1) rfl _ (ns .u8 z32') _ _ H0.out.hb Tryd.underlying24 rfl (by rw [ns_size, HLZ.out]; kernel_rfl) ?_) | ((with_reducible refine gate_ (Op.store 24 (.tmp 2) (.tmp 11)) rfl ?_); refine wpList_store_at rfl 24 (.tmp 2) (.tmp 11) rfl _ 0 _ rfl rfl _ _ H0.out.rs (by rw [ns_size, HLZ.out]; simp) (by rw [ns_size, HLZ.out]; kernel_rfl) (ns_one _ _) ?_))
    refine bodyPost_ret (results_ct rfl _ _ w.heap.size 24 (ns .u8 z32') (0, 0) _ rfl (pr_put H0.out HLZ.out).1 Tryd.underlying24 rfl (by rw [ns_size, HLZ.out]; kernel_rfl)) rfl ?_
    exact ⟨by rw [HP.out]; rfl, (pr_put H0.out HLZ.out).2⟩
  · by_cases h2 : 64 < t.size
    · have HP : Aside0 (parseF t = (z32', 7)) := ⟨by rw [parseF, if_neg h1, if_pos h2]⟩
      go_wp2_with (first | ((with_reducible refine gate_ (Op.load 24 (.tmp 4)) rfl ?_); refine wpList_load_row rfl 24 (.tmp 4) rfl (w.heap.size + 1) rfl _ (ns .u8 z32') _ _ H0.out.hb Tryd.underlying24 rfl (by rw [ns_size, HLZ.out]; kernel_rfl) ?_) | ((with_reducible refine gate_ (Op.store 24 (.tmp 2) (.tmp 15)) rfl ?_); refine wpList_store_at rfl 24 (.tmp 2) (.tmp 15) rfl _ 0 _ rfl rfl _ _ H0.out.rs (by rw [ns_size, HLZ.out]; simp) (by rw [ns_size, HLZ.out]; kernel_rfl) (ns_one _ _) ?_))
      refine bodyPost_ret (results_ct rfl _ _ w.heap.size 24 (ns .u8 z32') (0, 0) _ rfl (pr_put H0.out HLZ.out).1 Tryd.underlying24 rfl (by rw [ns_size, HLZ.out]; kernel_rfl)) rfl ?_
      exact ⟨by rw [HP.out]; rfl, (pr_put H0.out HLZ.out).2⟩
    · have HN := Aside0.mk (And.intro h1 h2)
      have hsz : t.size = 64 := by omega
      clear h1 h2 ht
      go_wp2_with (fail)
      go_loopw [5] (fun i wr => ∃ k : Nat, k ≤ 32 ∧ (∀ j, j < k → badB t j = false) ∧ i = .int .i64 k ∧ Pr w (pout t k) wr) (fun i _ => 32 - (intOf i).toNat)
      case atStart => exact ⟨0, by omega, fun j hj => by omega, rfl, H0.out⟩
      case round =>
        clear H0
        obtain ⟨k, hk, hg, rfl, hm⟩ := hrel
        by_cases hlt : k < 32
        · obtain ⟨i, hi⟩ : ∃ i : Int, 2 * (k : Int) = i := ⟨_, rfl⟩
          obtain ⟨j, hj⟩ : ∃ j : Int, i + 1 = j := ⟨_, rfl⟩
          have i1 : IntKind.i64.wrap (2 * (k : Int)) = i := by rw [IntKind.wrap_i64]; omega
          have i2 : IntKind.i64.wrap (i + 1) = j := by rw [IntKind.wrap_i64]; omega
          have z1 : (0 : Int) ≤ i := by omega
          have z2 : i < (t.size : Int) := by omega
          have z3 : (0 : Int) ≤ j := by omega
          have z4 : j < (t.size : Int) := by omega
          have x1 := fun W => str_idx (P := Tryd.prog) 9 Tryd.underlying9 t i z1 z2 W
          have x2 := fun W => str_idx (P := Tryd.prog) 9 Tryd.underlying9 t j z3 z4 W
          have r1 := bt_range t i
          have r2 := bt_range t j
          have HM := Aside0.mk hm
          have HGD := Aside0.mk hg
          have HK := Aside0.mk (And.intro hk hlt)
          have HC := Aside0.mk (fun W => value_calls (bt t i) r1.1 r1.2 W)
          have HD := Aside0.mk (fun W => value_calls (bt t j) r2.1 r2.2 W)
          have HH : Aside0 (hiD t k = dig (bt t i) ∧ loD t k = dig (bt t j)) := ⟨by rw [hiD, hi], by rw [loD, hi, hj]⟩
          clear hm hg r1 r2 hk hsz hi hj z1 z2 z3 z4
          have g1 := Aside0.mk (dig_range (bt t i))
          have g2 := Aside0.mk (dig_range (bt t j))
          generalize bt t i = b1 at *
          generalize bt t j = b2 at *
          generalize dig b1 = h at *
          generalize dig b2 = l at *
          go_upto_region 9 with (fail)
          go_quiet ((go_at_call 27; first | with_reducible exact Calls.quiet_of (HC.out _) | with_reducible exact Calls.quiet_of (HD.out _)))
          generalize hq : wr.drewN nq = wq
          have HM := Aside0.mk (HM.out.at_ hq)
          clear hq x1 x2 i1 i2 HC HD
          by_cases n1 : h < 0
          · have HP : Aside0 (parseF t = (z32', 4)) := ⟨bad_ex HK.out.2 (by rw [badB, HH.out.1, HH.out.2]; simp [n1]) HN.out.1 HN.out.2⟩
            go_wp2_with (first | ((with_reducible refine gate_ (Op.build 24 #[]) rfl ?_); refine wpList_build_as rfl 24 _ rfl [] rfl (ns .u8 z32') HB.out ?_) | ((with_reducible refine gate_ (Op.store 24 (.tmp 2) (.tmp 37)) rfl ?_); refine wpList_store_at rfl 24 (.tmp 2) (.tmp 37) rfl w.heap.size 0 (ns .u8 z32') rfl rfl _ _ HM.out.rs (by rw [ns_size, HLZ.out]; simp) (by rw [ns_size, HLZ.out]; kernel_rfl) (ns_one _ _) ?_))
            refine bodyPost_ret (results_ct rfl _ _ w.heap.size 24 (ns .u8 z32') (0, 0) _ rfl (pr_put HM.out HLZ.out).1 Tryd.underlying24 rfl (by rw [ns_size, HLZ.out]; kernel_rfl)) rfl ?_
            exact ⟨by rw [HP.out]; rfl, (pr_put HM.out HLZ.out).2⟩
          · by_cases n2 : l < 0
            · have HP : Aside0 (parseF t = (z32', 4)) := ⟨bad_ex HK.out.2 (by rw [badB, HH.out.1, HH.out.2]; simp [n2]) HN.out.1 HN.out.2⟩
              go_wp2_with (first | ((with_reducible refine gate_ (Op.build 24 #[]) rfl ?_); refine wpList_build_as rfl 24 _ rfl [] rfl (ns .u8 z32') HB.out ?_) | ((with_reducible refine gate_ (Op.store 24 (.tmp 2) (.tmp 37)) rfl ?_); refine wpList_store_at rfl 24 (.tmp 2) (.tmp 37) rfl w.heap.size 0 (ns .u8 z32') rfl rfl _ _ HM.out.rs (by rw [ns_size, HLZ.out]; simp) (by rw [ns_size, HLZ.out]; kernel_rfl) (ns_one _ _) ?_))
              refine bodyPost_ret (results_ct rfl _ _ w.heap.size 24 (ns .u8 z32') (0, 0) _ rfl (pr_put HM.out HLZ.out).1 Tryd.underlying24 rfl (by rw [ns_size, HLZ.out]; kernel_rfl)) rfl ?_
              exact ⟨by rw [HP.out]; rfl, (pr_put HM.out HLZ.out).2⟩
            · have HGD2 : Aside0 (∀ j, j < k + 1 → badB t j = false) := ⟨fun j hj => by
                rcases Nat.lt_or_ge j k with h' | h'
                · exact HGD.out j h'
                · obtain rfl : j = k := by omega
                  rw [badB, HH.out.1, HH.out.2]; simp [n1, n2]⟩
              have c0 := cell HM.out.hb k (by rw [pout_len]; exact HK.out.2)
              have f0 := blk_frozen HM.out.hb k
              have m1 := g1.out
              have m2 := g2.out
              go_wp2
              go_roundw
              case rel => exact ⟨k + 1, by have := HK.out; omega, HGD2.out, by go_num, by
                have e := HM.out.set k (16 * h + l)
                rw [← HH.out.1, ← HH.out.2] at e ⊢
                exact e⟩
              case measure => have := HK.out; simp [intOf]; omega
        · obtain rfl : k = 32 := by omega
          rw [show ((32 : Nat) : Int) = 32 from rfl]
          have HM := Aside0.mk hm
          have HP : Aside0 (parseF t = (pout t 32, 0)) := ⟨bad_none hg HN.out.1 HN.out.2⟩
          have HPL : Aside0 ((pout t 32).length = 32) := ⟨pout_len t 32⟩
          clear hm hg hlt hk
          generalize pout t 32 = P at *
          go_wp2_with (first | ((with_reducible refine gate_ (Op.load 24 (.tmp 4)) rfl ?_); refine wpList_load_row rfl 24 (.tmp 4) rfl (w.heap.size + 1) rfl _ (ns .u8 P) _ _ HM.out.hb Tryd.underlying24 rfl (by rw [ns_size, HPL.out]; kernel_rfl) ?_) | ((with_reducible refine gate_ (Op.store 24 (.tmp 2) (.tmp 45)) rfl ?_); refine wpList_store_at rfl 24 (.tmp 2) (.tmp 45) rfl _ 0 _ rfl rfl _ _ HM.out.rs (by rw [ns_size, ns_size, HLZ.out, HPL.out]; simp) (by rw [ns_size, HPL.out]; kernel_rfl) (ns_one _ _) ?_))
          refine bodyPost_ret (results_ct rfl _ _ w.heap.size 24 (ns .u8 P) (0, 0) _ rfl (pr_put HM.out HPL.out).1 Tryd.underlying24 rfl (by rw [ns_size, HPL.out]; kernel_rfl)) rfl ?_
          exact ⟨by rw [HP.out]; rfl, (pr_put HM.out HPL.out).2⟩
end Go.Proofs.YtkimpjlaailhcaaDoor.Sha
