/- stemmalaw01.ShaSums, walked. -/
import Derived.Test.YtkimpjlaailhcaaDoorShaE
set_option linter.unusedVariables false
set_option linter.unusedSimpArgs false
namespace Go.Proofs.YtkimpjlaailhcaaDoor.PA
open Go Go.RowKit Go.Proofs.YtkimpjlaailhcaaDoorW.PrintWords Go.Proofs.YtkimpjlaailhcaaDoorW.PrintLast Go.Proofs.YtkimpjlaailhcaaDoor.Sha Go.Proofs.YtkimpjlaailhcaaDoor.Ar
open Classical in
noncomputable def stemmalaw01_ShaSums.f (l0 : List Int) : Option Bool := if (∀ x ∈ l0, isB x) ∧ l0.length ≤ 140737488351232 then some true else none
set_option maxRecDepth 100000 in
set_option maxHeartbeats 4000000 in
theorem stemmalaw01_ShaSums.calls (A0 : Option Addr) (c0 : Nat) (l0 : List Int) (r : Bool) (w : World) (hr0 : Kd.C (Kd.int .u8) w A0 l0.length l0) (hc0 : l0.length ≤ c0) (hr_ : Aside0 (r = true)) (hG_ : Gl w) (h : stemmalaw01_ShaSums.f l0 = some r) :
    Calls Tryd.prog 3 #[.slice A0 l0.length c0] w fun e w' => e = .returned (.bool r) ∧ Below w.heap.size w w' := by
  obtain ⟨rfl⟩ := hr_
  unfold stemmalaw01_ShaSums.f at h
  split at h
  case isFalse => cases h
  case isTrue hh =>
  obtain ⟨hb0, hl0⟩ := hh
  have hO3 := rsumF_len l0
  rw [← sumF_eq l0 hb0] at hO3
  have HAW := Aside0.mk (fun (W : World) (hW : Below w.heap.size w W) => awake_calls W (hG_.below hW))
  have HS := Aside0.mk (fun (W : World) (A : Option Addr) (c : Nat) (hc : l0.length ≤ c) (hr : Kd.C (Kd.int .u8) W A l0.length l0) (hW : Below w.heap.size w W) => Sum_calls W A c l0 hc hr (hG_.below hW) (by omega))
  have HRS := Aside0.mk (fun (W : World) (hW : Below w.heap.size w W) => RSum_calls W A0 c0 l0 hc0 (Kd.F_now (Kd.F_below (row_old hr0) hW)) hl0)
  rw [← sumF_eq l0 hb0] at HRS
  obtain ⟨O, hO⟩ : ∃ O, sumF l0 = O := ⟨_, rfl⟩
  rw [hO] at HS HRS hO3
  have heq : ∀ W, (Op.equalIn 10000 24 (.agg (ns .u8 O)) (.agg (ns .u8 O))).run Tryd.prog W = .ok true W := fun W => (run_equalIn_ns (P := Tryd.prog) W 9998 24 5 32 .u8 Tryd.underlying24 Tryd.underlying5 (fun _ => by kernel_rfl) O O hO3 hO3).trans (by rw [beq_self_eq_true])
  obtain ⟨C, hC⟩ : ∃ C, ns .u8 O = C := ⟨_, rfl⟩
  rw [hC] at heq HS HRS
  have hR := R_of_blk (w := w.alloc (.cells (ns .u8 []) 5)) (base := w.heap.size) (blk_new w _) (Nat.le_refl _) (by decide)
  have HO1 : Aside0 (Kd.R (Kd.int .u8) 5 (w.alloc (.cells #[] 5)) w.heap.size (fun _ => True) (.slice (some ⟨w.heap.size, 0, none⟩) 0 0) []) := ⟨hR⟩
  have HB1 := Aside0.mk (below_alloc (Below.refl w.heap.size w) (.cells #[] 5))
  have HR0 := Aside0.mk (row_old hr0)
  have HL := Aside0.mk hl0
  clear h hb0 hr0 hG_ hl0 hc0 hO3 hO hC hR
  go_enter Tryd.func3, Tryd.ntmps3
  go_wp2_with (first | ((with_reducible refine gate_builtin (b := .append) (xs := #[.tmp 4, .tmp 5]) rfl ?_); at_builtin; refine Kd.R_append_rows (Kd.int .u8) (w0 := w) w.heap.size rfl (.tmp 4) (.tmp 5) 22 5 (.int .u8 0) 1 rfl Tryd.underlying22 infoB rfl (by decide) (by decide) (.slice (some ⟨w.heap.size, 0, none⟩) 0 0) ([] : List Int) l0 A0 l0.length c0 (fun _ => True) (fun _ => False) rfl rfl HO1.out (Kd.F_now (Kd.F_below HR0.out HB1.out)) (fun _ _ h => h) (fun _ h => h.elim) (fun _ _ => trivial) HB1.out HB1.out.size (by have := HL.out; rw [List.length_nil]; omega) ?_; intro v1 w1 ho hb hg hat; rw [List.nil_append] at ho; obtain ⟨A1, c1, rfl, hc1, hC1⟩ := Kd.R_reads ho; have HB2 := Aside0.mk hb; have HC1 := Aside0.mk hc1; have HR1 := Aside0.mk (row_old hC1); clear ho hb hg hat hc1 hC1) | (go_at_call 10; refine (HS.out _ _ _ HC1.out (Kd.F_now HR1.out) HB2.out).mono ?_; rintro e w2 ⟨rfl, hb2⟩; have HR2 := Aside0.mk (Kd.F_below HR1.out hb2); have HB3 := Aside0.mk (below_step HB2.out hb2); clear hb2) | (go_at_call 11; refine (HRS.out _ HB3.out).mono ?_; rintro e w3 ⟨rfl, hb3⟩; have HB4 := Aside0.mk (below_step HB3.out hb3); have hs1 := Kd.C_string (src := 22) (dst := 9) (c := c1) Tryd.underlying22 Tryd.underlying5 Tryd.underlying9 (Kd.F_now (Kd.F_below HR2.out hb3)); have hs2 := Kd.C_string (src := 22) (dst := 9) (c := c0) Tryd.underlying22 Tryd.underlying5 Tryd.underlying9 (Kd.F_now (Kd.F_below HR0.out HB4.out)); clear hb3) | (go_at_call 12; refine (HAW.out _ HB4.out).mono ?_; rintro e w4 ⟨rfl, hb4⟩; have HB5 := Aside0.mk (below_step HB4.out hb4); clear hb4))
  go_ret
  exact ⟨rfl, HB5.out⟩
end Go.Proofs.YtkimpjlaailhcaaDoor.PA
