/- A hash's digits, told by both. -/
import Derived.Test.YtkimpjlaailhcaaDoorShaS
import Derived.Test.YtkimpjlaailhcaaDoorMine
set_option linter.unusedVariables false
set_option linter.unusedSimpArgs false
namespace Go.Proofs.YtkimpjlaailhcaaDoor.Sha
open Go Go.RowKit Go.Proofs.YtkimpjlaailhcaaDoorW.PrintWords Go.Proofs.YtkimpjlaailhcaaDoorW.PrintLast Go.Proofs.YtkimpjlaailhcaaDoor.Ar Go.Proofs.YtkimpjlaailhcaaDoor.PA
def hexd : List Int := [48, 49, 50, 51, 52, 53, 54, 55, 56, 57, 97, 98, 99, 100, 101, 102]
def isB (x : Int) : Prop := 0 ≤ x ∧ x < 256
def hx1 (b : Int) : List Int := [rd hexd (b / 16), rd hexd (b % 16)]
def hexF (l : List Int) : List Int := l.flatMap hx1
theorem hexF_snoc (l : List Int) (b : Int) : hexF (l ++ [b]) = hexF l ++ hx1 b := by simp [hexF]
theorem hexF_len (l : List Int) : (hexF l).length = 2 * l.length := by
  induction l with
  | nil => rfl
  | cons b t ih => rw [hexF, List.flatMap_cons, List.length_append]; rw [hexF] at ih; rw [ih]; simp [hx1]; omega
theorem hex_idx {P : Program} (T : TypeId) (hT : P.underlying T = some .string) (k : IntKind) (i : Int) (h0 : 0 ≤ i) (h1 : i < 16) (W : World) : (Instr.index T (.string ⟨#[48, 49, 50, 51, 52, 53, 54, 55, 56, 57, 97, 98, 99, 100, 101, 102]⟩) (.int k i)).run P W = .ok (.int .u8 (rd hexd i)) W := by
  obtain ⟨n, rfl⟩ := Int.eq_ofNat_of_zero_le h0
  have hn : n < 16 := by omega
  rw [run_index_string W T _ k _ hT]
  rcases n with _ | _ | _ | _ | _ | _ | _ | _ | _ | _ | _ | _ | _ | _ | _ | _ | n
  all_goals first | rfl | omega
theorem and15 (b : Int) (h : isB b) : Go.bits .and .u8 b 15 = b % 16 := by
  have := bits_mask .u8 8 (by decide) (fun n h0 h1 => by rw [IntKind.wrap_u8]; omega) 4 (by decide) b h.1 (by have := h.2; omega)
  simpa using this
theorem take_snoc (l : List Int) (k : Nat) (h : k < l.length) : l.take (k + 1) = l.take k ++ [rd l (k : Int)] := by
  rw [List.take_succ_eq_append_getElem h]
  simp [rd, List.getD_eq_getElem?_getD, h]
set_option maxRecDepth 100000 in
set_option maxHeartbeats 4000000 in
theorem Hex_calls (w : World) (H : List Int) (hH : H.length = 32) (hb : ∀ x ∈ H, isB x) :
    Calls Tryd.prog 21 #[.agg (ns .u8 H)] w fun e w' => e = .returned (.string (strOfNums (hexF H))) ∧ Below w.heap.size w w' := by
  obtain ⟨C, hC⟩ : ∃ C, ns .u8 H = C := ⟨_, rfl⟩
  have HC := Aside0.mk hC
  have HCS : Aside0 (C.size = 32) := ⟨by rw [← hC, ns_size]; exact hH⟩
  have HH := Aside0.mk hH
  have HB := Aside0.mk hb
  rw [hC]
  clear hC hH hb
  go_enter Tryd.func21, Tryd.ntmps21
  go_wp2_with (first | ((with_reducible refine gate_ (Op.makeSlice 22 (.const (.int .i64 0)) (.const (.int .i64 64))) rfl ?_); refine Kd.R_make0 (Kd.int .u8) (w0 := w) w.heap.size 5 rfl rfl 22 _ _ rfl 64 rfl rfl Tryd.underlying22 (.int .u8 0) 1 infoB rfl (by decide) (by decide) (ok := fun _ => True) (okp := fun _ => True) (fun _ h => h) trivial (by omega) (by decide) (below_alloc (Below.refl _ _) _) (by simp) ?_; intro v1 w1 ho1 hb1 hg1 hat1; have HO := Aside0.mk ho1; have HBL := Aside0.mk hb1; have HBX := Aside0.mk (blk_grown (blk_new w (.cells C 24)) hg1 (by simp)); clear ho1 hb1 hg1 hat1) | ((with_reducible refine gate_ (Op.load 24 (.tmp 1)) rfl ?_); refine wpList_load_row rfl 24 (.tmp 1) rfl w.heap.size rfl _ _ _ _ HBX.out Tryd.underlying24 rfl (by rw [HCS.out]; kernel_rfl) ?_))
  go_loopw [3, 8] (fun v i wr => ∃ k : Nat, k ≤ 32 ∧ i = .int .i64 k ∧ Kd.R (Kd.int .u8) 5 wr w.heap.size (fun _ => True) v (hexF (H.take k)) ∧ Below w.heap.size w wr) (fun _ i _ => 32 - (intOf i).toNat)
  case atStart => exact ⟨0, by omega, rfl, HO.out, HBL.out⟩
  case round =>
    clear HO HBL HBX
    obtain ⟨k, hk, rfl, ho, hbl⟩ := hrel
    obtain ⟨A3, c3, rfl⟩ := Kd.R_slice ho
    have hlt0 : (H.take k).length = k := by rw [List.length_take, HH.out]; omega
    have hxl : (hexF (H.take k)).length = 2 * k := by rw [hexF_len, hlt0]
    obtain ⟨X, hX⟩ : ∃ X, hexF (H.take k) = X := ⟨_, rfl⟩
    rw [hX] at ho hxl
    rw [hX]
    by_cases hlt : k < 32
    · obtain ⟨b, hbb⟩ : ∃ b, rd H (k : Int) = b := ⟨_, rfl⟩
      have hB : isB b := by
        rw [← hbb]
        refine HB.out _ ?_
        simp [rd, List.getD_eq_getElem?_getD, HH.out, hlt]
      have hnext : hexF (H.take (k + 1)) = X ++ hx1 b := by rw [take_snoc H k (by rw [HH.out]; exact hlt), hexF_snoc, hX, hbb]
      have hidx : ∀ W : World, (Instr.index 24 (.agg C) (.int .i64 (k : Int))).run Tryd.prog W = .ok (.int .u8 b) W := fun W => by rw [← HC.out, ← hbb]; exact run_index_ns 24 5 32 Tryd.underlying24 _ Tryd.underlying5 rfl (by kernel_rfl) .u8 .i64 H HH.out k hlt W
      have e1 : Go.bits .and .u8 b 15 = b % 16 := and15 b hB
      have i1 := fun W => hex_idx (P := Tryd.prog) 9 Tryd.underlying9 .u8 (b / 16) (by have := hB.1; omega) (by have := hB.2; omega) W
      have i2 := fun W => hex_idx (P := Tryd.prog) 9 Tryd.underlying9 .u8 (b % 16) (by omega) (by omega) W
      obtain ⟨x1, hx1'⟩ : ∃ x, rd hexd (b / 16) = x := ⟨_, rfl⟩
      obtain ⟨x2, hx2'⟩ : ∃ x, rd hexd (b % 16) = x := ⟨_, rfl⟩
      rw [hx1'] at i1
      rw [hx2'] at i2
      have hnext : hexF (H.take (k + 1)) = X ++ [x1, x2] := by rw [hnext, hx1, hx1', hx2']
      have HN := Aside0.mk hnext
      have HO := Aside0.mk ho
      have HBL := Aside0.mk hbl
      have HXL := Aside0.mk hxl
      have HX := Aside0.mk hX
      have HBB := Aside0.mk hB
      clear hbb hnext hx1' hx2' ho hbl hxl hX hlt0 hB
      go_wp2
      -- [hexp
      refine start_ (n := 10) (S := fun _ => True) (ds := [8]) #[false, false, false, false, false, false, false, false, false, false] (by kernel_rfl) rfl rfl trivial (fun hHeld => ?_)
      have HO := Aside0.mk (Kd.R_drewN HO.out 1)
      have HBL := Aside0.mk (below_drew HBL.out)
      generalize hwd : wr.drew = wd at HBL ⊢
      have hwd2 : wr.drewN 1 = wd := hwd
      rw [hwd2] at HO
      clear hwd hwd2
      refine pure_ (i := 0) (N := some 11) (v := ?_) (a' := ?_) #[true, false, false, false, false, false, false, false, false, false] rfl rfl (by kernel_rfl) (fun _ _ _ h => h) (Or.inl ⟨by rfl, ?_⟩) ?_ ?_
      rotate_left
      · intro w'
        go_simp
        with_reducible rfl
      rotate_left
      · simp only [Act.put, List.setIfInBounds_toArray, List.set_cons_zero, List.set_cons_succ, i64_w, i32_w]
        rfl
      refine pure_ (i := 1) (N := some 12) (v := ?_) (a' := ?_) #[true, true, false, false, false, false, false, false, false, false] rfl rfl (by kernel_rfl) (fun _ _ _ h => h) (Or.inl ⟨by rfl, ?_⟩) ?_ ?_
      rotate_left
      · intro w'
        go_simp
        with_reducible rfl
      rotate_left
      · simp only [Act.put, List.setIfInBounds_toArray, List.set_cons_zero, List.set_cons_succ, i64_w, i32_w]
        rfl
      refine pure_ (i := 2) (N := some 13) (v := ?_) (a' := ?_) #[true, true, true, false, false, false, false, false, false, false] rfl rfl (by kernel_rfl) (fun _ _ _ h => h) (Or.inl ⟨by rfl, ?_⟩) ?_ ?_
      rotate_left
      · intro w'
        go_simp
        with_reducible rfl
      rotate_left
      · simp only [Act.put, List.setIfInBounds_toArray, List.set_cons_zero, List.set_cons_succ, i64_w, i32_w]
        rfl
      refine pure_ (i := 3) (N := some 14) (v := ?_) (a' := ?_) #[true, true, true, true, false, false, false, false, false, false] rfl rfl (by kernel_rfl) (fun _ _ _ h => h) (Or.inl ⟨by rfl, ?_⟩) ?_ ?_
      rotate_left
      · intro w'
        go_simp
        with_reducible rfl
      rotate_left
      · simp only [Act.put, List.setIfInBounds_toArray, List.set_cons_zero, List.set_cons_succ, i64_w, i32_w]
        rfl
      refine pure_ (i := 4) (N := some 15) (v := ?_) (a' := ?_) #[true, true, true, true, true, false, false, false, false, false] rfl rfl (by kernel_rfl) (fun _ _ _ h => h) (Or.inl ⟨by rfl, ?_⟩) ?_ ?_
      rotate_left
      · intro w'
        go_simp
        with_reducible rfl
      rotate_left
      · simp only [Act.put, List.setIfInBounds_toArray, List.set_cons_zero, List.set_cons_succ, i64_w, i32_w]
        rfl
      refine pure_ (i := 5) (N := some 16) (v := ?_) (a' := ?_) #[true, true, true, true, true, true, false, false, false, false] rfl rfl (by kernel_rfl) (fun _ _ _ h => h) (Or.inl ⟨by rfl, ?_⟩) ?_ ?_
      rotate_left
      · intro w'
        go_simp
        with_reducible rfl
      rotate_left
      · simp only [Act.put, List.setIfInBounds_toArray, List.set_cons_zero, List.set_cons_succ, i64_w, i32_w]
        rfl
      refine pure_ (i := 6) (N := some 17) (v := ?_) (a' := ?_) #[true, true, true, true, true, true, true, false, false, false] rfl rfl (by kernel_rfl) (fun _ _ _ h => h) (Or.inl ⟨by rfl, ?_⟩) ?_ ?_
      rotate_left
      · intro w'
        go_simp
        with_reducible rfl
      rotate_left
      · simp only [Act.put, List.setIfInBounds_toArray, List.set_cons_zero, List.set_cons_succ, i64_w, i32_w]
        rfl
      clear i1 i2 e1 hidx
      refine one_ (i := 7) (N := some 18) #[true, true, true, true, true, true, true, true, false, false] rfl rfl (by kernel_rfl) (by decide) (fun K hK => ?_)
      refine value_ (by rfl) rfl (v := .slice (some ⟨wd.heap.size, 0, none⟩) 2 2) (w1 := wd.alloc (.cells (ns .u8 [x1, x2]) 5)) (by go_simp; try rfl) ?_
      have HO2 := Aside0.mk (Kd.R_below HO.out (below_alloc (Below.refl _ _) (.cells (ns .u8 [x1, x2]) 5)))
      have HB2 := Aside0.mk (below_alloc HBL.out (.cells (ns .u8 [x1, x2]) 5))
      have HR2 := Aside0.mk (Kd.F_now (row_of_blk (l := [x1, x2]) (T := 5) (blk_new wd _) (by simp)))
      generalize hz : wd.heap.size = gz at HR2 ⊢
      generalize wd.alloc (.cells (ns .u8 [x1, x2]) 5) = we at HO2 HB2 HR2 ⊢
      clear hz HO HBL hHeld
      refine hK.out _ _ trivial (fun hHeld => ?_)
      clear hK K
      refine norm_ (a' := ?_) ?_ ?_
      rotate_left
      · show Act.put _ (some 18) _ = _
        simp only [Act.put, List.setIfInBounds_toArray, List.set_cons_zero, List.set_cons_succ, i64_w, i32_w]
        rfl
      refine last_ (i := 8) (N := some 19) #[true, true, true, true, true, true, true, true, true, false] rfl rfl (by kernel_rfl) (by decide) (fun K hK => ?_)
      refine Kd.R_append_rows_step (Kd.int .u8) (w0 := w) w.heap.size (by rfl) (.tmp 11) (.tmp 18) 22 5 (.int .u8 0) 1 (by rfl) Tryd.underlying22 infoB rfl (by decide) (by decide) (.slice A3 X.length c3) X [x1, x2] (some ⟨gz, 0, none⟩) 2 2 (fun _ => True) (fun _ => False) (by rfl) (by rfl) HO2.out HR2.out (fun _ _ h => h) (fun _ h => h.elim) (fun _ _ => trivial) HB2.out (by have := HB2.out.size; omega) (by have := HXL.out; omega) ?_
      intro v4 w4 ho4 hb4 hg4 hat4
      rw [← HN.out] at ho4
      have HO4 := Aside0.mk ho4
      have HB4 := Aside0.mk hb4
      clear ho4 hb4 hg4 hat4 HO2 HB2 HR2 hHeld
      refine hK.out _ _ ?_
      clear hK K
      refine norm_ (a' := ?_) ?_ ?_
      rotate_left
      · show Act.put _ (some 19) _ = _
        simp only [Act.put, List.setIfInBounds_toArray, List.set_cons_zero, List.set_cons_succ, i64_w, i32_w]
        rfl
      refine pure_ (i := 9) (N := some 3) (v := ?_) (a' := ?_) #[true, true, true, true, true, true, true, true, true, true] rfl rfl (by kernel_rfl) (fun _ _ _ h => h) (Or.inl ⟨by rfl, ?_⟩) ?_ ?_
      rotate_left
      · intro w'
        go_simp
        with_reducible rfl
      rotate_left
      · simp only [Act.put, List.setIfInBounds_toArray, List.set_cons_zero, List.set_cons_succ, i64_w, i32_w]
        rfl
      refine done_ (by kernel_rfl) ?_
      -- hexp]
      go_wp2
      go_roundw
      case rel => exact ⟨k + 1, by omega, by go_num, HO4.out, HB4.out⟩
      case measure => simp [intOf]; omega
    · obtain rfl : k = 32 := by omega
      rw [show ((32 : Nat) : Int) = 32 from rfl]
      have hXX : X = hexF H := by rw [← hX, List.take_of_length_le (by rw [HH.out]; omega)]
      have hstr := Kd.C_string (src := 22) (dst := 9) (c := c3) Tryd.underlying22 Tryd.underlying5 Tryd.underlying9 (Kd.F_now (Kd.R_F ho))
      have HBL := Aside0.mk hbl
      rw [hXX] at hstr ⊢
      have HX2 : Aside0 (X = hexF H) := ⟨hXX⟩
      clear hbl hX hXX ho hxl hlt0
      go_wp2
      go_ret
      exact ⟨rfl, HBL.out⟩
theorem cell_alloc_ {w : World} {a : Addr} {v : Value} (h : w.cell? a = some v) (o : Obj) : (w.alloc o).cell? a = some v := pw_cell_below (below_alloc (Below.refl _ _) o) h
set_option maxRecDepth 100000 in
set_option maxHeartbeats 4000000 in
theorem RHex_calls (w : World) (H : List Int) (hH : H.length = 32) (hb : ∀ x ∈ H, isB x) :
    Calls Tryd.prog 22 #[.agg (ns .u8 H)] w fun e w' => e = .returned (.string (strOfNums (hexF H))) ∧ Below w.heap.size w w' := by
  obtain ⟨C, hC⟩ : ∃ C, ns .u8 H = C := ⟨_, rfl⟩
  have HC := Aside0.mk hC
  have HH := Aside0.mk hH
  have HB := Aside0.mk hb
  rw [hC]
  clear hC hH hb
  go_enter Tryd.func22, Tryd.ntmps22
  go_wp2
  have HWB := Aside0.mk (below_alloc (Below.refl w.heap.size w) (.cells C 24))
  have HBB0 : Bk (w.alloc (.cells C 24)) w.heap.size 24 .u8 H := ⟨by rw [HC.out]; exact blk_new _ _⟩
  have HZB : Aside0 ((w.alloc (.cells C 24)).heap.size = w.heap.size + 1) := ⟨by simp⟩
  generalize w.alloc (.cells C 24) = wb at *
  go_loopw [3, 4] (fun v i wr => ∃ k : Nat, k ≤ 32 ∧ i = .int .i64 k ∧ Kd.R (Kd.int .u8) 5 wr (w.heap.size + 1) (fun _ => True) v (hexF (H.take k)) ∧ Below (w.heap.size + 1) wb wr) (fun _ i _ => 32 - (intOf i).toNat)
  case atStart => exact ⟨0, by omega, rfl, Kd.R_nil _ _ _ _ _, Below.refl _ _⟩
  case round =>
    obtain ⟨k, hk, rfl, ho, hbl⟩ := hrel
    have hbx : Bk wr w.heap.size 24 .u8 H := ⟨(hbl.block _ (by omega)).trans HBB0.out⟩
    obtain ⟨A3, c3, rfl⟩ := Kd.R_slice ho
    have hlt0 : (H.take k).length = k := by rw [List.length_take, HH.out]; omega
    have hxl : (hexF (H.take k)).length = 2 * k := by rw [hexF_len, hlt0]
    obtain ⟨X, hX⟩ : ∃ X, hexF (H.take k) = X := ⟨_, rfl⟩
    rw [hX] at ho hxl
    rw [hX]
    by_cases hlt : k < 32
    · obtain ⟨b, hbb⟩ : ∃ b, rd H (k : Int) = b := ⟨_, rfl⟩
      have hB : isB b := by
        rw [← hbb]
        refine HB.out _ ?_
        simp [rd, List.getD_eq_getElem?_getD, HH.out, hlt]
      have hnext : hexF (H.take (k + 1)) = X ++ hx1 b := by rw [take_snoc H k (by rw [HH.out]; exact hlt), hexF_snoc, hX, hbb]
      have c0 : wr.drew.cell? ⟨w.heap.size, k, none⟩ = some (.int .u8 b) := by rw [← hbb]; exact cell hbx.out k (by rw [HH.out]; exact hlt)
      have i1 := fun W => hex_idx (P := Tryd.prog) 9 Tryd.underlying9 .u8 (b / 16) (by have := hB.1; omega) (by have := hB.2; omega) W
      have i2 := fun W => hex_idx (P := Tryd.prog) 9 Tryd.underlying9 .u8 (b % 16) (by omega) (by omega) W
      have b0 : 0 ≤ b := hB.1
      have b1 : b < 256 := hB.2
      have t1 : b.tdiv 16 = b / 16 := Int.tdiv_eq_ediv_of_nonneg b0
      have t2 : b.tmod 16 = b % 16 := Int.tmod_eq_emod_of_nonneg b0
      have t3 : IntKind.u8.wrap (b / 16) = b / 16 := by rw [IntKind.wrap_u8]; omega
      have t4 : IntKind.u8.wrap (b % 16) = b % 16 := by rw [IntKind.wrap_u8]; omega
      obtain ⟨x1, hx1'⟩ : ∃ x, rd hexd (b / 16) = x := ⟨_, rfl⟩
      obtain ⟨x2, hx2'⟩ : ∃ x, rd hexd (b % 16) = x := ⟨_, rfl⟩
      rw [hx1'] at i1
      rw [hx2'] at i2
      have hnext : hexF (H.take (k + 1)) = X ++ [x1, x2] := by rw [hnext, hx1, hx1', hx2']
      have z1 : (0 : Int) ≤ (k : Int) := by omega
      have z2 : (k : Int) < 32 := by omega
      have HN := Aside0.mk hnext
      have HO := Aside0.mk ho
      have HBL := Aside0.mk hbl
      have HXL := Aside0.mk hxl
      have HBX := Aside0.mk hbx.out
      clear hbb hnext hx1' hx2' ho hbl hxl hX hlt0 hB hbx
      go_wp2
      -- [hexr
      refine start_ (n := 14) (S := fun w' => w'.cell? ⟨w.heap.size, k, none⟩ = some (.int .u8 b)) (ds := [12]) #[false, false, false, false, false, false, false, false, false, false, false, false, false, false] (by kernel_rfl) rfl rfl c0 (fun hHeld => ?_)
      have HO := Aside0.mk (Kd.R_drewN HO.out 1)
      have HBL := Aside0.mk (below_drew HBL.out)
      have HBX := Aside0.mk (blk_drew HBX.out)
      generalize hwd : wr.drew = wd at HBL HBX hHeld ⊢
      have hwd2 : wr.drewN 1 = wd := hwd
      rw [hwd2] at HO
      clear hwd hwd2 c0
      refine pure_ (i := 0) (N := some 9) (v := ?_) (a' := ?_) #[true, false, false, false, false, false, false, false, false, false, false, false, false, false] rfl rfl (by kernel_rfl) (fun _ _ _ h => h) (Or.inl ⟨by rfl, ?_⟩) ?_ ?_
      rotate_left
      · intro w'
        go_simp
        with_reducible rfl
      rotate_left
      · simp only [Act.put, List.setIfInBounds_toArray, List.set_cons_zero, List.set_cons_succ, i64_w, i32_w]
        rfl
      refine pure_ (i := 1) (N := some 10) (v := ?_) (a' := ?_) #[true, true, false, false, false, false, false, false, false, false, false, false, false, false] rfl rfl (by kernel_rfl) (fun _ _ _ h => h) (Or.inl ⟨by rfl, ?_⟩) ?_ ?_
      rotate_left
      · intro w'
        go_simp
        with_reducible rfl
      rotate_left
      · simp only [Act.put, List.setIfInBounds_toArray, List.set_cons_zero, List.set_cons_succ, i64_w, i32_w]
        rfl
      refine pure_ (i := 2) (N := some 11) (v := ?_) (a' := ?_) #[true, true, true, false, false, false, false, false, false, false, false, false, false, false] rfl rfl (by kernel_rfl) (fun _ _ _ h => h) (Or.inl ⟨by rfl, ?_⟩) ?_ ?_
      rotate_left
      · intro w'
        go_simp
        with_reducible rfl
      rotate_left
      · simp only [Act.put, List.setIfInBounds_toArray, List.set_cons_zero, List.set_cons_succ, i64_w, i32_w]
        rfl
      refine take_ (i := 3) (N := some 12) (v := ?_) (a' := ?_) #[true, true, true, true, false, false, false, false, false, false, false, false, false, false] rfl rfl (by kernel_rfl) (fun _ _ _ h => h) (Or.inl ⟨by rfl, ?_⟩) hHeld ?_ ?_
      rotate_left
      · rintro w' d0_
        go_simp
        with_reducible rfl
      rotate_left
      · simp only [Act.put, List.setIfInBounds_toArray, List.set_cons_zero, List.set_cons_succ, i64_w, i32_w]
        rfl
      refine pure_ (i := 4) (N := some 13) (v := ?_) (a' := ?_) #[true, true, true, true, true, false, false, false, false, false, false, false, false, false] rfl rfl (by kernel_rfl) (fun _ _ _ h => h) (Or.inl ⟨by rfl, ?_⟩) ?_ ?_
      rotate_left
      · intro w'
        go_simp
        with_reducible rfl
      rotate_left
      · simp only [Act.put, List.setIfInBounds_toArray, List.set_cons_zero, List.set_cons_succ, i64_w, i32_w]
        rfl
      refine pure_ (i := 5) (N := some 14) (v := ?_) (a' := ?_) #[true, true, true, true, true, true, false, false, false, false, false, false, false, false] rfl rfl (by kernel_rfl) (fun _ _ _ h => h) (Or.inl ⟨by rfl, ?_⟩) ?_ ?_
      rotate_left
      · intro w'
        go_simp
        with_reducible rfl
      rotate_left
      · simp only [Act.put, List.setIfInBounds_toArray, List.set_cons_zero, List.set_cons_succ, i64_w, i32_w]
        rfl
      refine pure_ (i := 6) (N := some 15) (v := ?_) (a' := ?_) #[true, true, true, true, true, true, true, false, false, false, false, false, false, false] rfl rfl (by kernel_rfl) (fun _ _ _ h => h) (Or.inl ⟨by rfl, ?_⟩) ?_ ?_
      rotate_left
      · intro w'
        go_simp
        with_reducible rfl
      rotate_left
      · simp only [Act.put, List.setIfInBounds_toArray, List.set_cons_zero, List.set_cons_succ, i64_w, i32_w]
        rfl
      refine pure_ (i := 7) (N := some 16) (v := ?_) (a' := ?_) #[true, true, true, true, true, true, true, true, false, false, false, false, false, false] rfl rfl (by kernel_rfl) (fun _ _ _ h => h) (Or.inl ⟨by rfl, ?_⟩) ?_ ?_
      rotate_left
      · intro w'
        go_simp
        with_reducible rfl
      rotate_left
      · simp only [Act.put, List.setIfInBounds_toArray, List.set_cons_zero, List.set_cons_succ, i64_w, i32_w]
        rfl
      refine take_ (i := 8) (N := some 17) (v := ?_) (a' := ?_) #[true, true, true, true, true, true, true, true, true, false, false, false, false, false] rfl rfl (by kernel_rfl) (fun _ _ _ h => h) (Or.inl ⟨by rfl, ?_⟩) hHeld ?_ ?_
      rotate_left
      · rintro w' d0_
        go_simp
        with_reducible rfl
      rotate_left
      · simp only [Act.put, List.setIfInBounds_toArray, List.set_cons_zero, List.set_cons_succ, i64_w, i32_w]
        rfl
      refine pure_ (i := 9) (N := some 18) (v := ?_) (a' := ?_) #[true, true, true, true, true, true, true, true, true, true, false, false, false, false] rfl rfl (by kernel_rfl) (fun _ _ _ h => h) (Or.inl ⟨by rfl, ?_⟩) ?_ ?_
      rotate_left
      · intro w'
        go_simp
        with_reducible rfl
      rotate_left
      · simp only [Act.put, List.setIfInBounds_toArray, List.set_cons_zero, List.set_cons_succ, i64_w, i32_w]
        rfl
      refine pure_ (i := 10) (N := some 19) (v := ?_) (a' := ?_) #[true, true, true, true, true, true, true, true, true, true, true, false, false, false] rfl rfl (by kernel_rfl) (fun _ _ _ h => h) (Or.inl ⟨by rfl, ?_⟩) ?_ ?_
      rotate_left
      · intro w'
        go_simp
        with_reducible rfl
      rotate_left
      · simp only [Act.put, List.setIfInBounds_toArray, List.set_cons_zero, List.set_cons_succ, i64_w, i32_w]
        rfl
      clear i1 i2
      refine one_ (i := 11) (N := some 20) #[true, true, true, true, true, true, true, true, true, true, true, true, false, false] rfl rfl (by kernel_rfl) (by decide) (fun K hK => ?_)
      refine value_ (by rfl) rfl (v := .slice (some ⟨wd.heap.size, 0, none⟩) 2 2) (w1 := wd.alloc (.cells (ns .u8 [x1, x2]) 5)) (by go_simp; try rfl) ?_
      have HO2 := Aside0.mk (Kd.R_below HO.out (below_alloc (Below.refl _ _) (.cells (ns .u8 [x1, x2]) 5)))
      have HB2 := Aside0.mk (HBL.out.alloc (by have := HBL.out.size; have := HZB.out; omega) (.cells (ns .u8 [x1, x2]) 5))
      have HR2 := Aside0.mk (Kd.F_now (row_of_blk (l := [x1, x2]) (T := 5) (blk_new wd _) (by simp)))
      have HC2 := Aside0.mk (cell_alloc_ hHeld (.cells (ns .u8 [x1, x2]) 5))
      generalize hz : wd.heap.size = gz at HR2 ⊢
      generalize wd.alloc (.cells (ns .u8 [x1, x2]) 5) = we at HO2 HB2 HR2 HC2 ⊢
      clear hz HO HBL hHeld
      refine hK.out _ _ HC2.out (fun hHeld => ?_)
      clear hK K
      refine norm_ (a' := ?_) ?_ ?_
      rotate_left
      · show Act.put _ (some 20) _ = _
        simp only [Act.put, List.setIfInBounds_toArray, List.set_cons_zero, List.set_cons_succ, i64_w, i32_w]
        rfl
      refine last_ (i := 12) (N := some 21) #[true, true, true, true, true, true, true, true, true, true, true, true, true, false] rfl rfl (by kernel_rfl) (by decide) (fun K hK => ?_)
      refine Kd.R_append_rows_step (Kd.int .u8) (w0 := wb) (w.heap.size + 1) (by rfl) (.tmp 9) (.tmp 20) 22 5 (.int .u8 0) 1 (by rfl) Tryd.underlying22 infoB rfl (by decide) (by decide) (.slice A3 X.length c3) X [x1, x2] (some ⟨gz, 0, none⟩) 2 2 (fun _ => True) (fun _ => False) (by rfl) (by rfl) HO2.out HR2.out (fun _ _ h => h) (fun _ h => h.elim) (fun _ _ => trivial) HB2.out (by have := HB2.out.size; have := HZB.out; omega) (by have := HXL.out; omega) ?_
      intro v4 w4 ho4 hb4 hg4 hat4
      rw [← HN.out] at ho4
      have HO4 := Aside0.mk ho4
      have HB4 := Aside0.mk hb4
      clear ho4 hb4 hg4 hat4 HO2 HB2 HR2 hHeld HC2
      refine hK.out _ _ ?_
      clear hK K
      refine norm_ (a' := ?_) ?_ ?_
      rotate_left
      · show Act.put _ (some 21) _ = _
        simp only [Act.put, List.setIfInBounds_toArray, List.set_cons_zero, List.set_cons_succ, i64_w, i32_w]
        rfl
      refine pure_ (i := 13) (N := some 3) (v := ?_) (a' := ?_) #[true, true, true, true, true, true, true, true, true, true, true, true, true, true] rfl rfl (by kernel_rfl) (fun _ _ _ h => h) (Or.inl ⟨by rfl, ?_⟩) ?_ ?_
      rotate_left
      · intro w'
        go_simp
        with_reducible rfl
      rotate_left
      · simp only [Act.put, List.setIfInBounds_toArray, List.set_cons_zero, List.set_cons_succ, i64_w, i32_w]
        rfl
      refine done_ (by kernel_rfl) ?_
      -- hexr]
      go_wp2
      go_roundw
      case rel => exact ⟨k + 1, by omega, by go_num, HO4.out, HB4.out⟩
      case measure => simp [intOf]; omega
    · obtain rfl : k = 32 := by omega
      rw [show ((32 : Nat) : Int) = 32 from rfl]
      have hXX : X = hexF H := by rw [← hX, List.take_of_length_le (by rw [HH.out]; omega)]
      have hstr := Kd.C_string (src := 22) (dst := 9) (c := c3) Tryd.underlying22 Tryd.underlying5 Tryd.underlying9 (Kd.F_now (Kd.R_F ho))
      have HBL := Aside0.mk (HWB.out.trans (hbl.mono (Nat.le_succ _)))
      rw [hXX] at hstr ⊢
      have HX2 : Aside0 (X = hexF H) := ⟨hXX⟩
      clear hbl hX hXX ho hxl hlt0 hbx
      go_wp2
      go_ret
      exact ⟨rfl, HBL.out⟩
end Go.Proofs.YtkimpjlaailhcaaDoor.Sha
