/- stemmalaw01.ShaDigits, walked. -/
import Derived.Test.YtkimpjlaailhcaaDoorShaP
import Derived.Test.YtkimpjlaailhcaaDoorShaA
import Derived.Test.YtkimpjlaailhcaaDoorHsh
import Derived.Test.YtkimpjlaailhcaaDoorWLast
import Derived.Deep.MidRow
set_option linter.unusedVariables false
set_option linter.unusedSimpArgs false
namespace Go.Proofs.YtkimpjlaailhcaaDoor.Sha
open Go Go.RowKit Go.Proofs.YtkimpjlaailhcaaDoorW.PrintWords Go.Proofs.YtkimpjlaailhcaaDoor.Ar Go.Proofs.YtkimpjlaailhcaaDoor.PA
/-- Three boxes: the hash, and what each has read. -/
structure Dg (w : World) (C E : List Value) (g5 g7 : Nat) (wr : World) : Prop where
  below : Below w.heap.size w wr
  b0 : wr.heap[w.heap.size]? = some (.cells C.toArray 24 (0, 0))
  b5 : wr.heap[g5]? = some (.cells E.toArray 24 (0, 0))
  b7 : wr.heap[g7]? = some (.cells E.toArray 24 (0, 0))
theorem Dg.step {w : World} {C E : List Value} {g5 g7 : Nat} {wr wq : World} (h : Dg w C E g5 g7 wr) (hb : Below wr.heap.size wr wq) : Dg w C E g5 g7 wq := ⟨below_step h.below hb, blk_below h.b0 hb, blk_below h.b5 hb, blk_below h.b7 hb⟩
def DS (w : World) (C E : List Value) (g5 g7 : Nat) (w' : World) : Prop :=
  w'.rangeAt w.heap.size 0 C ∧ w'.rangeAt g5 0 E ∧ w'.rangeAt g7 0 E ∧ Aside0 (Dg w C E g5 g7 w')
theorem range_of3 {w : World} {g : Nat} {C : List Value} {T : TypeId} (h : w.heap[g]? = some (.cells C.toArray T (0, 0))) : w.rangeAt g 0 C := fun j v hv => by
  rw [blk_cell h, Nat.zero_add, List.getElem?_toArray]; exact hv
theorem ds_of {w w' : World} {C E : List Value} {g5 g7 : Nat} (h : Dg w C E g5 g7 w') : DS w C E g5 g7 w' := ⟨range_of3 h.b0, range_of3 h.b5, range_of3 h.b7, ⟨h⟩⟩
theorem ds_step {w w' w2 : World} {C E : List Value} {g5 g7 : Nat} (hb : Below w'.heap.size w' w2) (h : DS w C E g5 g7 w') : DS w C E g5 g7 w2 := ds_of (h.2.2.2.out.step hb)
end Go.Proofs.YtkimpjlaailhcaaDoor.Sha
namespace Go.Proofs.YtkimpjlaailhcaaDoor.PA
open Go Go.RowKit Go.Proofs.YtkimpjlaailhcaaDoorW.PrintWords Go.Proofs.YtkimpjlaailhcaaDoorW.PrintLast Go.Proofs.YtkimpjlaailhcaaDoor.Sha Go.Proofs.YtkimpjlaailhcaaDoor.Ar
open Classical in
noncomputable def stemmalaw01_ShaDigits.f (a : List Int) (t : ByteArray) : Option Bool := if t.size ≤ 140737488351232 then some true else none
set_option maxRecDepth 100000 in
set_option maxHeartbeats 4000000 in
theorem stemmalaw01_ShaDigits.calls (a : List Int) (t : ByteArray) (r : Bool) (w : World) (ha : a.length = 32) (hba : ∀ x ∈ a, isB x) (hr_ : Aside0 (r = true)) (hG_ : Gl w) (h : stemmalaw01_ShaDigits.f a t = some r) :
    Calls Tryd.prog 8 #[.agg (ns .u8 a), .string t] w fun e w' => e = .returned (.bool r) ∧ Below w.heap.size w w' := by
  obtain ⟨rfl⟩ := hr_
  unfold stemmalaw01_ShaDigits.f at h
  split at h
  case isFalse => cases h
  case isTrue ht =>
  have HAW := Aside0.mk (fun (W : World) (hW : Below w.heap.size w W) => awake_calls W (hG_.below hW))
  have HX := Aside0.mk (fun W => Hex_calls W a ha hba)
  have RX := Aside0.mk (fun W => RHex_calls W a ha hba)
  have HP := Aside0.mk (fun W => Parse_calls t W ht)
  have RP := Aside0.mk (fun W => RParse_calls t W ht)
  have hEl := parse_len t
  obtain ⟨e, he⟩ : ∃ e, (parseF t).2 = e := ⟨_, rfl⟩
  rw [he] at HP RP
  generalize (parseF t).1 = O at *
  generalize strOfNums (hexF a) = X at *
  obtain ⟨C, hC1⟩ : ∃ C, nums .u8 a = C := ⟨_, rfl⟩
  obtain ⟨E, hE1⟩ : ∃ E, nums .u8 O = E := ⟨_, rfl⟩
  have hC : ns .u8 a = C.toArray := by rw [← hC1, ← ns_toList, Array.toArray_toList]
  have hE : ns .u8 O = E.toArray := by rw [← hE1, ← ns_toList, Array.toArray_toList]
  have hCS : C.length = 32 := by rw [← hC1, nums_len]; exact ha
  have hES : E.length = 32 := by rw [← hE1, nums_len]; exact hEl
  have HE1 : Aside0 (E.toArray.all (·.oneCell') = true) := ⟨by rw [← hE]; exact ns_one _ _⟩
  have heq : ∀ W, (Op.equalIn 10000 24 (.agg E.toArray) (.agg E.toArray)).run Tryd.prog W = .ok true W := fun W => by
    rw [← hE]; exact (run_equalIn_ns (P := Tryd.prog) W 9998 24 5 32 .u8 Tryd.underlying24 Tryd.underlying5 (fun _ => by kernel_rfl) O O hEl hEl).trans (by rw [beq_self_eq_true])
  rw [hC] at HX RX ⊢
  rw [hE] at HP RP
  have HES := Aside0.mk hES
  have HU := Aside0.mk (And.intro hCS hES)
  clear h ht ha hba hG_ he hEl hC1 hE1 hC hE hCS hES
  go_enter Tryd.func8, Tryd.ntmps8
  have hu : Tryd.prog.underlying 24 = some (.array 32 5) := Tryd.underlying24
  go_wp2_with (first | (go_at_call 19; refine (HP.out _).mono ?_; rintro e1 w2 ⟨rfl, hb2⟩; have B0 := Aside0.mk (blk_below (blk_new w _) hb2); have HB2 := Aside0.mk (below_step (below_alloc (Below.refl _ _) _) hb2); clear hb2) | ((with_reducible refine gate_ (Op.store 24 (.tmp 5) (.tmp 12)) rfl ?_); refine wpList_store_new rfl 24 (.tmp 5) (.tmp 12) rfl w2 _ _ E.toArray rfl rfl rfl (by rw [List.size_toArray, HES.out]; rfl) (by rw [List.size_toArray, HES.out]; kernel_rfl) HE1.out ?_) | (go_at_call 20; refine (RP.out _).mono ?_; rintro e1 w3 ⟨rfl, hb3⟩; have B5 := Aside0.mk (blk_below (blk_new w2 (.cells E.toArray 24)) hb3); have C0 := Aside0.mk (blk_below (blk_alloc B0.out (.cells E.toArray 24)) hb3); have HB3 := Aside0.mk (below_step (below_alloc HB2.out (.cells E.toArray 24)) hb3); clear hb3) | ((with_reducible refine gate_ (Op.store 24 (.tmp 7) (.tmp 17)) rfl ?_); refine wpList_store_new rfl 24 (.tmp 7) (.tmp 17) rfl w3 _ _ E.toArray rfl rfl rfl (by rw [List.size_toArray, HES.out]; rfl) (by rw [List.size_toArray, HES.out]; kernel_rfl) HE1.out ?_))
  have HD : Dg w C E w2.heap.size w3.heap.size (w3.alloc (.cells E.toArray 24)) := ⟨below_alloc HB3.out _, blk_alloc C0.out _, blk_alloc B5.out _, blk_new w3 _⟩
  have hi : (Tryd.prog.info? 24).map (·.size) = some C.length := by rw [HU.out.1]; kernel_rfl
  have hi2 : (Tryd.prog.info? 24).map (·.size) = some E.length := by rw [HES.out]; kernel_rfl
  clear B0 HB2 B5 C0 HB3
  generalize w3.alloc (.cells E.toArray 24) = w4 at *
  generalize w2.heap.size = g5 at *
  generalize w3.heap.size = g7 at *
  -- [dig
  refine start_ (n := 19) (S := DS w C E g5 g7) (ds := []) #[false, false, false, false, false, false, false, false, false, false, false, false, false, false, false, false, false, false, false] (by kernel_rfl) rfl rfl (ds_of (HD.step (pw_below_drewN (Below.refl _ _) 1))) (fun hHeld => ?_)
  generalize w4.drew = wd at hHeld ⊢
  clear HD
  refine take_ (i := 0) (N := some 19) (v := .agg C.toArray) (a' := ?_) #[true, false, false, false, false, false, false, false, false, false, false, false, false, false, false, false, false, false, false] rfl rfl (by kernel_rfl) (fun _ _ _ h => h) (yieldsIf_load_mid (by rfl) 24 (.tmp 2) rfl w.heap.size 0 rfl C _ (fun w' hS => hS.1) hu rfl hi) hHeld ?_ ?_
  rotate_left
  · simp only [Act.put, List.setIfInBounds_toArray, List.set_cons_zero, List.set_cons_succ, i64_w, i32_w]
    rfl
  refine take_ (i := 2) (N := some 21) (v := .agg C.toArray) (a' := ?_) #[true, false, true, false, false, false, false, false, false, false, false, false, false, false, false, false, false, false, false] rfl rfl (by kernel_rfl) (fun _ _ _ h => h) (yieldsIf_load_mid (by rfl) 24 (.tmp 2) rfl w.heap.size 0 rfl C _ (fun w' hS => hS.1) hu rfl hi) hHeld ?_ ?_
  rotate_left
  · simp only [Act.put, List.setIfInBounds_toArray, List.set_cons_zero, List.set_cons_succ, i64_w, i32_w]
    rfl
  refine one_ (i := 1) (N := some 20) #[true, true, true, false, false, false, false, false, false, false, false, false, false, false, false, false, false, false, false] rfl rfl (by kernel_rfl) (by decide) (fun K hK => ?_)
  refine goes_ Tryd.func21 (by kernel_rfl) rfl #[.agg C.toArray] (by rfl) rfl rfl (by first | rfl | (simp only [List.map_toArray, List.map_cons, List.map_nil]; done) | (simp only [List.map_toArray, List.map_cons, List.map_nil]; rfl)) ?_
  refine (HX.out _).mono ?_
  rintro e1 w2 ⟨rfl, hb2⟩
  refine ⟨_, rfl, ?_⟩
  have hS2 := ds_step hb2 hHeld
  clear hb2 hHeld
  refine hK.out _ _ hS2 (fun hHeld => ?_)
  clear hK K hS2
  refine norm_ (a' := ?_) ?_ ?_
  rotate_left
  · show Act.put _ (some 20) _ = _
    simp only [Act.put, List.setIfInBounds_toArray, List.set_cons_zero, List.set_cons_succ, i64_w, i32_w]
    rfl
  refine one_ (i := 3) (N := some 22) #[true, true, true, true, false, false, false, false, false, false, false, false, false, false, false, false, false, false, false] rfl rfl (by kernel_rfl) (by decide) (fun K hK => ?_)
  refine goes_ Tryd.func22 (by kernel_rfl) rfl #[.agg C.toArray] (by rfl) rfl rfl (by first | rfl | (simp only [List.map_toArray, List.map_cons, List.map_nil]; done) | (simp only [List.map_toArray, List.map_cons, List.map_nil]; rfl)) ?_
  refine (RX.out _).mono ?_
  rintro e1 w2 ⟨rfl, hb2⟩
  refine ⟨_, rfl, ?_⟩
  have hS2 := ds_step hb2 hHeld
  clear hb2 hHeld
  refine hK.out _ _ hS2 (fun hHeld => ?_)
  clear hK K hS2
  refine norm_ (a' := ?_) ?_ ?_
  rotate_left
  · show Act.put _ (some 22) _ = _
    simp only [Act.put, List.setIfInBounds_toArray, List.set_cons_zero, List.set_cons_succ, i64_w, i32_w]
    rfl
  refine pure_ (i := 4) (N := some 23) (v := .bool true) (a' := ?_) #[true, true, true, true, true, false, false, false, false, false, false, false, false, false, false, false, false, false, false] rfl rfl (by kernel_rfl) (fun _ _ _ h => h) (Or.inl ⟨by rfl, ?_⟩) ?_ ?_
  · intro w'
    go_simp
    try simp
  rotate_left
  · simp only [Act.put, List.setIfInBounds_toArray, List.set_cons_zero, List.set_cons_succ, i64_w, i32_w]
    rfl
  refine pure_ (i := 5) (N := some 24) (v := ?_) (a' := ?_) #[true, true, true, true, true, true, false, false, false, false, false, false, false, false, false, false, false, false, false] rfl rfl (by kernel_rfl) (fun _ _ _ h => h) (Or.inl ⟨by rfl, ?_⟩) ?_ ?_
  rotate_left
  · intro w'
    go_simp
    with_reducible rfl
  rotate_left
  · simp only [Act.put, List.setIfInBounds_toArray, List.set_cons_zero, List.set_cons_succ, i64_w, i32_w]
    rfl
  refine take_ (i := 6) (N := some 25) (v := .agg E.toArray) (a' := ?_) #[true, true, true, true, true, true, true, false, false, false, false, false, false, false, false, false, false, false, false] rfl rfl (by kernel_rfl) (fun _ _ _ h => h) (yieldsIf_load_mid (by rfl) 24 (.tmp 5) rfl g5 0 rfl E _ (fun w' hS => hS.2.1) hu rfl hi2) hHeld ?_ ?_
  rotate_left
  · simp only [Act.put, List.setIfInBounds_toArray, List.set_cons_zero, List.set_cons_succ, i64_w, i32_w]
    rfl
  refine take_ (i := 7) (N := some 26) (v := .agg E.toArray) (a' := ?_) #[true, true, true, true, true, true, true, true, false, false, false, false, false, false, false, false, false, false, false] rfl rfl (by kernel_rfl) (fun _ _ _ h => h) (yieldsIf_load_mid (by rfl) 24 (.tmp 7) rfl g7 0 rfl E _ (fun w' hS => hS.2.2.1) hu rfl hi2) hHeld ?_ ?_
  rotate_left
  · simp only [Act.put, List.setIfInBounds_toArray, List.set_cons_zero, List.set_cons_succ, i64_w, i32_w]
    rfl
  refine pure_ (i := 8) (N := some 27) (v := .bool true) (a' := ?_) #[true, true, true, true, true, true, true, true, true, false, false, false, false, false, false, false, false, false, false] rfl rfl (by kernel_rfl) (fun _ _ _ h => h) (Or.inl ⟨by rfl, ?_⟩) ?_ ?_
  · intro w'
    go_simp
    try simp
  rotate_left
  · simp only [Act.put, List.setIfInBounds_toArray, List.set_cons_zero, List.set_cons_succ, i64_w, i32_w]
    rfl
  refine pure_ (i := 9) (N := some 28) (v := .bool true) (a' := ?_) #[true, true, true, true, true, true, true, true, true, true, false, false, false, false, false, false, false, false, false] rfl rfl (by kernel_rfl) (fun _ _ _ h => h) (Or.inl ⟨by rfl, ?_⟩) ?_ ?_
  · intro w'
    go_simp
    try simp
  rotate_left
  · simp only [Act.put, List.setIfInBounds_toArray, List.set_cons_zero, List.set_cons_succ, i64_w, i32_w]
    rfl
  refine pure_ (i := 10) (N := some 29) (v := ?_) (a' := ?_) #[true, true, true, true, true, true, true, true, true, true, true, false, false, false, false, false, false, false, false] rfl rfl (by kernel_rfl) (fun _ _ _ h => h) (Or.inl ⟨by rfl, ?_⟩) ?_ ?_
  rotate_left
  · intro w'
    go_simp
    with_reducible rfl
  rotate_left
  · simp only [Act.put, List.setIfInBounds_toArray, List.set_cons_zero, List.set_cons_succ, i64_w, i32_w]
    rfl
  refine pure_ (i := 11) (N := some 30) (v := ?_) (a' := ?_) #[true, true, true, true, true, true, true, true, true, true, true, true, false, false, false, false, false, false, false] rfl rfl (by kernel_rfl) (fun _ _ _ h => h) (Or.inl ⟨by rfl, ?_⟩) ?_ ?_
  rotate_left
  · intro w'
    go_simp
    with_reducible rfl
  rotate_left
  · simp only [Act.put, List.setIfInBounds_toArray, List.set_cons_zero, List.set_cons_succ, i64_w, i32_w]
    rfl
  refine pure_ (i := 12) (N := some 31) (v := ?_) (a' := ?_) #[true, true, true, true, true, true, true, true, true, true, true, true, true, false, false, false, false, false, false] rfl rfl (by kernel_rfl) (fun _ _ _ h => h) (Or.inl ⟨by rfl, ?_⟩) ?_ ?_
  rotate_left
  · intro w'
    go_simp
    with_reducible rfl
  rotate_left
  · simp only [Act.put, List.setIfInBounds_toArray, List.set_cons_zero, List.set_cons_succ, i64_w, i32_w]
    rfl
  refine pure_ (i := 13) (N := some 32) (v := .bool true) (a' := ?_) #[true, true, true, true, true, true, true, true, true, true, true, true, true, true, false, false, false, false, false] rfl rfl (by kernel_rfl) (fun _ _ _ h => h) (Or.inl ⟨by rfl, ?_⟩) ?_ ?_
  · intro w'
    go_simp
    try simp
  rotate_left
  · simp only [Act.put, List.setIfInBounds_toArray, List.set_cons_zero, List.set_cons_succ, i64_w, i32_w]
    rfl
  refine pure_ (i := 14) (N := some 33) (v := .bool true) (a' := ?_) #[true, true, true, true, true, true, true, true, true, true, true, true, true, true, true, false, false, false, false] rfl rfl (by kernel_rfl) (fun _ _ _ h => h) (Or.inl ⟨by rfl, ?_⟩) ?_ ?_
  · intro w'
    go_simp
    try simp
  rotate_left
  · simp only [Act.put, List.setIfInBounds_toArray, List.set_cons_zero, List.set_cons_succ, i64_w, i32_w]
    rfl
  refine pure_ (i := 15) (N := some 34) (v := ?_) (a' := ?_) #[true, true, true, true, true, true, true, true, true, true, true, true, true, true, true, true, false, false, false] rfl rfl (by kernel_rfl) (fun _ _ _ h => h) (Or.inl ⟨by rfl, ?_⟩) ?_ ?_
  rotate_left
  · intro w'
    go_simp
    with_reducible rfl
  rotate_left
  · simp only [Act.put, List.setIfInBounds_toArray, List.set_cons_zero, List.set_cons_succ, i64_w, i32_w]
    rfl
  refine one_ (i := 16) (N := some 35) #[true, true, true, true, true, true, true, true, true, true, true, true, true, true, true, true, true, false, false] rfl rfl (by kernel_rfl) (by decide) (fun K hK => ?_)
  refine goes_ Tryd.func12 (by kernel_rfl) rfl #[] (by rfl) rfl rfl (by first | rfl | (simp only [List.map_toArray, List.map_cons, List.map_nil]; done) | (simp only [List.map_toArray, List.map_cons, List.map_nil]; rfl)) ?_
  refine (HAW.out _ hHeld.2.2.2.out.below).mono ?_
  rintro e1 w2 ⟨rfl, hb2⟩
  refine ⟨_, rfl, ?_⟩
  have hS2 := ds_step hb2 hHeld
  clear hb2 hHeld
  refine hK.out _ _ hS2 (fun hHeld => ?_)
  clear hK K hS2
  refine norm_ (a' := ?_) ?_ ?_
  rotate_left
  · show Act.put _ (some 35) _ = _
    simp only [Act.put, List.setIfInBounds_toArray, List.set_cons_zero, List.set_cons_succ, i64_w, i32_w]
    rfl
  refine pure_ (i := 17) (N := some 36) (v := .bool true) (a' := ?_) #[true, true, true, true, true, true, true, true, true, true, true, true, true, true, true, true, true, true, false] rfl rfl (by kernel_rfl) (fun _ _ _ h => h) (Or.inl ⟨by rfl, ?_⟩) ?_ ?_
  · intro w'
    go_simp
    try simp
  rotate_left
  · simp only [Act.put, List.setIfInBounds_toArray, List.set_cons_zero, List.set_cons_succ, i64_w, i32_w]
    rfl
  refine pure_ (i := 18) (N := some 4) (v := ?_) (a' := ?_) #[true, true, true, true, true, true, true, true, true, true, true, true, true, true, true, true, true, true, true] rfl rfl (by kernel_rfl) (fun _ _ _ h => h) (Or.inl ⟨by rfl, ?_⟩) ?_ ?_
  rotate_left
  · intro w'
    go_simp
    with_reducible rfl
  rotate_left
  · simp only [Act.put, List.setIfInBounds_toArray, List.set_cons_zero, List.set_cons_succ, i64_w, i32_w]
    rfl
  refine done_ (by kernel_rfl) ?_
  -- dig]
  go_wp2
  go_ret
  exact ⟨rfl, hHeld.2.2.2.out.below⟩
end Go.Proofs.YtkimpjlaailhcaaDoor.PA
