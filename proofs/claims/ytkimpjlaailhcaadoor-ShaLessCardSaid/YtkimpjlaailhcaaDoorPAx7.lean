/- stemmalaw01.ShaLess, walked. -/
import Derived.Test.YtkimpjlaailhcaaDoorShaL
import Derived.Test.YtkimpjlaailhcaaDoorShaA
import Derived.Test.YtkimpjlaailhcaaDoorHsh
import Derived.Test.YtkimpjlaailhcaaDoorWLast
import Derived.Deep.MidRow
set_option linter.unusedVariables false
set_option linter.unusedSimpArgs false
namespace Go.Proofs.YtkimpjlaailhcaaDoor.Sha
open Go Go.RowKit Go.Proofs.YtkimpjlaailhcaaDoorW.PrintWords Go.Proofs.YtkimpjlaailhcaaDoor.Ar Go.Proofs.YtkimpjlaailhcaaDoor.PA
/-- Both boxes stand, and read as they did. -/
def SL (w : World) (C D : List Value) (w' : World) : Prop :=
  w'.rangeAt w.heap.size 0 C ∧ w'.rangeAt (w.heap.size + 1) 0 D ∧ Aside0 (Le w C.toArray D.toArray w')
theorem range_of {w : World} {g : Nat} {C : List Value} {T : TypeId} (h : w.heap[g]? = some (.cells C.toArray T (0, 0))) : w.rangeAt g 0 C := fun j v hv => by
  rw [blk_cell h, Nat.zero_add, List.getElem?_toArray]; exact hv
theorem sl_of {w w' : World} {C D : List Value} (h : Le w C.toArray D.toArray w') : SL w C D w' := ⟨range_of h.ba, range_of h.bb, ⟨h⟩⟩
theorem sl_drew {w w' : World} {C D : List Value} (h : Aside0 (Le w C.toArray D.toArray w')) : SL w C D w'.drew := sl_of (h.out.drewN 1)
theorem sl_step {w w' w2 : World} {C D : List Value} (hb : Below w'.heap.size w' w2) (h : Aside0 (Le w C.toArray D.toArray w')) : SL w C D w2 :=
  sl_of ⟨below_step h.out.below hb, blk_below h.out.ba hb, blk_below h.out.bb hb⟩
end Go.Proofs.YtkimpjlaailhcaaDoor.Sha
namespace Go.Proofs.YtkimpjlaailhcaaDoor.PA
open Go Go.RowKit Go.Proofs.YtkimpjlaailhcaaDoorW.PrintWords Go.Proofs.YtkimpjlaailhcaaDoorW.PrintLast Go.Proofs.YtkimpjlaailhcaaDoor.Sha Go.Proofs.YtkimpjlaailhcaaDoor.Ar
def stemmalaw01_ShaLess.f (a b : List Int) : Option Bool := some true
set_option maxRecDepth 100000 in
set_option maxHeartbeats 4000000 in
theorem stemmalaw01_ShaLess.calls (a b : List Int) (r : Bool) (w : World) (ha : a.length = 32) (hba : ∀ x ∈ a, isB x) (hb : b.length = 32) (hbb : ∀ x ∈ b, isB x) (hr_ : Aside0 (r = true)) (hG_ : Gl w) (h : stemmalaw01_ShaLess.f a b = some r) :
    Calls Tryd.prog 7 #[.agg (ns .u8 a), .agg (ns .u8 b)] w fun e w' => e = .returned (.bool r) ∧ Below w.heap.size w w' := by
  obtain ⟨rfl⟩ := hr_
  clear h hba hbb
  have HAB := Aside0.mk (fun W => Less_calls W a b ha hb)
  have HBA := Aside0.mk (fun W => Less_calls W b a hb ha)
  have HAA := Aside0.mk (fun W => Less_calls W a a ha ha)
  have RAB := Aside0.mk (fun W => RLess_calls W a b ha hb)
  have RBA := Aside0.mk (fun W => RLess_calls W b a hb ha)
  have HAW := Aside0.mk (fun (W : World) (hW : Below w.heap.size w W) => awake_calls W (hG_.below hW))
  rw [lessF_same] at HAA
  obtain ⟨C, hC1⟩ : ∃ C, nums .u8 a = C := ⟨_, rfl⟩
  obtain ⟨D, hD1⟩ : ∃ D, nums .u8 b = D := ⟨_, rfl⟩
  have hC : ns .u8 a = C.toArray := by rw [← hC1, ← ns_toList, Array.toArray_toList]
  have hD : ns .u8 b = D.toArray := by rw [← hD1, ← ns_toList, Array.toArray_toList]
  have hCS : C.length = 32 := by rw [← hC1, nums_len]; exact ha
  have hDS : D.length = 32 := by rw [← hD1, nums_len]; exact hb
  have hu : Tryd.prog.underlying 24 = some (.array 32 5) := Tryd.underlying24
  have hi : (Tryd.prog.info? 24).map (·.size) = some C.length := by rw [hCS]; kernel_rfl
  have hi2 : (Tryd.prog.info? 24).map (·.size) = some D.length := by rw [hDS]; kernel_rfl
  rw [hC, hD]
  rw [hC] at HAA
  rw [hC, hD] at HAB HBA RAB RBA
  obtain ⟨x, hx⟩ : ∃ x, lessF a b = x := ⟨_, rfl⟩
  obtain ⟨y, hy⟩ : ∃ y, lessF b a = y := ⟨_, rfl⟩
  rw [hx] at HAB RAB
  rw [hy] at HBA RBA
  have h0 : SL w C D ((w.alloc (.cells C.toArray 24)).alloc (.cells D.toArray 24)) := sl_of ⟨below_alloc (below_alloc (Below.refl _ _) _) _, blk_alloc (blk_new w _) _, new_at _ _ _ (by simp)⟩
  obtain ⟨l0, l1, HLE⟩ := h0
  clear ha hb hG_ hC hD hC1 hD1 hCS hDS hx hy
  go_enter Tryd.func7, Tryd.ntmps7
  go_wp2_with fail
  generalize (w.alloc (.cells C.toArray 24)).alloc (.cells D.toArray 24) = w1 at *
  -- [less
  refine start_ (n := 26) (S := SL w C D) (ds := []) #[false, false, false, false, false, false, false, false, false, false, false, false, false, false, false, false, false, false, false, false, false, false, false, false, false, false] (by kernel_rfl) rfl rfl (sl_drew HLE) (fun hHeld => ?_)
  generalize w1.drew = wd at hHeld ⊢
  clear l0 l1 HLE
  refine take_ (i := 0) (N := some 5) (v := .agg C.toArray) (a' := ?_) #[true, false, false, false, false, false, false, false, false, false, false, false, false, false, false, false, false, false, false, false, false, false, false, false, false, false] rfl rfl (by kernel_rfl) (fun _ _ _ h => h) (yieldsIf_load_mid (by rfl) 24 (.tmp 2) rfl w.heap.size 0 rfl C _ (fun w' hS => hS.1) hu rfl hi) hHeld ?_ ?_
  rotate_left
  · simp only [Act.put, List.setIfInBounds_toArray, List.set_cons_zero, List.set_cons_succ, i64_w, i32_w]
    rfl
  refine take_ (i := 1) (N := some 6) (v := .agg D.toArray) (a' := ?_) #[true, true, false, false, false, false, false, false, false, false, false, false, false, false, false, false, false, false, false, false, false, false, false, false, false, false] rfl rfl (by kernel_rfl) (fun _ _ _ h => h) (yieldsIf_load_mid (by rfl) 24 (.tmp 3) rfl (w.heap.size + 1) 0 rfl D _ (fun w' hS => hS.2.1) hu rfl hi2) hHeld ?_ ?_
  rotate_left
  · simp only [Act.put, List.setIfInBounds_toArray, List.set_cons_zero, List.set_cons_succ, i64_w, i32_w]
    rfl
  refine take_ (i := 3) (N := some 8) (v := .agg C.toArray) (a' := ?_) #[true, true, false, true, false, false, false, false, false, false, false, false, false, false, false, false, false, false, false, false, false, false, false, false, false, false] rfl rfl (by kernel_rfl) (fun _ _ _ h => h) (yieldsIf_load_mid (by rfl) 24 (.tmp 2) rfl w.heap.size 0 rfl C _ (fun w' hS => hS.1) hu rfl hi) hHeld ?_ ?_
  rotate_left
  · simp only [Act.put, List.setIfInBounds_toArray, List.set_cons_zero, List.set_cons_succ, i64_w, i32_w]
    rfl
  refine take_ (i := 4) (N := some 9) (v := .agg D.toArray) (a' := ?_) #[true, true, false, true, true, false, false, false, false, false, false, false, false, false, false, false, false, false, false, false, false, false, false, false, false, false] rfl rfl (by kernel_rfl) (fun _ _ _ h => h) (yieldsIf_load_mid (by rfl) 24 (.tmp 3) rfl (w.heap.size + 1) 0 rfl D _ (fun w' hS => hS.2.1) hu rfl hi2) hHeld ?_ ?_
  rotate_left
  · simp only [Act.put, List.setIfInBounds_toArray, List.set_cons_zero, List.set_cons_succ, i64_w, i32_w]
    rfl
  refine one_ (i := 2) (N := some 7) #[true, true, true, true, true, false, false, false, false, false, false, false, false, false, false, false, false, false, false, false, false, false, false, false, false, false] rfl rfl (by kernel_rfl) (by decide) (fun K hK => ?_)
  refine goes_ Tryd.func17 (by kernel_rfl) rfl #[.agg C.toArray, .agg D.toArray] (by rfl) rfl rfl (by first | rfl | (simp only [List.map_toArray, List.map_cons, List.map_nil]; done) | (simp only [List.map_toArray, List.map_cons, List.map_nil]; rfl)) ?_
  refine (HAB.out _).mono ?_
  rintro e w2 ⟨rfl, hb2⟩
  refine ⟨_, rfl, ?_⟩
  have hS2 := sl_step hb2 hHeld.2.2
  clear hb2 hHeld
  refine hK.out _ _ hS2 (fun hHeld => ?_)
  clear hK K hS2
  refine norm_ (a' := ?_) ?_ ?_
  rotate_left
  · show Act.put _ (some 7) _ = _
    simp only [Act.put, List.setIfInBounds_toArray, List.set_cons_zero, List.set_cons_succ, i64_w, i32_w]
    rfl
  refine one_ (i := 5) (N := some 10) #[true, true, true, true, true, true, false, false, false, false, false, false, false, false, false, false, false, false, false, false, false, false, false, false, false, false] rfl rfl (by kernel_rfl) (by decide) (fun K hK => ?_)
  refine goes_ Tryd.func18 (by kernel_rfl) rfl #[.agg C.toArray, .agg D.toArray] (by rfl) rfl rfl (by first | rfl | (simp only [List.map_toArray, List.map_cons, List.map_nil]; done) | (simp only [List.map_toArray, List.map_cons, List.map_nil]; rfl)) ?_
  refine (RAB.out _).mono ?_
  rintro e w2 ⟨rfl, hb2⟩
  refine ⟨_, rfl, ?_⟩
  have hS2 := sl_step hb2 hHeld.2.2
  clear hb2 hHeld
  refine hK.out _ _ hS2 (fun hHeld => ?_)
  clear hK K hS2
  refine norm_ (a' := ?_) ?_ ?_
  rotate_left
  · show Act.put _ (some 10) _ = _
    simp only [Act.put, List.setIfInBounds_toArray, List.set_cons_zero, List.set_cons_succ, i64_w, i32_w]
    rfl
  refine pure_ (i := 6) (N := some 11) (v := .bool true) (a' := ?_) #[true, true, true, true, true, true, true, false, false, false, false, false, false, false, false, false, false, false, false, false, false, false, false, false, false, false] rfl rfl (by kernel_rfl) (fun _ _ _ h => h) (Or.inl ⟨by rfl, ?_⟩) ?_ ?_
  · intro w'
    go_simp
    try simp
  rotate_left
  · simp only [Act.put, List.setIfInBounds_toArray, List.set_cons_zero, List.set_cons_succ, i64_w, i32_w]
    rfl
  refine pure_ (i := 7) (N := some 12) (v := ?_) (a' := ?_) #[true, true, true, true, true, true, true, true, false, false, false, false, false, false, false, false, false, false, false, false, false, false, false, false, false, false] rfl rfl (by kernel_rfl) (fun _ _ _ h => h) (Or.inl ⟨by rfl, ?_⟩) ?_ ?_
  rotate_left
  · intro w'
    go_simp
    with_reducible rfl
  rotate_left
  · simp only [Act.put, List.setIfInBounds_toArray, List.set_cons_zero, List.set_cons_succ, i64_w, i32_w]
    rfl
  refine take_ (i := 8) (N := some 13) (v := .agg D.toArray) (a' := ?_) #[true, true, true, true, true, true, true, true, true, false, false, false, false, false, false, false, false, false, false, false, false, false, false, false, false, false] rfl rfl (by kernel_rfl) (fun _ _ _ h => h) (yieldsIf_load_mid (by rfl) 24 (.tmp 3) rfl (w.heap.size + 1) 0 rfl D _ (fun w' hS => hS.2.1) hu rfl hi2) hHeld ?_ ?_
  rotate_left
  · simp only [Act.put, List.setIfInBounds_toArray, List.set_cons_zero, List.set_cons_succ, i64_w, i32_w]
    rfl
  refine take_ (i := 9) (N := some 14) (v := .agg C.toArray) (a' := ?_) #[true, true, true, true, true, true, true, true, true, true, false, false, false, false, false, false, false, false, false, false, false, false, false, false, false, false] rfl rfl (by kernel_rfl) (fun _ _ _ h => h) (yieldsIf_load_mid (by rfl) 24 (.tmp 2) rfl w.heap.size 0 rfl C _ (fun w' hS => hS.1) hu rfl hi) hHeld ?_ ?_
  rotate_left
  · simp only [Act.put, List.setIfInBounds_toArray, List.set_cons_zero, List.set_cons_succ, i64_w, i32_w]
    rfl
  refine take_ (i := 11) (N := some 16) (v := .agg D.toArray) (a' := ?_) #[true, true, true, true, true, true, true, true, true, true, false, true, false, false, false, false, false, false, false, false, false, false, false, false, false, false] rfl rfl (by kernel_rfl) (fun _ _ _ h => h) (yieldsIf_load_mid (by rfl) 24 (.tmp 3) rfl (w.heap.size + 1) 0 rfl D _ (fun w' hS => hS.2.1) hu rfl hi2) hHeld ?_ ?_
  rotate_left
  · simp only [Act.put, List.setIfInBounds_toArray, List.set_cons_zero, List.set_cons_succ, i64_w, i32_w]
    rfl
  refine take_ (i := 12) (N := some 17) (v := .agg C.toArray) (a' := ?_) #[true, true, true, true, true, true, true, true, true, true, false, true, true, false, false, false, false, false, false, false, false, false, false, false, false, false] rfl rfl (by kernel_rfl) (fun _ _ _ h => h) (yieldsIf_load_mid (by rfl) 24 (.tmp 2) rfl w.heap.size 0 rfl C _ (fun w' hS => hS.1) hu rfl hi) hHeld ?_ ?_
  rotate_left
  · simp only [Act.put, List.setIfInBounds_toArray, List.set_cons_zero, List.set_cons_succ, i64_w, i32_w]
    rfl
  refine one_ (i := 10) (N := some 15) #[true, true, true, true, true, true, true, true, true, true, true, true, true, false, false, false, false, false, false, false, false, false, false, false, false, false] rfl rfl (by kernel_rfl) (by decide) (fun K hK => ?_)
  refine goes_ Tryd.func17 (by kernel_rfl) rfl #[.agg D.toArray, .agg C.toArray] (by rfl) rfl rfl (by first | rfl | (simp only [List.map_toArray, List.map_cons, List.map_nil]; done) | (simp only [List.map_toArray, List.map_cons, List.map_nil]; rfl)) ?_
  refine (HBA.out _).mono ?_
  rintro e w2 ⟨rfl, hb2⟩
  refine ⟨_, rfl, ?_⟩
  have hS2 := sl_step hb2 hHeld.2.2
  clear hb2 hHeld
  refine hK.out _ _ hS2 (fun hHeld => ?_)
  clear hK K hS2
  refine norm_ (a' := ?_) ?_ ?_
  rotate_left
  · show Act.put _ (some 15) _ = _
    simp only [Act.put, List.setIfInBounds_toArray, List.set_cons_zero, List.set_cons_succ, i64_w, i32_w]
    rfl
  refine one_ (i := 13) (N := some 18) #[true, true, true, true, true, true, true, true, true, true, true, true, true, true, false, false, false, false, false, false, false, false, false, false, false, false] rfl rfl (by kernel_rfl) (by decide) (fun K hK => ?_)
  refine goes_ Tryd.func18 (by kernel_rfl) rfl #[.agg D.toArray, .agg C.toArray] (by rfl) rfl rfl (by first | rfl | (simp only [List.map_toArray, List.map_cons, List.map_nil]; done) | (simp only [List.map_toArray, List.map_cons, List.map_nil]; rfl)) ?_
  refine (RBA.out _).mono ?_
  rintro e w2 ⟨rfl, hb2⟩
  refine ⟨_, rfl, ?_⟩
  have hS2 := sl_step hb2 hHeld.2.2
  clear hb2 hHeld
  refine hK.out _ _ hS2 (fun hHeld => ?_)
  clear hK K hS2
  refine norm_ (a' := ?_) ?_ ?_
  rotate_left
  · show Act.put _ (some 18) _ = _
    simp only [Act.put, List.setIfInBounds_toArray, List.set_cons_zero, List.set_cons_succ, i64_w, i32_w]
    rfl
  refine pure_ (i := 14) (N := some 19) (v := .bool true) (a' := ?_) #[true, true, true, true, true, true, true, true, true, true, true, true, true, true, true, false, false, false, false, false, false, false, false, false, false, false] rfl rfl (by kernel_rfl) (fun _ _ _ h => h) (Or.inl ⟨by rfl, ?_⟩) ?_ ?_
  · intro w'
    go_simp
    try simp
  rotate_left
  · simp only [Act.put, List.setIfInBounds_toArray, List.set_cons_zero, List.set_cons_succ, i64_w, i32_w]
    rfl
  refine pure_ (i := 15) (N := some 20) (v := .bool true) (a' := ?_) #[true, true, true, true, true, true, true, true, true, true, true, true, true, true, true, true, false, false, false, false, false, false, false, false, false, false] rfl rfl (by kernel_rfl) (fun _ _ _ h => h) (Or.inl ⟨by rfl, ?_⟩) ?_ ?_
  · intro w'
    go_simp
    try simp
  rotate_left
  · simp only [Act.put, List.setIfInBounds_toArray, List.set_cons_zero, List.set_cons_succ, i64_w, i32_w]
    rfl
  refine pure_ (i := 16) (N := some 21) (v := ?_) (a' := ?_) #[true, true, true, true, true, true, true, true, true, true, true, true, true, true, true, true, true, false, false, false, false, false, false, false, false, false] rfl rfl (by kernel_rfl) (fun _ _ _ h => h) (Or.inl ⟨by rfl, ?_⟩) ?_ ?_
  rotate_left
  · intro w'
    go_simp
    with_reducible rfl
  rotate_left
  · simp only [Act.put, List.setIfInBounds_toArray, List.set_cons_zero, List.set_cons_succ, i64_w, i32_w]
    rfl
  refine take_ (i := 17) (N := some 22) (v := .agg C.toArray) (a' := ?_) #[true, true, true, true, true, true, true, true, true, true, true, true, true, true, true, true, true, true, false, false, false, false, false, false, false, false] rfl rfl (by kernel_rfl) (fun _ _ _ h => h) (yieldsIf_load_mid (by rfl) 24 (.tmp 2) rfl w.heap.size 0 rfl C _ (fun w' hS => hS.1) hu rfl hi) hHeld ?_ ?_
  rotate_left
  · simp only [Act.put, List.setIfInBounds_toArray, List.set_cons_zero, List.set_cons_succ, i64_w, i32_w]
    rfl
  refine take_ (i := 18) (N := some 23) (v := .agg C.toArray) (a' := ?_) #[true, true, true, true, true, true, true, true, true, true, true, true, true, true, true, true, true, true, true, false, false, false, false, false, false, false] rfl rfl (by kernel_rfl) (fun _ _ _ h => h) (yieldsIf_load_mid (by rfl) 24 (.tmp 2) rfl w.heap.size 0 rfl C _ (fun w' hS => hS.1) hu rfl hi) hHeld ?_ ?_
  rotate_left
  · simp only [Act.put, List.setIfInBounds_toArray, List.set_cons_zero, List.set_cons_succ, i64_w, i32_w]
    rfl
  refine one_ (i := 19) (N := some 24) #[true, true, true, true, true, true, true, true, true, true, true, true, true, true, true, true, true, true, true, true, false, false, false, false, false, false] rfl rfl (by kernel_rfl) (by decide) (fun K hK => ?_)
  refine goes_ Tryd.func17 (by kernel_rfl) rfl #[.agg C.toArray, .agg C.toArray] (by rfl) rfl rfl (by first | rfl | (simp only [List.map_toArray, List.map_cons, List.map_nil]; done) | (simp only [List.map_toArray, List.map_cons, List.map_nil]; rfl)) ?_
  refine (HAA.out _).mono ?_
  rintro e w2 ⟨rfl, hb2⟩
  refine ⟨_, rfl, ?_⟩
  have hS2 := sl_step hb2 hHeld.2.2
  clear hb2 hHeld
  refine hK.out _ _ hS2 (fun hHeld => ?_)
  clear hK K hS2
  refine norm_ (a' := ?_) ?_ ?_
  rotate_left
  · show Act.put _ (some 24) _ = _
    simp only [Act.put, List.setIfInBounds_toArray, List.set_cons_zero, List.set_cons_succ, i64_w, i32_w]
    rfl
  refine pure_ (i := 20) (N := some 25) (v := .bool true) (a' := ?_) #[true, true, true, true, true, true, true, true, true, true, true, true, true, true, true, true, true, true, true, true, true, false, false, false, false, false] rfl rfl (by kernel_rfl) (fun _ _ _ h => h) (Or.inl ⟨by rfl, ?_⟩) ?_ ?_
  · intro w'
    go_simp
    try simp
  rotate_left
  · simp only [Act.put, List.setIfInBounds_toArray, List.set_cons_zero, List.set_cons_succ, i64_w, i32_w]
    rfl
  refine pure_ (i := 21) (N := some 26) (v := .bool true) (a' := ?_) #[true, true, true, true, true, true, true, true, true, true, true, true, true, true, true, true, true, true, true, true, true, true, false, false, false, false] rfl rfl (by kernel_rfl) (fun _ _ _ h => h) (Or.inl ⟨by rfl, ?_⟩) ?_ ?_
  · intro w'
    go_simp
    try simp
  rotate_left
  · simp only [Act.put, List.setIfInBounds_toArray, List.set_cons_zero, List.set_cons_succ, i64_w, i32_w]
    rfl
  refine pure_ (i := 22) (N := some 27) (v := ?_) (a' := ?_) #[true, true, true, true, true, true, true, true, true, true, true, true, true, true, true, true, true, true, true, true, true, true, true, false, false, false] rfl rfl (by kernel_rfl) (fun _ _ _ h => h) (Or.inl ⟨by rfl, ?_⟩) ?_ ?_
  rotate_left
  · intro w'
    go_simp
    with_reducible rfl
  rotate_left
  · simp only [Act.put, List.setIfInBounds_toArray, List.set_cons_zero, List.set_cons_succ, i64_w, i32_w]
    rfl
  refine one_ (i := 23) (N := some 28) #[true, true, true, true, true, true, true, true, true, true, true, true, true, true, true, true, true, true, true, true, true, true, true, true, false, false] rfl rfl (by kernel_rfl) (by decide) (fun K hK => ?_)
  refine goes_ Tryd.func12 (by kernel_rfl) rfl #[] (by rfl) rfl rfl (by first | rfl | (simp only [List.map_toArray, List.map_cons, List.map_nil]; done) | (simp only [List.map_toArray, List.map_cons, List.map_nil]; rfl)) ?_
  refine (HAW.out _ hHeld.2.2.out.below).mono ?_
  rintro e w2 ⟨rfl, hb2⟩
  refine ⟨_, rfl, ?_⟩
  have hS2 := sl_step hb2 hHeld.2.2
  clear hb2 hHeld
  refine hK.out _ _ hS2 (fun hHeld => ?_)
  clear hK K hS2
  refine norm_ (a' := ?_) ?_ ?_
  rotate_left
  · show Act.put _ (some 28) _ = _
    simp only [Act.put, List.setIfInBounds_toArray, List.set_cons_zero, List.set_cons_succ, i64_w, i32_w]
    rfl
  refine pure_ (i := 24) (N := some 29) (v := .bool true) (a' := ?_) #[true, true, true, true, true, true, true, true, true, true, true, true, true, true, true, true, true, true, true, true, true, true, true, true, true, false] rfl rfl (by kernel_rfl) (fun _ _ _ h => h) (Or.inl ⟨by rfl, ?_⟩) ?_ ?_
  · intro w'
    go_simp
    try simp
  rotate_left
  · simp only [Act.put, List.setIfInBounds_toArray, List.set_cons_zero, List.set_cons_succ, i64_w, i32_w]
    rfl
  refine pure_ (i := 25) (N := some 4) (v := ?_) (a' := ?_) #[true, true, true, true, true, true, true, true, true, true, true, true, true, true, true, true, true, true, true, true, true, true, true, true, true, true] rfl rfl (by kernel_rfl) (fun _ _ _ h => h) (Or.inl ⟨by rfl, ?_⟩) ?_ ?_
  rotate_left
  · intro w'
    go_simp
    with_reducible rfl
  rotate_left
  · simp only [Act.put, List.setIfInBounds_toArray, List.set_cons_zero, List.set_cons_succ, i64_w, i32_w]
    rfl
  refine done_ (by kernel_rfl) ?_
  -- less]
  go_wp2
  go_ret
  exact ⟨rfl, hHeld.2.2.out.below⟩
end Go.Proofs.YtkimpjlaailhcaaDoor.PA
