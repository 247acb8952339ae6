/- stemmalaw01.ShaWrites, walked. -/
import Derived.Test.YtkimpjlaailhcaaDoorPAx5
import Derived.Test.YtkimpjlaailhcaaDoorWMore
import Derived.Test.YtkimpjlaailhcaaDoorWShare
import Derived.Deep.MidRow
set_option linter.unusedVariables false
set_option linter.unusedSimpArgs false
namespace Go.Proofs.YtkimpjlaailhcaaDoor.Sha
open Go Go.RowKit Go.Proofs.YtkimpjlaailhcaaDoorW.PrintWords Go.Proofs.YtkimpjlaailhcaaDoor.Ar Go.Proofs.YtkimpjlaailhcaaDoor.PA
theorem at_ll {w : World} {A : Option Addr} {n : Nat} {xs : List (List Int)} (h : Kd.C (Kd.slice 5 (Kd.int .u8)) w A n xs) (i : Int) (h0 : 0 ≤ i) (h1 : i < n) : ∃ ad A0 c0, A = some ad ∧ w.cell? (ad.add i.toNat) = some (.slice A0 (xs.getD i.toNat []).length c0) ∧ (xs.getD i.toNat []).length ≤ c0 ∧ Kd.C (Kd.int .u8) w A0 (xs.getD i.toNat []).length (xs.getD i.toNat []) := by
  obtain ⟨ad, c, e, _, hK, hc0⟩ := Kd.C_get h [] i h0 h1
  have hc : ∀ j u, c[j]? = some u → w.cell? (ad.add (i.toNat * 1 + j)) = some u := hc0
  obtain ⟨A0, c0, rfl, l0, g0⟩ := hK
  exact ⟨ad, A0, c0, e, by have hq := hc 0 _ rfl; rwa [Nat.mul_one, Nat.add_zero] at hq, l0, g0⟩
theorem Wr.grown {w wr wq : World} {g n : Nat} {X : List Int × List Int × Nat} {row : Option Nat} (h : Wr w g X n wr) (hg : wr.grownBy wq row) (hne : ∀ k, row = some k → k ≠ g ∧ w.heap.size ≤ k) : Wr w g X n wq :=
  ⟨pw_below_grown h.below row h.below.size hg (fun k e => (hne k e).2), ⟨(hg.block g h.hs.lt (fun e => (hne g e.symm).1 rfl)).trans h.hs.blk, h.hs.lS, h.hs.lB⟩, h.hx, h.hg⟩
/-- Behind the pieces that were written: the hasher was fed L, and so does the row of all read. -/
structure Ws (w : World) (g : Nat) (L : List Int) (v : Value) (wr : World) : Prop where
  hw : Wr w g (feed X0 L) L.length wr
  al : Kd.R (Kd.int .u8) 5 wr w.heap.size (fun k => k ≠ g) v L
theorem Ws.step {w wr wq : World} {g : Nat} {L : List Int} {v : Value} (h : Ws w g L v wr) (hb : Below wr.heap.size wr wq) : Ws w g L v wq := ⟨h.hw.step hb, Kd.R_below h.al hb⟩
/-- Within a round: the hasher was fed L, the row of all reads L2, the piece's own copy is changed. -/
structure Wi (w : World) (g N : Nat) (L L2 : List Int) (v : Value) (A : Option Addr) (n c : Nat) (wr : World) : Prop where
  hw : Wr w g (feed X0 L) L.length wr
  al : Kd.R (Kd.int .u8) 5 wr w.heap.size (fun k => k ≠ g ∧ k < N) v L2
  gN : g < N
  ow : ∃ P : List Int, P.length = n ∧ Kd.R (Kd.int .u8) 5 wr N (fun _ => True) (.slice A n c) P
theorem Wi.at {w wr : World} {g N n c : Nat} {L L2 : List Int} {v : Value} {A : Option Addr} (h : Wi w g N L L2 v A n c wr) (k : Nat) (hk : k < n) :
    ∃ go x, A = some ⟨go, 0, none⟩ ∧ wr.cell? ⟨go, k, none⟩ = some (.int .u8 x) ∧ wr.frozen? ⟨go, k, none⟩ = false ∧ ∀ y, Wi w g N L L2 v A n c (wr.setCell ⟨go, k, none⟩ (.int .u8 y)) := by
  obtain ⟨P, rfl, hR⟩ := h.ow
  obtain ⟨go, cap, he, hgo, _⟩ := Kd.R_form hR (by omega)
  injection he with e1 e2 e3
  subst e1
  subst e3
  obtain ⟨c1, f1⟩ := Kd.R_celln 0 hR (k : Int) (by omega) (by omega)
  simp only [Int.toNat_natCast] at c1 f1
  refine ⟨go, _, rfl, c1, f1, fun y => ?_⟩
  obtain ⟨r1, g1⟩ := Kd.R_putg hR (k : Int) y
  simp only [Int.toNat_natCast] at r1 g1
  have hw := h.hw.hg
  have hN := h.gN
  refine ⟨h.hw.grown g1 (fun j e => ?_), Kd.R_grown h.al g1 (fun j hj e => ?_), h.gN, ⟨P.set k y, List.length_set, r1⟩⟩
  · injection e with e; omega
  · injection e with e; have := hj.2; omega
/-- With the sum's box. -/
structure Wx (w : World) (g : Nat) (L : List Int) (v : Value) (gx : Nat) (C : List Value) (wr : World) : Prop where
  ws : Ws w g L v wr
  bx : wr.heap[gx]? = some (.cells C.toArray 24 (0, 0))
theorem Wx.step {w wr wq : World} {g gx : Nat} {L : List Int} {v : Value} {C : List Value} (h : Wx w g L v gx C wr) (hb : Below wr.heap.size wr wq) : Wx w g L v gx C wq := ⟨h.ws.step hb, blk_below h.bx hb⟩
def WS (w : World) (g : Nat) (L : List Int) (v : Value) (gx : Nat) (C : List Value) (w' : World) : Prop := w'.rangeAt gx 0 C ∧ Aside0 (Wx w g L v gx C w')
theorem ws_of {w w' : World} {g gx : Nat} {L : List Int} {v : Value} {C : List Value} (h : Wx w g L v gx C w') : WS w g L v gx C w' := ⟨fun j u hu => by rw [blk_cell h.bx, Nat.zero_add, List.getElem?_toArray]; exact hu, ⟨h⟩⟩
theorem ws_step {w w' w2 : World} {g gx : Nat} {L : List Int} {v : Value} {C : List Value} (hb : Below w'.heap.size w' w2) (h : WS w g L v gx C w') : WS w g L v gx C w2 := ws_of (h.2.out.step hb)
theorem ws_sums (w : World) (g : Nat) (M : List Int) (A : Option Addr) (c : Nat) (hG : Gl w) (hB : ∀ x ∈ M, isB x) (hM : M.length ≤ 1048576) :
    ∃ C : List Value, C.length = 32 ∧ C.toArray.all (·.oneCell') = true ∧ (∀ W, (Op.equalIn 10000 24 (.agg C.toArray) (.agg C.toArray)).run Tryd.prog W = .ok true W) ∧
      (∀ W, Ws w g M (.slice A M.length c) W → Calls Tryd.prog 15 #[.pointer (some ⟨g, 0, none⟩)] W fun e w' => e = .returned (.agg C.toArray) ∧ Below W.heap.size W w') ∧
      (∀ W, Ws w g M (.slice A M.length c) W → Calls Tryd.prog 11 #[.slice A M.length c] W fun e w' => e = .returned (.agg C.toArray) ∧ Below W.heap.size W w') := by
  have h1 := sumF_eq M hB
  have h2 := sumF_len M
  have h3 := sumX_sumF M
  have hS : ∀ W, Ws w g M (.slice A M.length c) W → Calls Tryd.prog 15 #[.pointer (some ⟨g, 0, none⟩)] W fun e w' => e = .returned (.agg (ns .u8 (sumF M))) ∧ Below W.heap.size W w' := fun W hW => by
    have := hW.hw.sum hG (by omega)
    rw [h3] at this
    exact this.mono (fun e w' h => ⟨h.1, h.2.1⟩)
  have hR : ∀ W, Ws w g M (.slice A M.length c) W → Calls Tryd.prog 11 #[.slice A M.length c] W fun e w' => e = .returned (.agg (ns .u8 (sumF M))) ∧ Below W.heap.size W w' := fun W hW => by
    obtain ⟨_, hc, hC⟩ := Kd.R_reads' hW.al
    rw [h1]
    exact RSum_calls W A c M hc hC (by omega)
  clear h1 h3 hB
  generalize sumF M = O at *
  have heq : ∀ W, (Op.equalIn 10000 24 (.agg (ns .u8 O)) (.agg (ns .u8 O))).run Tryd.prog W = .ok true W := fun W =>
    (run_equalIn_ns (P := Tryd.prog) W 9998 24 5 32 .u8 Tryd.underlying24 Tryd.underlying5 (fun _ => by kernel_rfl) O O h2 h2).trans (by rw [beq_self_eq_true])
  have hC : ns .u8 O = (nums .u8 O).toArray := by rw [← ns_toList, Array.toArray_toList]
  have h1 := ns_one .u8 O
  rw [hC] at heq hS hR h1
  exact ⟨nums .u8 O, by rw [nums_len]; exact h2, h1, heq, hS, hR⟩
theorem new_ex (w : World) (hG : Gl w) : Calls Tryd.prog 13 #[] w fun e w' => ∃ g, e = .returned (.pointer (some ⟨g, 0, none⟩)) ∧ Wr w g X0 0 w' := (Wr.new w hG).mono (fun e w' h => ⟨_, h.1, h.2⟩)
theorem flat_snoc (l : List (List Int)) (i : Nat) (h : i < l.length) : (l.take (i + 1)).flatten = (l.take i).flatten ++ l.getD i [] := by
  rw [List.take_succ_eq_append_getElem h, List.flatten_append]
  simp [List.getD_eq_getElem?_getD, h]
theorem flat_le (l : List (List Int)) (i : Nat) : (l.take i).flatten.length ≤ l.flatten.length := by
  have h : l.flatten = (l.take i).flatten ++ (l.drop i).flatten := by rw [← List.flatten_append, List.take_append_drop]
  rw [h, List.length_append]; omega
theorem flat_B (l : List (List Int)) (h : ∀ p ∈ l, ∀ x ∈ p, isB x) (i : Nat) : ∀ x ∈ (l.take i).flatten, isB x := fun x hx => by
  obtain ⟨p, hp, hx⟩ := List.mem_flatten.1 hx
  exact h p (List.mem_of_mem_take hp) x hx
end Go.Proofs.YtkimpjlaailhcaaDoor.Sha
namespace Go.Proofs.YtkimpjlaailhcaaDoor.PA
open Go Go.RowKit Go.Proofs.YtkimpjlaailhcaaDoorW.PrintWords Go.Proofs.YtkimpjlaailhcaaDoorW.PrintLast Go.Proofs.YtkimpjlaailhcaaDoor.Sha Go.Proofs.YtkimpjlaailhcaaDoor.Ar
open Classical in
noncomputable def stemmalaw01_ShaWrites.f (l0 : List (List Int)) : Option Bool := if (∀ p ∈ l0, ∀ x ∈ p, isB x) ∧ l0.length ≤ 1048576 ∧ l0.flatten.length ≤ 1048576 then some true else none
set_option maxRecDepth 100000 in
set_option maxHeartbeats 4000000 in
theorem stemmalaw01_ShaWrites.calls (A0 : Option Addr) (c0 : Nat) (l0 : List (List Int)) (r : Bool) (w : World) (hr0 : Kd.C (Kd.slice 5 (Kd.int .u8)) w A0 l0.length l0) (hc0 : l0.length ≤ c0) (hr_ : Aside0 (r = true)) (hG_ : Gl w) (h : stemmalaw01_ShaWrites.f l0 = some r) :
    Calls Tryd.prog 4 #[.slice A0 l0.length c0] w fun e w' => e = .returned (.bool r) ∧ Below w.heap.size w w' := by
  obtain ⟨rfl⟩ := hr_
  unfold stemmalaw01_ShaWrites.f at h
  split at h
  case isFalse => cases h
  case isTrue hh =>
  obtain ⟨hb0, hn0, hl0⟩ := hh
  have HAW := Aside0.mk (fun (W : World) (hW : Below w.heap.size w W) => awake_calls W (hG_.below hW))
  have HG := Aside0.mk hG_
  have HR0 := Aside0.mk hr0
  have HT : Aside0 (∀ k, (l0.take k).flatten.length ≤ 1048576) := ⟨fun k => Nat.le_trans (flat_le l0 k) hl0⟩
  have HY := Aside0.mk (flat_B l0 hb0)
  have HN0 := Aside0.mk hn0
  have hu : Tryd.prog.underlying 24 = some (.array 32 5) := Tryd.underlying24
  clear h hb0 hr0 hG_ hc0 hl0 hn0
  go_enter Tryd.func4, Tryd.ntmps4
  go_wp2_with (go_at_call 13; refine (new_ex _ HG.out).mono ?_; rintro e w1 ⟨g, rfl, hw1⟩; have HW1 := Aside0.mk hw1; clear hw1)
  go_loopw [4, 5] (fun v i wr => ∃ k : Nat, k ≤ l0.length ∧ i = .int .i64 k ∧ Aside0 (Ws w g (l0.take k).flatten v wr)) (fun _ i _ => l0.length - (intOf i).toNat)
  case atStart => exact ⟨0, Nat.zero_le _, rfl, ⟨⟨HW1.out, Kd.R_nil _ _ _ _ _⟩⟩⟩
  case round =>
    clear HW1
    obtain ⟨k, hk, rfl, HW⟩ := hrel
    obtain ⟨A4, c4, rfl⟩ := Kd.R_slice HW.out.al
    by_cases hlt : k < l0.length
    · obtain ⟨ad, A1, c1, rfl, hx, hl1, hC1⟩ := at_ll HR0.out (k : Int) (by omega) (by omega)
      rw [Int.toNat_natCast] at hx hl1 hC1
      have hf := flat_snoc l0 k hlt
      have ht := HT.out (k + 1)
      have hy := HY.out (k + 1)
      generalize l0.getD k [] = P at *
      generalize hM : (l0.take (k + 1)).flatten = M at *
      generalize (l0.take k).flatten = L at *
      have HMP := Aside0.mk hf
      have HMT := Aside0.mk ht
      have HMY := Aside0.mk hy
      have HMM := Aside0.mk hM
      have HC1 := Aside0.mk (And.intro hl1 hC1)
      have HX := Aside0.mk hx
      replace hx := (HW.out.hw.below.cell (World.block_lt_of_cell? w _ hx)).trans hx
      have HO1 : Aside0 (Kd.R (Kd.int .u8) 5 (wr.alloc (.cells #[] 5)) wr.heap.size (fun _ => True) (.slice (some ⟨wr.heap.size, 0, none⟩) 0 0) []) := ⟨R_of_blk (w := wr.alloc (.cells (ns .u8 []) 5)) (base := wr.heap.size) (blk_new wr _) (Nat.le_refl _) (by decide)⟩
      have HB1 := Aside0.mk (below_alloc (Below.refl wr.heap.size wr) (.cells #[] 5))
      replace hx := pw_cell_below HB1.out hx
      clear hf ht hy hl1 hC1 hM
      go_wp2_with ((with_reducible refine gate_builtin (b := .append) (xs := #[.tmp 18, .tmp 22]) rfl ?_); at_builtin; refine Kd.R_append_rows (Kd.int .u8) (w0 := wr) wr.heap.size rfl (.tmp 18) (.tmp 22) 22 5 (.int .u8 0) 1 rfl Tryd.underlying22 infoB rfl (by decide) (by decide) (.slice (some ⟨wr.heap.size, 0, none⟩) 0 0) ([] : List Int) P A1 P.length c1 (fun _ => True) (fun _ => False) rfl rfl HO1.out (Kd.F_now (Kd.F_below (Kd.F_below (row_old HC1.out.2) HW.out.hw.below) HB1.out)) (fun _ _ h => h) (fun _ h => h.elim) (fun _ _ => trivial) HB1.out HB1.out.size (by have := HMT.out; have := HMP.out; have := congrArg List.length this; rw [List.length_append] at this; rw [List.length_nil]; omega) ?_; intro v1 w2 ho hb hg hat; rw [List.nil_append] at ho; obtain ⟨A6, c6, rfl, hc6, _⟩ := Kd.R_reads ho; have HB2 := Aside0.mk hb; have HC6 := Aside0.mk hc6; have HO2 := Aside0.mk ho; clear ho hb hg hat hc6)
      have HW2 : Aside0 (Calls Tryd.prog 14 #[.pointer (some ⟨g, 0, none⟩), .slice A6 P.length c6] w2 fun e w3 => e = .returned (.tuple #[]) ∧ Wi w g wr.heap.size M L (.slice A4 L.length c4) A6 P.length c6 w3) := ⟨by
        have hgN : g < wr.heap.size := HW.out.hw.hs.lt
        have hMl : M.length = L.length + P.length := by rw [HMP.out, List.length_append]
        have ht := HMT.out
        refine ((HW.out.step HB2.out).hw.write HG.out (fun k => k ≠ g) (fun _ h => h) A6 c6 P HC6.out (Kd.R_F (Kd.R_mono (Kd.R_bound HO2.out) (fun k hk => by have := hk.2.1; omega))) (by omega)).mono ?_
        rintro e w3 ⟨he, hgr, hw3⟩
        refine ⟨he, ⟨?_, Kd.R_grown (Kd.R_below (Kd.R_mono (Kd.R_bound HW.out.al) (fun k hk => ⟨hk.1, hk.2.2.1⟩)) HB2.out) hgr (fun k hk e => ?_), hgN, ⟨P, rfl, Kd.R_mono (Kd.R_grown (Kd.R_bound HO2.out) hgr (fun k hk e => ?_)) (fun _ _ => trivial)⟩⟩⟩
        · rw [HMP.out, feed_append, List.length_append]; exact hw3
        · injection e with e; exact hk.1 e
        · injection e with e; have := hk.2.1; omega⟩
      refine HW2.out.mono ?_
      rintro e w3 ⟨rfl, hw3⟩
      have HI := Aside0.mk hw3
      clear hw3 HW2 HO2 HC6 HB2 HB1 HO1 HW hx
      generalize wr.heap.size = N at HI
      go_wp2_with fail
      have hPl : P.length ≤ 1048576 := by have := HMT.out; have := HMP.out; have := congrArg List.length this; rw [List.length_append] at this; omega
      go_loopw [7] (fun i wr => ∃ j : Nat, j ≤ P.length ∧ i = .int .i64 j ∧ Aside0 (Wi w g N M L (.slice A4 L.length c4) A6 P.length c6 wr)) (fun i _ => P.length - (intOf i).toNat)
      case atStart => exact ⟨0, Nat.zero_le _, rfl, HI⟩
      case round =>
        clear HI
        obtain ⟨j, hj, rfl, HI⟩ := hrel
        by_cases hlj : j < P.length
        · obtain ⟨go, x, rfl, hcell, hfroz, hput⟩ := HI.out.at j hlj
          have HPUT := Aside0.mk hput
          clear hput
          go_wp2
          go_roundw
          case rel => exact ⟨j + 1, by omega, by go_num, ⟨HPUT.out _⟩⟩
          case measure => simp [intOf]; omega
        · obtain rfl : j = P.length := by omega
          clear hj hlj
          have hx := pw_cell_below HI.out.hw.below HX.out
          have HPL := Aside0.mk hPl
          clear hPl
          go_wp2_with ((with_reducible refine gate_builtin (b := .append) (xs := #[.tmp 39, .tmp 43]) rfl ?_); at_builtin; refine Kd.R_append_rows (Kd.int .u8) (w0 := w) w.heap.size rfl (.tmp 39) (.tmp 43) 22 5 (.int .u8 0) 1 rfl Tryd.underlying22 infoB rfl (by decide) (by decide) (.slice A4 L.length c4) L P A1 P.length c1 (fun k => k ≠ g) (fun _ => False) rfl rfl (Kd.R_mono HI.out.al (fun k hk => hk.1)) (Kd.F_now (Kd.F_below (row_old HC1.out.2) HI.out.hw.below)) (fun _ _ h => h) (fun _ h => h.elim) (fun k hk => by have := HI.out.hw.hs.lt; omega) HI.out.hw.below HI.out.hw.below.size (by have := HMT.out; have := HMP.out; have := congrArg List.length this; rw [List.length_append] at this; omega) ?_; intro v1 w5 ho hb hg hat; rw [← HMP.out] at ho; have HW5 : Aside0 (Ws w g M v1 w5) := ⟨⟨HI.out.hw.grown hg (fun k hk => ⟨(HI.out.al.1 k hk).1, Kd.R_base HI.out.al k hk⟩), ho⟩⟩; obtain ⟨A5, c5, rfl⟩ := Kd.R_slice ho; clear ho hb hg hat)
          obtain ⟨C, hCS, hC1, hEQ, hSM, hRS⟩ := ws_sums w g M A5 c5 HG.out HMY.out HMT.out
          have HSM := Aside0.mk hSM
          have HRS := Aside0.mk hRS
          have HEQ := Aside0.mk hEQ
          have HCS := Aside0.mk hCS
          have HCO := Aside0.mk hC1
          have hi : (Tryd.prog.info? 24).map (·.size) = some C.length := by rw [HCS.out]; kernel_rfl
          clear hSM hRS hEQ hCS hC1 HI hx
          refine (HSM.out _ HW5.out).mono ?_
          rintro e w6 ⟨rfl, hb6⟩
          have HW6 := Aside0.mk (HW5.out.step hb6)
          clear hb6 HW5
          go_upto_region 16 with ((with_reducible refine gate_ (Op.store 24 (.tmp 8) (.tmp 46)) rfl ?_); refine wpList_store_new rfl 24 (.tmp 8) (.tmp 46) rfl w6 _ _ C.toArray rfl rfl rfl (by rw [List.size_toArray, HCS.out]; rfl) (by rw [List.size_toArray, HCS.out]; kernel_rfl) HCO.out ?_)
          have HZ : Aside0 (Wx w g M (.slice A5 M.length c5) w6.heap.size C (w6.alloc (.cells C.toArray 24))) := ⟨⟨HW6.out.step (below_alloc (Below.refl _ _) _), blk_new w6 _⟩⟩
          clear HW6
          generalize w6.alloc (.cells C.toArray 24) = w7 at *
          generalize w6.heap.size = gx at *
          -- [wr
          refine start_ (n := 17) (S := WS w g M (.slice A5 M.length c5) gx C) (ds := []) #[false, false, false, false, false, false, false, false, false, false, false, false, false, false, false, false, false] (by kernel_rfl) rfl rfl (ws_of (HZ.out.step (pw_below_drewN (Below.refl _ _) 1))) (fun hHeld => ?_)
          generalize w7.drew = wd at hHeld ⊢
          clear HZ
          refine take_ (i := 0) (N := some 47) (v := .agg C.toArray) (a' := ?_) #[true, false, false, false, false, false, false, false, false, false, false, false, false, false, false, false, false] rfl rfl (by kernel_rfl) (fun _ _ _ h => h) (yieldsIf_load_mid (by rfl) 24 (.tmp 8) rfl gx 0 rfl C _ (fun w' hS => hS.1) hu rfl hi) hHeld ?_ ?_
          rotate_left
          · simp only [Act.put, List.setIfInBounds_toArray, List.set_cons_zero, List.set_cons_succ, i64_w, i32_w]
            rfl
          refine pure_ (i := 1) (N := some 48) (v := ?_) (a' := ?_) #[true, true, false, false, false, false, false, false, false, false, false, false, false, false, false, false, false] rfl rfl (by kernel_rfl) (fun _ _ _ h => h) (Or.inl ⟨by rfl, ?_⟩) ?_ ?_
          rotate_left
          · intro w'
            go_simp
            with_reducible rfl
          rotate_left
          · simp only [Act.put, List.setIfInBounds_toArray, List.set_cons_zero, List.set_cons_succ, i64_w, i32_w]
            rfl
          refine one_ (i := 2) (N := some 49) #[true, true, true, false, false, false, false, false, false, false, false, false, false, false, false, false, false] rfl rfl (by kernel_rfl) (by decide) (fun K hK => ?_)
          refine goes_ Tryd.func11 (by kernel_rfl) rfl #[.slice A5 M.length c5] (by rfl) rfl rfl (by first | rfl | (simp only [List.map_toArray, List.map_cons, List.map_nil]; done) | (simp only [List.map_toArray, List.map_cons, List.map_nil]; rfl)) ?_
          refine (HRS.out _ hHeld.2.out.ws).mono ?_
          rintro e1 w2 ⟨rfl, hb2⟩
          have hS2 := ws_step hb2 hHeld
          clear hb2
          refine ⟨_, rfl, ?_⟩
          clear hHeld
          refine hK.out _ _ hS2 (fun hHeld => ?_)
          clear hK K hS2
          refine norm_ (a' := ?_) ?_ ?_
          rotate_left
          · show Act.put _ (some 49) _ = _
            simp only [Act.put, List.setIfInBounds_toArray, List.set_cons_zero, List.set_cons_succ, i64_w, i32_w]
            rfl
          refine pure_ (i := 3) (N := some 50) (v := .bool false) (a' := ?_) #[true, true, true, true, false, false, false, false, false, false, false, false, false, false, false, false, false] rfl rfl (by kernel_rfl) (fun _ _ _ h => h) (Or.inl ⟨by rfl, ?_⟩) ?_ ?_
          · intro w'
            have heq := HEQ.out
            go_simp
            try simp
          rotate_left
          · simp only [Act.put, List.setIfInBounds_toArray, List.set_cons_zero, List.set_cons_succ, i64_w, i32_w]
            rfl
          refine pure_ (i := 4) (N := some 51) (v := ?_) (a' := ?_) #[true, true, true, true, true, false, false, false, false, false, false, false, false, false, false, false, false] rfl rfl (by kernel_rfl) (fun _ _ _ h => h) (Or.inl ⟨by rfl, ?_⟩) ?_ ?_
          rotate_left
          · intro w'
            go_simp
            with_reducible rfl
          rotate_left
          · simp only [Act.put, List.setIfInBounds_toArray, List.set_cons_zero, List.set_cons_succ, i64_w, i32_w]
            rfl
          refine pure_ (i := 5) (N := some 52) (v := ?_) (a' := ?_) #[true, true, true, true, true, true, false, false, false, false, false, false, false, false, false, false, false] rfl rfl (by kernel_rfl) (fun _ _ _ h => h) (Or.inl ⟨by rfl, ?_⟩) ?_ ?_
          rotate_left
          · intro w'
            go_simp
            with_reducible rfl
          rotate_left
          · simp only [Act.put, List.setIfInBounds_toArray, List.set_cons_zero, List.set_cons_succ, i64_w, i32_w]
            rfl
          refine take_ (i := 7) (N := some 54) (v := .agg C.toArray) (a' := ?_) #[true, true, true, true, true, true, false, true, false, false, false, false, false, false, false, false, false] rfl rfl (by kernel_rfl) (fun _ _ _ h => h) (yieldsIf_load_mid (by rfl) 24 (.tmp 8) rfl gx 0 rfl C _ (fun w' hS => hS.1) hu rfl hi) hHeld ?_ ?_
          rotate_left
          · simp only [Act.put, List.setIfInBounds_toArray, List.set_cons_zero, List.set_cons_succ, i64_w, i32_w]
            rfl
          refine one_ (i := 6) (N := some 53) #[true, true, true, true, true, true, true, true, false, false, false, false, false, false, false, false, false] rfl rfl (by kernel_rfl) (by decide) (fun K hK => ?_)
          refine goes_ Tryd.func15 (by kernel_rfl) rfl #[.pointer (some ⟨g, 0, none⟩)] (by rfl) rfl rfl (by first | rfl | (simp only [List.map_toArray, List.map_cons, List.map_nil]; done) | (simp only [List.map_toArray, List.map_cons, List.map_nil]; rfl)) ?_
          refine (HSM.out _ hHeld.2.out.ws).mono ?_
          rintro e1 w2 ⟨rfl, hb2⟩
          have hS2 := ws_step hb2 hHeld
          clear hb2
          refine ⟨_, rfl, ?_⟩
          clear hHeld
          refine hK.out _ _ hS2 (fun hHeld => ?_)
          clear hK K hS2
          refine norm_ (a' := ?_) ?_ ?_
          rotate_left
          · show Act.put _ (some 53) _ = _
            simp only [Act.put, List.setIfInBounds_toArray, List.set_cons_zero, List.set_cons_succ, i64_w, i32_w]
            rfl
          refine pure_ (i := 8) (N := some 55) (v := .bool false) (a' := ?_) #[true, true, true, true, true, true, true, true, true, false, false, false, false, false, false, false, false] rfl rfl (by kernel_rfl) (fun _ _ _ h => h) (Or.inl ⟨by rfl, ?_⟩) ?_ ?_
          · intro w'
            have heq := HEQ.out
            go_simp
            try simp
          rotate_left
          · simp only [Act.put, List.setIfInBounds_toArray, List.set_cons_zero, List.set_cons_succ, i64_w, i32_w]
            rfl
          refine pure_ (i := 9) (N := some 56) (v := .bool false) (a' := ?_) #[true, true, true, true, true, true, true, true, true, true, false, false, false, false, false, false, false] rfl rfl (by kernel_rfl) (fun _ _ _ h => h) (Or.inl ⟨by rfl, ?_⟩) ?_ ?_
          · intro w'
            go_simp
            try simp
          rotate_left
          · simp only [Act.put, List.setIfInBounds_toArray, List.set_cons_zero, List.set_cons_succ, i64_w, i32_w]
            rfl
          refine pure_ (i := 10) (N := some 57) (v := ?_) (a' := ?_) #[true, true, true, true, true, true, true, true, true, true, true, false, false, false, false, false, false] rfl rfl (by kernel_rfl) (fun _ _ _ h => h) (Or.inl ⟨by rfl, ?_⟩) ?_ ?_
          rotate_left
          · intro w'
            go_simp
            with_reducible rfl
          rotate_left
          · simp only [Act.put, List.setIfInBounds_toArray, List.set_cons_zero, List.set_cons_succ, i64_w, i32_w]
            rfl
          refine pure_ (i := 11) (N := some 58) (v := ?_) (a' := ?_) #[true, true, true, true, true, true, true, true, true, true, true, true, false, false, false, false, false] rfl rfl (by kernel_rfl) (fun _ _ _ h => h) (Or.inl ⟨by rfl, ?_⟩) ?_ ?_
          rotate_left
          · intro w'
            go_simp
            with_reducible rfl
          rotate_left
          · simp only [Act.put, List.setIfInBounds_toArray, List.set_cons_zero, List.set_cons_succ, i64_w, i32_w]
            rfl
          refine pure_ (i := 13) (N := some 60) (v := ?_) (a' := ?_) #[true, true, true, true, true, true, true, true, true, true, true, true, false, true, false, false, false] rfl rfl (by kernel_rfl) (fun _ _ _ h => h) (Or.inl ⟨by rfl, ?_⟩) ?_ ?_
          rotate_left
          · intro w'
            go_simp
            with_reducible rfl
          rotate_left
          · simp only [Act.put, List.setIfInBounds_toArray, List.set_cons_zero, List.set_cons_succ, i64_w, i32_w]
            rfl
          refine pure_ (i := 14) (N := some 61) (v := .int .i64 (M.length : Int)) (a' := ?_) #[true, true, true, true, true, true, true, true, true, true, true, true, false, true, true, false, false] rfl rfl (by kernel_rfl) (fun _ _ _ h => h) (Or.inl ⟨by rfl, ?_⟩) ?_ ?_
          · intro w'
            go_simp
            try simp
          rotate_left
          · simp only [Act.put, List.setIfInBounds_toArray, List.set_cons_zero, List.set_cons_succ, i64_w, i32_w]
            rfl
          refine one_ (i := 12) (N := some 59) #[true, true, true, true, true, true, true, true, true, true, true, true, true, true, true, false, false] rfl rfl (by kernel_rfl) (by decide) (fun K hK => ?_)
          refine goes_ Tryd.func16 (by kernel_rfl) rfl #[.pointer (some ⟨g, 0, none⟩)] (by rfl) rfl rfl (by first | rfl | (simp only [List.map_toArray, List.map_cons, List.map_nil]; done) | (simp only [List.map_toArray, List.map_cons, List.map_nil]; rfl)) ?_
          refine (Len_calls _ _ _ _ _ _ hHeld.2.out.ws.hw.hs).mono ?_
          rintro e1 w2 ⟨rfl, rfl⟩
          have hS2 := hHeld
          refine ⟨_, rfl, ?_⟩
          clear hHeld
          refine hK.out _ _ hS2 (fun hHeld => ?_)
          clear hK K hS2
          refine norm_ (a' := ?_) ?_ ?_
          rotate_left
          · show Act.put _ (some 59) _ = _
            simp only [Act.put, List.setIfInBounds_toArray, List.set_cons_zero, List.set_cons_succ, i64_w, i32_w]
            rfl
          refine pure_ (i := 15) (N := some 62) (v := .bool false) (a' := ?_) #[true, true, true, true, true, true, true, true, true, true, true, true, true, true, true, true, false] rfl rfl (by kernel_rfl) (fun _ _ _ h => h) (Or.inl ⟨by rfl, ?_⟩) ?_ ?_
          · intro w'
            go_simp
            try simp
          rotate_left
          · simp only [Act.put, List.setIfInBounds_toArray, List.set_cons_zero, List.set_cons_succ, i64_w, i32_w]
            rfl
          refine pure_ (i := 16) (N := some 63) (v := .bool false) (a' := ?_) #[true, true, true, true, true, true, true, true, true, true, true, true, true, true, true, true, true] rfl rfl (by kernel_rfl) (fun _ _ _ h => h) (Or.inl ⟨by rfl, ?_⟩) ?_ ?_
          · intro w'
            go_simp
            try simp
          rotate_left
          · simp only [Act.put, List.setIfInBounds_toArray, List.set_cons_zero, List.set_cons_succ, i64_w, i32_w]
            rfl
          refine done_ (by kernel_rfl) ?_
          -- wr]
          have hN0 := HN0.out
          go_wp2
          go_roundw
          case rel => exact ⟨k + 1, by omega, by go_num, ⟨by rw [HMM.out]; exact hHeld.2.out.ws⟩⟩
          case measure => simp [intOf]; omega
    · obtain rfl : k = l0.length := by omega
      have ht := HT.out l0.length
      have hy := HY.out l0.length
      generalize (l0.take l0.length).flatten = M at *
      obtain ⟨C, hCS, hC1, hEQ, hSM, hRS⟩ := ws_sums w g M A4 c4 HG.out hy ht
      have HSM := Aside0.mk hSM
      have HRS := Aside0.mk hRS
      clear hSM hRS hCS hC1 ht hy hlt hk
      go_wp2_with (first | (go_at_call 15; refine (HSM.out _ HW.out).mono ?_; rintro e w2 ⟨rfl, hb2⟩; have HW2 := Aside0.mk (HW.out.step hb2); clear hb2) | (go_at_call 11; refine (HRS.out _ HW2.out).mono ?_; rintro e w3 ⟨rfl, hb3⟩; have HW3 := Aside0.mk (HW2.out.step hb3); clear hb3) | (go_at_call 12; refine (HAW.out _ HW3.out.hw.below).mono ?_; rintro e w4 ⟨rfl, hb4⟩; have HB4 := Aside0.mk (below_step HW3.out.hw.below hb4); clear hb4))
      go_ret
      exact ⟨rfl, HB4.out⟩
end Go.Proofs.YtkimpjlaailhcaaDoor.PA
