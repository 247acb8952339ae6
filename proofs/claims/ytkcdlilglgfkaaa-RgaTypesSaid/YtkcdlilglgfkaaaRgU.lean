/- Rows of cells: the document's Cells, and At. -/
import Derived.Test.YtkcdlilglgfkaaaRgB
set_option linter.unusedVariables false
set_option linter.unusedSimpArgs false
namespace Go.Proofs.Ytkcdlilglgfkaaa.Rg
open Go Go.RowKit Go.Proofs.YtkcdlilglgfkaaaW.PrintWords Go.Proofs.YtkcdlilglgfkaaaW.PrintLast Go.Proofs.YtkcdlilglgfkaaaW.PrintMore Go.Proofs.Ytkcdlilglgfkaaa.PA Go.Proofs.Ytkcdlilglgfkaaa.Ar Go.Proofs.Ytkcdlilglgfkaaa.Sha
/-- What is shown at a place. -/
def atF : List (Idt × Bool) → Int → Idt × Bool
  | [], _ => (z0, false)
  | (i, g) :: r, p => if g = true then atF r p else if p = 0 then (i, true) else atF r (p - 1)
theorem atF_neg : ∀ (l : List (Idt × Bool)) (p : Int), p < 0 → atF l p = (z0, false)
  | [], _, _ => rfl
  | (i, g) :: r, p, h => by
    rw [atF]
    split
    · exact atF_neg r p h
    · rw [if_neg (by omega)]; exact atF_neg r (p - 1) (by omega)
theorem atF_big : ∀ (l : List (Idt × Bool)) (p : Int), (l.length : Int) ≤ p → atF l p = (z0, false)
  | [], _, _ => rfl
  | (i, g) :: r, p, h => by
    rw [List.length_cons] at h
    rw [atF]
    split
    · exact atF_big r p (by omega)
    · rw [if_neg (by omega)]; exact atF_big r (p - 1) (by omega)
theorem at_wrap (l : List (Idt × Bool)) (p : Int) (hl : l.length < 100000) (hp : -9223372036854775808 ≤ p ∧ p < 9223372036854775808) (h0 : p ≠ 0) : atF l (p - 1) = atF l (if wrap64 (p - 1) < -1 then -1 else wrap64 (p - 1)) := by
  by_cases h : 0 < p
  · have : wrap64 (p - 1) = p - 1 := by unfold wrap64; omega
    rw [this, if_neg (by omega)]
  · rw [atF_neg l (p - 1) (by omega)]
    by_cases hm : p = -9223372036854775808
    · subst hm
      have : wrap64 (-9223372036854775808 - 1) = 9223372036854775807 := by unfold wrap64; omega
      rw [this, if_neg (by omega), atF_big l _ (by omega)]
    · have : wrap64 (p - 1) = p - 1 := by unfold wrap64; omega
      rw [this]
      split
      · rw [atF_neg l _ (by omega)]
      · rw [atF_neg l _ (by omega)]
theorem wrap_max (p : Int) (hp : -9223372036854775808 ≤ p ∧ p < 9223372036854775808) : -9223372036854775808 ≤ (if wrap64 (p - 1) < -1 then -1 else wrap64 (p - 1)) ∧ (if wrap64 (p - 1) < -1 then -1 else wrap64 (p - 1)) < 9223372036854775808 := by
  split
  · omega
  · unfold wrap64 at *
    omega
def vis (x : Re) : Idt × Bool := (x.id, x.gone)
set_option maxRecDepth 100000 in
set_option maxHeartbeats 4000000 in
theorem RCells_calls (w : World) (v : Value) (R : List Re) (h : OwnD w 0 v R) (hl : R.length < 90000) (n : Nat) (hd : Deep R n z0) (hlen : (belowF n R z0).length < 90000) :
    Calls Try.prog 39 #[.agg #[v]] w fun e w' => ∃ v', e = .returned v' ∧ OwnD w' w.heap.size v' (belowF n R z0) ∧ Below w.heap.size w w' := by
  have HB := Aside0.mk (below_calls n R v z0 hl rfl hd hlen (w.alloc (.cells #[v] TE)) (ownD_below h (below_alloc (Below.refl _ _) _)))
  have HBZ : Aside0 (Try.prog.built TF [] = some (iv z0).toArray) := ⟨by kernel_rfl⟩
  obtain ⟨Z, hZ⟩ : ∃ Z, (iv z0).toArray = Z := ⟨_, rfl⟩
  rw [hZ] at HB HBZ
  have k0 : (w.alloc (.cells #[v] TE)).cell? ⟨w.heap.size, 0, none⟩ = some v := (blk_cell (blk_new w _) 0).trans rfl
  have hb0 : Below w.heap.size w (w.alloc (.cells #[v] TE)) := below_alloc (Below.refl _ _) _
  have HB0 := Aside0.mk hb0
  clear hZ h hb0
  go_enter Try.func39, Try.ntmps39
  go_wp2_with (first | ((with_reducible refine gate_ (Op.build TF #[]) rfl ?_); refine wpList_build_as rfl TF _ rfl [] (by first | rfl | simp) Z HBZ.out ?_) | (go_at_call 47; refine HB.out.mono ?_; rintro e w2 ⟨v', rfl, ho, hb⟩; have HO := Aside0.mk ho; have HB2 := Aside0.mk hb; clear ho hb))
  go_ret
  exact ⟨_, rfl, ownD_low HO.out HB0.out.size, below_step HB0.out HB2.out⟩
/-- A box and a result's place. -/
structure B2 (w : World) (v : Value) (Z : Array Value) (W : World) : Prop where
  bel : Below w.heap.size w W
  b0 : W.heap[w.heap.size]? = some (.cells #[v] TE (0, 0))
  b1 : W.heap[w.heap.size + 1]? = some (.cells Z TF (0, 0))
theorem B2.step {w W w1 : World} {v : Value} {Z : Array Value} (h : B2 w v Z W) (hb : Below W.heap.size W w1) : B2 w v Z w1 := ⟨below_step h.bel hb, blk_below h.b0 hb, blk_below h.b1 hb⟩
theorem B2.put1 {w W : World} {v : Value} {Z : Array Value} (h : B2 w v Z W) (cs : Array Value) : B2 w v cs (W.setRow (w.heap.size + 1) cs) :=
  ⟨below_setRow h.bel (by omega) _, (setRow_other W _ _ cs (by omega)).trans h.b0, blk_row h.b1 _⟩
set_option maxRecDepth 100000 in
set_option maxHeartbeats 4000000 in
theorem RAt_calls (w : World) (v : Value) (R : List Re) (h : OwnD w 0 v R) (hl : R.length < 90000) (n : Nat) (hd : Deep R n z0) (hlen : (belowF n R z0).length < 90000) (p : Int) (hp : (Lit.int .i64 p).wf = true) :
    Calls Try.prog 25 #[.agg #[v], .int .i64 p] w fun e w' => e = .returned (.tuple #[.agg (iv (atF ((belowF n R z0).map vis) p).1).toArray, .bool (atF ((belowF n R z0).map vis) p).2]) ∧ Below w.heap.size w w' := by
  have HRC := Aside0.mk (fun W (hW : OwnD W 0 v R) => RCells_calls W v R hW hl n hd hlen)
  have huF := Try.underlying26
  have HZ := Aside0.mk zero_ref
  have HBZ : Aside0 (Try.prog.built TF [] = some (iv z0).toArray) := ⟨by kernel_rfl⟩
  have HZs : Aside0 ((Try.prog.info? TF).map (·.size) = some (iv z0).toArray.size) := ⟨size_ref⟩
  have HZ1 : Aside0 (((iv z0).toArray).all (·.oneCell') = true) := ⟨iv_all z0⟩
  have HZ0 : Aside0 ((iv z0).toArray.size = 33) := ⟨rfl⟩
  obtain ⟨Z, hZ⟩ : ∃ Z, (iv z0).toArray = Z := ⟨_, rfl⟩
  rw [hZ] at HZ HBZ HZs HZ1 HZ0
  have HZE := Aside0.mk hZ
  obtain ⟨T, hT⟩ : ∃ T, belowF n R z0 = T := ⟨_, rfl⟩
  rw [hT] at HRC hlen ⊢
  have HLEN := Aside0.mk hlen
  have HB : Aside0 (B2 w v Z ((w.alloc (.cells #[v] TE)).alloc (.cells Z TF))) := ⟨⟨below_alloc (below_alloc (Below.refl _ _) _) _, blk_alloc (blk_new w _) _, new_at _ _ _ (by simp)⟩⟩
  have HO : Aside0 (OwnD ((w.alloc (.cells #[v] TE)).alloc (.cells Z TF)) 0 v R) := ⟨ownD_below h (below_alloc (below_alloc (Below.refl _ _) _) _)⟩
  have hpp : -9223372036854775808 ≤ p ∧ p < 9223372036854775808 := by
    simp [Lit.wf, IntKind.has, IntKind.min, IntKind.max, IntKind.signed, IntKind.bits] at hp
    omega
  clear h hd hlen hZ hT hp
  go_enter Try.func25, Try.ntmps25
  go_upto_region 1 with ((with_reducible refine gate_ (Op.alloc TF) rfl ?_); refine wpList_alloc_as rfl TF rfl Z HZ.out ?_)
  generalize (w.alloc (.cells #[v] TE)).alloc (.cells Z TF) = w1 at *
  have k0 : w1.cell? ⟨w.heap.size, 0, none⟩ = some v := (blk_cell HB.out.b0 0).trans rfl
  go_upto_region 2 with (go_at_call 39; refine (HRC.out _ HO.out).mono ?_; rintro e w2 ⟨v2, rfl, ho, hb⟩; have HO2 := Aside0.mk ho; have HB2 := Aside0.mk (HB.out.step hb); clear ho hb)
  obtain ⟨A, c, rfl, hlc, -⟩ := Kd.R_reads HO2.out
  clear HB HO HRC k0
  have hTL : T.length < 90000 := HLEN.out
  go_wp2_with fail
  go_loopw [1, 7] (fun q s wr => ∃ (i : Nat) (p' : Int), i ≤ T.length ∧ s = .int .i64 i ∧ q = .int .i64 p' ∧ (-9223372036854775808 ≤ p' ∧ p' < 9223372036854775808) ∧ wr = w2 ∧ Aside0 (atF (T.map vis) p = atF ((T.drop i).map vis) p')) (fun _ s _ => T.length - (intOf s).toNat)
  case atStart => exact ⟨0, p, by omega, rfl, rfl, hpp, rfl, ⟨by rw [List.drop_zero]⟩⟩
  case round =>
    obtain ⟨i, p', hi, rfl, rfl, hp', rfl, HAT⟩ := hrel
    by_cases hlt : i < T.length
    · obtain ⟨x, hx⟩ : ∃ x, T[i]? = some x := ⟨_, List.getElem?_eq_getElem hlt⟩
      have hd : T.drop i = x :: T.drop (i + 1) := by
        rw [List.drop_eq_getElem_cons hlt, (List.getElem?_eq_some_iff.1 hx).2]
      rw [hd, List.map_cons, vis, atF] at HAT
      have hok := HO2.out.okr x (List.mem_of_getElem? hx)
      obtain ⟨gk, cap, cur, he, hg, ht⟩ : ∃ gk cap cur, (.slice A T.length c : Value) = .slice (some ⟨gk, 0, none⟩) T.length cap ∧ wr.heap[gk]? = some (.cells cur TD (0, 0)) ∧ cur.toList.take (T.length * 68) = fr T := by
        rcases ownD_form HO2.out with ⟨_, hn⟩ | ⟨gk, cap, cur, hv, _, h2, _, _, _, h3⟩
        · rw [hn] at hlt; simp at hlt
        · exact ⟨gk, cap, cur, hv, h2, h3⟩
      obtain ⟨rfl, rfl⟩ : A = some ⟨gk, 0, none⟩ ∧ c = cap := by injection he with h1 _ h3; exact ⟨h1, h3⟩
      have kg : wr.cell? ⟨gk, i * 68 + 67, none⟩ = some (.bool x.gone) := by
        rw [blk_cell hg]
        exact curD_at HO2.out.okr ht hx 67 _ (by rw [re, List.getElem?_append_right (by rw [iv_len hok.1]; omega), iv_len hok.1, List.getElem?_append_right (by rw [iv_len hok.2]; omega), iv_len hok.2]; rfl)
      have HG := Aside0.mk hg
      have HCA : Aside0 (∀ j v, (iv x.id)[j]? = some v → cur[i * 68 + j]? = some v) := ⟨fun j v hj => curD_at HO2.out.okr ht hx j v (re_id j v hj)⟩
      have HSF : Aside0 ((Try.prog.info? TF).map (·.size) = some (iv x.id).length) := ⟨by rw [iv_len hok.1]; exact size_ref⟩
      have HF1 : Aside0 ((iv x.id).toArray.all (·.oneCell') = true) := ⟨iv_all x.id⟩
      have HFs : Aside0 ((iv x.id).toArray.size = 33) := ⟨by rw [List.size_toArray, iv_len hok.1]⟩
      obtain ⟨F, hF⟩ : ∃ F, iv x.id = F := ⟨_, rfl⟩
      rw [hF] at HCA HSF HF1 HFs
      have HFE := Aside0.mk hF
      have hsD := size_re
      have t8 : decide ((i : Int) < (T.length : Int)) = true := decide_eq_true (by omega)
      have t9 : ((i : Int) < (T.length : Int)) = True := eq_true (by omega)
      obtain ⟨bg, hbg⟩ : ∃ b, x.gone = b := ⟨_, rfl⟩
      rw [hbg] at kg HAT
      clear hx hok hg ht he hF hbg hd
      cases bg with
      | true =>
        rw [if_pos rfl] at HAT
        go_wp2_with fail
        go_roundw
        case rel => exact ⟨i + 1, p', hlt, by go_num, rfl, hp', by first | trivial | rfl, HAT⟩
        case measure => simp [intOf]; omega
      | false =>
        rw [if_neg (by decide)] at HAT
        by_cases hz : p' = 0
        · rw [if_pos hz] at HAT
          have t1 : (p' == 0) = true := beq_iff_eq.2 hz
          subst hz
          have HBB := Aside0.mk HB2.out.b1
          go_wp2_with (first | ((with_reducible refine gate_ (Op.load TF (.tmp 26)) rfl ?_); refine wpList_load_at rfl TF (.tmp 26) rfl gk (i * 68) rfl TD cur HG.out F HCA.out _ huF rfl HSF.out ?_) | ((with_reducible refine gate_ (Op.store TF (.tmp 4) (.tmp 27)) rfl ?_); refine wpList_store_at rfl TF (.tmp 4) (.tmp 27) rfl (w.heap.size + 1) 0 F.toArray rfl rfl TF Z HBB.out (by rw [HFs.out, HZ0.out]; decide) (by rw [HFs.out]; exact size_ref) HF1.out ?_; rw [splice_all _ _ (by rw [Array.length_toList, Array.length_toList, HFs.out, HZ0.out]), Array.toArray_toList]))
          refine bodyPost_ret (results_ct rfl _ _ (w.heap.size + 1) TF F.toArray (0, 0) _ rfl (HB2.out.put1 _).b1 huF rfl (by rw [HFs.out]; exact size_ref)) rfl ?_
          refine ⟨?_, (HB2.out.put1 _).bel⟩
          rw [HAT.out, HFE.out]
          rfl
        · rw [if_neg hz, at_wrap _ p' (by rw [List.length_map, List.length_drop]; omega) hp' hz] at HAT
          have t1 : (p' == 0) = false := beq_eq_false_iff_ne.2 hz
          have hw := wrap_max p' hp'
          clear hz
          go_wp2_with fail
          go_roundw
          case rel => exact ⟨i + 1, _, hlt, by go_num, rfl, hw, by first | trivial | rfl, HAT⟩
          case measure => simp [intOf]; omega
    · obtain rfl : i = T.length := by omega
      rw [List.drop_of_length_le (Nat.le_refl _)] at HAT
      have HBB := Aside0.mk HB2.out.b1
      go_wp2_with (first | ((with_reducible refine gate_ (Op.build TF #[]) rfl ?_); refine wpList_build_as rfl TF _ rfl [] (by first | rfl | simp) Z HBZ.out ?_) | ((with_reducible refine gate_ (Op.store TF (.tmp 4) (.tmp 31)) rfl ?_); refine store_same rfl TF (.tmp 4) (.tmp 31) rfl (w.heap.size + 1) Z rfl rfl TF HBB.out HZs.out HZ1.out ?_))
      refine bodyPost_ret (results_ct rfl _ _ (w.heap.size + 1) TF Z (0, 0) _ rfl HB2.out.b1 huF rfl HZs.out) rfl ?_
      refine ⟨?_, HB2.out.bel⟩
      rw [HAT.out, ← HZE.out]
      rfl
end Go.Proofs.Ytkcdlilglgfkaaa.Rg
