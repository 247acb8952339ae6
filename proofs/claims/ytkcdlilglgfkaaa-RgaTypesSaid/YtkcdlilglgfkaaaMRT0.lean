/- Own texts of this claim, one behind the other (wip/tools/mergelist.py). -/
import Derived.Test.YtkcdlilglgfkaaaRgMf
import Derived.Test.YtkcdlilglgfkaaaPAx15
/- Rows of cells: what is typed, the plain part. -/
set_option linter.unusedVariables false
set_option linter.unusedSimpArgs false
namespace Go.Proofs.Ytkcdlilglgfkaaa.Rg
open Go Go.RowKit Go.Proofs.YtkcdlilglgfkaaaW.PrintWords Go.Proofs.YtkcdlilglgfkaaaW.PrintLast Go.Proofs.YtkcdlilglgfkaaaW.PrintMore Go.Proofs.Ytkcdlilglgfkaaa.PA Go.Proofs.Ytkcdlilglgfkaaa.Ar Go.Proofs.Ytkcdlilglgfkaaa.Sha
def tid (tp : Int) (j : Nat) : Idt := (tp + 1 + (j : Int), Rg.hb 7)
def tc (tp : Int) (ts : List Int) (j : Nat) : Ce := ⟨tid tp j, ts.getD j 0, false⟩
def typ (tp : Int) (ts : List Int) (j : Nat) : List Ce := (List.range j).map (tc tp ts)
def Lt (L : List Ce) (k : Nat) (tp : Int) (ts : List Int) (j : Nat) : List Ce := L.take k ++ typ tp ts j ++ L.drop k
section
variable {L : List Ce} {k j : Nat} {tp : Int} {ts : List Int}
theorem typ_len : (typ tp ts j).length = j := by unfold typ; rw [List.length_map, List.length_range]
theorem typ_succ : typ tp ts (j + 1) = typ tp ts j ++ [tc tp ts j] := by unfold typ; rw [List.range_succ, List.map_append]; rfl
theorem Lt_zero : Lt L k tp ts 0 = L := by unfold Lt typ; rw [List.range_zero, List.map_nil, List.append_nil, List.take_append_drop]
theorem Lt_len (hk : k ≤ L.length) : (Lt L k tp ts j).length = L.length + j := by
  unfold Lt
  rw [List.length_append, List.length_append, typ_len, List.length_take, List.length_drop]
  omega
theorem Lt_ins (hk : k ≤ L.length) : insAt (Lt L k tp ts j) (k + j) (tc tp ts j) = Lt L k tp ts (j + 1) := by
  have hl : (L.take k ++ typ tp ts j).length = k + j := by rw [List.length_append, typ_len, List.length_take]; omega
  unfold insAt Lt
  rw [List.take_left' hl, List.drop_left' hl, typ_succ, List.append_assoc (L.take k) (typ tp ts j)]
theorem Lt_mem {x : Ce} (h : x ∈ Lt L k tp ts j) : x ∈ L ∨ ∃ i < j, x = tc tp ts i := by
  unfold Lt at h
  rcases List.mem_append.1 h with h | h
  · rcases List.mem_append.1 h with h | h
    · exact Or.inl (List.mem_of_mem_take h)
    · unfold typ at h
      obtain ⟨i, hi, rfl⟩ := List.mem_map.1 h
      exact Or.inr ⟨i, List.mem_range.1 hi, rfl⟩
  · exact Or.inl (List.mem_of_mem_drop h)
theorem Lt_ctr (hL : ∀ x ∈ L, x.id.1 ≤ tp) : ∀ x ∈ Lt L k tp ts j, x.id.1 ≤ tp + j := fun x hx => by
  rcases Lt_mem hx with h | ⟨i, hi, rfl⟩
  · have := hL x h; omega
  · show tp + 1 + (i : Int) ≤ tp + j; omega
def ids (L : List Ce) : List Idt := L.map (·.id)
theorem ins_nd {P : Nat} {c : Ce} (hn : (ids L).Nodup) (hc : c.id ∉ ids L) : (ids (insAt L P c)).Nodup := by
  have hp : (insAt L P c).Perm (c :: L) := by
    unfold insAt
    rw [List.append_assoc, List.singleton_append]
    refine List.perm_middle.trans ?_
    rw [List.take_append_drop]
  unfold ids at *
  exact ((hp.map (·.id)).nodup_iff).2 (List.nodup_cons.2 ⟨hc, hn⟩)
theorem Lt_nd (hk : k ≤ L.length) (hL : ∀ x ∈ L, x.id.1 ≤ tp) (hn : (ids L).Nodup) : ∀ j, (ids (Lt L k tp ts j)).Nodup
  | 0 => by rw [Lt_zero]; exact hn
  | j + 1 => by
    rw [← Lt_ins hk]
    refine ins_nd (Lt_nd hk hL hn j) (fun hm => ?_)
    obtain ⟨x, hx, e⟩ := List.mem_map.1 hm
    have h1 := Lt_ctr hL x hx
    have h2 : x.id.1 = tp + 1 + (j : Int) := by rw [e]; rfl
    omega
theorem at_uniq (hn : (ids L).Nodup) {i i' : Nat} {x x' : Ce} (h : L[i]? = some x) (h' : L[i']? = some x') (e : x.id = x'.id) : i = i' := by
  have h1 : (ids L)[i]? = some x.id := by unfold ids; rw [List.getElem?_map, h]; rfl
  have h2 : (ids L)[i']? = some x.id := by unfold ids; rw [List.getElem?_map, h', e]; rfl
  obtain ⟨hl1, e1⟩ := List.getElem?_eq_some_iff.1 h1
  obtain ⟨hl2, e2⟩ := List.getElem?_eq_some_iff.1 h2
  have hp := List.pairwise_iff_getElem.1 hn
  rcases Nat.lt_trichotomy i i' with h3 | h3 | h3
  · exact absurd (e1.trans e2.symm) (hp i i' hl1 hl2 h3)
  · exact h3
  · exact absurd (e2.trans e1.symm) (hp i' i hl2 hl1 h3)
/-- Behind which one. -/
def aft (a : Idt) (tp : Int) (j : Nat) : Idt := if j = 0 then a else tid tp (j - 1)
theorem Lt_at (hk : k ≤ L.length) {i : Nat} (hi : i < j) : (Lt L k tp ts j)[k + i]? = some (tc tp ts i) := by
  unfold Lt
  have h1 : (L.take k).length = k := by rw [List.length_take]; omega
  rw [List.append_assoc, List.getElem?_append_right (by omega), h1, Nat.add_sub_cancel_left, List.getElem?_append_left (by rw [typ_len]; exact hi)]
  unfold typ
  rw [List.getElem?_map, List.getElem?_range hi]
  rfl
theorem typed_start (hk : k ≤ L.length) (hL : ∀ x ∈ L, x.id.1 ≤ tp) (h0 : 0 ≤ tp) (hn : (ids L).Nodup) {a : Idt} (ha : (a = z0 ∧ k = 0) ∨ (a ≠ z0 ∧ ∃ x, 0 < k ∧ L[k - 1]? = some x ∧ x.id = a)) {st : Nat} (hs : start (Lt L k tp ts j) (aft a tp j) st) : st = k + j := by
  unfold aft at hs
  by_cases hj : j = 0
  · subst hj
    rw [if_pos rfl, Lt_zero] at hs
    rcases hs with ⟨e, rfl⟩ | ⟨e, i, x, rfl, hi, hx⟩
    · rcases ha with ⟨_, rfl⟩ | ⟨e2, _⟩
      · rfl
      · exact absurd e e2
    · rcases ha with ⟨e2, _⟩ | ⟨_, y, hk0, hy, hya⟩
      · exact absurd e2 e
      · have := at_uniq hn hi hy (hx.trans hya.symm)
        omega
  · rw [if_neg hj] at hs
    rcases hs with ⟨e, _⟩ | ⟨_, i, x, rfl, hi, hx⟩
    · have h1 : (tid tp (j - 1)).1 = 0 := by rw [e]; rfl
      have h2 : (tid tp (j - 1)).1 = tp + 1 + ((j - 1 : Nat) : Int) := rfl
      omega
    · have := at_uniq (Lt_nd hk hL hn j) hi (Lt_at hk (show j - 1 < j by omega)) hx
      omega
/-- How many are gone already, told by the numbers. -/
def gj (tp : Int) (j : Nat) (x : Ce) : Ce := if tp < x.id.1 ∧ x.id.1 ≤ tp + j then goneC x else x
theorem gj_id (x : Ce) : (gj tp j x).id = x.id := by unfold gj; split <;> rfl
theorem gj_zero : L.map (gj tp 0) = L := by
  conv => rhs; rw [← List.map_id L]
  refine List.map_congr_left (fun x _ => ?_)
  unfold gj
  rw [if_neg (by omega)]
  rfl
theorem gj_set {i : Nat} {x : Ce} (hn : (ids L).Nodup) (hu : ∀ y ∈ L, y.id.1 = tp + 1 + (j : Int) → y.id = tid tp j) (h : (L.map (gj tp j))[i]? = some x) (hx : x.id = tid tp j) : (L.map (gj tp j)).set i (goneC x) = L.map (gj tp (j + 1)) := by
  refine List.ext_getElem? (fun q => ?_)
  rw [List.getElem?_set]
  rw [List.getElem?_map] at h
  cases hy : L[i]? with
  | none => rw [hy] at h; cases h
  | some y =>
    rw [hy] at h
    obtain rfl : gj tp j y = x := by simpa using h
    rw [gj_id] at hx
    have h1 : y.id.1 = tp + 1 + (j : Int) := by rw [hx]; rfl
    by_cases hq : i = q
    · subst hq
      rw [if_pos rfl, if_pos (by rw [List.length_map]; exact (List.getElem?_eq_some_iff.1 hy).1), List.getElem?_map, hy]
      show some (goneC (gj tp j y)) = some (gj tp (j + 1) y)
      unfold gj
      rw [if_neg (by omega), if_pos (by omega)]
    · rw [if_neg hq, List.getElem?_map, List.getElem?_map]
      cases hz : L[q]? with
      | none => rfl
      | some z =>
        show some (gj tp j z) = some (gj tp (j + 1) z)
        have hne : z.id.1 ≠ tp + 1 + (j : Int) := fun e => hq (at_uniq hn hy hz (hx.trans (hu z (List.mem_of_getElem? hz) e).symm))
        unfold gj
        by_cases h3 : tp < z.id.1 ∧ z.id.1 ≤ tp + j
        · rw [if_pos h3, if_pos (by omega)]
        · rw [if_neg h3, if_neg (by omega)]
theorem textF_filter (M : List Ce) : textF M = (M.filter fun x => !x.gone).map (·.ch) := by
  unfold textF
  generalize 0 = n
  induction M generalizing n with
  | nil => rfl
  | cons x r ih =>
    rw [seen]
    by_cases h : x.gone = true
    · rw [if_pos h, ih, List.filter_cons, if_neg (by rw [h]; decide)]
    · rw [if_neg h, List.filter_cons, if_pos (by simp only [Bool.not_eq_true] at h; rw [h]; rfl), List.map_cons]
      unfold chars at ih ⊢
      rw [List.map_cons, ih]
theorem textF_app (M N : List Ce) : textF (M ++ N) = textF M ++ textF N := by
  rw [textF_filter, textF_filter, textF_filter, List.filter_append, List.map_append]
theorem textF_all {M : List Ce} (h : ∀ x ∈ M, x.gone = false) : textF M = M.map (·.ch) := by
  rw [textF_filter, List.filter_eq_self.2 (fun x hx => by rw [h x hx]; rfl)]
theorem typ_text (n : Nat) (hn : n = ts.length) : textF (typ tp ts n) = ts := by
  rw [textF_all (fun x hx => by unfold typ at hx; obtain ⟨i, _, rfl⟩ := List.mem_map.1 hx; rfl)]
  unfold typ
  rw [List.map_map]
  refine List.ext_getElem? (fun q => ?_)
  rw [List.getElem?_map]
  by_cases h : q < n
  · rw [List.getElem?_range h]
    have hq : q < ts.length := by omega
    rw [List.getElem?_eq_getElem hq]
    show some (ts.getD q 0) = _
    rw [List.getD_eq_getElem?_getD, List.getElem?_eq_getElem hq]
    rfl
  · rw [List.getElem?_eq_none (by rw [List.length_range]; omega), List.getElem?_eq_none (by omega)]
    rfl
theorem Lt_text (hg : ∀ x ∈ L, x.gone = false) : textF (Lt L k tp ts ts.length) = (textF L).take k ++ ts ++ (textF L).drop k := by
  unfold Lt
  rw [textF_app, textF_app, typ_text _ rfl, textF_all (fun x hx => hg x (List.mem_of_mem_take hx)), textF_all (fun x hx => hg x (List.mem_of_mem_drop hx)), textF_all hg, List.map_take, List.map_drop]
theorem gone_text (hL : ∀ x ∈ L, x.id.1 ≤ tp) : textF ((Lt L k tp ts j).map (gj tp j)) = textF L := by
  have h1 : ∀ M : List Ce, (∀ x ∈ M, x.id.1 ≤ tp) → M.map (gj tp j) = M := fun M hM => by
    conv => rhs; rw [← List.map_id M]
    refine List.map_congr_left (fun x hx => ?_)
    unfold gj
    rw [if_neg (by have := hM x hx; omega)]
    rfl
  have h2 : textF ((typ tp ts j).map (gj tp j)) = [] := by
    rw [textF_filter, List.filter_eq_nil_iff.2 (fun x hx => ?_)]
    · rfl
    · obtain ⟨y, hy, rfl⟩ := List.mem_map.1 hx
      unfold typ at hy
      obtain ⟨i, hi, rfl⟩ := List.mem_map.1 hy
      have hi := List.mem_range.1 hi
      unfold gj
      rw [if_pos (by show tp < tp + 1 + (i : Int) ∧ tp + 1 + (i : Int) ≤ tp + j; omega)]
      simp [goneC]
  unfold Lt
  rw [List.map_append, List.map_append, textF_app, textF_app, h2, h1 _ (fun x hx => hL x (List.mem_of_mem_take hx)), h1 _ (fun x hx => hL x (List.mem_of_mem_drop hx)), List.append_nil, ← textF_app, List.take_append_drop]
end
theorem str_app (a b : List Int) : strOfNums (a ++ b) = strOfNums a ++ strOfNums b := by
  apply ByteArray.ext
  simp [strOfNums]
theorem str_take (l : List Int) (k : Nat) (hk : k ≤ l.length) : (strOfNums l).extract 0 k = strOfNums (l.take k) := by
  apply ByteArray.ext
  simp [strOfNums, List.map_take]
theorem str_drop (l : List Int) (k : Nat) (hk : k ≤ l.length) : (strOfNums l).extract k (strOfNums l).size = strOfNums (l.drop k) := by
  apply ByteArray.ext
  rw [strOfNums_size]
  simp [strOfNums, List.map_drop]
  rw [List.take_of_length_le (by simp)]
def topF (R : List Re) : Int := R.foldl (fun t x => max t x.id.1) 0
theorem topF_snoc (R : List Re) (x : Re) : topF (R ++ [x]) = max (topF R) x.id.1 := by unfold topF; rw [List.foldl_append]; rfl
theorem fold_ge : ∀ (R : List Re) (t : Int), t ≤ R.foldl (fun t x => max t x.id.1) t ∧ ∀ x ∈ R, x.id.1 ≤ R.foldl (fun t x => max t x.id.1) t
  | [], t => ⟨Int.le_refl _, fun x hx => by simp at hx⟩
  | y :: r, t => by
    rw [List.foldl_cons]
    obtain ⟨h1, h2⟩ := fold_ge r (max t y.id.1)
    refine ⟨by omega, fun x hx => ?_⟩
    rcases List.mem_cons.1 hx with rfl | hx
    · omega
    · exact h2 x hx
theorem fold_le : ∀ (R : List Re) (t B : Int), t ≤ B → (∀ x ∈ R, x.id.1 ≤ B) → R.foldl (fun t x => max t x.id.1) t ≤ B
  | [], t, B, h, _ => h
  | y :: r, t, B, h, hR => by
    rw [List.foldl_cons]
    have := hR y (by simp)
    exact fold_le r _ B (by omega) (fun x hx => hR x (by simp [hx]))
theorem own_blk {W W1 : World} {b : Nat} {v : Value} {L : List Ce} (h : Own W b v L) (hk : ∀ k, v.ownBlock = some k → W1.heap[k]? = W.heap[k]?) : Own W1 b v L := by
  obtain ⟨⟨h0, ho⟩, hok⟩ := own_raw h
  refine raw_own ⟨h0, ?_⟩ hok
  rcases ho with h1 | ⟨g, cap, cur, h1, h2, h3, h4⟩
  · exact Or.inl h1
  · exact Or.inr ⟨g, cap, cur, h1, h2, (hk g (by rw [h1]; rfl)).trans h3, h4⟩
theorem Rw.low {w wb W : World} {gr gm : Nat} {L : List Ce} {M : List Idt} {v : Value} (h : Rw wb gr gm L M v W) (hb : Below w.heap.size w wb) : Rw w gr gm L M v W :=
  ⟨below_step hb h.below, h.pb, own_low h.row hb.size, h.mb, ⟨Nat.le_trans hb.size h.g0.1, Nat.le_trans hb.size h.g0.2⟩, h.oks, h.same⟩
theorem adv_top {L : List Ce} {i : Idt} (h : ∀ x ∈ L, lessI i x.id = false) (j : Nat) : adv L i j = j := by
  unfold adv
  cases hd : L.drop j with
  | nil => rfl
  | cons x l =>
    have hx : x ∈ L := List.mem_of_mem_drop (hd ▸ (by simp : x ∈ x :: l) : x ∈ L.drop j)
    rw [List.takeWhile_cons, if_neg (by rw [h x hx]; decide)]
    rfl
/-- The row, and the id behind which is typed. -/
structure Ts (w : World) (gr gm : Nat) (L : List Ce) (a : Idt) (g11 : Nat) (W : World) : Prop where
  ex : ∃ M v, Rw w gr gm L M v W
  c11 : W.heap[g11]? = some (.cells (iv a).toArray TI (0, 0))
  n11 : w.heap.size ≤ g11
section
variable {w w1 W : World} {gr gm g11 g15 : Nat} {L : List Ce} {a : Idt}
theorem Ts.step (h : Ts w gr gm L a g11 W) (hb : Below W.heap.size W w1) : Ts w gr gm L a g11 w1 := by
  obtain ⟨⟨M, v, hR⟩, h2, h3⟩ := h
  exact ⟨⟨M, v, hR.step hb⟩, blk_below h2 hb, h3⟩
theorem Ts.bel (h : Ts w gr gm L a g11 W) : Below w.heap.size w W := by obtain ⟨⟨M, v, hR⟩, _⟩ := h; exact hR.below
theorem own_ty2 {w0 : World} {M : List Idt} {v : Value} (h : Rw w0 gr gm L M v W) {k : Nat} (hk : Xo gr gm v k) : ¬ Ty W TI k ∧ True := ⟨(own_ty h hk).2.2.2.2, trivial⟩
def ST1 (w : World) (gr gm : Nat) (L : List Ce) (g11 g15 : Nat) (X Y : List Value) (ad : Addr) (ch : Int) (W : World) : Prop :=
  W.rangeAt g11 0 X ∧ W.rangeAt g15 0 Y ∧ W.cell? ad = some (.int .u8 ch)
def ST2 (w : World) (gr gm : Nat) (L : List Ce) (A1 : Option Addr) (ts : List Int) (W : World) : Prop := Kd.C (Kd.int .u8) W A1 ts.length ts ∧ Aside0 (∃ M v, Rw w gr gm L M v W)
theorem ST2.step {A1 : Option Addr} {ts : List Int} (h : ST2 w gr gm L A1 ts W) (hb : Below W.heap.size W w1) : ST2 w gr gm L A1 ts w1 := by
  obtain ⟨h1, ⟨M, v, h2⟩⟩ := h
  exact ⟨Kd.C_below h1 hb, ⟨⟨M, v, h2.step hb⟩⟩⟩
theorem st2_of {A1 : Option Addr} {ts : List Int} (h : ST2 w gr gm L A1 ts W) (hb : Below W.heap.size W w1) : ST2 w gr gm L A1 ts w1 := h.step hb
theorem rw_row {w0 W : World} {gr gm g : Nat} {L : List Ce} {M : List Idt} {v : Value} {C : Array Value} {T : TypeId} (h : Rw w0 gr gm L M v W) (hg : W.heap[g]? = some (.cells C T (0, 0))) (hT : T ≠ TR ∧ T ≠ TC) (hw : w0.heap.size ≤ g) (X : Array Value) : Rw w0 gr gm L M v (W.setRow g X) := by
  have hn : ∀ {k : Nat}, k ≠ g → (W.setRow g X).heap[k]? = W.heap[k]? := fun {k} hk => setRow_other W g k X hk
  refine ⟨below_setRow h.below hw X, (hn (fun e => hT.1 (Ty.ne ⟨_, hg⟩ (e ▸ (⟨_, h.pb⟩ : Ty W TR gr))))).trans h.pb, ?_, (hn (fun e => ?_)).trans h.mb, h.g0, h.oks, h.same⟩
  · exact own_blk h.row (fun k hk => hn (fun e => hT.2 (Ty.ne ⟨_, hg⟩ (e ▸ (own_block h.row k hk).1))))
  · have h2 := h.mb
    rw [e, hg] at h2
    cases h2
theorem Ts.put {b : Idt} (h : Ts w gr gm L a g11 W) : Ts w gr gm L b g11 (W.setRow g11 (iv b).toArray) := by
  obtain ⟨⟨M, v, hR⟩, h2, h3⟩ := h
  exact ⟨⟨M, v, rw_row hR h2 (by decide) h3 _⟩, blk_row h2 _, h3⟩
theorem conv_run85 {o : Oper} {a : Act} {w : World} {A : Option Addr} {n c : Nat} {xs : List Int} (ho : o.op = .convert 34 9 (.tmp 85)) (hx : a.eval (.tmp 85) = .slice A n c) (h : Kd.C (Kd.int .u8) w A n xs) : (execOp a.eval o).run Try.prog w = .ok (.value (.string (strOfNums xs))) w := by
  unfold execOp
  simp only [ho, hx, Sem.run_bind, Kd.C_string (src := 34) (dst := 9) (c := c) Try.underlying34 Try.underlying5 Try.underlying9 h, Result.andThen_ok]
  rfl
end
theorem at_all : ∀ {L : List Ce} {i : Nat} {x : Ce}, (∀ y ∈ L, y.gone = false) → L[i]? = some x → atF (L.map visC) (i : Int) = (x.id, true)
  | [], _, _, _, h => by simp at h
  | y :: r, 0, x, hg, h => by
    obtain rfl : y = x := by simpa using h
    rw [List.map_cons, visC, hg y (by simp), atF, if_neg (by decide)]
    rfl
  | y :: r, i + 1, x, hg, h => by
    rw [List.map_cons, visC, hg y (by simp), atF, if_neg (by decide), if_neg (by omega), show ((i + 1 : Nat) : Int) - 1 = (i : Int) by omega]
    exact at_all (fun z hz => hg z (by simp [hz])) (by simpa using h)
/-- The same texts, whatever row. -/
theorem types_ins {w0 W : World} {gr gm : Nat} {LJ : List Ce} {M : List Idt} {v : Value} {a i : Idt} {ch : Int} {st : Nat} (h : Rw w0 gr gm LJ M v W) (hl : LJ.length < 99999) (hoa : okI a) (hoi : okI i) (hb : ¬ (i.1 < 1 ∨ i.1 ≤ a.1)) (hn : ∀ x ∈ LJ, x.id ≠ i) (ha : a = z0 ∨ ∃ x ∈ LJ, x.id = a) (ht : ∀ x ∈ LJ, lessI i x.id = false) (hs : ∀ j, start LJ a j → j = st) :
    Calls Try.prog 20 #[.pointer (some ⟨gr, 0, none⟩), .agg (iv a).toArray, .agg (iv i).toArray, .int .u8 ch] W fun e w' => e = .returned (.int .i64 0) ∧ ∃ M1 v1, Rw w0 gr gm (insAt LJ st ⟨i, ch, false⟩) M1 v1 w' ∧ Kept W w' (Xo gr gm v) := by
  refine (Insert2_calls h hl hoa hoi).mono ?_
  rintro e w' ⟨c, L1, M1, v1, rfl, hR, hk, _, ho⟩
  rcases ho with ⟨_, _, h1⟩ | ⟨_, _, _, x, hx, h1⟩ | ⟨_, _, _, _, h1, h2⟩ | ⟨rfl, ⟨j, hj, rfl⟩, _⟩
  · exact absurd h1 hb
  · exact absurd h1 (hn x hx)
  · rcases ha with h3 | ⟨x, hx, e⟩
    · exact absurd h3 h1
    · exact absurd e (h2 x hx)
  · obtain rfl := hs j hj
    rw [adv_top ht] at hR
    exact ⟨rfl, M1, v1, hR, hk⟩
theorem ownD_row {w : World} {v : Value} {b : Nat} {L : List Re} (h : OwnD w b v L) {g : Nat} {C : Array Value} {T : TypeId} (hg : w.heap[g]? = some (.cells C T (0, 0))) (hT : T ≠ TD) (X : Array Value) : OwnD (w.setRow g X) b v L := by
  obtain ⟨⟨h0, ho⟩, hk⟩ := ownD_raw h
  refine raw_ownD ⟨h0, ?_⟩ hk
  rcases ho with h1 | ⟨gk, cap, cur, h1, h2, h3, h4⟩
  · exact Or.inl h1
  · refine Or.inr ⟨gk, cap, cur, h1, h2, (setRow_other w g gk X (fun e => ?_)).trans h3, h4⟩
    rw [e] at h3
    exact hT (Ty.ne ⟨_, hg⟩ ⟨_, h3⟩)
theorem below_sub : ∀ (n : Nat) (R : List Re) (i : Idt) (x : Re), x ∈ belowF n R i → x ∈ R
  | 0, _, _, _, h => by simp [belowF] at h
  | n + 1, R, i, x, h => by
    rw [belowF] at h
    obtain ⟨c, hc, hx⟩ := List.mem_flatMap.1 h
    rcases List.mem_cons.1 hx with rfl | hx
    · exact (mem_kids.1 hc).1
    · exact below_sub n R c.id x hx
theorem tell_here {R : List Re} {L : List Ce} (h : ∀ x ∈ R, x.gone = false) (_ : Alike L R) : ∀ q ∈ tellF R, (toC q).gone = false := fun q hq => h q (below_sub _ _ _ q hq)
set_option maxRecDepth 100000 in
set_option maxHeartbeats 8000000 in
theorem types_calls (A0 : Option Addr) (c0 : Nat) (l0 : List S46) (A1 : Option Addr) (c1 : Nat) (ts : List Int) (ps : Int) (w : World) (hr0 : Kd.C k46 w A0 l0.length l0) (hc0 : l0.length ≤ c0) (hr1 : Kd.C (Kd.int .u8) w A1 ts.length ts) (hX : ∀ x ∈ l0, PutOk x) (hps : 0 ≤ ps ∧ ps < 256) :
    Calls Try.prog 7 #[.slice A0 l0.length c0, .slice A1 ts.length c1, .int .u8 ps] w fun e w' => e = .returned (.bool true) ∧ Below w.heap.size w w' := by
  have HX := Aside0.mk hX
  have HR := Aside0.mk hr0
  have HR1 := Aside0.mk hr1
  have HFW := Aside0.mk (stemmalaw11_few.calls A0 c0 l0 _ w hr0 hc0 rfl)
  have hmax1 : ts.length ≤ 9223372036854775807 := hr1.2.1
  clear hr0 hc0 hr1 hX
  by_cases hfew : (l0.length : Int) ≤ 120
  · rw [decide_eq_true hfew] at HFW
    by_cases htx : (100 : Int) < (ts.length : Int)
    · have t1 : decide ((100 : Int) < (ts.length : Int)) = true := decide_eq_true htx
      clear hfew
      go_enter Try.func7, Try.ntmps7
      go_wp2_with (first | (go_at_call 15; refine HFW.out.mono ?_; rintro e w1 ⟨rfl, hd⟩; have HB1 := Aside0.mk hd.below; clear hd) | (go_at_call 14; refine (awake_calls _).mono ?_; rintro e w2 ⟨rfl, hb⟩; have HB2 := Aside0.mk (HB1.out.trans (hb.mono HB1.out.size)); clear hb))
      go_ret
      exact ⟨rfl, HB2.out⟩
    · have t1 : decide ((100 : Int) < (ts.length : Int)) = false := decide_eq_false htx
      have HN : Aside0 (l0.length ≤ 120) := ⟨by omega⟩
      have HTN : Aside0 (ts.length ≤ 100) := ⟨by omega⟩
      have huI := Try.underlying28
      have HZ := Aside0.mk zero_id
      have HZs : Aside0 ((iv z0).toArray.size = 33) := ⟨rfl⟩
      obtain ⟨Z, hZe⟩ : ∃ Z, (iv z0).toArray = Z := ⟨_, rfl⟩
      rw [hZe] at HZ HZs
      have HZE := Aside0.mk hZe
      clear hfew hZe
      go_enter Try.func7, Try.ntmps7
      go_upto_region 4 with (first | (go_at_call 15; refine HFW.out.mono ?_; rintro e w1 ⟨rfl, hd⟩; have HB1 := Aside0.mk hd.below; clear hd) | (go_at_call 16; refine (tame_calls A0 c0 l0 w1 (Kd.C_below HR.out HB1.out) HN.out HX.out).mono ?_; rintro e w2 ⟨v2, R, rfl, hO, hT, hb⟩; have HO := Aside0.mk hO; have HT := Aside0.mk hT; have HB2 := Aside0.mk (below_step HB1.out hb); clear hO hT hb))
      clear HB1 HFW HX HR t1 htx
      obtain ⟨A2, c2, rfl⟩ := Kd.R_slice HO.out
      obtain ⟨L0, hL0⟩ := HT.out.al
      have hRl : R.length ≤ 120 := by have := HT.out.len; have := HN.out; omega
      have HF1 := Aside0.mk (filled_calls (L0 := L0) A2 c2 R none 0 [] w2 (Kd.R_reads' HO.out).2.2 (Kd.R_reads' (Kd.R_nil (Kd.int .u8) 5 w2 0 (fun _ => True))).2.2 (by omega) (fun x hx => by simp at hx) hL0 HT.out.here)
      obtain ⟨L, hLL⟩ : ∃ LL, (tellF R).map toC = LL := ⟨_, rfl⟩
      have hAL : Alike L R := by rw [← hLL, ← hL0.eq]; exact hL0
      have HAL := Aside0.mk hAL
      have hLl : L.length = R.length := hAL.size
      have HHERE : Aside0 (∀ x ∈ L, x.gone = false) := ⟨fun x hx => by
        rw [← hLL] at hx
        obtain ⟨q, hq, rfl⟩ := List.mem_map.1 hx
        obtain ⟨q2, hq2, e2⟩ := mem_ids.1 ((hL0.same q.id).1 (mem_ids.2 ⟨q, hq, rfl⟩))
        exact tell_here HT.out.here hL0 q hq⟩
      have HND : Aside0 ((ids L).Nodup) := ⟨by
        rw [← hLL]
        unfold ids
        rw [List.map_map]
        exact hL0.ndT⟩
      rw [hLL] at HF1
      have HLl := Aside0.mk hLl
      clear hL0 hLL hLl hAL
      go_upto_region 5 with (go_at_call 17; refine HF1.out.mono ?_; rintro e w3 ⟨gr, gm, M, v, rfl, hR⟩; have HRa := Aside0.mk (hR.low HB2.out); have HO3 := Aside0.mk (ownD_below HO.out hR.below); clear hR HF1)
      clear HO HB2
      have HTX := Aside0.mk (Text_calls HRa.out (by rw [HLl.out]; omega))
      have htl : (textF L).length = L.length := by rw [textF_all HHERE.out, List.length_map]
      obtain ⟨S0, hS0⟩ : ∃ S, strOfNums (textF L) = S := ⟨_, rfl⟩
      have hSz : S0.size = R.length := by rw [← hS0, strOfNums_size, htl, HLl.out]
      have HS0 := Aside0.mk hS0
      have HTL := Aside0.mk htl
      clear htl
      go_upto_region 6 with (go_at_call 26; refine HTX.out.mono ?_; rintro e w4 ⟨A3, c3, rfl, hC, hb⟩; have s1 := Kd.C_string (src := 34) (dst := 9) (c := c3) Try.underlying34 Try.underlying5 Try.underlying9 hC; rw [HS0.out] at s1; have HR4 := Aside0.mk (HRa.out.step hb); have HO4 := Aside0.mk (ownD_below HO3.out hb); clear hC hb)
      clear HTX s1 HRa HO3 hS0
      have hrem := rem_nat ps R.length hps
      have hkn : ps.toNat % (R.length + 1) ≤ R.length := by have := Nat.mod_lt ps.toNat (show 0 < R.length + 1 by omega); omega
      generalize ps.toNat % (R.length + 1) = k at hrem hkn
      clear hps
      have hwn : wrap64 ((R.length : Int) + 1) = (R.length : Int) + 1 := by unfold wrap64; omega
      go_upto_region 7 with fail
      clear hrem hwn
      go_upto_region 8 with ((with_reducible refine gate_ (Op.alloc TI) rfl ?_); refine wpList_alloc_as rfl TI rfl Z HZ.out ?_)
      have hb5 : Below w4.heap.size w4 (w4.alloc (.cells Z TI)) := below_alloc (Below.refl _ _) _
      have HC5 : Aside0 (Ts w gr gm L z0 w4.heap.size (w4.alloc (.cells Z TI))) := ⟨⟨⟨M, v, HR4.out.step hb5⟩, by rw [HZE.out]; exact blk_new w4 _, HR4.out.below.size⟩⟩
      have HO5 := Aside0.mk (ownD_below HO4.out hb5)
      have HAT := Aside0.mk (At_calls (HR4.out.step hb5) (by rw [HLl.out]; omega) ((k - 1 : Nat) : Int))
      clear HR4 HO4 hb5
      generalize w4.alloc (.cells Z TI) = w5 at *
      generalize w4.heap.size = g11 at *
      go_upto_if 40 with fail
      go_cut [] from 39 to 48 (fun wy => Aside0 ((∃ a, ((a = z0 ∧ k = 0) ∨ (a ≠ z0 ∧ ∃ x, 0 < k ∧ L[k - 1]? = some x ∧ x.id = a)) ∧ Ts w gr gm L a g11 wy) ∧ OwnD wy 0 (.slice A2 R.length c2) R))
      case first =>
        by_cases hk0 : k = 0
        · have HC6 : Aside0 ((∃ a, ((a = z0 ∧ k = 0) ∨ (a ≠ z0 ∧ ∃ x, 0 < k ∧ L[k - 1]? = some x ∧ x.id = a)) ∧ Ts w gr gm L a g11 w5) ∧ OwnD w5 0 (.slice A2 R.length c2) R) := ⟨⟨z0, Or.inl ⟨rfl, hk0⟩, HC5.out⟩, HO5.out⟩
          have t2 : decide ((0 : Int) < (k : Int)) = false := decide_eq_false (by omega)
          have t3 : ((0 : Int) < (k : Int)) = False := eq_false (by omega)
          have t4 : (0 < k) = False := eq_false (by omega)
          go_wp2_with fail
          go_meet
          exact HC6
        · obtain ⟨x, hx⟩ : ∃ x, L[k - 1]? = some x := ⟨_, List.getElem?_eq_getElem (by rw [HLl.out]; omega)⟩
          have hxz : x.id ≠ z0 := fun e => by
            obtain ⟨q, hq, e2⟩ := (HAL.out.mem x.id).1 ⟨x, List.mem_of_getElem? hx, rfl⟩
            have h1 := HAL.out.pos q hq
            rw [e2, e] at h1
            exact absurd h1 (by decide)
          have hxo : x.id.2.length = 32 := by
            obtain ⟨q, hq, e2⟩ := (HAL.out.mem x.id).1 ⟨x, List.mem_of_getElem? hx, rfl⟩
            rw [← e2]; exact (HAL.out.ok q hq).2.1
          have hat := at_all HHERE.out hx
          rw [hat] at HAT
          have hk1 : ((k : Int) - 1) = ((k - 1 : Nat) : Int) := by omega
          have HKe := Aside0.mk hk1
          have hk2 : wrap64 ((k : Int) - 1) = (k : Int) - 1 := by unfold wrap64; omega
          clear hk1
          have HX1 : Aside0 ((iv x.id).toArray.all (·.oneCell') = true) := ⟨iv_all _⟩
          have HXs : Aside0 ((iv x.id).toArray.size = 33) := ⟨by rw [List.size_toArray, iv_len hxo]⟩
          have HXX := Aside0.mk (And.intro hx hxz)
          obtain ⟨X, hXe⟩ : ∃ X, (iv x.id).toArray = X := ⟨_, rfl⟩
          rw [hXe] at HAT HX1 HXs
          have HXe := Aside0.mk hXe
          have t2 : decide ((0 : Int) < (k : Int)) = true := decide_eq_true (by omega)
          have t3 : ((0 : Int) < (k : Int)) = True := eq_true (by omega)
          have t4 : (0 < k) = True := eq_true (by omega)
          clear hx hxz hxo hat hXe
          go_wp2_with (first | (go_at_call 24; rw [HKe.out]; refine HAT.out.mono ?_; rintro e w6 ⟨rfl, hb⟩; have HC6 := Aside0.mk (HC5.out.step hb); have HO6 := Aside0.mk (ownD_below HO5.out hb); clear hb) | ((with_reducible refine gate_ (Op.store TI (.tmp 11) (.tmp 46)) rfl ?_); refine wpList_store_at rfl TI (.tmp 11) (.tmp 46) rfl g11 0 X rfl rfl TI Z (by rw [← HZE.out]; exact HC6.out.c11) (by rw [HXs.out, HZs.out]; decide) (by rw [HXs.out]; exact size_id) HX1.out ?_; rw [splice_all _ _ (by rw [Array.length_toList, Array.length_toList, HXs.out, HZs.out]), Array.toArray_toList]))
          have HC7 : Aside0 (Ts w gr gm L x.id g11 (w6.setRow g11 X)) := ⟨by rw [← HXe.out]; exact HC6.out.put⟩
          have HO7 : Aside0 (OwnD (w6.setRow g11 X) 0 (.slice A2 R.length c2) R) := ⟨ownD_row HO6.out HC6.out.c11 (by decide) X⟩
          go_meet
          exact ⟨⟨x.id, Or.inr ⟨HXX.out.2, x, by omega, HXX.out.1, rfl⟩, HC7.out⟩, HO7.out⟩
      case rest =>
        obtain ⟨⟨a, haa, hTa⟩, hOa⟩ := hcut.out
        have HAA := Aside0.mk haa
        have HTA := Aside0.mk hTa
        have HOA := Aside0.mk hOa
        clear haa hTa hOa hcut HC5 HO5 HAT
        go_upto_region 12 with fail
        go_loopw [12, 13] (fun t i wr => ∃ j nq : Nat, j ≤ R.length ∧ i = .int .i64 j ∧ t = .int .i64 (topF (R.take j)) ∧ wr = wc.drewN nq) (fun _ i _ => R.length - (intOf i).toNat)
        case atStart => exact ⟨0, 0, by omega, rfl, rfl, rfl⟩
        case round =>
          obtain ⟨j, nq0, hj, rfl, rfl, rfl⟩ := hrel
          by_cases hlt : j < R.length
          · obtain ⟨x, hx⟩ : ∃ x, R[j]? = some x := ⟨_, List.getElem?_eq_getElem hlt⟩
            have hts : R.take (j + 1) = R.take j ++ [x] := by rw [List.take_add_one, hx]; rfl
            have hsn := topF_snoc (R.take j) x
            rw [← hts] at hsn
            obtain ⟨gk, cap, cur, he, hg, ht⟩ : ∃ gk cap cur, (.slice A2 R.length c2 : Value) = .slice (some ⟨gk, 0, none⟩) R.length cap ∧ wc.heap[gk]? = some (.cells cur TD (0, 0)) ∧ cur.toList.take (R.length * 68) = fr R := by
              rcases ownD_form HOA.out with ⟨_, hn⟩ | ⟨gk, cap, cur, hv, _, h2, _, _, _, h3⟩
              · rw [hn] at hlt; simp at hlt
              · exact ⟨gk, cap, cur, hv, h2, h3⟩
            obtain ⟨rfl, rfl⟩ : A2 = some ⟨gk, 0, none⟩ ∧ c2 = cap := by injection he with h1 _ h3; exact ⟨h1, h3⟩
            have kt : (wc.drewN nq0).cell? ⟨gk, j * 68, none⟩ = some (.int .i64 x.id.1) := by
              rw [show (wc.drewN nq0).cell? ⟨gk, j * 68, none⟩ = wc.cell? ⟨gk, j * 68, none⟩ from rfl, blk_cell hg]
              have := curD_at HOA.out.okr ht hx 0 (.int .i64 x.id.1) (re_id 0 _ rfl)
              rwa [Nat.add_zero] at this
            have hsD := size_re
            have t8 : decide ((j : Int) < (R.length : Int)) = true := decide_eq_true (by omega)
            have t9 : ((j : Int) < (R.length : Int)) = True := eq_true (by omega)
            generalize x.id.1 = nn at *
            generalize topF (R.take j) = tp at *
            clear hx hts he hg ht
            go_wp2_with fail
            go_roundw
            case rel => exact ⟨j + 1, _, hlt, by go_num, by rw [hsn]; congr 1; split <;> omega, rfl⟩
            case measure => simp [intOf]; omega
          · obtain rfl : j = R.length := by omega
            rw [List.take_of_length_le (Nat.le_refl _)]
            obtain ⟨tp, htp⟩ : ∃ t, topF R = t := ⟨_, rfl⟩
            have htb : 0 ≤ tp ∧ tp ≤ 480 := by
              rw [← htp]
              exact ⟨(fold_ge R 0).1, fold_le R 0 480 (by omega) (fun x hx => by have h1 := HT.out.num x hx; have h2 := HN.out; omega)⟩
            have HTP : Aside0 (∀ x ∈ L, x.id.1 ≤ tp) := ⟨fun x hx => by
              obtain ⟨q, hq, e⟩ := (HAL.out.mem x.id).1 ⟨x, hx, rfl⟩
              rw [← e, ← htp]; exact (fold_ge R 0).2 q hq⟩
            rw [htp]
            have HTd : Aside0 (Ts w gr gm (Lt L k tp ts 0) (aft a tp 0) g11 (wc.drewN nq0)) := ⟨by rw [Lt_zero]; exact HTA.out.step (pw_below_drewN (Below.refl _ _) nq0)⟩
            clear htp HTA HOA hj hlt
            generalize wc.drewN nq0 = wt at *
            have HKL : Aside0 (k ≤ L.length) := ⟨by rw [HLl.out]; exact hkn⟩
            go_wp2_with fail
            go_loopw [14] (fun i wr => ∃ j : Nat, j ≤ ts.length ∧ i = .int .i64 j ∧ Aside0 (Ts w gr gm (Lt L k tp ts j) (aft a tp j) g11 wr)) (fun i _ => ts.length - (intOf i).toNat)
            case atStart => exact ⟨0, by omega, rfl, HTd⟩
            case round =>
              clear HTd
              obtain ⟨j, hj, rfl, HTj⟩ := hrel
              by_cases hlt : j < ts.length
              · obtain ⟨ad1, ch, hA1, hce, hcx⟩ : ∃ ad x, A1 = some ad ∧ ts[j]? = some x ∧ w.cell? (ad.add j) = some (.int .u8 x) := by
                  obtain ⟨ad, cs, e, _, hK, hc⟩ := Kd.C_get HR1.out (0 : Int) (j : Int) (by omega) (by omega)
                  rw [Int.toNat_natCast] at hK hc
                  refine ⟨ad, ts[j], e, List.getElem?_eq_getElem hlt, ?_⟩
                  have h1 : ts.getD j 0 = ts[j] := by simp [List.getD_eq_getElem?_getD, hlt]
                  rw [h1] at hK
                  have hK : cs = [.int .u8 ts[j]] := hK
                  have := hc 0 (.int .u8 ts[j]) (by rw [hK]; rfl)
                  simp at this
                  rwa [show (Kd.int IntKind.u8).sz = 1 from rfl, Nat.mul_one] at this
                subst hA1
                have hjn : j < 100 := by have := HTN.out; omega
                have htc : tc tp ts j = ⟨tid tp j, ch, false⟩ := by unfold tc; rw [List.getD_eq_getElem?_getD, hce]; rfl
                have HINS : Aside0 (insAt (Lt L k tp ts j) (k + j) ⟨tid tp j, ch, false⟩ = Lt L k tp ts (j + 1)) := ⟨by rw [← htc]; exact Lt_ins HKL.out⟩
                have hot : ∀ i : Nat, i < 200 → okI (tid tp i) := fun i hi => ⟨(wf_iff _).2 (by show -9223372036854775808 ≤ tp + 1 + (i : Int) ∧ tp + 1 + (i : Int) < 9223372036854775808; omega), rfl, hb_bytes (by omega)⟩
                have hoa : okI (aft a tp j) := by
                  unfold aft
                  split
                  · rcases HAA.out with ⟨rfl, _⟩ | ⟨_, x, _, hx, rfl⟩
                    · exact z0_ok
                    · obtain ⟨q, hq, e2⟩ := (HAL.out.mem x.id).1 ⟨x, List.mem_of_getElem? hx, rfl⟩
                      rw [← e2]; exact HAL.out.ok q hq
                  · exact hot _ (by omega)
                have hoi : okI (tid tp j) := hot j (by omega)
                have hctr := Lt_ctr (k := k) (ts := ts) (j := j) HTP.out
                have haj : (aft a tp j).1 ≤ tp + j := by
                  unfold aft
                  split
                  · rcases HAA.out with ⟨rfl, _⟩ | ⟨_, x, _, hx, rfl⟩
                    · show (0 : Int) ≤ _; omega
                    · have := HTP.out x (List.mem_of_getElem? hx); omega
                  · show tp + 1 + ((j - 1 : Nat) : Int) ≤ tp + j; omega
                have hain : aft a tp j = z0 ∨ ∃ x ∈ Lt L k tp ts j, x.id = aft a tp j := by
                  unfold aft
                  by_cases hj0 : j = 0
                  · subst hj0
                    rw [if_pos rfl, Lt_zero]
                    rcases HAA.out with ⟨e, _⟩ | ⟨_, x, _, hx, e⟩
                    · exact Or.inl e
                    · exact Or.inr ⟨x, List.mem_of_getElem? hx, e⟩
                  · rw [if_neg hj0]
                    exact Or.inr ⟨_, List.mem_of_getElem? (Lt_at HKL.out (show j - 1 < j by omega)), rfl⟩
                have hnot : ∀ x ∈ Lt L k tp ts j, x.id ≠ tid tp j := fun x hx e => by
                  have h1 := hctr x hx
                  have h2 : x.id.1 = tp + 1 + (j : Int) := by rw [e]; rfl
                  omega
                have HIN : Aside0 (∀ M v W, Rw w gr gm (Lt L k tp ts j) M v W → Calls Try.prog 20 #[.pointer (some ⟨gr, 0, none⟩), .agg (iv (aft a tp j)).toArray, .agg (iv (tid tp j)).toArray, .int .u8 ch] W fun e w' => e = .returned (.int .i64 0) ∧ ∃ M1 v1, Rw w gr gm (Lt L k tp ts (j + 1)) M1 v1 w' ∧ Kept W w' (Xo gr gm v)) := ⟨fun M v W hW => by
                  have h := types_ins (ch := ch) (st := k + j) hW (by rw [Lt_len HKL.out, HLl.out]; omega) hoa hoi (by show ¬ (tp + 1 + (j : Int) < 1 ∨ tp + 1 + (j : Int) ≤ (aft a tp j).1); omega) hnot hain (fun x hx => lessI_lt (by have h1 := hctr x hx; show x.id.1 < tp + 1 + (j : Int); omega)) (fun j' h' => typed_start HKL.out HTP.out htb.1 HND.out HAA.out h')
                  rwa [HINS.out] at h⟩
                have HBT : Aside0 (Try.prog.built TI [(0, .int .i64 (tp + 1 + (j : Int))), (1, .agg (ns .u8 (Rg.hb 7)))] = some (iv (tid tp j)).toArray) := ⟨built_id (tid tp j) rfl⟩
                have HBH := Aside0.mk (built_hb 7)
                have HYs : Aside0 ((iv (tid tp j)).toArray.size = 33) := ⟨rfl⟩
                have HXs : Aside0 ((iv (aft a tp j)).toArray.size = 33) := ⟨by rw [List.size_toArray, iv_len hoa.2.1]⟩
                have HY1 : Aside0 ((iv (tid tp j)).toArray.all (·.oneCell') = true) := ⟨iv_all _⟩
                have HSX : Aside0 ((Try.prog.info? TI).map (·.size) = some (iv (aft a tp j)).length) := ⟨by rw [iv_len hoa.2.1]; exact size_id⟩
                have HSY : Aside0 ((Try.prog.info? TI).map (·.size) = some (iv (tid tp j)).length) := ⟨size_id⟩
                have hw1 : wrap64 (tp + 1) = tp + 1 := by unfold wrap64; omega
                have hw2 : wrap64 (tp + 1 + (j : Int)) = tp + 1 + (j : Int) := by unfold wrap64; omega
                have t8 : ((j : Int) < (ts.length : Int)) = True := eq_true (by omega)
                have HCX : Aside0 (∀ W, Below w.heap.size w W → W.cell? (ad1.add j) = some (.int .u8 ch)) := ⟨fun W hb => pw_cell_below hb hcx⟩
                generalize hNH : ns .u8 (Rg.hb 7) = NH at *
                obtain ⟨Y, hY⟩ : ∃ Y, iv (tid tp j) = Y := ⟨_, rfl⟩
                obtain ⟨X, hX⟩ : ∃ X, iv (aft a tp j) = X := ⟨_, rfl⟩
                rw [hY] at HBT HYs HY1 HSY HIN
                rw [hX] at HIN HSX HXs
                have HXe := Aside0.mk hX
                have HYe := Aside0.mk hY
                obtain ⟨LJ, hLJ⟩ : ∃ LJ, Lt L k tp ts (j + 1) = LJ := ⟨_, rfl⟩
                rw [hLJ] at HIN
                have HLJ := Aside0.mk hLJ
                clear hce hcx htc hot hoa hoi hctr haj hain hNH hX hY hLJ HINS
                go_upto_region 19 with (first | ((with_reducible refine gate_ (Op.build 23 #[(0, .const (.int .u8 7))]) rfl ?_); refine wpList_build_as rfl 23 _ rfl [(0, .int .u8 7)] (by first | rfl | (simp only [List.map_toArray, List.map_cons, List.map_nil]; rfl)) NH HBH.out ?_) | ((with_reducible refine gate_ (Op.build TI #[(0, .tmp 71), (1, .tmp 72)]) rfl ?_); refine wpList_build_as rfl TI _ rfl [(0, .int .i64 (tp + 1 + (j : Int))), (1, .agg NH)] (by first | rfl | (simp only [List.map_toArray, List.map_cons, List.map_nil]; rfl)) Y.toArray HBT.out ?_) | ((with_reducible refine gate_ (Op.alloc TI) rfl ?_); refine wpList_alloc_as rfl TI rfl Z HZ.out ?_) | ((with_reducible refine gate_ (Op.store TI (.tmp 15) (.tmp 73)) rfl ?_); refine wpList_store_at rfl TI (.tmp 15) (.tmp 73) rfl wr.heap.size 0 Y.toArray rfl rfl TI Z (blk_new wr _) (by rw [HYs.out, HZs.out]; decide) (by rw [List.size_toArray]; exact HSY.out) HY1.out ?_; rw [splice_all _ _ (by rw [Array.length_toList, Array.length_toList, HYs.out, HZs.out]), Array.toArray_toList]))
                have hb3 : Below wr.heap.size wr ((wr.alloc (.cells Z TI)).setRow wr.heap.size Y.toArray) := below_setRow (below_alloc (Below.refl _ _) _) (Nat.le_refl _) _
                have HT3 := Aside0.mk (HTj.out.step hb3)
                have HY : Aside0 (((wr.alloc (.cells Z TI)).setRow wr.heap.size Y.toArray).heap[wr.heap.size]? = some (.cells Y.toArray TI (0, 0))) := ⟨blk_row (blk_new wr _) _⟩
                clear HTj hb3
                generalize (wr.alloc (.cells Z TI)).setRow wr.heap.size Y.toArray = w3 at *
                generalize wr.heap.size = g15 at *
                have HT := HT3
                clear HT3
                have HST1 : Aside0 (∀ W, Ts w gr gm (Lt L k tp ts j) (aft a tp j) g11 W → W.heap[g15]? = some (.cells Y.toArray TI (0, 0)) → ST1 w gr gm LJ g11 g15 X Y (ad1.add j) ch W) := ⟨fun W h hy => ⟨by rw [← HXe.out]; exact range_of0 h.c11, range_of0 hy, HCX.out W h.bel⟩⟩
                -- [r19
                refine start_ (n := 9) (S := ST1 w gr gm LJ g11 g15 X Y (ad1.add j) ch) (ds := [7]) #[false, false, false, false, false, false, false, false, false] (by kernel_rfl) rfl rfl (HST1.out _ (HT.out.step (pw_below_drewN (Below.refl _ _) 1)) (blk_below HY.out (pw_below_drewN (Below.refl _ _) 1))) (fun hHeld => ?_)
                have HYd := Aside0.mk (blk_below HY.out (pw_below_drewN (Below.refl w3.heap.size w3) 1))
                have HTd := Aside0.mk (HT.out.step (pw_below_drewN (Below.refl w3.heap.size w3) 1))
                rw [show w3.drewN 1 = w3.drew from rfl] at HYd HTd
                generalize w3.drew = wd at hHeld HYd HTd ⊢
                clear HT HY
                refine pure_ (i := 0) (N := some 74) (v := ?_) (a' := ?_) #[true, false, false, false, false, false, false, false, false] rfl rfl (by kernel_rfl) (fun _ _ _ h => h) (Or.inl ⟨by rfl, ?_⟩) ?_ ?_
                rotate_left
                · intro w'
                  go_simp
                  with_reducible rfl
                rotate_left
                · simp only [Act.put, List.setIfInBounds_toArray, List.set_cons_zero, List.set_cons_succ, i64_w, i32_w]
                  rfl
                refine take_ (i := 1) (N := some 75) (v := .agg X.toArray) (a' := ?_) #[true, true, false, false, false, false, false, false, false] rfl rfl (by kernel_rfl) (fun _ _ _ h => h) (yieldsIf_load_mid (by rfl) TI (.tmp 11) rfl g11 0 rfl X _ (fun w' hS => hS.1) huI rfl HSX.out) hHeld ?_ ?_
                rotate_left
                · simp only [Act.put, List.setIfInBounds_toArray, List.set_cons_zero, List.set_cons_succ, i64_w, i32_w]
                  rfl
                refine take_ (i := 2) (N := some 76) (v := .agg Y.toArray) (a' := ?_) #[true, true, true, false, false, false, false, false, false] rfl rfl (by kernel_rfl) (fun _ _ _ h => h) (yieldsIf_load_mid (by rfl) TI (.tmp 15) rfl g15 0 rfl Y _ (fun w' hS => hS.2.1) huI rfl HSY.out) hHeld ?_ ?_
                rotate_left
                · simp only [Act.put, List.setIfInBounds_toArray, List.set_cons_zero, List.set_cons_succ, i64_w, i32_w]
                  rfl
                refine pure_ (i := 3) (N := some 77) (v := ?_) (a' := ?_) #[true, true, true, true, false, false, false, false, false] rfl rfl (by kernel_rfl) (fun _ _ _ h => h) (Or.inl ⟨by rfl, ?_⟩) ?_ ?_
                rotate_left
                · intro w'
                  go_simp
                  with_reducible rfl
                rotate_left
                · simp only [Act.put, List.setIfInBounds_toArray, List.set_cons_zero, List.set_cons_succ, i64_w, i32_w]
                  rfl
                refine pure_ (i := 4) (N := some 78) (v := ?_) (a' := ?_) #[true, true, true, true, true, false, false, false, false] rfl rfl (by kernel_rfl) (fun _ _ _ h => h) (Or.inl ⟨by rfl, ?_⟩) ?_ ?_
                rotate_left
                · intro w'
                  go_simp
                  with_reducible rfl
                rotate_left
                · simp only [Act.put, List.setIfInBounds_toArray, List.set_cons_zero, List.set_cons_succ, i64_w, i32_w]
                  rfl
                refine pure_ (i := 5) (N := some 79) (v := ?_) (a' := ?_) #[true, true, true, true, true, true, false, false, false] rfl rfl (by kernel_rfl) (fun _ _ _ h => h) (Or.inl ⟨by rfl, ?_⟩) ?_ ?_
                rotate_left
                · intro w'
                  go_simp
                  with_reducible rfl
                rotate_left
                · simp only [Act.put, List.setIfInBounds_toArray, List.set_cons_zero, List.set_cons_succ, i64_w, i32_w]
                  rfl
                refine take_ (i := 6) (N := some 80) (v := ?_) (a' := ?_) #[true, true, true, true, true, true, true, false, false] rfl rfl (by kernel_rfl) (fun _ _ _ h => h) (Or.inl ⟨by rfl, ?_⟩) hHeld ?_ ?_
                rotate_left
                · rintro w' ⟨_, _, s3⟩
                  go_simp
                  with_reducible rfl
                rotate_left
                · simp only [Act.put, List.setIfInBounds_toArray, List.set_cons_zero, List.set_cons_succ, i64_w, i32_w]
                  rfl
                refine last_ (i := 7) (N := some 81) #[true, true, true, true, true, true, true, true, false] rfl rfl (by kernel_rfl) (by decide) (fun K hK => ?_)
                obtain ⟨⟨M, v, hRw⟩, -, -⟩ := HTd.out
                refine goes_ Try.func20 (by kernel_rfl) rfl #[.pointer (some ⟨gr, 0, none⟩), .agg X.toArray, .agg Y.toArray, .int .u8 ch] (by rfl) rfl rfl (by first | rfl | (simp only [List.map_toArray, List.map_cons, List.map_nil]; done) | (simp only [List.map_toArray, List.map_cons, List.map_nil]; rfl)) ?_
                refine (HIN.out M v _ hRw).mono ?_
                rintro e w5 ⟨rfl, M1, v1, hR, hk⟩
                refine ⟨_, rfl, ?_⟩
                have HR5 := Aside0.mk hR
                have HX5 := Aside0.mk (blk_kept HTd.out.c11 hk (fun hx => (own_ty2 hRw hx).1 ⟨_, HTd.out.c11⟩))
                have HY5 := Aside0.mk (blk_kept HYd.out hk (fun hx => (own_ty2 hRw hx).1 ⟨_, HYd.out⟩))
                have HN11 := Aside0.mk HTd.out.n11
                clear hk hR hRw hHeld HYd HTd
                refine hK.out _ _ ?_
                clear hK K
                refine norm_ (a' := ?_) ?_ ?_
                rotate_left
                · show Act.put _ (some 81) _ = _
                  simp only [Act.put, List.setIfInBounds_toArray, List.set_cons_zero, List.set_cons_succ, i64_w, i32_w]
                  rfl
                refine pure_ (i := 8) (N := some 82) (v := .bool false) (a' := ?_) #[true, true, true, true, true, true, true, true, true] rfl rfl (by kernel_rfl) (fun _ _ _ h => h) (Or.inl ⟨by rfl, ?_⟩) ?_ ?_
                · intro w'
                  go_simp
                  all_goals (try simp)
                rotate_left
                · simp only [Act.put, List.setIfInBounds_toArray, List.set_cons_zero, List.set_cons_succ, i64_w, i32_w]
                  rfl
                refine done_ (by kernel_rfl) ?_
                -- r19]
                rw [HXe.out] at HX5
                go_wp2_with (first | ((with_reducible refine gate_ (Op.load TI (.tmp 15)) rfl ?_); refine wpList_load_row rfl TI (.tmp 15) rfl g15 rfl _ _ _ _ HY5.out huI rfl (by rw [List.size_toArray]; exact HSY.out) ?_) | ((with_reducible refine gate_ (Op.store TI (.tmp 11) (.tmp 83)) rfl ?_); refine wpList_store_at rfl TI (.tmp 11) (.tmp 83) rfl g11 0 Y.toArray rfl rfl TI X.toArray HX5.out (by rw [HYs.out, HXs.out]; decide) (by rw [List.size_toArray]; exact HSY.out) HY1.out ?_; rw [splice_all _ _ (by rw [Array.length_toList, Array.length_toList, HYs.out, HXs.out]), Array.toArray_toList]))
                have HTn : Aside0 (Ts w gr gm (Lt L k tp ts (j + 1)) (aft a tp (j + 1)) g11 (w5.setRow g11 Y.toArray)) := ⟨⟨⟨M1, v1, by rw [HLJ.out]; exact rw_row HR5.out HX5.out (by decide) HN11.out _⟩, by rw [show aft a tp (j + 1) = tid tp j by unfold aft; rw [if_neg (by omega), Nat.add_sub_cancel], HYe.out]; exact blk_row HX5.out _, HN11.out⟩⟩
                go_roundw
                case rel => exact ⟨j + 1, hlt, by go_num, HTn⟩
                case measure => simp [intOf]; omega
              · obtain rfl : j = ts.length := by omega
                obtain ⟨LJ, hLJ⟩ : ∃ LJ, Lt L k tp ts ts.length = LJ := ⟨_, rfl⟩
                have HLJ := Aside0.mk hLJ
                have hlj : LJ.length = R.length + ts.length := by rw [← hLJ, Lt_len HKL.out, HLl.out]
                have HRL : Aside0 (ST2 w gr gm LJ A1 ts wr) := ⟨⟨Kd.C_below HR1.out HTj.out.bel, ⟨by rw [← hLJ]; exact HTj.out.ex⟩⟩⟩
                have HTX : Aside0 (∀ M v W, Rw w gr gm LJ M v W → Calls Try.prog 26 #[.pointer (some ⟨gr, 0, none⟩)] W fun e w' => ∃ A c, e = .returned (.slice A (textF LJ).length c) ∧ Kd.C (Kd.int .u8) w' A (textF LJ).length (textF LJ) ∧ Below W.heap.size W w') := ⟨fun M v W hW => Text_calls hW (by have := HTN.out; omega)⟩
                have hkt : k ≤ (textF L).length := by rw [HTL.out]; exact HKL.out
                have hse : strOfNums (textF LJ) = (S0.extract 0 k ++ strOfNums ts) ++ S0.extract k S0.size := by
                  rw [← hLJ, Lt_text HHERE.out, str_app, str_app, ← HS0.out, str_take _ _ hkt, str_drop _ _ hkt]
                have hk0 : (k : Int) ≤ (S0.size : Int) := by rw [hSz]; exact Int.ofNat_le.2 hkn
                have husS := Try.underlying9
                have hsa := fun W => run_slice_string_h (P := Try.prog) W 9 S0 husS .i64 (k : Int) (by omega) hk0
                have hsb := fun W => run_slice_string_l (P := Try.prog) W 9 S0 husS .i64 (k : Int) (by omega) hk0
                rw [Int.toNat_natCast] at hsa hsb
                have hzA : (S0.extract 0 k).size ≤ 1000 := by rw [← HS0.out, str_take _ _ hkt, strOfNums_size, List.length_take]; omega
                have hzB : (S0.extract k S0.size).size ≤ 1000 := by rw [← HS0.out, str_drop _ _ hkt, strOfNums_size, List.length_drop, HTL.out, HLl.out]; omega
                have hzT : (strOfNums ts).size ≤ 1000 := by rw [strOfNums_size]; have := HTN.out; omega
                have HCV : Aside0 (∀ W, Kd.C (Kd.int .u8) W A1 ts.length ts → (convert 34 9 (.slice A1 ts.length c1)).run Try.prog W = .ok (.string (strOfNums ts)) W) := ⟨fun W h => Kd.C_string (src := 34) (dst := 9) (c := c1) Try.underlying34 Try.underlying5 husS h⟩
                generalize S0.extract 0 k = SA at *
                generalize S0.extract k S0.size = SB at *
                generalize strOfNums ts = SU at *
                have hzAB : (SA ++ SU).size ≤ 2000 := by rw [ByteArray.size_append]; omega
                have hab := fun W => run_string_add_sum (P := Try.prog) W SA SU (by omega)
                generalize SA ++ SU = SAB at *
                have habb := fun W => run_string_add_sum (P := Try.prog) W SAB SB (by omega)
                generalize SAB ++ SB = SABB at *
                have HSE := Aside0.mk hse
                have HLJL := Aside0.mk hlj
                clear hLJ hlj hse hkt hzA hzB hzT hzAB HTj hlt
                go_upto_region 22 with fail
                -- [r22
                refine start_ (n := 14) (S := ST2 w gr gm LJ A1 ts) (ds := []) #[false, false, false, false, false, false, false, false, false, false, false, false, false, false] (by kernel_rfl) rfl rfl (st2_of HRL.out (pw_below_drewN (Below.refl wr.heap.size wr) 1)) (fun hHeld => ?_)
                generalize wr.drew = wd at hHeld ⊢
                clear HRL
                refine pure_ (i := 0) (N := some 84) (v := ?_) (a' := ?_) #[true, false, false, false, false, false, false, false, false, false, false, false, false, false] rfl rfl (by kernel_rfl) (fun _ _ _ h => h) (Or.inl ⟨by rfl, ?_⟩) ?_ ?_
                rotate_left
                · intro w'
                  go_simp
                  with_reducible rfl
                rotate_left
                · simp only [Act.put, List.setIfInBounds_toArray, List.set_cons_zero, List.set_cons_succ, i64_w, i32_w]
                  rfl
                refine pure_ (i := 3) (N := some 87) (v := ?_) (a' := ?_) #[true, false, false, true, false, false, false, false, false, false, false, false, false, false] rfl rfl (by kernel_rfl) (fun _ _ _ h => h) (Or.inl ⟨by rfl, ?_⟩) ?_ ?_
                rotate_left
                · intro w'
                  go_simp
                  with_reducible rfl
                rotate_left
                · simp only [Act.put, List.setIfInBounds_toArray, List.set_cons_zero, List.set_cons_succ, i64_w, i32_w]
                  rfl
                refine pure_ (i := 4) (N := some 88) (v := ?_) (a' := ?_) #[true, false, false, true, true, false, false, false, false, false, false, false, false, false] rfl rfl (by kernel_rfl) (fun _ _ _ h => h) (Or.inl ⟨by rfl, ?_⟩) ?_ ?_
                rotate_left
                · intro w'
                  go_simp
                  with_reducible rfl
                rotate_left
                · simp only [Act.put, List.setIfInBounds_toArray, List.set_cons_zero, List.set_cons_succ, i64_w, i32_w]
                  rfl
                refine pure_ (i := 5) (N := some 89) (v := .string SA) (a' := ?_) #[true, false, false, true, true, true, false, false, false, false, false, false, false, false] rfl rfl (by kernel_rfl) (fun _ _ _ h => h) (Or.inl ⟨by rfl, ?_⟩) ?_ ?_
                · intro w'
                  have := hsa w'
                  go_simp
                  all_goals (try simp)
                rotate_left
                · simp only [Act.put, List.setIfInBounds_toArray, List.set_cons_zero, List.set_cons_succ, i64_w, i32_w]
                  rfl
                refine pure_ (i := 6) (N := some 90) (v := ?_) (a' := ?_) #[true, false, false, true, true, true, true, false, false, false, false, false, false, false] rfl rfl (by kernel_rfl) (fun _ _ _ h => h) (Or.inl ⟨by rfl, ?_⟩) ?_ ?_
                rotate_left
                · intro w'
                  go_simp
                  with_reducible rfl
                rotate_left
                · simp only [Act.put, List.setIfInBounds_toArray, List.set_cons_zero, List.set_cons_succ, i64_w, i32_w]
                  rfl
                refine take_ (i := 7) (N := some 91) (v := ?_) (a' := ?_) #[true, false, false, true, true, true, true, true, false, false, false, false, false, false] rfl rfl (by kernel_rfl) (fun _ _ _ h => h) (Or.inl ⟨by rfl, ?_⟩) hHeld ?_ ?_
                rotate_left
                · rintro w' ⟨s1, _⟩
                  have := HCV.out w' s1
                  go_simp
                  with_reducible rfl
                rotate_left
                · simp only [Act.put, List.setIfInBounds_toArray, List.set_cons_zero, List.set_cons_succ, i64_w, i32_w]
                  rfl
                refine pure_ (i := 8) (N := some 92) (v := .string SAB) (a' := ?_) #[true, false, false, true, true, true, true, true, true, false, false, false, false, false] rfl rfl (by kernel_rfl) (fun _ _ _ h => h) (Or.inl ⟨by rfl, ?_⟩) ?_ ?_
                · intro w'
                  have := hab w'
                  go_simp
                  all_goals (try simp)
                rotate_left
                · simp only [Act.put, List.setIfInBounds_toArray, List.set_cons_zero, List.set_cons_succ, i64_w, i32_w]
                  rfl
                refine pure_ (i := 9) (N := some 93) (v := ?_) (a' := ?_) #[true, false, false, true, true, true, true, true, true, true, false, false, false, false] rfl rfl (by kernel_rfl) (fun _ _ _ h => h) (Or.inl ⟨by rfl, ?_⟩) ?_ ?_
                rotate_left
                · intro w'
                  go_simp
                  with_reducible rfl
                rotate_left
                · simp only [Act.put, List.setIfInBounds_toArray, List.set_cons_zero, List.set_cons_succ, i64_w, i32_w]
                  rfl
                refine pure_ (i := 10) (N := some 94) (v := ?_) (a' := ?_) #[true, false, false, true, true, true, true, true, true, true, true, false, false, false] rfl rfl (by kernel_rfl) (fun _ _ _ h => h) (Or.inl ⟨by rfl, ?_⟩) ?_ ?_
                rotate_left
                · intro w'
                  go_simp
                  with_reducible rfl
                rotate_left
                · simp only [Act.put, List.setIfInBounds_toArray, List.set_cons_zero, List.set_cons_succ, i64_w, i32_w]
                  rfl
                refine pure_ (i := 11) (N := some 95) (v := .string SB) (a' := ?_) #[true, false, false, true, true, true, true, true, true, true, true, true, false, false] rfl rfl (by kernel_rfl) (fun _ _ _ h => h) (Or.inl ⟨by rfl, ?_⟩) ?_ ?_
                · intro w'
                  have := hsb w'
                  go_simp
                  all_goals (try simp)
                rotate_left
                · simp only [Act.put, List.setIfInBounds_toArray, List.set_cons_zero, List.set_cons_succ, i64_w, i32_w]
                  rfl
                refine pure_ (i := 12) (N := some 96) (v := .string SABB) (a' := ?_) #[true, false, false, true, true, true, true, true, true, true, true, true, true, false] rfl rfl (by kernel_rfl) (fun _ _ _ h => h) (Or.inl ⟨by rfl, ?_⟩) ?_ ?_
                · intro w'
                  have := habb w'
                  go_simp
                  all_goals (try simp)
                rotate_left
                · simp only [Act.put, List.setIfInBounds_toArray, List.set_cons_zero, List.set_cons_succ, i64_w, i32_w]
                  rfl
                refine one_ (i := 1) (N := some 85) #[true, true, false, true, true, true, true, true, true, true, true, true, true, false] rfl rfl (by kernel_rfl) (by decide) (fun K hK => ?_)
                refine goes_ Try.func26 (by kernel_rfl) rfl #[.pointer (some ⟨gr, 0, none⟩)] (by rfl) rfl rfl (by first | rfl | (simp only [List.map_toArray, List.map_cons, List.map_nil]; done) | (simp only [List.map_toArray, List.map_cons, List.map_nil]; rfl)) ?_
                obtain ⟨M, v, hRw⟩ := hHeld.2.out
                refine (HTX.out M v _ hRw).mono ?_
                rintro e w4 ⟨At, ct, rfl, hC, hb⟩
                refine ⟨_, rfl, ?_⟩
                have HCT := Aside0.mk hC
                have hS2 := ST2.step hHeld hb
                clear hb hHeld hC hRw
                refine hK.out _ _ hS2 (fun hHeld => ?_)
                clear hK K hS2
                refine norm_ (a' := ?_) ?_ ?_
                rotate_left
                · show Act.put _ (some 85) _ = _
                  simp only [Act.put, List.setIfInBounds_toArray, List.set_cons_zero, List.set_cons_succ, i64_w, i32_w]
                  rfl
                refine one_ (i := 2) (N := some 86) #[true, true, true, true, true, true, true, true, true, true, true, true, true, false] rfl rfl (by kernel_rfl) (by decide) (fun K hK => ?_)
                refine value_ (N := some 86) (by rfl) rfl (conv_run85 rfl rfl HCT.out) ?_
                rw [HSE.out]
                refine hK.out _ _ hHeld (fun hHeld => ?_)
                clear hK K HCT
                refine norm_ (a' := ?_) ?_ ?_
                rotate_left
                · show Act.put _ (some 86) _ = _
                  simp only [Act.put, List.setIfInBounds_toArray, List.set_cons_zero, List.set_cons_succ, i64_w, i32_w]
                  rfl
                refine pure_ (i := 13) (N := some 97) (v := .bool false) (a' := ?_) #[true, true, true, true, true, true, true, true, true, true, true, true, true, true] rfl rfl (by kernel_rfl) (fun _ _ _ h => h) (Or.inl ⟨by rfl, ?_⟩) ?_ ?_
                · intro w'
                  go_simp
                  all_goals (try simp)
                rotate_left
                · simp only [Act.put, List.setIfInBounds_toArray, List.set_cons_zero, List.set_cons_succ, i64_w, i32_w]
                  rfl
                refine done_ (by kernel_rfl) ?_
                -- r22]
                have HR0 : Aside0 (∃ M v, Rw w gr gm (LJ.map (gj tp 0)) M v w4) := ⟨by rw [gj_zero]; exact hHeld.2.out⟩
                clear hHeld hsa hsb hab habb HCV HTX HSE
                have HLEN : Aside0 (∀ n, (LJ.map (gj tp n)).length = R.length + ts.length) := ⟨fun n => by rw [List.length_map]; exact HLJL.out⟩
                have HNDJ : Aside0 ((ids LJ).Nodup) := ⟨by rw [← HLJ.out]; exact Lt_nd HKL.out HTP.out HND.out _⟩
                have HUJ : Aside0 (∀ j, ∀ y ∈ LJ, y.id.1 = tp + 1 + ((j : Nat) : Int) → y.id = tid tp j) := ⟨fun j y hy e => by
                  rw [← HLJ.out] at hy
                  rcases Lt_mem hy with h | ⟨i, hi, rfl⟩
                  · have := HTP.out y h; omega
                  · have : tp + 1 + (i : Int) = tp + 1 + (j : Int) := e
                    obtain rfl : i = j := by omega
                    rfl⟩
                have HGT : Aside0 (textF (LJ.map (gj tp ts.length)) = textF L) := ⟨by rw [← HLJ.out]; exact gone_text HTP.out⟩
                go_wp2_with fail
                go_loopw [16] (fun i wr => ∃ j : Nat, j ≤ ts.length ∧ i = .int .i64 j ∧ Aside0 (∃ M v, Rw w gr gm (LJ.map (gj tp j)) M v wr)) (fun i _ => ts.length - (intOf i).toNat)
                case atStart => exact ⟨0, by omega, rfl, HR0⟩
                case round =>
                  clear HR0
                  obtain ⟨j, hj, rfl, HRj⟩ := hrel
                  by_cases hlt : j < ts.length
                  · have hjn : j < 100 := by have := HTN.out; omega
                    have hoi : okI (tid tp j) := ⟨(wf_iff _).2 (by show -9223372036854775808 ≤ tp + 1 + (j : Int) ∧ tp + 1 + (j : Int) < 9223372036854775808; omega), rfl, hb_bytes (by omega)⟩
                    obtain ⟨M, v, hRw⟩ := HRj.out
                    have hin : ∃ x ∈ LJ.map (gj tp j), x.id = tid tp j := by
                      refine ⟨gj tp j (tc tp ts j), List.mem_map.2 ⟨tc tp ts j, ?_, rfl⟩, gj_id _⟩
                      rw [← HLJ.out]
                      exact List.mem_of_getElem? (Lt_at HKL.out hlt)
                    have HRM : Aside0 (Calls Try.prog 27 #[.pointer (some ⟨gr, 0, none⟩), .agg (iv (tid tp j)).toArray] wr fun e w' => e = .returned (.int .i64 0) ∧ ∃ M v, Rw w gr gm (LJ.map (gj tp (j + 1))) M v w') := ⟨by
                      refine (Remove2_calls hRw (by rw [HLEN.out]; have := HTN.out; omega) hoi).mono ?_
                      rintro e w' ⟨c, L1, M1, v1, rfl, hR, _, _, ho⟩
                      rcases ho with ⟨_, _, hn⟩ | ⟨rfl, i, x, hi, hx, rfl⟩
                      · obtain ⟨x, hx, e⟩ := hin
                        exact absurd e (hn x hx)
                      · rw [gj_set HNDJ.out (HUJ.out j) hi hx] at hR
                        exact ⟨rfl, M1, v1, hR⟩⟩
                    have HBT : Aside0 (Try.prog.built TI [(0, .int .i64 (tp + 1 + (j : Int))), (1, .agg (ns .u8 (Rg.hb 7)))] = some (iv (tid tp j)).toArray) := ⟨built_id (tid tp j) rfl⟩
                    have HBH := Aside0.mk (built_hb 7)
                    have hw1 : wrap64 (tp + 1) = tp + 1 := by unfold wrap64; omega
                    have hw2 : wrap64 (tp + 1 + (j : Int)) = tp + 1 + (j : Int) := by unfold wrap64; omega
                    have t8 : ((j : Int) < (ts.length : Int)) = True := eq_true (by omega)
                    generalize ns .u8 (Rg.hb 7) = NH at *
                    obtain ⟨Y, hY⟩ : ∃ Y, iv (tid tp j) = Y := ⟨_, rfl⟩
                    rw [hY] at HBT HRM
                    clear hoi hRw hin hY
                    go_wp2_with (first | ((with_reducible refine gate_ (Op.build 23 #[(0, .const (.int .u8 7))]) rfl ?_); refine wpList_build_as rfl 23 _ rfl [(0, .int .u8 7)] (by first | rfl | (simp only [List.map_toArray, List.map_cons, List.map_nil]; rfl)) NH HBH.out ?_) | ((with_reducible refine gate_ (Op.build TI #[(0, .tmp 108), (1, .tmp 109)]) rfl ?_); refine wpList_build_as rfl TI _ rfl [(0, .int .i64 (tp + 1 + (j : Int))), (1, .agg NH)] (by first | rfl | (simp only [List.map_toArray, List.map_cons, List.map_nil]; rfl)) Y.toArray HBT.out ?_) | (go_at_call 27; refine HRM.out.mono ?_; rintro e w6 ⟨rfl, hM⟩; have HRn := Aside0.mk hM; clear hM))
                    go_roundw
                    case rel => exact ⟨j + 1, hlt, by go_num, HRn⟩
                    case measure => simp [intOf]; omega
                  · obtain rfl : j = ts.length := by omega
                    obtain ⟨M, v, hRw⟩ := HRj.out
                    have HTX := Aside0.mk (Text_calls hRw (by rw [HLEN.out]; have := HTN.out; omega))
                    have HCL : Aside0 (∀ W, Below wr.heap.size wr W → Calls Try.prog 18 #[.pointer (some ⟨gr, 0, none⟩)] W fun e w' => ∃ v1, e = .returned v1 ∧ Rg.Own w' W.heap.size v1 (LJ.map (gj tp ts.length)) ∧ Below W.heap.size W w') := ⟨fun W hb => Cells_calls (hRw.step hb) (by rw [HLEN.out]; have := HTN.out; omega)⟩
                    have HBR := Aside0.mk hRw.below
                    rw [HGT.out] at HTX
                    clear hRw HRj hmax1 hSz husS hk0
                    have hwl : wrap64 ((R.length : Int) + (ts.length : Int)) = (R.length : Int) + (ts.length : Int) := by have := HTN.out; unfold wrap64; omega
                    go_upto_region 29 with fail
                    go_wp2_with fail
                    refine calls_of_args (by rfl) (HTX.out.mono ?_)
                    rintro e w6 ⟨A6, c6, rfl, hC, hb⟩
                    have s1 := Kd.C_string (src := 34) (dst := 9) (c := c6) Try.underlying34 Try.underlying5 Try.underlying9 hC
                    rw [HS0.out] at s1
                    have HB6 := Aside0.mk hb
                    clear hC hb HTX
                    go_wp2_with fail
                    refine calls_of_args (by rfl) ((HCL.out _ HB6.out).mono ?_)
                    rintro e w7 ⟨vx, rfl, hO, hb⟩
                    obtain ⟨Ax, cx, rfl⟩ := Kd.R_slice hO
                    rw [HLEN.out]
                    have HB7 := Aside0.mk (below_step HB6.out hb)
                    clear hO hb HCL hj hlt
                    have hcast : ((R.length + ts.length : Nat) : Int) = (R.length : Int) + (ts.length : Int) := by omega
                    go_wp2_with fail
                    refine calls_of_args (by rfl) ((awake_calls _).mono ?_)
                    rintro e w8 ⟨rfl, hb⟩
                    have HB8 := Aside0.mk (below_step HBR.out (below_step HB7.out hb))
                    clear hb
                    go_wp2_with fail
                    go_ret
                    exact ⟨rfl, HB8.out⟩
  · rw [decide_eq_false hfew] at HFW
    clear hfew
    go_enter Try.func7, Try.ntmps7
    go_wp2_with (first | (go_at_call 15; refine HFW.out.mono ?_; rintro e w1 ⟨rfl, hd⟩; have HB1 := Aside0.mk hd.below; clear hd) | (go_at_call 14; refine (awake_calls _).mono ?_; rintro e w2 ⟨rfl, hb⟩; have HB2 := Aside0.mk (HB1.out.trans (hb.mono HB1.out.size)); clear hb))
    go_ret
    exact ⟨rfl, HB2.out⟩
end Go.Proofs.Ytkcdlilglgfkaaa.Rg

/- stemmalaw11.RgaTypes, walked (XRgTy), in the row's shape. -/
set_option linter.unusedVariables false
set_option linter.unusedSimpArgs false
namespace Go.Proofs.Ytkcdlilglgfkaaa.PA
open Go Go.RowKit Go.Proofs.YtkcdlilglgfkaaaW.PrintWords Go.Proofs.YtkcdlilglgfkaaaW.PrintLast Go.Proofs.YtkcdlilglgfkaaaW.PrintMore Go.Proofs.Ytkcdlilglgfkaaa.Ar Go.Proofs.Ytkcdlilglgfkaaa.Sha Go.Proofs.Ytkcdlilglgfkaaa.Rg
open Classical in
noncomputable def stemmalaw11_RgaTypes.f (l : List S46) (ts : List Int) (ps : Int) : Option Bool := if (∀ x ∈ l, PutOk x) ∧ 0 ≤ ps ∧ ps < 256 then some true else none
theorem stemmalaw11_RgaTypes.calls (A0 : Option Addr) (c0 : Nat) (l0 : List S46) (A1 : Option Addr) (c1 : Nat) (ts : List Int) (ps : Int) (r : Bool) (w : World) (hr0 : Kd.C k46 w A0 l0.length l0) (hc0 : l0.length ≤ c0) (hr1 : Kd.C (Kd.int .u8) w A1 ts.length ts) (hc1 : ts.length ≤ c1) (hr_ : Aside0 (r = true)) (h : stemmalaw11_RgaTypes.f l0 ts ps = some r) :
    Calls Try.prog 7 #[.slice A0 l0.length c0, .slice A1 ts.length c1, .int .u8 ps] w fun e w' => e = .returned (.bool r) ∧ Below w.heap.size w w' := by
  obtain ⟨rfl⟩ := hr_
  unfold stemmalaw11_RgaTypes.f at h
  split at h
  case isFalse => cases h
  case isTrue hh => exact types_calls A0 c0 l0 A1 c1 ts ps w hr0 hc0 hr1 hh.1 hh.2
end Go.Proofs.Ytkcdlilglgfkaaa.PA

/- RgaTypes: what is left beside the walk: the bytes' ranges. -/
set_option linter.unusedVariables false
namespace Go.Proofs.Ytkcdlilglgfkaaa.Pure
open Go Go.Proofs.Ytkcdlilglgfkaaa.PA
theorem byte_of {x : Int} (h : (Lit.int .u8 x).wf = true) : 0 ≤ x ∧ x < 256 := by
  simp only [Lit.wf, IntKind.min, IntKind.max, IntKind.signed, IntKind.bits, Bool.and_eq_true] at h
  simp at h
  exact ⟨by omega, by omega⟩
theorem puts_ok {a0 : List S46} (q0 : a0.length ≤ maxLen ∧ ∀ y33 ∈ a0, ((Lit.int .u8 y33.f0).wf = true) ∧ ((Lit.int .u8 y33.f1).wf = true) ∧ ((Lit.int .u8 y33.f2).wf = true) ∧ ((Lit.int .u8 y33.f3).wf = true) ∧ (True) ∧ (True) ∧ ((Lit.int .i64 y33.f6).wf = true) ∧ (Lit.int .i64 y33.f7).wf = true) : ∀ x ∈ a0, Rg.PutOk x := fun y hy => by
  obtain ⟨h0, h1, h2, h3, _, _, h6, h7⟩ := q0.2 y hy
  exact ⟨byte_of h0, byte_of h1, byte_of h2, byte_of h3, h6, h7⟩
theorem RgaTypes (a0 : List S46) (a1 : List Int) (a2 : Int) (q0 : a0.length ≤ maxLen ∧ ∀ y33 ∈ a0, ((Lit.int .u8 y33.f0).wf = true) ∧ ((Lit.int .u8 y33.f1).wf = true) ∧ ((Lit.int .u8 y33.f2).wf = true) ∧ ((Lit.int .u8 y33.f3).wf = true) ∧ (True) ∧ (True) ∧ ((Lit.int .i64 y33.f6).wf = true) ∧ (Lit.int .i64 y33.f7).wf = true) (q1 : a1.length ≤ maxLen ∧ ∀ y34 ∈ a1, (Lit.int .u8 y34).wf = true) (b1 : a1.length * 1 ≤ 140737488351232) (q2 : (Lit.int .u8 a2).wf = true) : PA.stemmalaw11_RgaTypes.f a0 a1 a2 = some true := by
  unfold PA.stemmalaw11_RgaTypes.f
  exact if_pos ⟨puts_ok q0, byte_of q2⟩
end Go.Proofs.Ytkcdlilglgfkaaa.Pure
