/- Own texts of this claim, one behind the other (wip/tools/mergelist.py). -/
import Derived.Test.YtkcdlilglgfkaaaRgMf
import Derived.Test.YtkcdlilglgfkaaaPAx15
/- stemmalaw11.RgaKeeps: what is held, the walk. -/
set_option linter.unusedVariables false
set_option linter.unusedSimpArgs false
namespace Go.Proofs.Ytkcdlilglgfkaaa.Rg
open Go Go.RowKit Go.Proofs.YtkcdlilglgfkaaaW.PrintWords Go.Proofs.YtkcdlilglgfkaaaW.PrintLast Go.Proofs.YtkcdlilglgfkaaaW.PrintMore Go.Proofs.Ytkcdlilglgfkaaa.PA Go.Proofs.Ytkcdlilglgfkaaa.Ar Go.Proofs.Ytkcdlilglgfkaaa.Sha
def topF (R : List Re) : Int := R.foldl (fun t x => max t x.id.1) 0
theorem topF_snoc (R : List Re) (x : Re) : topF (R ++ [x]) = max (topF R) x.id.1 := by unfold topF; rw [List.foldl_append]; rfl
theorem fold_ge : ∀ (R : List Re) (t : Int), t ≤ R.foldl (fun t x => max t x.id.1) t ∧ ∀ x ∈ R, x.id.1 ≤ R.foldl (fun t x => max t x.id.1) t
  | [], t => ⟨Int.le_refl _, fun x hx => by simp at hx⟩
  | y :: r, t => by
    rw [List.foldl_cons]
    obtain ⟨h1, h2⟩ := fold_ge r (max t y.id.1)
    refine ⟨by omega, fun x hx => ?_⟩
    rcases List.mem_cons.1 hx with rfl | hx
    · omega
    · exact h2 x hx
theorem fold_le : ∀ (R : List Re) (t B : Int), t ≤ B → (∀ x ∈ R, x.id.1 ≤ B) → R.foldl (fun t x => max t x.id.1) t ≤ B
  | [], t, B, h, _ => h
  | y :: r, t, B, h, hR => by
    rw [List.foldl_cons]
    have := hR y (by simp)
    exact fold_le r _ B (by omega) (fun x hx => hR x (by simp [hx]))
theorem own_blk {W W1 : World} {b : Nat} {v : Value} {L : List Ce} (h : Own W b v L) (hk : ∀ k, v.ownBlock = some k → W1.heap[k]? = W.heap[k]?) : Own W1 b v L := by
  obtain ⟨⟨h0, ho⟩, hok⟩ := own_raw h
  refine raw_own ⟨h0, ?_⟩ hok
  rcases ho with h1 | ⟨g, cap, cur, h1, h2, h3, h4⟩
  · exact Or.inl h1
  · exact Or.inr ⟨g, cap, cur, h1, h2, (hk g (by rw [h1]; rfl)).trans h3, h4⟩
theorem Rw.low {w wb W : World} {gr gm : Nat} {L : List Ce} {M : List Idt} {v : Value} (h : Rw wb gr gm L M v W) (hb : Below w.heap.size w wb) : Rw w gr gm L M v W :=
  ⟨below_step hb h.below, h.pb, own_low h.row hb.size, h.mb, ⟨Nat.le_trans hb.size h.g0.1, Nat.le_trans hb.size h.g0.2⟩, h.oks, h.same⟩
theorem rw_cellT {w0 W : World} {gr gm g o : Nat} {L : List Ce} {M : List Idt} {v u : Value} {C : Array Value} {T : TypeId} (h : Rw w0 gr gm L M v W) (hg : W.heap[g]? = some (.cells C T (0, 0))) (hT : T ≠ TR ∧ T ≠ TC) (hw : w0.heap.size ≤ g) : Rw w0 gr gm L M v (W.setCell ⟨g, o, none⟩ u) := by
  have hn : ∀ {k : Nat}, k ≠ g → (W.setCell ⟨g, o, none⟩ u).heap[k]? = W.heap[k]? := fun {k} hk => Below.heap_setCell W ⟨g, o, none⟩ u k hk
  refine ⟨below_cell h.below hw, (hn (fun e => hT.1 (Ty.ne ⟨_, hg⟩ (e ▸ (⟨_, h.pb⟩ : Ty W TR gr))))).trans h.pb, ?_, (hn (fun e => ?_)).trans h.mb, h.g0, h.oks, h.same⟩
  · exact own_blk h.row (fun k hk => hn (fun e => hT.2 (Ty.ne ⟨_, hg⟩ (e ▸ (own_block h.row k hk).1))))
  · have h2 := h.mb
    rw [e, hg] at h2
    cases h2
/-- What stands behind the ids. -/
structure Ks (w wb : World) (gr gm : Nat) (L : List Ce) (M : List Idt) (v : Value) (L' : List Ce) (R : List Re) (v2 vx : Value) (gp g8 g9 g10 : Nat) (p : S46) (A I : List Value) (W : World) : Prop where
  wb0 : Below w.heap.size w wb
  bp : W.heap[gp]? = some (.cells (pcells p).toArray TP (0, 0))
  b8 : W.heap[g8]? = some (.cells #[v2] TE (0, 0))
  c9 : W.heap[g9]? = some (.cells A.toArray TF (0, 0))
  c10 : W.heap[g10]? = some (.cells I.toArray TF (0, 0))
  rw : Rw wb gr gm L M v W
  own : OwnD W 0 v2 R
  was : Own W wb.heap.size vx L'
  ne : ∀ k, v.ownBlock = some k → vx.ownBlock ≠ some k
  n10 : wb.heap.size ≤ g10
  n9 : g9 ≠ g10
section
variable {w wb w1 W : World} {gr gm : Nat} {L L' : List Ce} {M : List Idt} {v v2 vx : Value} {R : List Re} {gp g8 g9 g10 : Nat} {p : S46} {A I : List Value}
theorem Ks.step (h : Ks w wb gr gm L M v L' R v2 vx gp g8 g9 g10 p A I W) (hb : Below W.heap.size W w1) : Ks w wb gr gm L M v L' R v2 vx gp g8 g9 g10 p A I w1 :=
  ⟨h.wb0, blk_below h.bp hb, blk_below h.b8 hb, blk_below h.c9 hb, blk_below h.c10 hb, h.rw.step hb, ownD_below h.own hb, Kd.R_below h.was hb, h.ne, h.n10, h.n9⟩
/-- The id's number is turned. -/
theorem Ks.num {i : Idt} (h : Ks w wb gr gm L M v L' R v2 vx gp g8 g9 g10 p A (iv i) W) (n : Int) : Ks w wb gr gm L M v L' R v2 vx gp g8 g9 g10 p A (iv (n, i.2)) (W.setCell ⟨g10, 0, none⟩ (.int .i64 n)) := by
  have hn : ∀ {k : Nat}, k ≠ g10 → (W.setCell ⟨g10, 0, none⟩ (.int .i64 n)).heap[k]? = W.heap[k]? := fun {k} hk => Below.heap_setCell W ⟨g10, 0, none⟩ _ k hk
  have ht : Ty W TF g10 := ⟨_, h.c10⟩
  have hne : ∀ {k : Nat} {C : Array Value} {T : TypeId}, W.heap[k]? = some (.cells C T (0, 0)) → T ≠ TF → k ≠ g10 := fun {k C T} hk hT e => hT (Ty.ne ⟨_, hk⟩ (e ▸ ht))
  have hr : Rw wb gr gm L M v (W.setCell ⟨g10, 0, none⟩ (.int .i64 n)) := by
    refine ⟨below_cell h.rw.below h.n10, (hn (hne h.rw.pb (by decide))).trans h.rw.pb, ?_, ?_, h.rw.g0, h.rw.oks, h.rw.same⟩
    · exact own_blk h.rw.row (fun k hk => hn (fun e => by
        have := (own_block h.rw.row k hk).1
        rw [e] at this
        exact absurd (Ty.ne this ht) (by decide)))
    · exact (hn (fun e => by have h2 := h.rw.mb; rw [e] at h2; have h3 := h.c10; rw [h2] at h3; cases h3)).trans h.rw.mb
  refine ⟨h.wb0, (hn (hne h.bp (by decide))).trans h.bp, (hn (hne h.b8 (by decide))).trans h.b8, (hn h.n9).trans h.c9, ?_, hr, ownD_cell h.own h.c10 (by decide) _ _, ?_, h.ne, h.n10, h.n9⟩
  · have := blk_set h.c10 0 (.int .i64 n)
    exact this
  · exact own_blk h.was (fun k hk => hn (fun e => by
      have := (own_block h.was k hk).1
      rw [e] at this
      exact absurd (Ty.ne this ht) (by decide)))
/-- A cell was put. -/
theorem Ks.turn {L1 : List Ce} {M1 : List Idt} {v1 : Value} (h : Ks w wb gr gm L M v L' R v2 vx gp g8 g9 g10 p A I W) (hk : Kept W w1 (Xo gr gm v)) (hR : Rw wb gr gm L1 M1 v1 w1) (ho : v1.ownBlock = v.ownBlock ∨ ∃ b, v1.ownBlock = some b ∧ W.heap.size ≤ b) : Ks w wb gr gm L1 M1 v1 L' R v2 vx gp g8 g9 g10 p A I w1 := by
  have ht := fun {k : Nat} (hx : Xo gr gm v k) => own_ty h.rw hx
  refine ⟨h.wb0, blk_kept h.bp hk (fun hx => (ht hx).2.2.2.1 ⟨_, h.bp⟩), blk_kept h.b8 hk (fun hx => (ht hx).2.1 ⟨_, h.b8⟩), blk_kept h.c9 hk (fun hx => (ht hx).2.2.1 ⟨_, h.c9⟩), blk_kept h.c10 hk (fun hx => (ht hx).2.2.1 ⟨_, h.c10⟩), hR, ownD_kept h.own hk (fun k hx => (ht hx).1), ?_, ?_, h.n10, h.n9⟩
  · refine own_blk h.was (fun k hk2 => ?_)
    obtain ⟨hT, hlt, _⟩ := own_block h.was k hk2
    refine hk.2 k hlt (fun hx => ?_)
    rcases hx with rfl | rfl | hx
    · exact absurd (Ty.ne hT ⟨_, h.rw.pb⟩) (by decide)
    · obtain ⟨c, hc⟩ := hT
      rw [h.rw.mb] at hc
      cases hc
    · exact h.ne k hx hk2
  · rcases ho with e | ⟨b, e, hb⟩
    · rw [e]; exact h.ne
    · intro k hk2 hk3
      rw [e] at hk2
      obtain rfl : b = k := by injection hk2
      have := (own_block h.was b hk3).2.1
      omega
theorem Ks.bel (h : Ks w wb gr gm L M v L' R v2 vx gp g8 g9 g10 p A I W) : Below w.heap.size w W := below_step h.wb0 h.rw.below
theorem Ks.pc (h : Ks w wb gr gm L M v L' R v2 vx gp g8 g9 g10 p A I W) (i : Nat) (u : Value) (hu : (pcells p)[i]? = some u) : W.cell? ⟨gp, i, none⟩ = some u := by
  rw [blk_cell h.bp, List.getElem?_toArray]; exact hu
def SK1 (w : World) (gr gm : Nat) (L : List Ce) (M : List Idt) (v : Value) (R : List Re) (v2 vx : Value) (g8 g9 g10 : Nat) (p : S46) (A I : List Value) (W : World) : Prop :=
  W.rangeAt g9 0 A ∧ W.rangeAt g10 0 I ∧ W.cell? ⟨w.heap.size, 3, none⟩ = some (.int .u8 p.f3) ∧ Aside0 (Ks w w gr gm L M v L R v2 vx w.heap.size g8 g9 g10 p A I W)
theorem sk1_of (h : Ks w w gr gm L M v L R v2 vx w.heap.size g8 g9 g10 p A I W) : SK1 w gr gm L M v R v2 vx g8 g9 g10 p A I W := ⟨range_of0 h.c9, range_of0 h.c10, h.pc 3 _ rfl, ⟨h⟩⟩
/-- While the new row is held against what was. vn: the new row's value. -/
structure Kq (w : World) (gr gm : Nat) (L1 : List Ce) (M : List Idt) (v : Value) (L : List Ce) (R : List Re) (v2 vx vn : Value) (g8 g9 g10 : Nat) (p : S46) (A I : List Value) (W : World) : Prop where
  ks : Ks w w gr gm L1 M v L R v2 vx w.heap.size g8 g9 g10 p A I W
  new : Own W w.heap.size vn L1
theorem Kq.step {L1 : List Ce} {vn : Value} (h : Kq w gr gm L1 M v L R v2 vx vn g8 g9 g10 p A I W) (hb : Below W.heap.size W w1) : Kq w gr gm L1 M v L R v2 vx vn g8 g9 g10 p A I w1 := ⟨h.ks.step hb, Kd.R_below h.new hb⟩
def SQ1 (w : World) (gr gm : Nat) (L1 : List Ce) (M : List Idt) (v : Value) (L : List Ce) (R : List Re) (v2 vx vn : Value) (g8 g9 g10 : Nat) (p : S46) (A I : List Value) (gn o : Nat) (X : List Value) (cut : Bool) (W : World) : Prop :=
  W.rangeAt gn o X ∧ W.rangeAt g9 0 A ∧ W.rangeAt g10 0 I ∧ W.cell? ⟨w.heap.size, 4, none⟩ = some (.bool cut) ∧ Aside0 (Kq w gr gm L1 M v L R v2 vx vn g8 g9 g10 p A I W)
theorem sq1_of {L1 : List Ce} {n cap gn q : Nat} {x : Ce} {cut : Bool} (hcut : p.f4 = cut) (hq : L1[q]? = some x) (h : Kq w gr gm L1 M v L R v2 vx (.slice (some ⟨gn, 0, none⟩) n cap) g8 g9 g10 p A I W) : SQ1 w gr gm L1 M v L R v2 vx (.slice (some ⟨gn, 0, none⟩) n cap) g8 g9 g10 p A I gn (q * 35) (iv x.id) cut W := by
  refine ⟨fun j u hu => ?_, range_of0 h.ks.c9, range_of0 h.ks.c10, h.ks.pc 4 _ (by rw [← hcut]; rfl), ⟨h⟩⟩
  rcases own_form h.new with ⟨_, hn⟩ | ⟨g, cap', cur, hv, _, h2, _, _, _, h3⟩
  · rw [hn] at hq; simp at hq
  · obtain rfl : gn = g := by injection hv with h1; injection h1 with h1; injection h1
    rw [blk_cell h2]
    exact cur_at (own_raw h.new).2 h3 hq j u (by rw [ce, List.getElem?_append_left (by have := (List.getElem?_eq_some_iff.1 hu).1; exact this)]; exact hu)
end
theorem keeps_id {R : List Re} {L : List Ce} {k : Nat} {p : S46} {a i i' : Idt} {tp : Int} {bc : Bool} (hA : Alike L R) (hT : Tame k R) (hk : k ≤ 120) (hp : PutOk p) (he : idsF R (still p) = (a, i)) (htp : ∀ x ∈ R, x.id.1 ≤ tp) (hb : 0 ≤ tp ∧ tp ≤ 480) (hi : (if bc = true then (tp + 1, i.2) else i) = i') :
    okI a ∧ okI i' ∧ ¬ (i'.1 < 1 ∨ i'.1 ≤ a.1) ∧ (a = z0 ∨ ∃ x ∈ R, x.id = a) ∧ (bc = true → ∀ x ∈ L, lessI i' x.id = false) := by
  have hok := ids_ok (p := still p) (R := R) ⟨hp.b0, hp.b1, hp.b2, hp.b3, hp.w6, hp.w7⟩ hA.ok
  rw [he] at hok
  have hst : ¬ (still p).f5 = true := by show ¬ (false = true); decide
  have h2 : (aftF R (still p), ((aftF R (still p)).1 + upF (aftF R (still p)) (still p), Rg.hb (still p).f2)) = (a, i) := by rw [← he]; unfold idsF; rw [if_neg hst]
  have ha : aftF R (still p) = a := congrArg (·.1) h2
  have hi1 : i = (a.1 + upF a (still p), Rg.hb (still p).f2) := by rw [← ha]; exact (congrArg (·.2) h2).symm
  have hal := aft_num hT (still p)
  rw [ha] at hal
  have hain : a = z0 ∨ ∃ x ∈ R, x.id = a := by
    rw [← ha]
    unfold aftF
    split
    · exact Or.inl rfl
    · split
      · rename_i x hx; exact Or.inr ⟨x, List.mem_of_getElem? hx, rfl⟩
      · exact Or.inl rfl
  have ha0 : 0 ≤ a.1 ∧ a.1 ≤ tp := by
    rcases hain with rfl | ⟨x, hx, rfl⟩
    · exact ⟨by show (0 : Int) ≤ 0; omega, hb.1⟩
    · exact ⟨by have := hA.pos x hx; omega, htp x hx⟩
  have hup : 1 ≤ upF a (still p) ∧ upF a (still p) ≤ 4 := by
    have h3 : (still p).f1 = p.f1 := rfl
    have h4 := hp.b1
    unfold upF
    rw [if_neg (by omega), h3]
    omega
  refine ⟨hok.1, ?_, ?_, hain, ?_⟩
  · rw [← hi]
    cases bc with
    | true => exact ⟨(wf_iff _).2 (by show -9223372036854775808 ≤ tp + 1 ∧ tp + 1 < 9223372036854775808; omega), hok.2.2⟩
    | false => exact hok.2
  · rw [← hi]
    cases bc with
    | true => show ¬ (tp + 1 < 1 ∨ tp + 1 ≤ a.1); omega
    | false =>
      show ¬ (i.1 < 1 ∨ i.1 ≤ a.1)
      have : i.1 = a.1 + upF a (still p) := by rw [hi1]
      omega
  · intro hbc x hx
    obtain ⟨q, hq, e⟩ := (hA.mem x.id).1 ⟨x, hx, rfl⟩
    rw [← hi, if_pos hbc]
    refine lessI_lt ?_
    have := htp q hq
    rw [e] at this
    show x.id.1 < tp + 1
    omega
theorem adv_top {L : List Ce} {i : Idt} (h : ∀ x ∈ L, lessI i x.id = false) (j : Nat) : adv L i j = j := by
  unfold adv
  cases hd : L.drop j with
  | nil => rfl
  | cons x l =>
    have hx : x ∈ L := List.mem_of_mem_drop (hd ▸ (by simp : x ∈ x :: l) : x ∈ L.drop j)
    rw [List.takeWhile_cons, if_neg (by rw [h x hx]; decide)]
    rfl
theorem adv_le {L : List Ce} {i a : Idt} {j : Nat} (h : start L a j) : adv L i j ≤ L.length := by
  have hj : j ≤ L.length := by
    rcases h with ⟨_, rfl⟩ | ⟨_, k, x, rfl, hk, _⟩
    · omega
    · have := (List.getElem?_eq_some_iff.1 hk).1; omega
  unfold adv
  have : ((L.drop j).takeWhile fun c => lessI i c.id).length ≤ (L.drop j).length := (List.takeWhile_sublist _).length_le
  rw [List.length_drop] at this
  omega
/-- What stands at a place of the row with one more. -/
theorem insAt_at {L : List Ce} {P : Nat} {n : Ce} (hP : P ≤ L.length) : (∀ q, q < P → (insAt L P n)[q]? = L[q]?) ∧ (insAt L P n)[P]? = some n ∧ ∀ q, P < q → (insAt L P n)[q]? = L[q - 1]? := by
  have hl : (L.take P).length = P := by rw [List.length_take]; omega
  unfold insAt
  refine ⟨fun q hq => ?_, ?_, fun q hq => ?_⟩
  · rw [List.append_assoc, List.getElem?_append_left (by omega), List.getElem?_take, if_pos hq]
  · rw [List.append_assoc, List.getElem?_append_right (by omega), hl, Nat.sub_self]; rfl
  · rw [List.getElem?_append_right (by rw [List.length_append, hl]; simp; omega), List.length_append, hl, List.length_singleton, List.getElem?_drop]
    congr 1
    omega
theorem run_eqIdD (d : Nat) (w : World) (x y : Idt) (hx : x.2.length = 32) (hy : y.2.length = 32) : (Op.equalIn (d + 1 + 1 + 1) TI (.agg (iv x).toArray) (.agg (iv y).toArray)).run Try.prog w = .ok (decide (x = y)) w := by
  rw [← eqI_dec]
  refine eqA_of (d := d + 1 + 1) Try.underlying28 (by kernel_rfl) ?_
  refine eqf_cons rfl (part_num w x) (part_num w y) (run_equalIn_int w (d + 1) 3 .i64 .i64 _ _ Try.underlying3) ?_
  exact eqf_last rfl (part_by w x hx) (part_by w y hy) (run_equalIn_ns w d 23 5 32 .u8 Try.underlying23 Try.underlying5 szB x.2 y.2 hx hy)
theorem part_id (w : World) (x : Ce) (h : okC x) : (part TI (ce x).toArray 0).run Try.prog w = .ok (.agg (iv x.id).toArray) w := by
  have hu := Try.underlying28
  obtain ⟨i, hq, hi⟩ := Option.map_eq_some_iff.1 size_id
  have hsz : 33 ≤ (ce x).length := by rw [ce_len h]; omega
  simp [part, isAgg, run_underlying hu, sizeOf, typeInfo, hq, hi, hsz]
  rw [ce, List.take_left' (iv_len h)]
theorem part_ch (w : World) (x : Ce) (h : okC x) : (part 5 (ce x).toArray 33).run Try.prog w = .ok (.int .u8 x.ch) w := by
  have hu := Try.underlying5
  have hc : (ce x)[33]? = some (.int .u8 x.ch) := by rw [ce, List.getElem?_append_right (by rw [iv_len h]; omega), iv_len h]; rfl
  simp [part, isAgg, run_underlying hu, hc]
theorem part_go (w : World) (x : Ce) (h : okC x) : (part 4 (ce x).toArray 34).run Try.prog w = .ok (.bool x.gone) w := by
  have hu := Try.underlying4
  have hc : (ce x)[34]? = some (.bool x.gone) := by rw [ce, List.getElem?_append_right (by rw [iv_len h]; omega), iv_len h]; rfl
  simp [part, isAgg, run_underlying hu, hc]
theorem run_eqCe (w : World) (x : Ce) (h : okC x) : (Op.equalIn 10000 TC (.agg (ce x).toArray) (.agg (ce x).toArray)).run Try.prog w = .ok true w := by
  refine eqA_of (d := 9999) Try.underlying43 (by kernel_rfl) ?_
  have h1 := run_eqIdD 9996 w x.id x.id h h
  rw [decide_eq_true rfl] at h1
  have h2 := run_equalIn_int (P := Try.prog) w 9998 5 .u8 .u8 x.ch x.ch Try.underlying5
  rw [beq_self_eq_true] at h2
  have h3 := run_equalIn_bool (P := Try.prog) w 9998 4 x.gone x.gone Try.underlying4
  rw [beq_self_eq_true] at h3
  refine eqf_cons (r := true) (s := true) rfl (part_id w x h) (part_id w x h) h1 ?_
  refine eqf_cons (r := true) (s := true) rfl (part_ch w x h) (part_ch w x h) h2 ?_
  exact eqf_last rfl (part_go w x h) (part_go w x h) h3
theorem size_ce2 : (Try.prog.info? TC).map (·.size) = some 35 := by kernel_rfl
set_option maxRecDepth 100000 in
set_option maxHeartbeats 8000000 in
theorem keeps_calls (A0 : Option Addr) (c0 : Nat) (l0 : List S46) (p : S46) (w : World) (hr0 : Kd.C k46 w A0 l0.length l0) (hc0 : l0.length ≤ c0) (hX : ∀ x ∈ l0, PutOk x) (hp : PutOk p) :
    Calls Try.prog 5 #[.slice A0 l0.length c0, .agg (pcells p).toArray] w fun e w' => e = .returned (.bool true) ∧ Below w.heap.size w w' := by
  have HX := Aside0.mk hX
  have HP := Aside0.mk hp
  have HR := Aside0.mk hr0
  have HFW := Aside0.mk (fun W (hb : Below w.heap.size w W) => stemmalaw11_few.calls A0 c0 l0 _ W (Kd.C_below hr0 hb) hc0 rfl)
  have HB0 : Aside0 (Below w.heap.size w (w.alloc (.cells (pcells p).toArray TP))) := ⟨below_alloc (Below.refl _ _) _⟩
  have HBP : Aside0 ((w.alloc (.cells (pcells p).toArray TP)).heap[w.heap.size]? = some (.cells (pcells p).toArray TP (0, 0))) := ⟨blk_new w _⟩
  clear hr0 hc0 hX hp
  by_cases hfew : (l0.length : Int) ≤ 120
  · rw [decide_eq_true hfew] at HFW
    have HN : Aside0 (l0.length ≤ 120) := ⟨by omega⟩
    have huP := Try.underlying46
    have huF := Try.underlying26
    have huI := Try.underlying28
    have hiP : (Try.prog.info? TP).map (·.size) = some 8 := by kernel_rfl
    have HZ := Aside0.mk zero_ref
    have HZs : Aside0 ((iv z0).toArray.size = 33) := ⟨rfl⟩
    obtain ⟨Z, hZe⟩ : ∃ Z, (iv z0).toArray = Z := ⟨_, rfl⟩
    rw [hZe] at HZ HZs
    have HZE := Aside0.mk hZe
    have HBZ : Aside0 (Try.prog.built TF [] = some Z) := ⟨by rw [← hZe]; kernel_rfl⟩
    clear hfew hZe
    go_enter Try.func5, Try.ntmps5
    go_upto_region 1 with fail
    generalize w.alloc (.cells (pcells p).toArray TP) = w0 at *
    go_upto_region 4 with (first | (go_at_call 15; refine (HFW.out _ HB0.out).mono ?_; rintro e w1 ⟨rfl, hd⟩; have HB1 := Aside0.mk (HB0.out.trans (hd.below.mono HB0.out.size)); have HP1 := Aside0.mk (blk_below HBP.out hd.below); clear hd) | (go_at_call 16; refine (tame_calls A0 c0 l0 w1 (Kd.C_below HR.out HB1.out) HN.out HX.out).mono ?_; rintro e w2 ⟨v2, R, rfl, hO, hT, hb⟩; have HO := Aside0.mk hO; have HT := Aside0.mk hT; have HP2 := Aside0.mk (blk_below HP1.out hb); have HB2 : Aside0 (Below w.heap.size w w2) := ⟨HB1.out.trans (hb.mono HB1.out.size)⟩; clear hO hT hb))
    clear HB0 HBP HB1 HP1 HFW HX HR
    obtain ⟨A2, c2, rfl⟩ := Kd.R_slice HO.out
    obtain ⟨L0, hL0⟩ := HT.out.al
    have hRl : R.length ≤ 120 := by have := HT.out.len; have := HN.out; omega
    have HF1 := Aside0.mk (filled_calls (L0 := L0) A2 c2 R none 0 [] w2 (Kd.R_reads' HO.out).2.2 (Kd.R_reads' (Kd.R_nil (Kd.int .u8) 5 w2 0 (fun _ => True))).2.2 (by omega) (fun x hx => by simp at hx) hL0 HT.out.here)
    obtain ⟨L, hLL⟩ : ∃ LL, (tellF R).map toC = LL := ⟨_, rfl⟩
    have hAL : Alike L R := by rw [← hLL, ← hL0.eq]; exact hL0
    have HAL := Aside0.mk hAL
    have hLl : L.length = R.length := hAL.size
    rw [hLL] at HF1
    have HLl := Aside0.mk hLl
    clear hL0 hLL hLl hAL
    go_upto_region 5 with (go_at_call 17; refine HF1.out.mono ?_; rintro e w3 ⟨gr, gm, M, v, rfl, hR⟩; have HRa := Aside0.mk hR; clear hR HF1)
    have HCa := Aside0.mk (Cells_calls HRa.out (by rw [HLl.out]; omega))
    go_upto_region 6 with (go_at_call 18; refine HCa.out.mono ?_; rintro e w4 ⟨vx, rfl, hO, hb⟩; have HOX := Aside0.mk hO; have HB4 := Aside0.mk hb; clear hO hb HCa)
    have HNE : Aside0 (∀ k, v.ownBlock = some k → vx.ownBlock ≠ some k) := ⟨fun k h1 h2 => by have h3 := (own_block HRa.out.row k h1).2.1; have h4 := (own_block HOX.out k h2).2.2; omega⟩
    have HP4 := Aside0.mk (blk_below HP2.out (below_step HRa.out.below HB4.out))
    have HR4 := Aside0.mk (HRa.out.step HB4.out)
    have HO4 := Aside0.mk (ownD_below HO.out (below_step HRa.out.below HB4.out))
    have HX4 := Aside0.mk (own_low HOX.out HRa.out.below.size)
    clear HRa HB4 HO HP2 HOX
    go_upto_region 7 with fail
    have hb5 : Below w4.heap.size w4 (w4.alloc (.cells #[.slice A2 R.length c2] TE)) := below_alloc (Below.refl _ _) _
    have HG8 : Aside0 ((w4.alloc (.cells #[.slice A2 R.length c2] TE)).heap[w4.heap.size]? = some (.cells #[.slice A2 R.length c2] TE (0, 0))) := ⟨blk_new w4 _⟩
    have HP5 := Aside0.mk (blk_below HP4.out hb5)
    have HR5 := Aside0.mk (HR4.out.step hb5)
    have HO5 := Aside0.mk (ownD_below HO4.out hb5)
    have HX5 := Aside0.mk (Kd.R_below HX4.out hb5)
    clear HP4 HR4 HO4 HX4 hb5
    generalize w4.alloc (.cells #[.slice A2 R.length c2] TE) = w5 at *
    generalize w4.heap.size = g8 at *
    have HR5' := Aside0.mk (HR5.out.low HB2.out)
    have HX5' := Aside0.mk (own_low HX5.out HB2.out.size)
    have k5 : w5.cell? ⟨w.heap.size, 5, none⟩ = some (.bool p.f5) := (blk_cell HP5.out 5).trans rfl
    have f5 : w5.frozen? ⟨w.heap.size, 5, none⟩ = false := blk_frozen HP5.out _
    have hne8 : g8 ≠ w.heap.size := fun e => absurd (Ty.ne (⟨_, HG8.out⟩ : Ty w5 TE g8) (by rw [e]; exact ⟨_, HP5.out⟩ : Ty w5 TP g8)) (by decide)
    have HP6 : Aside0 ((w5.setCell ⟨w.heap.size, 5, none⟩ (.bool false)).heap[w.heap.size]? = some (.cells (pcells (still p)).toArray TP (0, 0))) := ⟨blk_set HP5.out 5 (.bool false)⟩
    have HR6 := Aside0.mk (rw_cellT (o := 5) (u := .bool false) HR5'.out HP5.out (by decide) (Nat.le_refl _))
    have HO6 := Aside0.mk (ownD_cell HO5.out HP5.out (by decide) 5 (.bool false))
    have HX6 : Aside0 (Own (w5.setCell ⟨w.heap.size, 5, none⟩ (.bool false)) w.heap.size vx L) := ⟨own_blk HX5'.out (fun k hk => Below.heap_setCell w5 ⟨w.heap.size, 5, none⟩ (.bool false) k (fun e => by have := (own_block HX5'.out k hk).1; rw [show k = w.heap.size from e] at this; exact absurd (Ty.ne this ⟨_, HP5.out⟩) (by decide)))⟩
    have HG86 : Aside0 ((w5.setCell ⟨w.heap.size, 5, none⟩ (.bool false)).heap[g8]? = some (.cells #[.slice A2 R.length c2] TE (0, 0))) := ⟨(Below.heap_setCell w5 ⟨w.heap.size, 5, none⟩ (.bool false) g8 hne8).trans HG8.out⟩
    clear HR5 HX5 HP5 HR5' HX5' HO5 HG8 hne8 HB2
    go_upto_region 8 with fail
    clear k5 f5
    generalize w5.setCell ⟨w.heap.size, 5, none⟩ (.bool false) = w6 at *
    have hpo : PutOk (still p) := ⟨HP.out.b0, HP.out.b1, HP.out.b2, HP.out.b3, HP.out.w6, HP.out.w7⟩
    have hok := ids_ok (p := still p) (R := R) hpo HAL.out.ok
    have HID := Aside0.mk (fun W (hW : OwnD W 0 (.slice A2 R.length c2) R) => ids_calls W _ R hW (by omega) (still p) hpo HAL.out.ok)
    obtain ⟨a, ha⟩ : ∃ a, (idsF R (still p)).1 = a := ⟨_, rfl⟩
    obtain ⟨i, hi⟩ : ∃ i, (idsF R (still p)).2 = i := ⟨_, rfl⟩
    have HIDE : Aside0 (idsF R (still p) = (a, i)) := ⟨by rw [← ha, ← hi]⟩
    rw [ha, hi] at HID
    rw [ha, hi] at hok
    have HOK := Aside0.mk hok
    have HAs : Aside0 ((iv a).toArray.size = 33) := ⟨by rw [List.size_toArray, iv_len hok.1.2.1]⟩
    have HIs : Aside0 ((iv i).toArray.size = 33) := ⟨by rw [List.size_toArray, iv_len hok.2.2.1]⟩
    have HA1 : Aside0 ((iv a).toArray.all (·.oneCell') = true) := ⟨iv_all _⟩
    have HI1 : Aside0 ((iv i).toArray.all (·.oneCell') = true) := ⟨iv_all _⟩
    have HSA : Aside0 ((Try.prog.info? TF).map (·.size) = some (iv a).toArray.size) := ⟨by rw [HAs.out]; exact size_ref⟩
    have HSI : Aside0 ((Try.prog.info? TF).map (·.size) = some (iv i).toArray.size) := ⟨by rw [HIs.out]; exact size_ref⟩
    obtain ⟨A, hAe⟩ : ∃ A, iv a = A := ⟨_, rfl⟩
    obtain ⟨I, hIe⟩ : ∃ I, iv i = I := ⟨_, rfl⟩
    rw [hAe] at HID HAs HA1 HSA
    rw [hIe] at HID HIs HI1 HSI
    have HAe := Aside0.mk hAe
    have HIe := Aside0.mk hIe
    have HPS : Aside0 ((Try.prog.info? TP).map (·.size) = some (pcells (still p)).toArray.size) := ⟨hiP⟩
    have k0 : w6.cell? ⟨g8, 0, none⟩ = some (.slice A2 R.length c2) := (blk_cell HG86.out 0).trans rfl
    clear hpo hok ha hi hAe hIe
    go_upto_region 9 with (first | ((with_reducible refine gate_ (Op.load TP (.tmp 3)) rfl ?_); refine wpList_load_row rfl TP (.tmp 3) rfl w.heap.size rfl _ _ _ _ HP6.out huP rfl HPS.out ?_) | (go_at_call 19; refine (HID.out _ HO6.out).mono ?_; rintro e w7 ⟨rfl, hb⟩; have HB7 := Aside0.mk hb; clear hb) | ((with_reducible refine gate_ (Op.alloc TF) rfl ?_); refine wpList_alloc_as rfl TF rfl Z HZ.out ?_) | ((with_reducible refine gate_ (Op.store TF (.tmp 9) (.tmp 33)) rfl ?_); refine wpList_store_at rfl TF (.tmp 9) (.tmp 33) rfl w7.heap.size 0 A.toArray rfl rfl TF Z (blk_alloc (blk_new w7 _) _) (by rw [HAs.out, HZs.out]; decide) HSA.out HA1.out ?_; rw [splice_all _ _ (by rw [Array.length_toList, Array.length_toList, HAs.out, HZs.out]), Array.toArray_toList]) | ((with_reducible refine gate_ (Op.store TF (.tmp 10) (.tmp 34)) rfl ?_); refine wpList_store_at rfl TF (.tmp 10) (.tmp 34) rfl (w7.heap.size + 1) 0 I.toArray (by rw [← alloc_size w7 (.cells Z TF)]; rfl) rfl TF Z (ids_b9 w7 Z A.toArray) (by rw [HIs.out, HZs.out]; decide) HSI.out HI1.out ?_; rw [splice_all _ _ (by rw [Array.length_toList, Array.length_toList, HIs.out, HZs.out]), Array.toArray_toList]))
    have hb8 := below_step HB7.out (below_ids w7 Z A.toArray I.toArray)
    have HK : Aside0 (Ks w w gr gm L M v L R (.slice A2 R.length c2) vx w.heap.size g8 w7.heap.size (w7.heap.size + 1) (still p) A I ((((w7.alloc (.cells Z TF)).alloc (.cells Z TF)).setRow w7.heap.size A.toArray).setRow (w7.heap.size + 1) I.toArray)) := ⟨⟨Below.refl _ _, blk_below HP6.out hb8, blk_below HG86.out hb8, (setRow_other _ _ _ _ (by omega)).trans (blk_row (blk_alloc (blk_new w7 _) _) _), blk_row (ids_b9 w7 Z A.toArray) _, HR6.out.step hb8, ownD_below HO6.out hb8, Kd.R_below HX6.out hb8, HNE.out, by have h1 := HR6.out.below.size; have h2 := HB7.out.size; omega, by omega⟩⟩
    clear k0 HP6 HG86 HR6 HO6 HX6 HB7 HID HNE hb8
    rw [alloc_size w7 (.cells Z TF)]
    generalize (((w7.alloc (.cells Z TF)).alloc (.cells Z TF)).setRow w7.heap.size A.toArray).setRow (w7.heap.size + 1) I.toArray = w8 at *
    generalize w7.heap.size = g9 at *
    generalize g9 + 1 = g10 at *
    go_upto_region 11 with fail
    go_loopw [11, 12] (fun t i wr => ∃ j nq : Nat, j ≤ R.length ∧ i = .int .i64 j ∧ t = .int .i64 (topF (R.take j)) ∧ wr = w8.drewN nq) (fun _ i _ => R.length - (intOf i).toNat)
    case atStart => exact ⟨0, 0, by omega, rfl, rfl, rfl⟩
    case round =>
      obtain ⟨j, nq0, hj, rfl, rfl, rfl⟩ := hrel
      by_cases hlt : j < R.length
      · obtain ⟨x, hx⟩ : ∃ x, R[j]? = some x := ⟨_, List.getElem?_eq_getElem hlt⟩
        have hts : R.take (j + 1) = R.take j ++ [x] := by rw [List.take_add_one, hx]; rfl
        have hsn := topF_snoc (R.take j) x
        rw [← hts] at hsn
        obtain ⟨gk, cap, cur, he, hg, ht⟩ : ∃ gk cap cur, (.slice A2 R.length c2 : Value) = .slice (some ⟨gk, 0, none⟩) R.length cap ∧ w8.heap[gk]? = some (.cells cur TD (0, 0)) ∧ cur.toList.take (R.length * 68) = fr R := by
          rcases ownD_form HK.out.own with ⟨_, hn⟩ | ⟨gk, cap, cur, hv, _, h2, _, _, _, h3⟩
          · rw [hn] at hlt; simp at hlt
          · exact ⟨gk, cap, cur, hv, h2, h3⟩
        obtain ⟨rfl, rfl⟩ : A2 = some ⟨gk, 0, none⟩ ∧ c2 = cap := by injection he with h1 _ h3; exact ⟨h1, h3⟩
        have kt : (w8.drewN nq0).cell? ⟨gk, j * 68, none⟩ = some (.int .i64 x.id.1) := by
          rw [show (w8.drewN nq0).cell? ⟨gk, j * 68, none⟩ = w8.cell? ⟨gk, j * 68, none⟩ from rfl, blk_cell hg]
          have := curD_at HK.out.own.okr ht hx 0 (.int .i64 x.id.1) (re_id 0 _ rfl)
          rwa [Nat.add_zero] at this
        have hsD := size_re
        have t8 : decide ((j : Int) < (R.length : Int)) = true := decide_eq_true (by omega)
        have t9 : ((j : Int) < (R.length : Int)) = True := eq_true (by omega)
        generalize x.id.1 = n at *
        generalize topF (R.take j) = tp at *
        clear hx hts he hg ht
        go_wp2_with fail
        go_roundw
        case rel => exact ⟨j + 1, _, hlt, by go_num, by rw [hsn]; congr 1; split <;> omega, rfl⟩
        case measure => simp [intOf]; omega
      · obtain rfl : j = R.length := by omega
        rw [List.take_of_length_le (Nat.le_refl _)]
        obtain ⟨tp, htp⟩ : ∃ t, topF R = t := ⟨_, rfl⟩
        have htb : 0 ≤ tp ∧ tp ≤ 480 := by
          rw [← htp]
          exact ⟨(fold_ge R 0).1, fold_le R 0 480 (by omega) (fun x hx => by have h1 := HT.out.num x hx; have h2 := HN.out; omega)⟩
        have HTP : Aside0 (∀ x ∈ R, x.id.1 ≤ tp) := ⟨fun x hx => by rw [← htp]; exact (fold_ge R 0).2 x hx⟩
        rw [htp]
        have HKd := Aside0.mk (HK.out.step (pw_below_drewN (Below.refl w8.heap.size w8) nq0))
        clear htp HK
        generalize w8.drewN nq0 = w9 at *
        have k4 : w9.cell? ⟨w.heap.size, 4, none⟩ = some (.bool p.f4) := HKd.out.pc 4 _ rfl
        obtain ⟨bc, hbc⟩ : ∃ b, p.f4 = b := ⟨_, rfl⟩
        rw [hbc] at k4
        have HBC := Aside0.mk hbc
        have hwr : wrap64 (tp + 1) = tp + 1 := by unfold wrap64; omega
        clear hbc
        go_upto_if 50 with fail
        go_cut [] from 51 to 54 (fun wy => Aside0 (Ks w w gr gm L M v L R (.slice A2 R.length c2) vx w.heap.size g8 g9 g10 (still p) A (iv (if bc = true then (tp + 1, i.2) else i)) wy))
        case first =>
          cases bc with
          | true =>
            have k10 : w9.cell? ⟨g10, 0, none⟩ = some (.int .i64 i.1) := by rw [blk_cell HKd.out.c10, ← HIe.out]; rfl
            have f10 : w9.frozen? ⟨g10, 0, none⟩ = false := blk_frozen HKd.out.c10 _
            have HKn : Aside0 (Ks w w gr gm L M v L R (.slice A2 R.length c2) vx w.heap.size g8 g9 g10 (still p) A (iv (tp + 1, i.2)) (w9.setCell ⟨g10, 0, none⟩ (.int .i64 (tp + 1)))) := ⟨Ks.num (i := i) (by rw [HIe.out]; exact HKd.out) (tp + 1)⟩
            go_wp2_with fail
            go_meet
            exact HKn
          | false =>
            have HKn : Aside0 (Ks w w gr gm L M v L R (.slice A2 R.length c2) vx w.heap.size g8 g9 g10 (still p) A (iv i) w9) := ⟨by rw [HIe.out]; exact HKd.out⟩
            go_wp2_with fail
            go_meet
            exact HKn
        case rest =>
          have HK1 := hcut
          obtain ⟨i', hi'⟩ : ∃ i', (if bc = true then (tp + 1, i.2) else i) = i' := ⟨_, rfl⟩
          rw [hi'] at HK1
          obtain ⟨hoa, hoi, hbad, hain, htop⟩ := keeps_id HAL.out HT.out HN.out HP.out HIDE.out HTP.out htb hi'
          have HIN := Aside0.mk (fun W (hW : Rw w gr gm L M v W) => Insert2_calls (ch := p.f3) hW (by rw [HLl.out]; omega) hoa hoi)
          have HOA := Aside0.mk (fun W => own_calls W a hoa.2.1)
          have HOI := Aside0.mk (fun W => own_calls W i' hoi.2.1)
          have HFD := Aside0.mk (fun W (hW : OwnD W 0 (.slice A2 R.length c2) R) => Find_calls W _ R hW (by omega) i' hoi.2.1)
          have HOKA := Aside0.mk (And.intro hoa hoi)
          have HBAD := Aside0.mk hbad
          have HAIN := Aside0.mk hain
          have HTOP := Aside0.mk htop
          clear HIe HIs HI1 HSI HIDE HOK hoa hoi hbad hain htop hi' k4 hwr htb HTP HZ hcut
          obtain ⟨I, hI⟩ : ∃ I, iv i' = I := ⟨_, rfl⟩
          have HIe := Aside0.mk hI
          have HSI : Aside0 ((Try.prog.info? TF).map (·.size) = some I.length) := ⟨by rw [← hI, iv_len HOKA.out.2.2.1]; exact size_ref⟩
          have HSA : Aside0 ((Try.prog.info? TF).map (·.size) = some A.length) := ⟨by rw [← HAe.out, iv_len HOKA.out.1.2.1]; exact size_ref⟩
          rw [hI] at HK1 HIN HOI HFD
          rw [HAe.out] at HIN HOA
          clear hI
          generalize hv2 : (.slice A2 R.length c2 : Value) = v2 at *
          go_upto_region 16 with fail
          -- [r16
          refine start_ (n := 9) (S := SK1 w gr gm L M v R v2 vx g8 g9 g10 (still p) A I) (ds := [7]) #[false, false, false, false, false, false, false, false, false] (by kernel_rfl) rfl rfl (sk1_of (HK1.out.step (pw_below_drewN (Below.refl _ _) 1))) (fun hHeld => ?_)
          generalize wc.drew = wd at hHeld ⊢
          clear HK1
          refine pure_ (i := 0) (N := some 54) (v := ?_) (a' := ?_) #[true, false, false, false, false, false, false, false, false] rfl rfl (by kernel_rfl) (fun _ _ _ h => h) (Or.inl ⟨by rfl, ?_⟩) ?_ ?_
          rotate_left
          · intro w'
            go_simp
            with_reducible rfl
          rotate_left
          · simp only [Act.put, List.setIfInBounds_toArray, List.set_cons_zero, List.set_cons_succ, i64_w, i32_w]
            rfl
          refine take_ (i := 1) (N := some 55) (v := .agg A.toArray) (a' := ?_) #[true, true, false, false, false, false, false, false, false] rfl rfl (by kernel_rfl) (fun _ _ _ h => h) (yieldsIf_load_mid (by rfl) TF (.tmp 9) rfl g9 0 rfl A _ (fun w' hS => hS.1) huF rfl HSA.out) hHeld ?_ ?_
          rotate_left
          · simp only [Act.put, List.setIfInBounds_toArray, List.set_cons_zero, List.set_cons_succ, i64_w, i32_w]
            rfl
          refine take_ (i := 3) (N := some 57) (v := .agg I.toArray) (a' := ?_) #[true, true, false, true, false, false, false, false, false] rfl rfl (by kernel_rfl) (fun _ _ _ h => h) (yieldsIf_load_mid (by rfl) TF (.tmp 10) rfl g10 0 rfl I _ (fun w' hS => hS.2.1) huF rfl HSI.out) hHeld ?_ ?_
          rotate_left
          · simp only [Act.put, List.setIfInBounds_toArray, List.set_cons_zero, List.set_cons_succ, i64_w, i32_w]
            rfl
          refine pure_ (i := 5) (N := some 59) (v := ?_) (a' := ?_) #[true, true, false, true, false, true, false, false, false] rfl rfl (by kernel_rfl) (fun _ _ _ h => h) (Or.inl ⟨by rfl, ?_⟩) ?_ ?_
          rotate_left
          · intro w'
            go_simp
            with_reducible rfl
          rotate_left
          · simp only [Act.put, List.setIfInBounds_toArray, List.set_cons_zero, List.set_cons_succ, i64_w, i32_w]
            rfl
          refine take_ (i := 6) (N := some 60) (v := ?_) (a' := ?_) #[true, true, false, true, false, true, true, false, false] rfl rfl (by kernel_rfl) (fun _ _ _ h => h) (Or.inl ⟨by rfl, ?_⟩) hHeld ?_ ?_
          rotate_left
          · rintro w' ⟨_, _, s3, _⟩
            go_simp
            with_reducible rfl
          rotate_left
          · simp only [Act.put, List.setIfInBounds_toArray, List.set_cons_zero, List.set_cons_succ, i64_w, i32_w]
            rfl
          refine one_ (i := 2) (N := some 56) #[true, true, true, true, false, true, true, false, false] rfl rfl (by kernel_rfl) (by decide) (fun K hK => ?_)
          refine goes_ Try.func12 (by kernel_rfl) rfl #[.agg A.toArray] (by rfl) rfl rfl (by first | rfl | (simp only [List.map_toArray, List.map_cons, List.map_nil]; done) | (simp only [List.map_toArray, List.map_cons, List.map_nil]; rfl)) ?_
          refine (HOA.out _).mono ?_
          rintro e w4 ⟨rfl, hb⟩
          refine ⟨_, rfl, ?_⟩
          have hS2 := sk1_of (hHeld.2.2.2.out.step hb)
          clear hb hHeld
          refine hK.out _ _ hS2 (fun hHeld => ?_)
          clear hK K hS2
          refine norm_ (a' := ?_) ?_ ?_
          rotate_left
          · show Act.put _ (some 56) _ = _
            simp only [Act.put, List.setIfInBounds_toArray, List.set_cons_zero, List.set_cons_succ, i64_w, i32_w]
            rfl
          refine one_ (i := 4) (N := some 58) #[true, true, true, true, true, true, true, false, false] rfl rfl (by kernel_rfl) (by decide) (fun K hK => ?_)
          refine goes_ Try.func12 (by kernel_rfl) rfl #[.agg I.toArray] (by rfl) rfl rfl (by first | rfl | (simp only [List.map_toArray, List.map_cons, List.map_nil]; done) | (simp only [List.map_toArray, List.map_cons, List.map_nil]; rfl)) ?_
          refine (HOI.out _).mono ?_
          rintro e w4 ⟨rfl, hb⟩
          refine ⟨_, rfl, ?_⟩
          have hS2 := sk1_of (hHeld.2.2.2.out.step hb)
          clear hb hHeld
          refine hK.out _ _ hS2 (fun hHeld => ?_)
          clear hK K hS2
          refine norm_ (a' := ?_) ?_ ?_
          rotate_left
          · show Act.put _ (some 58) _ = _
            simp only [Act.put, List.setIfInBounds_toArray, List.set_cons_zero, List.set_cons_succ, i64_w, i32_w]
            rfl
          refine last_ (i := 7) (N := some 61) #[true, true, true, true, true, true, true, true, false] rfl rfl (by kernel_rfl) (by decide) (fun K hK => ?_)
          refine goes_ Try.func20 (by kernel_rfl) rfl #[.pointer (some ⟨gr, 0, none⟩), .agg A.toArray, .agg I.toArray, .int .u8 p.f3] (by rfl) rfl rfl (by first | rfl | (simp only [List.map_toArray, List.map_cons, List.map_nil]; done) | (simp only [List.map_toArray, List.map_cons, List.map_nil]; rfl)) ?_
          refine (HIN.out _ hHeld.2.2.2.out.rw).mono ?_
          rintro e w5 ⟨cc, L1, M1, v1, rfl, hR, hk, ho, hor⟩
          refine ⟨_, rfl, ?_⟩
          have HK5 := Aside0.mk (hHeld.2.2.2.out.turn hk hR ho)
          have HOC := Aside0.mk hor
          clear hk hR ho hor hHeld
          refine hK.out _ _ ?_
          clear hK K
          refine norm_ (a' := ?_) ?_ ?_
          rotate_left
          · show Act.put _ (some 61) _ = _
            simp only [Act.put, List.setIfInBounds_toArray, List.set_cons_zero, List.set_cons_succ, i64_w, i32_w]
            rfl
          refine pure_ (i := 8) (N := some 62) (v := ?_) (a' := ?_) #[true, true, true, true, true, true, true, true, true] rfl rfl (by kernel_rfl) (fun _ _ _ h => h) (Or.inl ⟨by rfl, ?_⟩) ?_ ?_
          rotate_left
          · intro w'
            go_simp
            with_reducible rfl
          rotate_left
          · simp only [Act.put, List.setIfInBounds_toArray, List.set_cons_zero, List.set_cons_succ, i64_w, i32_w]
            rfl
          refine done_ (by kernel_rfl) ?_
          -- r16]
          rcases HOC.out with ⟨rfl, rfl, h1⟩ | ⟨rfl, rfl, h1, xx, hxx, hxi⟩ | ⟨rfl, rfl, h1, h2, h3, h4⟩ | ⟨rfl, ⟨jj, hst, rfl⟩, h1, h2, h3⟩
          · exact absurd h1 HBAD.out
          · have k8 : w5.cell? ⟨g8, 0, none⟩ = some v2 := (blk_cell HK5.out.b8 0).trans rfl
            have HC10 := Aside0.mk HK5.out.c10
            have HIR : Aside0 (∃ q ∈ R, q.id = i') := ⟨(HAL.out.mem i').1 ⟨xx, hxx, hxi⟩⟩
            have HSI2 : Aside0 ((Try.prog.info? TF).map (·.size) = some I.toArray.size) := ⟨by rw [List.size_toArray]; exact HSI.out⟩
            clear HOC h1 hxx hxi
            go_upto_region 17 with fail
            go_wp2_with (first | ((with_reducible refine gate_ (Op.load TF (.tmp 10)) rfl ?_); refine wpList_load_row rfl TF (.tmp 10) rfl g10 rfl _ _ _ _ HC10.out huF rfl HSI2.out ?_) | (go_at_call 21; refine (HFD.out _ HK5.out.own).mono ?_; rintro e w7 ⟨rr, rfl, hps, hb⟩; obtain ⟨jr, rfl⟩ : ∃ jr : Nat, rr = (jr : Int) := (by (rcases hps with ⟨_, hn⟩ | ⟨j, _, e, _⟩; exact (by obtain ⟨q, hq, e⟩ := HIR.out; exact absurd e (hn q hq)); exact ⟨j, e⟩)); have HB7 := Aside0.mk (below_step HK5.out.bel hb); clear hb hps) | (go_at_call 14; refine (awake_calls _).mono ?_; rintro e w8 ⟨rfl, hb⟩; have HB8 := Aside0.mk (below_step HB7.out hb); clear hb))
            go_ret
            exact ⟨rfl, HB8.out⟩
          · exfalso
            rcases HAIN.out with e | ⟨q, hq, e⟩
            · exact h3 e
            · obtain ⟨y, hy, e2⟩ := (HAL.out.mem a).2 ⟨q, hq, e⟩
              exact h4 y hy e2
          · obtain ⟨P, hP⟩ : ∃ P, adv L i' jj = P := ⟨_, rfl⟩
            have hpl : P ≤ L.length := by rw [← hP]; exact adv_le hst
            have HST := Aside0.mk hst
            have HPE := Aside0.mk hP
            have HNI : Aside0 (∀ x ∈ L, x.id ≠ i') := ⟨h2⟩
            rw [hP] at HK5
            obtain ⟨L1, hL1⟩ : ∃ L1, insAt L P ⟨i', p.f3, false⟩ = L1 := ⟨_, rfl⟩
            rw [hL1] at HK5
            have HL1 := Aside0.mk hL1
            have hl1 : L1.length = R.length + 1 := by rw [← hL1, ← HLl.out]; unfold insAt; rw [List.length_append, List.length_append, List.length_take, List.length_drop]; simp; omega
            have HLL1 := Aside0.mk hl1
            have HCn := Aside0.mk (Cells_calls HK5.out.rw (by omega))
            clear HOC hst hP h1 h2 h3 hL1
            go_upto_region 19 with (go_at_call 18; refine HCn.out.mono ?_; rintro e w7 ⟨vn, rfl, hO, hb⟩; have HQ : Aside0 (Kq w gr gm L1 M1 v1 L R v2 vx vn g8 g9 g10 (still p) A I w7) := ⟨⟨HK5.out.step hb, own_low hO HK5.out.bel.size⟩⟩; clear hO hb HCn)
            clear HK5
            obtain ⟨An, cn, hvn⟩ := Kd.R_slice HQ.out.new
            obtain ⟨Ax, cx, hvx⟩ := Kd.R_slice HQ.out.ks.was
            rw [hl1] at hvn
            rw [HLl.out] at hvx hpl
            subst hvn
            subst hvx
            have HPL := Aside0.mk hpl
            clear hl1 hpl
            go_wp2_with fail
            go_loopw [14, 15] (fun kk qq wr => ∃ q : Nat, q ≤ R.length + 1 ∧ qq = .int .i64 q ∧ kk = .int .i64 ((if q ≤ P then q else q - 1 : Nat)) ∧ Aside0 (Kq w gr gm L1 M1 v1 L R v2 (.slice Ax R.length cx) (.slice An (R.length + 1) cn) g8 g9 g10 (still p) A I wr)) (fun _ i _ => R.length + 1 - (intOf i).toNat)
            case atStart => exact ⟨0, by omega, rfl, by simp, HQ⟩
            case round =>
              clear HQ
              obtain ⟨q, hq, rfl, rfl, HQ⟩ := hrel
              by_cases hlt : q < R.length + 1
              · obtain ⟨x, hx⟩ : ∃ x, L1[q]? = some x := ⟨_, List.getElem?_eq_getElem (by rw [HLL1.out]; exact hlt)⟩
                obtain ⟨gn, rfl⟩ : ∃ gn, An = some ⟨gn, 0, none⟩ := by
                  rcases own_form HQ.out.new with ⟨_, hn⟩ | ⟨gk, cap, cur, hv, _⟩
                  · rw [hn] at hx; simp at hx
                  · injection hv with h1; exact ⟨gk, h1⟩
                have hxk := (own_raw HQ.out.new).2 x (List.mem_of_getElem? hx)
                have HSQ : Aside0 (∀ W, Kq w gr gm L1 M1 v1 L R v2 (.slice Ax R.length cx) (.slice (some ⟨gn, 0, none⟩) (R.length + 1) cn) g8 g9 g10 (still p) A I W → SQ1 w gr gm L1 M1 v1 L R v2 (.slice Ax R.length cx) (.slice (some ⟨gn, 0, none⟩) (R.length + 1) cn) g8 g9 g10 (still p) A I gn (q * 35) (iv x.id) bc W) := ⟨fun W h => sq1_of HBC.out hx h⟩
                have heq := fun W => run_eqId W x.id i' hxk HOKA.out.2.2.1
                rw [HIe.out] at heq
                have HSX : Aside0 ((Try.prog.info? TI).map (·.size) = some (iv x.id).length) := ⟨by rw [iv_len hxk]; exact size_id⟩
                have hsC := size_ce
                have t8 : decide ((q : Int) < ((R.length : Int) + 1)) = true := decide_eq_true (by omega)
                have t9 : ((q : Int) < ((R.length : Int) + 1)) = True := eq_true (by omega)
                obtain ⟨X, hX⟩ : ∃ X, iv x.id = X := ⟨_, rfl⟩
                rw [hX] at HSQ heq HSX
                have HAT := insAt_at (n := (⟨i', p.f3, false⟩ : Ce)) (L := L) (by rw [HLl.out]; exact HPL.out : P ≤ L.length)
                rw [HL1.out] at HAT
                have HXX := Aside0.mk hx
                have HAT := Aside0.mk HAT
                clear hx hX
                by_cases hqP : q = P
                · have hxi : x.id = i' := by have h1 := HXX.out; rw [hqP, HAT.out.2.1] at h1; cases h1; rfl
                  rw [decide_eq_true hxi] at heq
                  clear hxi
                  rw [if_pos (by omega : q ≤ P)]
                  have HqP := Aside0.mk hqP
                  clear hqP
                  go_upto_region 23 with fail
                  -- [r23t
                  refine start_ (n := 8) (S := SQ1 w gr gm L1 M1 v1 L R v2 (.slice Ax R.length cx) (.slice (some ⟨gn, 0, none⟩) (R.length + 1) cn) g8 g9 g10 (still p) A I gn (q * 35) X bc) (ds := []) #[false, false, false, false, false, false, false, false] (by kernel_rfl) rfl rfl (HSQ.out _ (HQ.out.step (pw_below_drewN (Below.refl _ _) 1))) (fun hHeld => ?_)
                  generalize wr.drew = wd at hHeld ⊢
                  clear HQ
                  refine pure_ (i := 0) (N := some 78) (v := ?_) (a' := ?_) #[true, false, false, false, false, false, false, false] rfl rfl (by kernel_rfl) (fun _ _ _ h => h) (Or.inl ⟨by rfl, ?_⟩) ?_ ?_
                  rotate_left
                  · intro w'
                    go_simp
                    with_reducible rfl
                  rotate_left
                  · simp only [Act.put, List.setIfInBounds_toArray, List.set_cons_zero, List.set_cons_succ, i64_w, i32_w]
                    rfl
                  refine pure_ (i := 1) (N := some 79) (v := ?_) (a' := ?_) #[true, true, false, false, false, false, false, false] rfl rfl (by kernel_rfl) (fun _ _ _ h => h) (Or.inl ⟨by rfl, ?_⟩) ?_ ?_
                  rotate_left
                  · intro w'
                    go_simp
                    with_reducible rfl
                  rotate_left
                  · simp only [Act.put, List.setIfInBounds_toArray, List.set_cons_zero, List.set_cons_succ, i64_w, i32_w]
                    rfl
                  refine pure_ (i := 2) (N := some 80) (v := .pointer (some ⟨gn, q * 35, none⟩)) (a' := ?_) #[true, true, true, false, false, false, false, false] rfl rfl (by kernel_rfl) (fun _ _ _ h => h) (Or.inl ⟨by rfl, ?_⟩) ?_ ?_
                  · intro w'
                    go_simp
                    all_goals (try simp)
                  rotate_left
                  · simp only [Act.put, List.setIfInBounds_toArray, List.set_cons_zero, List.set_cons_succ, i64_w, i32_w]
                    rfl
                  refine pure_ (i := 3) (N := some 81) (v := .pointer (some ⟨gn, q * 35, none⟩)) (a' := ?_) #[true, true, true, true, false, false, false, false] rfl rfl (by kernel_rfl) (fun _ _ _ h => h) (Or.inl ⟨by rfl, ?_⟩) ?_ ?_
                  · intro w'
                    go_simp
                    all_goals (try simp)
                  rotate_left
                  · simp only [Act.put, List.setIfInBounds_toArray, List.set_cons_zero, List.set_cons_succ, i64_w, i32_w]
                    rfl
                  refine take_ (i := 4) (N := some 82) (v := .agg X.toArray) (a' := ?_) #[true, true, true, true, true, false, false, false] rfl rfl (by kernel_rfl) (fun _ _ _ h => h) (yieldsIf_load_mid (by rfl) TI (.tmp 81) rfl gn (q * 35) rfl X _ (fun w' hS => hS.1) huI rfl HSX.out) hHeld ?_ ?_
                  rotate_left
                  · simp only [Act.put, List.setIfInBounds_toArray, List.set_cons_zero, List.set_cons_succ, i64_w, i32_w]
                    rfl
                  refine take_ (i := 5) (N := some 83) (v := .agg I.toArray) (a' := ?_) #[true, true, true, true, true, true, false, false] rfl rfl (by kernel_rfl) (fun _ _ _ h => h) (yieldsIf_load_mid (by rfl) TF (.tmp 10) rfl g10 0 rfl I _ (fun w' hS => hS.2.2.1) huF rfl HSI.out) hHeld ?_ ?_
                  rotate_left
                  · simp only [Act.put, List.setIfInBounds_toArray, List.set_cons_zero, List.set_cons_succ, i64_w, i32_w]
                    rfl
                  refine one_ (i := 6) (N := some 84) #[true, true, true, true, true, true, true, false] rfl rfl (by kernel_rfl) (by decide) (fun K hK => ?_)
                  refine goes_ Try.func12 (by kernel_rfl) rfl #[.agg I.toArray] (by rfl) rfl rfl (by first | rfl | (simp only [List.map_toArray, List.map_cons, List.map_nil]; done) | (simp only [List.map_toArray, List.map_cons, List.map_nil]; rfl)) ?_
                  refine (HOI.out _).mono ?_
                  rintro e w4 ⟨rfl, hb⟩
                  refine ⟨_, rfl, ?_⟩
                  have hS2 := HSQ.out _ (hHeld.2.2.2.2.out.step hb)
                  clear hb hHeld
                  refine hK.out _ _ hS2 (fun hHeld => ?_)
                  clear hK K hS2
                  refine norm_ (a' := ?_) ?_ ?_
                  rotate_left
                  · show Act.put _ (some 84) _ = _
                    simp only [Act.put, List.setIfInBounds_toArray, List.set_cons_zero, List.set_cons_succ, i64_w, i32_w]
                    rfl
                  refine pure_ (i := 7) (N := some 85) (v := .bool true) (a' := ?_) #[true, true, true, true, true, true, true, true] rfl rfl (by kernel_rfl) (fun _ _ _ h => h) (Or.inl ⟨by rfl, ?_⟩) ?_ ?_
                  · intro w'
                    have := heq w'
                    go_simp
                    all_goals (try simp)
                    all_goals (first | assumption | exact (i64_w _).trans (by assumption))
                  rotate_left
                  · simp only [Act.put, List.setIfInBounds_toArray, List.set_cons_zero, List.set_cons_succ, i64_w, i32_w]
                    rfl
                  refine done_ (by kernel_rfl) ?_
                  have HQ := Aside0.mk hHeld.2.2.2.2.out
                  clear hHeld
                  -- r23t]
                  clear heq
                  cases bc with
                  | false =>
                    have HSR := HSQ
                    go_upto_region 24 with fail
                    -- [r24off
                    refine start_ (n := 29) (S := SQ1 w gr gm L1 M1 v1 L R v2 (.slice Ax R.length cx) (.slice (some ⟨gn, 0, none⟩) (R.length + 1) cn) g8 g9 g10 (still p) A I gn (q * 35) X false) (ds := []) #[false, false, false, false, false, false, false, false, false, false, false, false, false, false, false, false, false, false, false, false, false, false, false, false, false, false, false, false, false] (by kernel_rfl) rfl rfl (HSR.out _ (HQ.out.step (pw_below_drewN (Below.refl _ _) 1))) (fun hHeld => ?_)
                    generalize w4.drew = wd at hHeld ⊢
                    clear HQ
                    refine pure_ (i := 0) (N := some 86) (v := ?_) (a' := ?_) #[true, false, false, false, false, false, false, false, false, false, false, false, false, false, false, false, false, false, false, false, false, false, false, false, false, false, false, false, false] rfl rfl (by kernel_rfl) (fun _ _ _ h => h) (Or.inl ⟨by rfl, ?_⟩) ?_ ?_
                    rotate_left
                    · intro w'
                      go_simp
                      with_reducible rfl
                    rotate_left
                    · simp only [Act.put, List.setIfInBounds_toArray, List.set_cons_zero, List.set_cons_succ, i64_w, i32_w]
                      rfl
                    refine take_ (i := 1) (N := some 87) (v := ?_) (a' := ?_) #[true, true, false, false, false, false, false, false, false, false, false, false, false, false, false, false, false, false, false, false, false, false, false, false, false, false, false, false, false] rfl rfl (by kernel_rfl) (fun _ _ _ h => h) (Or.inl ⟨by rfl, ?_⟩) hHeld ?_ ?_
                    rotate_left
                    · rintro w' ⟨_, _, _, s4, _⟩
                      go_simp
                      with_reducible rfl
                    rotate_left
                    · simp only [Act.put, List.setIfInBounds_toArray, List.set_cons_zero, List.set_cons_succ, i64_w, i32_w]
                      rfl
                    refine pure_ (i := 2) (N := some 88) (v := ?_) (a' := ?_) #[true, true, true, false, false, false, false, false, false, false, false, false, false, false, false, false, false, false, false, false, false, false, false, false, false, false, false, false, false] rfl rfl (by kernel_rfl) (fun _ _ _ h => h) (Or.inl ⟨by rfl, ?_⟩) ?_ ?_
                    rotate_left
                    · intro w'
                      go_simp
                      with_reducible rfl
                    rotate_left
                    · simp only [Act.put, List.setIfInBounds_toArray, List.set_cons_zero, List.set_cons_succ, i64_w, i32_w]
                      rfl
                    refine pure_ (i := 3) (N := some 89) (v := undef) (a' := ?_) #[true, true, true, true, false, false, false, false, false, false, false, false, false, false, false, false, false, false, false, false, false, false, false, false, false, false, false, false, false] rfl rfl (by kernel_rfl) (fun _ _ _ h => h) (Or.inr ⟨by rfl, rfl⟩) ?_ ?_
                    rotate_left
                    · simp only [Act.put, List.setIfInBounds_toArray, List.set_cons_zero, List.set_cons_succ, i64_w, i32_w]
                      rfl
                    refine pure_ (i := 4) (N := some 90) (v := undef) (a' := ?_) #[true, true, true, true, true, false, false, false, false, false, false, false, false, false, false, false, false, false, false, false, false, false, false, false, false, false, false, false, false] rfl rfl (by kernel_rfl) (fun _ _ _ h => h) (Or.inr ⟨by rfl, rfl⟩) ?_ ?_
                    rotate_left
                    · simp only [Act.put, List.setIfInBounds_toArray, List.set_cons_zero, List.set_cons_succ, i64_w, i32_w]
                      rfl
                    refine pure_ (i := 5) (N := some 91) (v := undef) (a' := ?_) #[true, true, true, true, true, true, false, false, false, false, false, false, false, false, false, false, false, false, false, false, false, false, false, false, false, false, false, false, false] rfl rfl (by kernel_rfl) (fun _ _ _ h => h) (Or.inr ⟨by rfl, rfl⟩) ?_ ?_
                    rotate_left
                    · simp only [Act.put, List.setIfInBounds_toArray, List.set_cons_zero, List.set_cons_succ, i64_w, i32_w]
                      rfl
                    refine pure_ (i := 6) (N := some 92) (v := undef) (a' := ?_) #[true, true, true, true, true, true, true, false, false, false, false, false, false, false, false, false, false, false, false, false, false, false, false, false, false, false, false, false, false] rfl rfl (by kernel_rfl) (fun _ _ _ h => h) (Or.inr ⟨by rfl, rfl⟩) ?_ ?_
                    rotate_left
                    · simp only [Act.put, List.setIfInBounds_toArray, List.set_cons_zero, List.set_cons_succ, i64_w, i32_w]
                      rfl
                    refine pure_ (i := 7) (N := some 93) (v := undef) (a' := ?_) #[true, true, true, true, true, true, true, true, false, false, false, false, false, false, false, false, false, false, false, false, false, false, false, false, false, false, false, false, false] rfl rfl (by kernel_rfl) (fun _ _ _ h => h) (Or.inr ⟨by rfl, rfl⟩) ?_ ?_
                    rotate_left
                    · simp only [Act.put, List.setIfInBounds_toArray, List.set_cons_zero, List.set_cons_succ, i64_w, i32_w]
                      rfl
                    refine pure_ (i := 8) (N := some 94) (v := undef) (a' := ?_) #[true, true, true, true, true, true, true, true, true, false, false, false, false, false, false, false, false, false, false, false, false, false, false, false, false, false, false, false, false] rfl rfl (by kernel_rfl) (fun _ _ _ h => h) (Or.inr ⟨by rfl, rfl⟩) ?_ ?_
                    rotate_left
                    · simp only [Act.put, List.setIfInBounds_toArray, List.set_cons_zero, List.set_cons_succ, i64_w, i32_w]
                      rfl
                    refine pure_ (i := 9) (N := some 95) (v := .bool false) (a' := ?_) #[true, true, true, true, true, true, true, true, true, true, false, false, false, false, false, false, false, false, false, false, false, false, false, false, false, false, false, false, false] rfl rfl (by kernel_rfl) (fun _ _ _ h => h) (Or.inl ⟨by rfl, ?_⟩) ?_ ?_
                    · intro w'
                      go_simp
                      all_goals (try simp)
                    rotate_left
                    · simp only [Act.put, List.setIfInBounds_toArray, List.set_cons_zero, List.set_cons_succ, i64_w, i32_w]
                      rfl
                    refine pure_ (i := 10) (N := some 96) (v := ?_) (a' := ?_) #[true, true, true, true, true, true, true, true, true, true, true, false, false, false, false, false, false, false, false, false, false, false, false, false, false, false, false, false, false] rfl rfl (by kernel_rfl) (fun _ _ _ h => h) (Or.inl ⟨by rfl, ?_⟩) ?_ ?_
                    rotate_left
                    · intro w'
                      go_simp
                      with_reducible rfl
                    rotate_left
                    · simp only [Act.put, List.setIfInBounds_toArray, List.set_cons_zero, List.set_cons_succ, i64_w, i32_w]
                      rfl
                    refine pure_ (i := 11) (N := some 97) (v := ?_) (a' := ?_) #[true, true, true, true, true, true, true, true, true, true, true, true, false, false, false, false, false, false, false, false, false, false, false, false, false, false, false, false, false] rfl rfl (by kernel_rfl) (fun _ _ _ h => h) (Or.inl ⟨by rfl, ?_⟩) ?_ ?_
                    rotate_left
                    · intro w'
                      go_simp
                      with_reducible rfl
                    rotate_left
                    · simp only [Act.put, List.setIfInBounds_toArray, List.set_cons_zero, List.set_cons_succ, i64_w, i32_w]
                      rfl
                    refine take_ (i := 12) (N := some 98) (v := ?_) (a' := ?_) #[true, true, true, true, true, true, true, true, true, true, true, true, true, false, false, false, false, false, false, false, false, false, false, false, false, false, false, false, false] rfl rfl (by kernel_rfl) (fun _ _ _ h => h) (Or.inl ⟨by rfl, ?_⟩) hHeld ?_ ?_
                    rotate_left
                    · rintro w' ⟨_, _, _, s4, _⟩
                      go_simp
                      with_reducible rfl
                    rotate_left
                    · simp only [Act.put, List.setIfInBounds_toArray, List.set_cons_zero, List.set_cons_succ, i64_w, i32_w]
                      rfl
                    refine pure_ (i := 13) (N := some 99) (v := ?_) (a' := ?_) #[true, true, true, true, true, true, true, true, true, true, true, true, true, true, false, false, false, false, false, false, false, false, false, false, false, false, false, false, false] rfl rfl (by kernel_rfl) (fun _ _ _ h => h) (Or.inl ⟨by rfl, ?_⟩) ?_ ?_
                    rotate_left
                    · intro w'
                      go_simp
                      with_reducible rfl
                    rotate_left
                    · simp only [Act.put, List.setIfInBounds_toArray, List.set_cons_zero, List.set_cons_succ, i64_w, i32_w]
                      rfl
                    refine pure_ (i := 14) (N := some 100) (v := undef) (a' := ?_) #[true, true, true, true, true, true, true, true, true, true, true, true, true, true, true, false, false, false, false, false, false, false, false, false, false, false, false, false, false] rfl rfl (by kernel_rfl) (fun _ _ _ h => h) (Or.inr ⟨by rfl, rfl⟩) ?_ ?_
                    rotate_left
                    · simp only [Act.put, List.setIfInBounds_toArray, List.set_cons_zero, List.set_cons_succ, i64_w, i32_w]
                      rfl
                    refine pure_ (i := 15) (N := some 101) (v := undef) (a' := ?_) #[true, true, true, true, true, true, true, true, true, true, true, true, true, true, true, true, false, false, false, false, false, false, false, false, false, false, false, false, false] rfl rfl (by kernel_rfl) (fun _ _ _ h => h) (Or.inr ⟨by rfl, rfl⟩) ?_ ?_
                    rotate_left
                    · simp only [Act.put, List.setIfInBounds_toArray, List.set_cons_zero, List.set_cons_succ, i64_w, i32_w]
                      rfl
                    refine pure_ (i := 16) (N := some 102) (v := .bool false) (a' := ?_) #[true, true, true, true, true, true, true, true, true, true, true, true, true, true, true, true, true, false, false, false, false, false, false, false, false, false, false, false, false] rfl rfl (by kernel_rfl) (fun _ _ _ h => h) (Or.inl ⟨by rfl, ?_⟩) ?_ ?_
                    · intro w'
                      go_simp
                      all_goals (try simp)
                    rotate_left
                    · simp only [Act.put, List.setIfInBounds_toArray, List.set_cons_zero, List.set_cons_succ, i64_w, i32_w]
                      rfl
                    refine pure_ (i := 17) (N := some 103) (v := ?_) (a' := ?_) #[true, true, true, true, true, true, true, true, true, true, true, true, true, true, true, true, true, true, false, false, false, false, false, false, false, false, false, false, false] rfl rfl (by kernel_rfl) (fun _ _ _ h => h) (Or.inl ⟨by rfl, ?_⟩) ?_ ?_
                    rotate_left
                    · intro w'
                      go_simp
                      with_reducible rfl
                    rotate_left
                    · simp only [Act.put, List.setIfInBounds_toArray, List.set_cons_zero, List.set_cons_succ, i64_w, i32_w]
                      rfl
                    refine pure_ (i := 18) (N := some 104) (v := undef) (a' := ?_) #[true, true, true, true, true, true, true, true, true, true, true, true, true, true, true, true, true, true, true, false, false, false, false, false, false, false, false, false, false] rfl rfl (by kernel_rfl) (fun _ _ _ h => h) (Or.inr ⟨by rfl, rfl⟩) ?_ ?_
                    rotate_left
                    · simp only [Act.put, List.setIfInBounds_toArray, List.set_cons_zero, List.set_cons_succ, i64_w, i32_w]
                      rfl
                    refine pure_ (i := 19) (N := some 105) (v := undef) (a' := ?_) #[true, true, true, true, true, true, true, true, true, true, true, true, true, true, true, true, true, true, true, true, false, false, false, false, false, false, false, false, false] rfl rfl (by kernel_rfl) (fun _ _ _ h => h) (Or.inr ⟨by rfl, rfl⟩) ?_ ?_
                    rotate_left
                    · simp only [Act.put, List.setIfInBounds_toArray, List.set_cons_zero, List.set_cons_succ, i64_w, i32_w]
                      rfl
                    refine pure_ (i := 20) (N := some 106) (v := undef) (a' := ?_) #[true, true, true, true, true, true, true, true, true, true, true, true, true, true, true, true, true, true, true, true, true, false, false, false, false, false, false, false, false] rfl rfl (by kernel_rfl) (fun _ _ _ h => h) (Or.inr ⟨by rfl, rfl⟩) ?_ ?_
                    rotate_left
                    · simp only [Act.put, List.setIfInBounds_toArray, List.set_cons_zero, List.set_cons_succ, i64_w, i32_w]
                      rfl
                    refine pure_ (i := 21) (N := some 107) (v := undef) (a' := ?_) #[true, true, true, true, true, true, true, true, true, true, true, true, true, true, true, true, true, true, true, true, true, true, false, false, false, false, false, false, false] rfl rfl (by kernel_rfl) (fun _ _ _ h => h) (Or.inr ⟨by rfl, rfl⟩) ?_ ?_
                    rotate_left
                    · simp only [Act.put, List.setIfInBounds_toArray, List.set_cons_zero, List.set_cons_succ, i64_w, i32_w]
                      rfl
                    refine pure_ (i := 22) (N := some 108) (v := undef) (a' := ?_) #[true, true, true, true, true, true, true, true, true, true, true, true, true, true, true, true, true, true, true, true, true, true, true, false, false, false, false, false, false] rfl rfl (by kernel_rfl) (fun _ _ _ h => h) (Or.inr ⟨by rfl, rfl⟩) ?_ ?_
                    rotate_left
                    · simp only [Act.put, List.setIfInBounds_toArray, List.set_cons_zero, List.set_cons_succ, i64_w, i32_w]
                      rfl
                    refine pure_ (i := 23) (N := some 109) (v := undef) (a' := ?_) #[true, true, true, true, true, true, true, true, true, true, true, true, true, true, true, true, true, true, true, true, true, true, true, true, false, false, false, false, false] rfl rfl (by kernel_rfl) (fun _ _ _ h => h) (Or.inr ⟨by rfl, rfl⟩) ?_ ?_
                    rotate_left
                    · simp only [Act.put, List.setIfInBounds_toArray, List.set_cons_zero, List.set_cons_succ, i64_w, i32_w]
                      rfl
                    refine pure_ (i := 24) (N := some 110) (v := undef) (a' := ?_) #[true, true, true, true, true, true, true, true, true, true, true, true, true, true, true, true, true, true, true, true, true, true, true, true, true, false, false, false, false] rfl rfl (by kernel_rfl) (fun _ _ _ h => h) (Or.inr ⟨by rfl, rfl⟩) ?_ ?_
                    rotate_left
                    · simp only [Act.put, List.setIfInBounds_toArray, List.set_cons_zero, List.set_cons_succ, i64_w, i32_w]
                      rfl
                    refine one_ (i := 25) (N := some 111) #[true, true, true, true, true, true, true, true, true, true, true, true, true, true, true, true, true, true, true, true, true, true, true, true, true, true, false, false, false] rfl rfl (by kernel_rfl) (by decide) (fun K hK => ?_)
                    refine off_ (by rfl) ?_
                    refine hK.out _ _ hHeld (fun hHeld => ?_)
                    clear hK K
                    refine norm_ (a' := ?_) ?_ ?_
                    rotate_left
                    · show Act.put _ (some 111) _ = _
                      simp only [Act.put, List.setIfInBounds_toArray, List.set_cons_zero, List.set_cons_succ, i64_w, i32_w]
                      rfl
                    refine pure_ (i := 26) (N := some 112) (v := undef) (a' := ?_) #[true, true, true, true, true, true, true, true, true, true, true, true, true, true, true, true, true, true, true, true, true, true, true, true, true, true, true, false, false] rfl rfl (by kernel_rfl) (fun _ _ _ h => h) (Or.inr ⟨by rfl, rfl⟩) ?_ ?_
                    rotate_left
                    · simp only [Act.put, List.setIfInBounds_toArray, List.set_cons_zero, List.set_cons_succ, i64_w, i32_w]
                      rfl
                    refine pure_ (i := 27) (N := some 113) (v := .bool false) (a' := ?_) #[true, true, true, true, true, true, true, true, true, true, true, true, true, true, true, true, true, true, true, true, true, true, true, true, true, true, true, true, false] rfl rfl (by kernel_rfl) (fun _ _ _ h => h) (Or.inl ⟨by rfl, ?_⟩) ?_ ?_
                    · intro w'
                      go_simp
                      all_goals (try simp)
                    rotate_left
                    · simp only [Act.put, List.setIfInBounds_toArray, List.set_cons_zero, List.set_cons_succ, i64_w, i32_w]
                      rfl
                    refine pure_ (i := 28) (N := some 114) (v := .bool false) (a' := ?_) #[true, true, true, true, true, true, true, true, true, true, true, true, true, true, true, true, true, true, true, true, true, true, true, true, true, true, true, true, true] rfl rfl (by kernel_rfl) (fun _ _ _ h => h) (Or.inl ⟨by rfl, ?_⟩) ?_ ?_
                    · intro w'
                      go_simp
                      all_goals (try simp)
                    rotate_left
                    · simp only [Act.put, List.setIfInBounds_toArray, List.set_cons_zero, List.set_cons_succ, i64_w, i32_w]
                      rfl
                    refine done_ (by kernel_rfl) ?_
                    have HQ := Aside0.mk hHeld.2.2.2.2.out
                    clear hHeld
                    -- r24off]
                    go_wp2_with fail
                    go_roundw
                    case rel => exact ⟨q + 1, by omega, by go_num, by rw [if_neg (by have := HqP.out; omega), Nat.add_sub_cancel], HQ⟩
                    case measure => simp [intOf]; omega
                  | true =>
                    have HPj : Aside0 (q = jj) := ⟨by rw [HqP.out, ← HPE.out]; exact adv_top (HTOP.out rfl) jj⟩
                    by_cases haz : a = z0
                    · have hq0 : q = 0 := by
                        rcases HST.out with ⟨_, e⟩ | ⟨e, _⟩
                        · rw [HPj.out, e]
                        · exact absurd haz e
                      have heqz := fun W => run_eqRef W a z0 HOKA.out.1.2.1 rfl
                      rw [decide_eq_true haz, HAe.out, HZE.out] at heqz
                      have HSR := HSQ
                      have hqi : (q : Int) = 0 := by omega
                      rw [hqi]
                      have Hq0 := Aside0.mk hq0
                      clear hqi hq0
                      go_upto_region 24 with fail
                      -- [r24zero
                      refine start_ (n := 29) (S := SQ1 w gr gm L1 M1 v1 L R v2 (.slice Ax R.length cx) (.slice (some ⟨gn, 0, none⟩) (R.length + 1) cn) g8 g9 g10 (still p) A I gn (q * 35) X true) (ds := []) #[false, false, false, false, false, false, false, false, false, false, false, false, false, false, false, false, false, false, false, false, false, false, false, false, false, false, false, false, false] (by kernel_rfl) rfl rfl (HSR.out _ (HQ.out.step (pw_below_drewN (Below.refl _ _) 1))) (fun hHeld => ?_)
                      generalize w4.drew = wd at hHeld ⊢
                      clear HQ
                      refine pure_ (i := 0) (N := some 86) (v := ?_) (a' := ?_) #[true, false, false, false, false, false, false, false, false, false, false, false, false, false, false, false, false, false, false, false, false, false, false, false, false, false, false, false, false] rfl rfl (by kernel_rfl) (fun _ _ _ h => h) (Or.inl ⟨by rfl, ?_⟩) ?_ ?_
                      rotate_left
                      · intro w'
                        go_simp
                        with_reducible rfl
                      rotate_left
                      · simp only [Act.put, List.setIfInBounds_toArray, List.set_cons_zero, List.set_cons_succ, i64_w, i32_w]
                        rfl
                      refine take_ (i := 1) (N := some 87) (v := ?_) (a' := ?_) #[true, true, false, false, false, false, false, false, false, false, false, false, false, false, false, false, false, false, false, false, false, false, false, false, false, false, false, false, false] rfl rfl (by kernel_rfl) (fun _ _ _ h => h) (Or.inl ⟨by rfl, ?_⟩) hHeld ?_ ?_
                      rotate_left
                      · rintro w' ⟨_, _, _, s4, _⟩
                        go_simp
                        with_reducible rfl
                      rotate_left
                      · simp only [Act.put, List.setIfInBounds_toArray, List.set_cons_zero, List.set_cons_succ, i64_w, i32_w]
                        rfl
                      refine pure_ (i := 2) (N := some 88) (v := ?_) (a' := ?_) #[true, true, true, false, false, false, false, false, false, false, false, false, false, false, false, false, false, false, false, false, false, false, false, false, false, false, false, false, false] rfl rfl (by kernel_rfl) (fun _ _ _ h => h) (Or.inl ⟨by rfl, ?_⟩) ?_ ?_
                      rotate_left
                      · intro w'
                        go_simp
                        with_reducible rfl
                      rotate_left
                      · simp only [Act.put, List.setIfInBounds_toArray, List.set_cons_zero, List.set_cons_succ, i64_w, i32_w]
                        rfl
                      refine pure_ (i := 3) (N := some 89) (v := ?_) (a' := ?_) #[true, true, true, true, false, false, false, false, false, false, false, false, false, false, false, false, false, false, false, false, false, false, false, false, false, false, false, false, false] rfl rfl (by kernel_rfl) (fun _ _ _ h => h) (Or.inl ⟨by rfl, ?_⟩) ?_ ?_
                      rotate_left
                      · intro w'
                        go_simp
                        with_reducible rfl
                      rotate_left
                      · simp only [Act.put, List.setIfInBounds_toArray, List.set_cons_zero, List.set_cons_succ, i64_w, i32_w]
                        rfl
                      refine pure_ (i := 4) (N := some 90) (v := .bool true) (a' := ?_) #[true, true, true, true, true, false, false, false, false, false, false, false, false, false, false, false, false, false, false, false, false, false, false, false, false, false, false, false, false] rfl rfl (by kernel_rfl) (fun _ _ _ h => h) (Or.inl ⟨by rfl, ?_⟩) ?_ ?_
                      · intro w'
                        go_simp
                        all_goals (try simp)
                      rotate_left
                      · simp only [Act.put, List.setIfInBounds_toArray, List.set_cons_zero, List.set_cons_succ, i64_w, i32_w]
                        rfl
                      refine take_ (i := 5) (N := some 91) (v := .agg A.toArray) (a' := ?_) #[true, true, true, true, true, true, false, false, false, false, false, false, false, false, false, false, false, false, false, false, false, false, false, false, false, false, false, false, false] rfl rfl (by kernel_rfl) (fun _ _ _ h => h) (yieldsIf_load_mid (by rfl) TF (.tmp 9) rfl g9 0 rfl A _ (fun w' hS => hS.2.1) huF rfl HSA.out) hHeld ?_ ?_
                      rotate_left
                      · simp only [Act.put, List.setIfInBounds_toArray, List.set_cons_zero, List.set_cons_succ, i64_w, i32_w]
                        rfl
                      refine pure_ (i := 6) (N := some 92) (v := .agg Z) (a' := ?_) #[true, true, true, true, true, true, true, false, false, false, false, false, false, false, false, false, false, false, false, false, false, false, false, false, false, false, false, false, false] rfl rfl (by kernel_rfl) (fun _ _ _ h => h) (Or.inl ⟨by rfl, fun w' => exec_build TF #[] rfl [] (by first | rfl | simp) Z HBZ.out⟩) ?_ ?_
                      rotate_left
                      · simp only [Act.put, List.setIfInBounds_toArray, List.set_cons_zero, List.set_cons_succ, i64_w, i32_w]
                        rfl
                      refine pure_ (i := 7) (N := some 93) (v := .bool true) (a' := ?_) #[true, true, true, true, true, true, true, true, false, false, false, false, false, false, false, false, false, false, false, false, false, false, false, false, false, false, false, false, false] rfl rfl (by kernel_rfl) (fun _ _ _ h => h) (Or.inl ⟨by rfl, ?_⟩) ?_ ?_
                      · intro w'
                        have := heqz w'
                        go_simp
                        all_goals (try simp)
                        all_goals (first | assumption | exact (i64_w _).trans (by assumption))
                      rotate_left
                      · simp only [Act.put, List.setIfInBounds_toArray, List.set_cons_zero, List.set_cons_succ, i64_w, i32_w]
                        rfl
                      refine pure_ (i := 8) (N := some 94) (v := .bool false) (a' := ?_) #[true, true, true, true, true, true, true, true, true, false, false, false, false, false, false, false, false, false, false, false, false, false, false, false, false, false, false, false, false] rfl rfl (by kernel_rfl) (fun _ _ _ h => h) (Or.inl ⟨by rfl, ?_⟩) ?_ ?_
                      · intro w'
                        go_simp
                        all_goals (try simp)
                      rotate_left
                      · simp only [Act.put, List.setIfInBounds_toArray, List.set_cons_zero, List.set_cons_succ, i64_w, i32_w]
                        rfl
                      refine pure_ (i := 9) (N := some 95) (v := .bool false) (a' := ?_) #[true, true, true, true, true, true, true, true, true, true, false, false, false, false, false, false, false, false, false, false, false, false, false, false, false, false, false, false, false] rfl rfl (by kernel_rfl) (fun _ _ _ h => h) (Or.inl ⟨by rfl, ?_⟩) ?_ ?_
                      · intro w'
                        go_simp
                        all_goals (try simp)
                      rotate_left
                      · simp only [Act.put, List.setIfInBounds_toArray, List.set_cons_zero, List.set_cons_succ, i64_w, i32_w]
                        rfl
                      refine pure_ (i := 10) (N := some 96) (v := ?_) (a' := ?_) #[true, true, true, true, true, true, true, true, true, true, true, false, false, false, false, false, false, false, false, false, false, false, false, false, false, false, false, false, false] rfl rfl (by kernel_rfl) (fun _ _ _ h => h) (Or.inl ⟨by rfl, ?_⟩) ?_ ?_
                      rotate_left
                      · intro w'
                        go_simp
                        with_reducible rfl
                      rotate_left
                      · simp only [Act.put, List.setIfInBounds_toArray, List.set_cons_zero, List.set_cons_succ, i64_w, i32_w]
                        rfl
                      refine pure_ (i := 11) (N := some 97) (v := ?_) (a' := ?_) #[true, true, true, true, true, true, true, true, true, true, true, true, false, false, false, false, false, false, false, false, false, false, false, false, false, false, false, false, false] rfl rfl (by kernel_rfl) (fun _ _ _ h => h) (Or.inl ⟨by rfl, ?_⟩) ?_ ?_
                      rotate_left
                      · intro w'
                        go_simp
                        with_reducible rfl
                      rotate_left
                      · simp only [Act.put, List.setIfInBounds_toArray, List.set_cons_zero, List.set_cons_succ, i64_w, i32_w]
                        rfl
                      refine take_ (i := 12) (N := some 98) (v := ?_) (a' := ?_) #[true, true, true, true, true, true, true, true, true, true, true, true, true, false, false, false, false, false, false, false, false, false, false, false, false, false, false, false, false] rfl rfl (by kernel_rfl) (fun _ _ _ h => h) (Or.inl ⟨by rfl, ?_⟩) hHeld ?_ ?_
                      rotate_left
                      · rintro w' ⟨_, _, _, s4, _⟩
                        go_simp
                        with_reducible rfl
                      rotate_left
                      · simp only [Act.put, List.setIfInBounds_toArray, List.set_cons_zero, List.set_cons_succ, i64_w, i32_w]
                        rfl
                      refine pure_ (i := 13) (N := some 99) (v := ?_) (a' := ?_) #[true, true, true, true, true, true, true, true, true, true, true, true, true, true, false, false, false, false, false, false, false, false, false, false, false, false, false, false, false] rfl rfl (by kernel_rfl) (fun _ _ _ h => h) (Or.inl ⟨by rfl, ?_⟩) ?_ ?_
                      rotate_left
                      · intro w'
                        go_simp
                        with_reducible rfl
                      rotate_left
                      · simp only [Act.put, List.setIfInBounds_toArray, List.set_cons_zero, List.set_cons_succ, i64_w, i32_w]
                        rfl
                      refine pure_ (i := 14) (N := some 100) (v := ?_) (a' := ?_) #[true, true, true, true, true, true, true, true, true, true, true, true, true, true, true, false, false, false, false, false, false, false, false, false, false, false, false, false, false] rfl rfl (by kernel_rfl) (fun _ _ _ h => h) (Or.inl ⟨by rfl, ?_⟩) ?_ ?_
                      rotate_left
                      · intro w'
                        go_simp
                        with_reducible rfl
                      rotate_left
                      · simp only [Act.put, List.setIfInBounds_toArray, List.set_cons_zero, List.set_cons_succ, i64_w, i32_w]
                        rfl
                      refine pure_ (i := 15) (N := some 101) (v := .bool false) (a' := ?_) #[true, true, true, true, true, true, true, true, true, true, true, true, true, true, true, true, false, false, false, false, false, false, false, false, false, false, false, false, false] rfl rfl (by kernel_rfl) (fun _ _ _ h => h) (Or.inl ⟨by rfl, ?_⟩) ?_ ?_
                      · intro w'
                        go_simp
                        all_goals (try simp)
                      rotate_left
                      · simp only [Act.put, List.setIfInBounds_toArray, List.set_cons_zero, List.set_cons_succ, i64_w, i32_w]
                        rfl
                      refine pure_ (i := 16) (N := some 102) (v := .bool false) (a' := ?_) #[true, true, true, true, true, true, true, true, true, true, true, true, true, true, true, true, true, false, false, false, false, false, false, false, false, false, false, false, false] rfl rfl (by kernel_rfl) (fun _ _ _ h => h) (Or.inl ⟨by rfl, ?_⟩) ?_ ?_
                      · intro w'
                        go_simp
                        all_goals (try simp)
                      rotate_left
                      · simp only [Act.put, List.setIfInBounds_toArray, List.set_cons_zero, List.set_cons_succ, i64_w, i32_w]
                        rfl
                      refine pure_ (i := 17) (N := some 103) (v := ?_) (a' := ?_) #[true, true, true, true, true, true, true, true, true, true, true, true, true, true, true, true, true, true, false, false, false, false, false, false, false, false, false, false, false] rfl rfl (by kernel_rfl) (fun _ _ _ h => h) (Or.inl ⟨by rfl, ?_⟩) ?_ ?_
                      rotate_left
                      · intro w'
                        go_simp
                        with_reducible rfl
                      rotate_left
                      · simp only [Act.put, List.setIfInBounds_toArray, List.set_cons_zero, List.set_cons_succ, i64_w, i32_w]
                        rfl
                      refine pure_ (i := 18) (N := some 104) (v := undef) (a' := ?_) #[true, true, true, true, true, true, true, true, true, true, true, true, true, true, true, true, true, true, true, false, false, false, false, false, false, false, false, false, false] rfl rfl (by kernel_rfl) (fun _ _ _ h => h) (Or.inr ⟨by rfl, rfl⟩) ?_ ?_
                      rotate_left
                      · simp only [Act.put, List.setIfInBounds_toArray, List.set_cons_zero, List.set_cons_succ, i64_w, i32_w]
                        rfl
                      refine pure_ (i := 19) (N := some 105) (v := undef) (a' := ?_) #[true, true, true, true, true, true, true, true, true, true, true, true, true, true, true, true, true, true, true, true, false, false, false, false, false, false, false, false, false] rfl rfl (by kernel_rfl) (fun _ _ _ h => h) (Or.inr ⟨by rfl, rfl⟩) ?_ ?_
                      rotate_left
                      · simp only [Act.put, List.setIfInBounds_toArray, List.set_cons_zero, List.set_cons_succ, i64_w, i32_w]
                        rfl
                      refine pure_ (i := 20) (N := some 106) (v := undef) (a' := ?_) #[true, true, true, true, true, true, true, true, true, true, true, true, true, true, true, true, true, true, true, true, true, false, false, false, false, false, false, false, false] rfl rfl (by kernel_rfl) (fun _ _ _ h => h) (Or.inr ⟨by rfl, rfl⟩) ?_ ?_
                      rotate_left
                      · simp only [Act.put, List.setIfInBounds_toArray, List.set_cons_zero, List.set_cons_succ, i64_w, i32_w]
                        rfl
                      refine pure_ (i := 21) (N := some 107) (v := undef) (a' := ?_) #[true, true, true, true, true, true, true, true, true, true, true, true, true, true, true, true, true, true, true, true, true, true, false, false, false, false, false, false, false] rfl rfl (by kernel_rfl) (fun _ _ _ h => h) (Or.inr ⟨by rfl, rfl⟩) ?_ ?_
                      rotate_left
                      · simp only [Act.put, List.setIfInBounds_toArray, List.set_cons_zero, List.set_cons_succ, i64_w, i32_w]
                        rfl
                      refine pure_ (i := 22) (N := some 108) (v := undef) (a' := ?_) #[true, true, true, true, true, true, true, true, true, true, true, true, true, true, true, true, true, true, true, true, true, true, true, false, false, false, false, false, false] rfl rfl (by kernel_rfl) (fun _ _ _ h => h) (Or.inr ⟨by rfl, rfl⟩) ?_ ?_
                      rotate_left
                      · simp only [Act.put, List.setIfInBounds_toArray, List.set_cons_zero, List.set_cons_succ, i64_w, i32_w]
                        rfl
                      refine pure_ (i := 23) (N := some 109) (v := undef) (a' := ?_) #[true, true, true, true, true, true, true, true, true, true, true, true, true, true, true, true, true, true, true, true, true, true, true, true, false, false, false, false, false] rfl rfl (by kernel_rfl) (fun _ _ _ h => h) (Or.inr ⟨by rfl, rfl⟩) ?_ ?_
                      rotate_left
                      · simp only [Act.put, List.setIfInBounds_toArray, List.set_cons_zero, List.set_cons_succ, i64_w, i32_w]
                        rfl
                      refine pure_ (i := 24) (N := some 110) (v := undef) (a' := ?_) #[true, true, true, true, true, true, true, true, true, true, true, true, true, true, true, true, true, true, true, true, true, true, true, true, true, false, false, false, false] rfl rfl (by kernel_rfl) (fun _ _ _ h => h) (Or.inr ⟨by rfl, rfl⟩) ?_ ?_
                      rotate_left
                      · simp only [Act.put, List.setIfInBounds_toArray, List.set_cons_zero, List.set_cons_succ, i64_w, i32_w]
                        rfl
                      refine one_ (i := 25) (N := some 111) #[true, true, true, true, true, true, true, true, true, true, true, true, true, true, true, true, true, true, true, true, true, true, true, true, true, true, false, false, false] rfl rfl (by kernel_rfl) (by decide) (fun K hK => ?_)
                      refine off_ (by rfl) ?_
                      refine hK.out _ _ hHeld (fun hHeld => ?_)
                      clear hK K
                      refine norm_ (a' := ?_) ?_ ?_
                      rotate_left
                      · show Act.put _ (some 111) _ = _
                        simp only [Act.put, List.setIfInBounds_toArray, List.set_cons_zero, List.set_cons_succ, i64_w, i32_w]
                        rfl
                      refine pure_ (i := 26) (N := some 112) (v := undef) (a' := ?_) #[true, true, true, true, true, true, true, true, true, true, true, true, true, true, true, true, true, true, true, true, true, true, true, true, true, true, true, false, false] rfl rfl (by kernel_rfl) (fun _ _ _ h => h) (Or.inr ⟨by rfl, rfl⟩) ?_ ?_
                      rotate_left
                      · simp only [Act.put, List.setIfInBounds_toArray, List.set_cons_zero, List.set_cons_succ, i64_w, i32_w]
                        rfl
                      refine pure_ (i := 27) (N := some 113) (v := .bool false) (a' := ?_) #[true, true, true, true, true, true, true, true, true, true, true, true, true, true, true, true, true, true, true, true, true, true, true, true, true, true, true, true, false] rfl rfl (by kernel_rfl) (fun _ _ _ h => h) (Or.inl ⟨by rfl, ?_⟩) ?_ ?_
                      · intro w'
                        go_simp
                        all_goals (try simp)
                      rotate_left
                      · simp only [Act.put, List.setIfInBounds_toArray, List.set_cons_zero, List.set_cons_succ, i64_w, i32_w]
                        rfl
                      refine pure_ (i := 28) (N := some 114) (v := .bool false) (a' := ?_) #[true, true, true, true, true, true, true, true, true, true, true, true, true, true, true, true, true, true, true, true, true, true, true, true, true, true, true, true, true] rfl rfl (by kernel_rfl) (fun _ _ _ h => h) (Or.inl ⟨by rfl, ?_⟩) ?_ ?_
                      · intro w'
                        go_simp
                        all_goals (try simp)
                      rotate_left
                      · simp only [Act.put, List.setIfInBounds_toArray, List.set_cons_zero, List.set_cons_succ, i64_w, i32_w]
                        rfl
                      refine done_ (by kernel_rfl) ?_
                      have HQ := Aside0.mk hHeld.2.2.2.2.out
                      clear hHeld
                      -- r24zero]
                      go_wp2_with fail
                      go_roundw
                      case rel => exact ⟨q + 1, by omega, by rw [Hq0.out]; go_num, by rw [if_neg (by have := HqP.out; omega), Nat.add_sub_cancel, Hq0.out]; rfl, HQ⟩
                      case measure => have := Hq0.out; simp [intOf]; omega
                    · obtain ⟨q1, x0, hq1e, hx0, hx0i⟩ : ∃ q1 x0, q = q1 + 1 ∧ L1[q1]? = some x0 ∧ x0.id = a := by
                        rcases HST.out with ⟨e, _⟩ | ⟨_, kk0, x0, e, h4, h5⟩
                        · exact absurd e haz
                        · exact ⟨kk0, x0, by rw [HPj.out, e], by rw [HAT.out.1 kk0 (by have h6 := HPj.out; have h7 := HqP.out; omega)]; exact h4, h5⟩
                      have heqz := fun W => run_eqRef W a z0 HOKA.out.1.2.1 rfl
                      rw [decide_eq_false haz, HAe.out, HZE.out] at heqz
                      have heqa := fun W => run_eqId W a a HOKA.out.1.2.1 HOKA.out.1.2.1
                      rw [decide_eq_true rfl, HAe.out] at heqa
                      have HSAI : Aside0 ((Try.prog.info? TI).map (·.size) = some A.length) := ⟨by rw [← HAe.out, iv_len HOKA.out.1.2.1]; exact size_id⟩
                      have HSR : Aside0 (∀ W, Kq w gr gm L1 M1 v1 L R v2 (.slice Ax R.length cx) (.slice (some ⟨gn, 0, none⟩) (R.length + 1) cn) g8 g9 g10 (still p) A I W → SQ1 w gr gm L1 M1 v1 L R v2 (.slice Ax R.length cx) (.slice (some ⟨gn, 0, none⟩) (R.length + 1) cn) g8 g9 g10 (still p) A I gn (q1 * 35) A true W) := ⟨fun W h => by
                        have := sq1_of (p := still p) (cut := true) HBC.out hx0 h
                        rwa [hx0i, HAe.out] at this⟩
                      have hq0n : ¬ q = 0 := by omega
                      have hq1n : 0 < q := by omega
                      have hq2 : wrap64 ((q : Int) - 1) = (q1 : Int) := by unfold wrap64; omega
                      have t11 : decide ((q1 : Int) < ((R.length : Int) + 1)) = true := decide_eq_true (by omega)
                      have t12 : ((q1 : Int) < ((R.length : Int) + 1)) = True := eq_true (by omega)
                      clear hq1e
                      go_upto_region 24 with fail
                      -- [r24some
                      refine start_ (n := 29) (S := SQ1 w gr gm L1 M1 v1 L R v2 (.slice Ax R.length cx) (.slice (some ⟨gn, 0, none⟩) (R.length + 1) cn) g8 g9 g10 (still p) A I gn (q1 * 35) A true) (ds := []) #[false, false, false, false, false, false, false, false, false, false, false, false, false, false, false, false, false, false, false, false, false, false, false, false, false, false, false, false, false] (by kernel_rfl) rfl rfl (HSR.out _ (HQ.out.step (pw_below_drewN (Below.refl _ _) 1))) (fun hHeld => ?_)
                      generalize w4.drew = wd at hHeld ⊢
                      clear HQ
                      refine pure_ (i := 0) (N := some 86) (v := ?_) (a' := ?_) #[true, false, false, false, false, false, false, false, false, false, false, false, false, false, false, false, false, false, false, false, false, false, false, false, false, false, false, false, false] rfl rfl (by kernel_rfl) (fun _ _ _ h => h) (Or.inl ⟨by rfl, ?_⟩) ?_ ?_
                      rotate_left
                      · intro w'
                        go_simp
                        with_reducible rfl
                      rotate_left
                      · simp only [Act.put, List.setIfInBounds_toArray, List.set_cons_zero, List.set_cons_succ, i64_w, i32_w]
                        rfl
                      refine take_ (i := 1) (N := some 87) (v := ?_) (a' := ?_) #[true, true, false, false, false, false, false, false, false, false, false, false, false, false, false, false, false, false, false, false, false, false, false, false, false, false, false, false, false] rfl rfl (by kernel_rfl) (fun _ _ _ h => h) (Or.inl ⟨by rfl, ?_⟩) hHeld ?_ ?_
                      rotate_left
                      · rintro w' ⟨_, _, _, s4, _⟩
                        go_simp
                        with_reducible rfl
                      rotate_left
                      · simp only [Act.put, List.setIfInBounds_toArray, List.set_cons_zero, List.set_cons_succ, i64_w, i32_w]
                        rfl
                      refine pure_ (i := 2) (N := some 88) (v := ?_) (a' := ?_) #[true, true, true, false, false, false, false, false, false, false, false, false, false, false, false, false, false, false, false, false, false, false, false, false, false, false, false, false, false] rfl rfl (by kernel_rfl) (fun _ _ _ h => h) (Or.inl ⟨by rfl, ?_⟩) ?_ ?_
                      rotate_left
                      · intro w'
                        go_simp
                        with_reducible rfl
                      rotate_left
                      · simp only [Act.put, List.setIfInBounds_toArray, List.set_cons_zero, List.set_cons_succ, i64_w, i32_w]
                        rfl
                      refine pure_ (i := 3) (N := some 89) (v := ?_) (a' := ?_) #[true, true, true, true, false, false, false, false, false, false, false, false, false, false, false, false, false, false, false, false, false, false, false, false, false, false, false, false, false] rfl rfl (by kernel_rfl) (fun _ _ _ h => h) (Or.inl ⟨by rfl, ?_⟩) ?_ ?_
                      rotate_left
                      · intro w'
                        go_simp
                        with_reducible rfl
                      rotate_left
                      · simp only [Act.put, List.setIfInBounds_toArray, List.set_cons_zero, List.set_cons_succ, i64_w, i32_w]
                        rfl
                      refine pure_ (i := 4) (N := some 90) (v := .bool false) (a' := ?_) #[true, true, true, true, true, false, false, false, false, false, false, false, false, false, false, false, false, false, false, false, false, false, false, false, false, false, false, false, false] rfl rfl (by kernel_rfl) (fun _ _ _ h => h) (Or.inl ⟨by rfl, ?_⟩) ?_ ?_
                      · intro w'
                        have := hq0n
                        go_simp
                        all_goals (try simp)
                        all_goals (first | assumption | exact (i64_w _).trans (by assumption))
                      rotate_left
                      · simp only [Act.put, List.setIfInBounds_toArray, List.set_cons_zero, List.set_cons_succ, i64_w, i32_w]
                        rfl
                      refine take_ (i := 5) (N := some 91) (v := .agg A.toArray) (a' := ?_) #[true, true, true, true, true, true, false, false, false, false, false, false, false, false, false, false, false, false, false, false, false, false, false, false, false, false, false, false, false] rfl rfl (by kernel_rfl) (fun _ _ _ h => h) (yieldsIf_load_mid (by rfl) TF (.tmp 9) rfl g9 0 rfl A _ (fun w' hS => hS.2.1) huF rfl HSA.out) hHeld ?_ ?_
                      rotate_left
                      · simp only [Act.put, List.setIfInBounds_toArray, List.set_cons_zero, List.set_cons_succ, i64_w, i32_w]
                        rfl
                      refine pure_ (i := 6) (N := some 92) (v := .agg Z) (a' := ?_) #[true, true, true, true, true, true, true, false, false, false, false, false, false, false, false, false, false, false, false, false, false, false, false, false, false, false, false, false, false] rfl rfl (by kernel_rfl) (fun _ _ _ h => h) (Or.inl ⟨by rfl, fun w' => exec_build TF #[] rfl [] (by first | rfl | simp) Z HBZ.out⟩) ?_ ?_
                      rotate_left
                      · simp only [Act.put, List.setIfInBounds_toArray, List.set_cons_zero, List.set_cons_succ, i64_w, i32_w]
                        rfl
                      refine pure_ (i := 7) (N := some 93) (v := .bool false) (a' := ?_) #[true, true, true, true, true, true, true, true, false, false, false, false, false, false, false, false, false, false, false, false, false, false, false, false, false, false, false, false, false] rfl rfl (by kernel_rfl) (fun _ _ _ h => h) (Or.inl ⟨by rfl, ?_⟩) ?_ ?_
                      · intro w'
                        have := heqz w'
                        go_simp
                        all_goals (try simp)
                        all_goals (first | assumption | exact (i64_w _).trans (by assumption))
                      rotate_left
                      · simp only [Act.put, List.setIfInBounds_toArray, List.set_cons_zero, List.set_cons_succ, i64_w, i32_w]
                        rfl
                      refine pure_ (i := 8) (N := some 94) (v := .bool false) (a' := ?_) #[true, true, true, true, true, true, true, true, true, false, false, false, false, false, false, false, false, false, false, false, false, false, false, false, false, false, false, false, false] rfl rfl (by kernel_rfl) (fun _ _ _ h => h) (Or.inl ⟨by rfl, ?_⟩) ?_ ?_
                      · intro w'
                        go_simp
                        all_goals (try simp)
                      rotate_left
                      · simp only [Act.put, List.setIfInBounds_toArray, List.set_cons_zero, List.set_cons_succ, i64_w, i32_w]
                        rfl
                      refine pure_ (i := 9) (N := some 95) (v := .bool false) (a' := ?_) #[true, true, true, true, true, true, true, true, true, true, false, false, false, false, false, false, false, false, false, false, false, false, false, false, false, false, false, false, false] rfl rfl (by kernel_rfl) (fun _ _ _ h => h) (Or.inl ⟨by rfl, ?_⟩) ?_ ?_
                      · intro w'
                        go_simp
                        all_goals (try simp)
                      rotate_left
                      · simp only [Act.put, List.setIfInBounds_toArray, List.set_cons_zero, List.set_cons_succ, i64_w, i32_w]
                        rfl
                      refine pure_ (i := 10) (N := some 96) (v := ?_) (a' := ?_) #[true, true, true, true, true, true, true, true, true, true, true, false, false, false, false, false, false, false, false, false, false, false, false, false, false, false, false, false, false] rfl rfl (by kernel_rfl) (fun _ _ _ h => h) (Or.inl ⟨by rfl, ?_⟩) ?_ ?_
                      rotate_left
                      · intro w'
                        go_simp
                        with_reducible rfl
                      rotate_left
                      · simp only [Act.put, List.setIfInBounds_toArray, List.set_cons_zero, List.set_cons_succ, i64_w, i32_w]
                        rfl
                      refine pure_ (i := 11) (N := some 97) (v := ?_) (a' := ?_) #[true, true, true, true, true, true, true, true, true, true, true, true, false, false, false, false, false, false, false, false, false, false, false, false, false, false, false, false, false] rfl rfl (by kernel_rfl) (fun _ _ _ h => h) (Or.inl ⟨by rfl, ?_⟩) ?_ ?_
                      rotate_left
                      · intro w'
                        go_simp
                        with_reducible rfl
                      rotate_left
                      · simp only [Act.put, List.setIfInBounds_toArray, List.set_cons_zero, List.set_cons_succ, i64_w, i32_w]
                        rfl
                      refine take_ (i := 12) (N := some 98) (v := ?_) (a' := ?_) #[true, true, true, true, true, true, true, true, true, true, true, true, true, false, false, false, false, false, false, false, false, false, false, false, false, false, false, false, false] rfl rfl (by kernel_rfl) (fun _ _ _ h => h) (Or.inl ⟨by rfl, ?_⟩) hHeld ?_ ?_
                      rotate_left
                      · rintro w' ⟨_, _, _, s4, _⟩
                        go_simp
                        with_reducible rfl
                      rotate_left
                      · simp only [Act.put, List.setIfInBounds_toArray, List.set_cons_zero, List.set_cons_succ, i64_w, i32_w]
                        rfl
                      refine pure_ (i := 13) (N := some 99) (v := ?_) (a' := ?_) #[true, true, true, true, true, true, true, true, true, true, true, true, true, true, false, false, false, false, false, false, false, false, false, false, false, false, false, false, false] rfl rfl (by kernel_rfl) (fun _ _ _ h => h) (Or.inl ⟨by rfl, ?_⟩) ?_ ?_
                      rotate_left
                      · intro w'
                        go_simp
                        with_reducible rfl
                      rotate_left
                      · simp only [Act.put, List.setIfInBounds_toArray, List.set_cons_zero, List.set_cons_succ, i64_w, i32_w]
                        rfl
                      refine pure_ (i := 14) (N := some 100) (v := ?_) (a' := ?_) #[true, true, true, true, true, true, true, true, true, true, true, true, true, true, true, false, false, false, false, false, false, false, false, false, false, false, false, false, false] rfl rfl (by kernel_rfl) (fun _ _ _ h => h) (Or.inl ⟨by rfl, ?_⟩) ?_ ?_
                      rotate_left
                      · intro w'
                        go_simp
                        with_reducible rfl
                      rotate_left
                      · simp only [Act.put, List.setIfInBounds_toArray, List.set_cons_zero, List.set_cons_succ, i64_w, i32_w]
                        rfl
                      refine pure_ (i := 15) (N := some 101) (v := .bool true) (a' := ?_) #[true, true, true, true, true, true, true, true, true, true, true, true, true, true, true, true, false, false, false, false, false, false, false, false, false, false, false, false, false] rfl rfl (by kernel_rfl) (fun _ _ _ h => h) (Or.inl ⟨by rfl, ?_⟩) ?_ ?_
                      · intro w'
                        have := hq1n
                        go_simp
                        all_goals (try simp)
                        all_goals (first | assumption | exact (i64_w _).trans (by assumption))
                      rotate_left
                      · simp only [Act.put, List.setIfInBounds_toArray, List.set_cons_zero, List.set_cons_succ, i64_w, i32_w]
                        rfl
                      refine pure_ (i := 16) (N := some 102) (v := .bool true) (a' := ?_) #[true, true, true, true, true, true, true, true, true, true, true, true, true, true, true, true, true, false, false, false, false, false, false, false, false, false, false, false, false] rfl rfl (by kernel_rfl) (fun _ _ _ h => h) (Or.inl ⟨by rfl, ?_⟩) ?_ ?_
                      · intro w'
                        go_simp
                        all_goals (try simp)
                      rotate_left
                      · simp only [Act.put, List.setIfInBounds_toArray, List.set_cons_zero, List.set_cons_succ, i64_w, i32_w]
                        rfl
                      refine pure_ (i := 17) (N := some 103) (v := ?_) (a' := ?_) #[true, true, true, true, true, true, true, true, true, true, true, true, true, true, true, true, true, true, false, false, false, false, false, false, false, false, false, false, false] rfl rfl (by kernel_rfl) (fun _ _ _ h => h) (Or.inl ⟨by rfl, ?_⟩) ?_ ?_
                      rotate_left
                      · intro w'
                        go_simp
                        with_reducible rfl
                      rotate_left
                      · simp only [Act.put, List.setIfInBounds_toArray, List.set_cons_zero, List.set_cons_succ, i64_w, i32_w]
                        rfl
                      refine pure_ (i := 18) (N := some 104) (v := ?_) (a' := ?_) #[true, true, true, true, true, true, true, true, true, true, true, true, true, true, true, true, true, true, true, false, false, false, false, false, false, false, false, false, false] rfl rfl (by kernel_rfl) (fun _ _ _ h => h) (Or.inl ⟨by rfl, ?_⟩) ?_ ?_
                      rotate_left
                      · intro w'
                        go_simp
                        with_reducible rfl
                      rotate_left
                      · simp only [Act.put, List.setIfInBounds_toArray, List.set_cons_zero, List.set_cons_succ, i64_w, i32_w]
                        rfl
                      refine pure_ (i := 19) (N := some 105) (v := ?_) (a' := ?_) #[true, true, true, true, true, true, true, true, true, true, true, true, true, true, true, true, true, true, true, true, false, false, false, false, false, false, false, false, false] rfl rfl (by kernel_rfl) (fun _ _ _ h => h) (Or.inl ⟨by rfl, ?_⟩) ?_ ?_
                      rotate_left
                      · intro w'
                        go_simp
                        with_reducible rfl
                      rotate_left
                      · simp only [Act.put, List.setIfInBounds_toArray, List.set_cons_zero, List.set_cons_succ, i64_w, i32_w]
                        rfl
                      refine pure_ (i := 20) (N := some 106) (v := .int .i64 (q1 : Int)) (a' := ?_) #[true, true, true, true, true, true, true, true, true, true, true, true, true, true, true, true, true, true, true, true, true, false, false, false, false, false, false, false, false] rfl rfl (by kernel_rfl) (fun _ _ _ h => h) (Or.inl ⟨by rfl, ?_⟩) ?_ ?_
                      · intro w'
                        have := hq2
                        go_simp
                        all_goals (try simp)
                        all_goals (first | assumption | exact (i64_w _).trans (by assumption))
                      rotate_left
                      · simp only [Act.put, List.setIfInBounds_toArray, List.set_cons_zero, List.set_cons_succ, i64_w, i32_w]
                        rfl
                      refine pure_ (i := 21) (N := some 107) (v := ?_) (a' := ?_) #[true, true, true, true, true, true, true, true, true, true, true, true, true, true, true, true, true, true, true, true, true, true, false, false, false, false, false, false, false] rfl rfl (by kernel_rfl) (fun _ _ _ h => h) (Or.inl ⟨by rfl, ?_⟩) ?_ ?_
                      rotate_left
                      · intro w'
                        go_simp
                        with_reducible rfl
                      rotate_left
                      · simp only [Act.put, List.setIfInBounds_toArray, List.set_cons_zero, List.set_cons_succ, i64_w, i32_w]
                        rfl
                      refine pure_ (i := 22) (N := some 108) (v := ?_) (a' := ?_) #[true, true, true, true, true, true, true, true, true, true, true, true, true, true, true, true, true, true, true, true, true, true, true, false, false, false, false, false, false] rfl rfl (by kernel_rfl) (fun _ _ _ h => h) (Or.inl ⟨by rfl, ?_⟩) ?_ ?_
                      rotate_left
                      · intro w'
                        go_simp
                        with_reducible rfl
                      rotate_left
                      · simp only [Act.put, List.setIfInBounds_toArray, List.set_cons_zero, List.set_cons_succ, i64_w, i32_w]
                        rfl
                      refine take_ (i := 23) (N := some 109) (v := .agg A.toArray) (a' := ?_) #[true, true, true, true, true, true, true, true, true, true, true, true, true, true, true, true, true, true, true, true, true, true, true, true, false, false, false, false, false] rfl rfl (by kernel_rfl) (fun _ _ _ h => h) (yieldsIf_load_mid (by rfl) TI (.tmp 108) rfl gn (q1 * 35) rfl A _ (fun w' hS => hS.1) huI rfl HSAI.out) hHeld ?_ ?_
                      rotate_left
                      · simp only [Act.put, List.setIfInBounds_toArray, List.set_cons_zero, List.set_cons_succ, i64_w, i32_w]
                        rfl
                      refine take_ (i := 24) (N := some 110) (v := .agg A.toArray) (a' := ?_) #[true, true, true, true, true, true, true, true, true, true, true, true, true, true, true, true, true, true, true, true, true, true, true, true, true, false, false, false, false] rfl rfl (by kernel_rfl) (fun _ _ _ h => h) (yieldsIf_load_mid (by rfl) TF (.tmp 9) rfl g9 0 rfl A _ (fun w' hS => hS.2.1) huF rfl HSA.out) hHeld ?_ ?_
                      rotate_left
                      · simp only [Act.put, List.setIfInBounds_toArray, List.set_cons_zero, List.set_cons_succ, i64_w, i32_w]
                        rfl
                      refine one_ (i := 25) (N := some 111) #[true, true, true, true, true, true, true, true, true, true, true, true, true, true, true, true, true, true, true, true, true, true, true, true, true, true, false, false, false] rfl rfl (by kernel_rfl) (by decide) (fun K hK => ?_)
                      refine goes_ Try.func12 (by kernel_rfl) rfl #[.agg A.toArray] (by rfl) rfl rfl (by first | rfl | (simp only [List.map_toArray, List.map_cons, List.map_nil]; done) | (simp only [List.map_toArray, List.map_cons, List.map_nil]; rfl)) ?_
                      refine (HOA.out _).mono ?_
                      rintro e w4 ⟨rfl, hb⟩
                      refine ⟨_, rfl, ?_⟩
                      have hS2 := HSR.out _ (hHeld.2.2.2.2.out.step hb)
                      clear hb hHeld
                      refine hK.out _ _ hS2 (fun hHeld => ?_)
                      clear hK K hS2
                      refine norm_ (a' := ?_) ?_ ?_
                      rotate_left
                      · show Act.put _ (some 111) _ = _
                        simp only [Act.put, List.setIfInBounds_toArray, List.set_cons_zero, List.set_cons_succ, i64_w, i32_w]
                        rfl
                      refine pure_ (i := 26) (N := some 112) (v := .bool false) (a' := ?_) #[true, true, true, true, true, true, true, true, true, true, true, true, true, true, true, true, true, true, true, true, true, true, true, true, true, true, true, false, false] rfl rfl (by kernel_rfl) (fun _ _ _ h => h) (Or.inl ⟨by rfl, ?_⟩) ?_ ?_
                      · intro w'
                        have := heqa w'
                        go_simp
                        all_goals (try simp)
                        all_goals (first | assumption | exact (i64_w _).trans (by assumption))
                      rotate_left
                      · simp only [Act.put, List.setIfInBounds_toArray, List.set_cons_zero, List.set_cons_succ, i64_w, i32_w]
                        rfl
                      refine pure_ (i := 27) (N := some 113) (v := .bool false) (a' := ?_) #[true, true, true, true, true, true, true, true, true, true, true, true, true, true, true, true, true, true, true, true, true, true, true, true, true, true, true, true, false] rfl rfl (by kernel_rfl) (fun _ _ _ h => h) (Or.inl ⟨by rfl, ?_⟩) ?_ ?_
                      · intro w'
                        go_simp
                        all_goals (try simp)
                      rotate_left
                      · simp only [Act.put, List.setIfInBounds_toArray, List.set_cons_zero, List.set_cons_succ, i64_w, i32_w]
                        rfl
                      refine pure_ (i := 28) (N := some 114) (v := .bool false) (a' := ?_) #[true, true, true, true, true, true, true, true, true, true, true, true, true, true, true, true, true, true, true, true, true, true, true, true, true, true, true, true, true] rfl rfl (by kernel_rfl) (fun _ _ _ h => h) (Or.inl ⟨by rfl, ?_⟩) ?_ ?_
                      · intro w'
                        go_simp
                        all_goals (try simp)
                      rotate_left
                      · simp only [Act.put, List.setIfInBounds_toArray, List.set_cons_zero, List.set_cons_succ, i64_w, i32_w]
                        rfl
                      refine done_ (by kernel_rfl) ?_
                      have HQ := Aside0.mk hHeld.2.2.2.2.out
                      clear hHeld
                      -- r24some]
                      go_wp2_with fail
                      go_roundw
                      case rel => exact ⟨q + 1, by omega, by go_num, by rw [if_neg (by have := HqP.out; omega), Nat.add_sub_cancel], HQ⟩
                      case measure => simp [intOf]; omega
                · obtain ⟨kq, hkq, hkl, hLk⟩ : ∃ kq, (if q ≤ P then q else q - 1) = kq ∧ kq < R.length ∧ L[kq]? = some x := by
                    by_cases h : q ≤ P
                    · refine ⟨q, by rw [if_pos h], by have := HPL.out; omega, ?_⟩
                      rw [← HAT.out.1 q (by omega)]; exact HXX.out
                    · refine ⟨q - 1, by rw [if_neg h], by omega, ?_⟩
                      rw [← HAT.out.2.2 q (by omega)]; exact HXX.out
                  have hxi : x.id ≠ i' := HNI.out x (List.mem_of_getElem? hLk)
                  have HKN : Aside0 ((if q + 1 ≤ P then q + 1 else q + 1 - 1) = kq + 1) := ⟨by
                    by_cases h : q ≤ P
                    · rw [if_pos h] at hkq; rw [if_pos (by omega)]; omega
                    · rw [if_neg h] at hkq; rw [if_neg (by omega)]; omega⟩
                  rw [hkq]
                  rw [decide_eq_false hxi] at heq
                  clear hxi hqP hkq
                  go_upto_region 23 with fail
                  -- [r23f
                  refine start_ (n := 8) (S := SQ1 w gr gm L1 M1 v1 L R v2 (.slice Ax R.length cx) (.slice (some ⟨gn, 0, none⟩) (R.length + 1) cn) g8 g9 g10 (still p) A I gn (q * 35) X bc) (ds := []) #[false, false, false, false, false, false, false, false] (by kernel_rfl) rfl rfl (HSQ.out _ (HQ.out.step (pw_below_drewN (Below.refl _ _) 1))) (fun hHeld => ?_)
                  generalize wr.drew = wd at hHeld ⊢
                  clear HQ
                  refine pure_ (i := 0) (N := some 78) (v := ?_) (a' := ?_) #[true, false, false, false, false, false, false, false] rfl rfl (by kernel_rfl) (fun _ _ _ h => h) (Or.inl ⟨by rfl, ?_⟩) ?_ ?_
                  rotate_left
                  · intro w'
                    go_simp
                    with_reducible rfl
                  rotate_left
                  · simp only [Act.put, List.setIfInBounds_toArray, List.set_cons_zero, List.set_cons_succ, i64_w, i32_w]
                    rfl
                  refine pure_ (i := 1) (N := some 79) (v := ?_) (a' := ?_) #[true, true, false, false, false, false, false, false] rfl rfl (by kernel_rfl) (fun _ _ _ h => h) (Or.inl ⟨by rfl, ?_⟩) ?_ ?_
                  rotate_left
                  · intro w'
                    go_simp
                    with_reducible rfl
                  rotate_left
                  · simp only [Act.put, List.setIfInBounds_toArray, List.set_cons_zero, List.set_cons_succ, i64_w, i32_w]
                    rfl
                  refine pure_ (i := 2) (N := some 80) (v := .pointer (some ⟨gn, q * 35, none⟩)) (a' := ?_) #[true, true, true, false, false, false, false, false] rfl rfl (by kernel_rfl) (fun _ _ _ h => h) (Or.inl ⟨by rfl, ?_⟩) ?_ ?_
                  · intro w'
                    go_simp
                    all_goals (try simp)
                  rotate_left
                  · simp only [Act.put, List.setIfInBounds_toArray, List.set_cons_zero, List.set_cons_succ, i64_w, i32_w]
                    rfl
                  refine pure_ (i := 3) (N := some 81) (v := .pointer (some ⟨gn, q * 35, none⟩)) (a' := ?_) #[true, true, true, true, false, false, false, false] rfl rfl (by kernel_rfl) (fun _ _ _ h => h) (Or.inl ⟨by rfl, ?_⟩) ?_ ?_
                  · intro w'
                    go_simp
                    all_goals (try simp)
                  rotate_left
                  · simp only [Act.put, List.setIfInBounds_toArray, List.set_cons_zero, List.set_cons_succ, i64_w, i32_w]
                    rfl
                  refine take_ (i := 4) (N := some 82) (v := .agg X.toArray) (a' := ?_) #[true, true, true, true, true, false, false, false] rfl rfl (by kernel_rfl) (fun _ _ _ h => h) (yieldsIf_load_mid (by rfl) TI (.tmp 81) rfl gn (q * 35) rfl X _ (fun w' hS => hS.1) huI rfl HSX.out) hHeld ?_ ?_
                  rotate_left
                  · simp only [Act.put, List.setIfInBounds_toArray, List.set_cons_zero, List.set_cons_succ, i64_w, i32_w]
                    rfl
                  refine take_ (i := 5) (N := some 83) (v := .agg I.toArray) (a' := ?_) #[true, true, true, true, true, true, false, false] rfl rfl (by kernel_rfl) (fun _ _ _ h => h) (yieldsIf_load_mid (by rfl) TF (.tmp 10) rfl g10 0 rfl I _ (fun w' hS => hS.2.2.1) huF rfl HSI.out) hHeld ?_ ?_
                  rotate_left
                  · simp only [Act.put, List.setIfInBounds_toArray, List.set_cons_zero, List.set_cons_succ, i64_w, i32_w]
                    rfl
                  refine one_ (i := 6) (N := some 84) #[true, true, true, true, true, true, true, false] rfl rfl (by kernel_rfl) (by decide) (fun K hK => ?_)
                  refine goes_ Try.func12 (by kernel_rfl) rfl #[.agg I.toArray] (by rfl) rfl rfl (by first | rfl | (simp only [List.map_toArray, List.map_cons, List.map_nil]; done) | (simp only [List.map_toArray, List.map_cons, List.map_nil]; rfl)) ?_
                  refine (HOI.out _).mono ?_
                  rintro e w4 ⟨rfl, hb⟩
                  refine ⟨_, rfl, ?_⟩
                  have hS2 := HSQ.out _ (hHeld.2.2.2.2.out.step hb)
                  clear hb hHeld
                  refine hK.out _ _ hS2 (fun hHeld => ?_)
                  clear hK K hS2
                  refine norm_ (a' := ?_) ?_ ?_
                  rotate_left
                  · show Act.put _ (some 84) _ = _
                    simp only [Act.put, List.setIfInBounds_toArray, List.set_cons_zero, List.set_cons_succ, i64_w, i32_w]
                    rfl
                  refine pure_ (i := 7) (N := some 85) (v := .bool false) (a' := ?_) #[true, true, true, true, true, true, true, true] rfl rfl (by kernel_rfl) (fun _ _ _ h => h) (Or.inl ⟨by rfl, ?_⟩) ?_ ?_
                  · intro w'
                    have := heq w'
                    go_simp
                    all_goals (try simp)
                    all_goals (first | assumption | exact (i64_w _).trans (by assumption))
                  rotate_left
                  · simp only [Act.put, List.setIfInBounds_toArray, List.set_cons_zero, List.set_cons_succ, i64_w, i32_w]
                    rfl
                  refine done_ (by kernel_rfl) ?_
                  have HQ := Aside0.mk hHeld.2.2.2.2.out
                  clear hHeld
                  -- r23f]
                  clear heq
                  obtain ⟨gx, curx, rfl, hgx, htx⟩ : ∃ g cur, Ax = some ⟨g, 0, none⟩ ∧ w4.heap[g]? = some (.cells cur TC (0, 0)) ∧ cur.toList.take (L.length * 35) = fl L := by
                    rcases own_form HQ.out.ks.was with ⟨_, hn⟩ | ⟨g, cap, cur, hv, _, h2, _, _, _, h3⟩
                    · rw [hn] at hLk; simp at hLk
                    · injection hv with h1; exact ⟨g, cur, h1, h2, h3⟩
                  obtain ⟨cury, hgy, hty⟩ : ∃ cur, w4.heap[gn]? = some (.cells cur TC (0, 0)) ∧ cur.toList.take (L1.length * 35) = fl L1 := by
                    rcases own_form HQ.out.new with ⟨_, hn⟩ | ⟨g, cap, cur, hv, _, h2, _, _, _, h3⟩
                    · have := HXX.out; rw [hn] at this; simp at this
                    · obtain rfl : gn = g := by injection hv with h1; injection h1 with h1; injection h1
                      exact ⟨cur, h2, h3⟩
                  have huC := Try.underlying43
                  have hld := fun k => loadVar_at (w4.drewN k) gn (q * 35) TC TC cury (ce x) _ hgy (fun i v hi => cur_at (own_raw HQ.out.new).2 hty HXX.out i v hi) huC rfl (by rw [ce_len hxk]; exact size_ce)
                  have hldx := fun k => loadVar_at (w4.drewN k) gx (kq * 35) TC TC curx (ce x) _ hgx (fun i v hi => cur_at (own_raw HQ.out.ks.was).2 htx hLk i v hi) huC rfl (by rw [ce_len hxk]; exact size_ce)
                  have heqc := fun W => run_eqCe W x hxk
                  have t13 : decide ((R.length : Int) ≤ (kq : Int)) = false := decide_eq_false (by omega)
                  have t14 : ((R.length : Int) ≤ (kq : Int)) = False := eq_false (by omega)
                  have t15 : decide ((kq : Int) < (R.length : Int)) = true := decide_eq_true (by omega)
                  have t16 : ((kq : Int) < (R.length : Int)) = True := eq_true (by omega)
                  generalize (ce x).toArray = F at *
                  clear hgx htx hgy hty huC hLk hxk HXX HAT
                  go_upto_region 26 with fail
                  refine wp_region_quiet_lit (by kernel_rfl) (by kernel_rfl) ?_
                  repeat (first | (refine quiet_load_at TC (.tmp 122) rfl (by rfl) gn (q * 35) rfl F (fun w' hc => by obtain ⟨k, rfl⟩ := hc; exact hld k) ?_; simp only [Act.put, List.setIfInBounds_toArray, List.set_cons_zero, List.set_cons_succ]) | (refine quiet_load_at TC (.tmp 126) rfl (by rfl) gx (kq * 35) rfl F (fun w' hc => by obtain ⟨k, rfl⟩ := hc; exact hldx k) ?_; simp only [Act.put, List.setIfInBounds_toArray, List.set_cons_zero, List.set_cons_succ]) | go_big_quiet_step (fail))
                  refine wpQuiet_nil ?_
                  intro _ hw'
                  obtain ⟨nq, hw''⟩ := hw'
                  subst hw''
                  have HQ2 := Aside0.mk (HQ.out.step (pw_below_drewN (Below.refl _ _) nq))
                  clear hld hldx heqc HQ
                  go_wp2_with fail
                  go_roundw
                  case rel => exact ⟨q + 1, by omega, by go_num, by rw [HKN.out]; go_num, HQ2⟩
                  case measure => simp [intOf]; omega
              · obtain rfl : q = R.length + 1 := by omega
                rw [if_neg (by have := HPL.out; omega : ¬ R.length + 1 ≤ P), Nat.add_sub_cancel]
                have HBQ := Aside0.mk HQ.out.ks.bel
                clear HQ
                go_wp2_with (go_at_call 14; refine (awake_calls _).mono ?_; rintro e w8 ⟨rfl, hb⟩; have HB8 := Aside0.mk (below_step HBQ.out hb); clear hb)
                go_ret
                exact ⟨rfl, HB8.out⟩
  · rw [decide_eq_false hfew] at HFW
    clear hfew
    go_enter Try.func5, Try.ntmps5
    go_wp2_with (first | (go_at_call 15; refine (HFW.out _ HB0.out).mono ?_; rintro e w1 ⟨rfl, hd⟩; have HB1 := Aside0.mk (HB0.out.trans (hd.below.mono HB0.out.size)); clear hd) | (go_at_call 14; refine (awake_calls _).mono ?_; rintro e w2 ⟨rfl, hb⟩; have HB2 := Aside0.mk (HB1.out.trans (hb.mono HB1.out.size)); clear hb))
    go_ret
    exact ⟨rfl, HB2.out⟩
end Go.Proofs.Ytkcdlilglgfkaaa.Rg

/- stemmalaw11.RgaKeeps, walked (XRgKe), in the row's shape. -/
set_option linter.unusedVariables false
set_option linter.unusedSimpArgs false
namespace Go.Proofs.Ytkcdlilglgfkaaa.PA
open Go Go.RowKit Go.Proofs.YtkcdlilglgfkaaaW.PrintWords Go.Proofs.YtkcdlilglgfkaaaW.PrintLast Go.Proofs.YtkcdlilglgfkaaaW.PrintMore Go.Proofs.Ytkcdlilglgfkaaa.Ar Go.Proofs.Ytkcdlilglgfkaaa.Sha Go.Proofs.Ytkcdlilglgfkaaa.Rg
open Classical in
noncomputable def stemmalaw11_RgaKeeps.f (l : List S46) (p0 p1 p2 p3 : Int) (p4 p5 : Bool) (p6 p7 : Int) : Option Bool := if (∀ x ∈ l, PutOk x) ∧ PutOk ⟨p0, p1, p2, p3, p4, p5, p6, p7⟩ then some true else none
theorem stemmalaw11_RgaKeeps.calls (A0 : Option Addr) (c0 : Nat) (l0 : List S46) (p0 p1 p2 p3 : Int) (p4 p5 : Bool) (p6 p7 : Int) (r : Bool) (w : World) (hr0 : Kd.C k46 w A0 l0.length l0) (hc0 : l0.length ≤ c0) (hr_ : Aside0 (r = true)) (h : stemmalaw11_RgaKeeps.f l0 p0 p1 p2 p3 p4 p5 p6 p7 = some r) :
    Calls Try.prog 5 #[.slice A0 l0.length c0, .agg #[.int .u8 p0, .int .u8 p1, .int .u8 p2, .int .u8 p3, .bool p4, .bool p5, .int .i64 p6, .int .i64 p7]] w fun e w' => e = .returned (.bool r) ∧ Below w.heap.size w w' := by
  obtain ⟨rfl⟩ := hr_
  unfold stemmalaw11_RgaKeeps.f at h
  split at h
  case isFalse => cases h
  case isTrue hh => exact keeps_calls A0 c0 l0 ⟨p0, p1, p2, p3, p4, p5, p6, p7⟩ w hr0 hc0 hh.1 hh.2
end Go.Proofs.Ytkcdlilglgfkaaa.PA

/- RgaKeeps: what is left beside the walk: the bytes' ranges. -/
set_option linter.unusedVariables false
namespace Go.Proofs.Ytkcdlilglgfkaaa.Pure
open Go Go.Proofs.Ytkcdlilglgfkaaa.PA
theorem byte_of {x : Int} (h : (Lit.int .u8 x).wf = true) : 0 ≤ x ∧ x < 256 := by
  simp only [Lit.wf, IntKind.min, IntKind.max, IntKind.signed, IntKind.bits, Bool.and_eq_true] at h
  simp at h
  exact ⟨by omega, by omega⟩
theorem puts_ok {a0 : List S46} (q0 : a0.length ≤ maxLen ∧ ∀ y33 ∈ a0, ((Lit.int .u8 y33.f0).wf = true) ∧ ((Lit.int .u8 y33.f1).wf = true) ∧ ((Lit.int .u8 y33.f2).wf = true) ∧ ((Lit.int .u8 y33.f3).wf = true) ∧ (True) ∧ (True) ∧ ((Lit.int .i64 y33.f6).wf = true) ∧ (Lit.int .i64 y33.f7).wf = true) : ∀ x ∈ a0, Rg.PutOk x := fun y hy => by
  obtain ⟨h0, h1, h2, h3, _, _, h6, h7⟩ := q0.2 y hy
  exact ⟨byte_of h0, byte_of h1, byte_of h2, byte_of h3, h6, h7⟩
theorem RgaKeeps (a0 : List S46) (a1 : S46) (q0 : a0.length ≤ maxLen ∧ ∀ y33 ∈ a0, ((Lit.int .u8 y33.f0).wf = true) ∧ ((Lit.int .u8 y33.f1).wf = true) ∧ ((Lit.int .u8 y33.f2).wf = true) ∧ ((Lit.int .u8 y33.f3).wf = true) ∧ (True) ∧ (True) ∧ ((Lit.int .i64 y33.f6).wf = true) ∧ (Lit.int .i64 y33.f7).wf = true) (q1 : ((Lit.int .u8 a1.f0).wf = true) ∧ ((Lit.int .u8 a1.f1).wf = true) ∧ ((Lit.int .u8 a1.f2).wf = true) ∧ ((Lit.int .u8 a1.f3).wf = true) ∧ (True) ∧ (True) ∧ ((Lit.int .i64 a1.f6).wf = true) ∧ (Lit.int .i64 a1.f7).wf = true) : PA.stemmalaw11_RgaKeeps.f a0 a1.f0 a1.f1 a1.f2 a1.f3 a1.f4 a1.f5 a1.f6 a1.f7 = some true := by
  unfold PA.stemmalaw11_RgaKeeps.f
  obtain ⟨h0, h1, h2, h3, _, _, h6, h7⟩ := q1
  exact if_pos ⟨puts_ok q0, ⟨byte_of h0, byte_of h1, byte_of h2, byte_of h3, h6, h7⟩⟩
end Go.Proofs.Ytkcdlilglgfkaaa.Pure
