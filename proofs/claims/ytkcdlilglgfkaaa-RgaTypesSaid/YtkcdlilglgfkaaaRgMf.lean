/- Rows of cells: the order of puts, tame, filled (three texts in one). -/
import Derived.Test.YtkcdlilglgfkaaaRgEn
import Derived.Deep.Slices
/- Rows of cells: the order in which cells are put does not matter; what can be put. -/
set_option linter.unusedVariables false
set_option linter.unusedSimpArgs false
namespace Go.Proofs.Ytkcdlilglgfkaaa.Rg
open Go Go.RowKit Go.Proofs.YtkcdlilglgfkaaaW.PrintWords Go.Proofs.YtkcdlilglgfkaaaW.PrintLast Go.Proofs.YtkcdlilglgfkaaaW.PrintMore Go.Proofs.Ytkcdlilglgfkaaa.PA Go.Proofs.Ytkcdlilglgfkaaa.Ar Go.Proofs.Ytkcdlilglgfkaaa.Sha
theorem lessF_trans : ∀ {a b c : List Int}, lessF a b = true → lessF b c = true → lessF a c = true
  | [], _, _, h, _ => by cases h
  | _ :: _, [], _, h, _ => by cases h
  | _ :: _, _ :: _, [], _, h => by cases h
  | x :: a, y :: b, z :: c, h1, h2 => by
    rw [lessF] at h1 h2 ⊢
    by_cases e1 : x = y
    · subst e1
      rw [if_pos rfl] at h1
      by_cases e2 : x = z
      · rw [if_pos e2] at h2 ⊢; exact lessF_trans h1 h2
      · rw [if_neg e2] at h2 ⊢; exact h2
    · rw [if_neg e1] at h1
      have h1 := of_decide_eq_true h1
      by_cases e2 : y = z
      · subst e2; rw [if_neg e1]; exact decide_eq_true h1
      · rw [if_neg e2] at h2
        have h2 := of_decide_eq_true h2
        rw [if_neg (by omega)]; exact decide_eq_true (by omega)
theorem lessF_asymm : ∀ {a b : List Int}, lessF a b = true → lessF b a = false
  | [], _, h => by cases h
  | _ :: _, [], h => by cases h
  | x :: a, y :: b, h => by
    rw [lessF] at h ⊢
    by_cases e : x = y
    · rw [if_pos e] at h; rw [if_pos e.symm]; exact lessF_asymm h
    · rw [if_neg e] at h
      have h := of_decide_eq_true h
      rw [if_neg (fun h => e h.symm)]; exact decide_eq_false (by omega)
theorem lessF_total : ∀ {a b : List Int}, a.length = b.length → a ≠ b → lessF a b = true ∨ lessF b a = true
  | [], [], _, h => absurd rfl h
  | [], _ :: _, h, _ => by simp at h
  | _ :: _, [], h, _ => by simp at h
  | x :: a, y :: b, hl, hn => by
    rw [lessF, lessF]
    by_cases e : x = y
    · subst e
      rw [if_pos rfl, if_pos rfl]
      exact lessF_total (by simpa using hl) (fun h => hn (by rw [h]))
    · rw [if_neg e, if_neg (fun h => e h.symm)]
      by_cases h : x < y
      · exact Or.inl (decide_eq_true h)
      · exact Or.inr (decide_eq_true (by omega))
theorem lessI_trans {a b c : Idt} (h1 : lessI a b = true) (h2 : lessI b c = true) : lessI a c = true := by
  unfold lessI at *
  by_cases e1 : a.1 = b.1
  · rw [if_pos e1] at h1
    by_cases e2 : b.1 = c.1
    · rw [if_pos e2] at h2; rw [if_pos (e1.trans e2)]; exact lessF_trans h1 h2
    · rw [if_neg e2] at h2
      have := of_decide_eq_true h2
      rw [if_neg (by omega)]; exact decide_eq_true (by omega)
  · rw [if_neg e1] at h1
    have h1 := of_decide_eq_true h1
    by_cases e2 : b.1 = c.1
    · rw [if_neg (by omega)]; exact decide_eq_true (by omega)
    · rw [if_neg e2] at h2
      have := of_decide_eq_true h2
      rw [if_neg (by omega)]; exact decide_eq_true (by omega)
theorem lessI_asymm {a b : Idt} (h : lessI a b = true) : lessI b a = false := by
  unfold lessI at *
  by_cases e : a.1 = b.1
  · rw [if_pos e] at h; rw [if_pos e.symm]; exact lessF_asymm h
  · rw [if_neg e] at h
    have h := of_decide_eq_true h
    rw [if_neg (fun h => e h.symm)]; exact decide_eq_false (by omega)
theorem lessI_total {a b : Idt} (ha : a.2.length = 32) (hb : b.2.length = 32) (hn : a ≠ b) : lessI a b = true ∨ lessI b a = true := by
  unfold lessI
  by_cases e : a.1 = b.1
  · rw [if_pos e, if_pos e.symm]
    exact lessF_total (by omega) (fun h => hn (Prod.ext e h))
  · rw [if_neg e, if_neg (fun h => e h.symm)]
    by_cases h : a.1 < b.1
    · exact Or.inl (decide_eq_true h)
    · exact Or.inr (decide_eq_true (by omega))
theorem insR_comm1 {x y : Re} (h : lessI x.id y.id = true) : ∀ K : List Re, insR (insR K x) y = insR (insR K y) x
  | [] => by rw [insR_nil, insR_nil, insR_cons, insR_cons, if_neg (by rw [lessI_asymm h]; decide), if_pos h, insR_nil]
  | k :: l => by
    rw [insR_cons, insR_cons]
    by_cases hx : lessI x.id k.id = true
    · rw [if_pos hx]
      by_cases hy : lessI y.id k.id = true
      · rw [if_pos hy, insR_cons, if_pos hy, insR_cons, if_pos hx, insR_comm1 h l]
      · rw [if_neg hy, insR_cons, if_neg hy, insR_cons, if_pos h, insR_cons, if_pos hx]
    · rw [if_neg hx]
      have hy : ¬ lessI y.id k.id = true := fun hy => hx (lessI_trans h hy)
      rw [if_neg hy, insR_cons, if_neg (by rw [lessI_asymm h]; decide), insR_cons, if_pos h, insR_cons, if_neg hx]
theorem insR_comm {x y : Re} (hx : x.id.2.length = 32) (hy : y.id.2.length = 32) (hn : x.id ≠ y.id) (K : List Re) : insR (insR K x) y = insR (insR K y) x := by
  rcases lessI_total hx hy hn with h | h
  · exact insR_comm1 h K
  · exact (insR_comm1 h K).symm
theorem nd_of_ids {R : List Re} (h : (idsOf R).Nodup) : ∀ x ∈ R, ∀ y ∈ R, x.id = y.id → x = y := by
  induction R with
  | nil => intro x hx; simp at hx
  | cons z r ih =>
    obtain ⟨h1, h2⟩ := List.nodup_cons.1 h
    intro x hx y hy e
    rcases List.mem_cons.1 hx with ex | hx2
    · rcases List.mem_cons.1 hy with ey | hy2
      · rw [ex, ey]
      · exact absurd (mem_ids.2 ⟨y, hy2, by rw [← e, ex]⟩ : z.id ∈ idsOf r) h1
    · rcases List.mem_cons.1 hy with ey | hy2
      · exact absurd (mem_ids.2 ⟨x, hx2, by rw [e, ey]⟩ : z.id ∈ idsOf r) h1
      · exact ih h2 x hx2 y hy2 e
section
variable {R R' D Lf : List Re} {L : List Ce}
theorem kids_perm (hp : R'.Perm R) (hn : (idsOf R).Nodup) (hl : ∀ x ∈ R, x.id.2.length = 32) (i : Idt) : kidsF R' i = kidsF R i := by
  unfold kidsF
  refine List.Perm.foldl_eq' (hp.filter _) (fun x hx y hy z => ?_) _
  have hxR := hp.mem_iff.1 (List.mem_filter.1 hx).1
  have hyR := hp.mem_iff.1 (List.mem_filter.1 hy).1
  by_cases e : x.id = y.id
  · rw [nd_of_ids hn x hxR y hyR e]
  · exact insR_comm (hl x hxR) (hl y hyR) e z
theorem below_perm (hp : R'.Perm R) (hn : (idsOf R).Nodup) (hl : ∀ x ∈ R, x.id.2.length = 32) : ∀ (n : Nat) (i : Idt), belowF n R' i = belowF n R i
  | 0, _ => rfl
  | n + 1, i => by
    rw [belowF, belowF, kids_perm hp hn hl]
    exact flat_congr (fun k _ => by rw [below_perm hp hn hl n k.id])
theorem tell_perm (hp : R'.Perm R) (hn : (idsOf R).Nodup) (hl : ∀ x ∈ R, x.id.2.length = 32) : tellF R' = tellF R := by
  unfold tellF
  rw [hp.length_eq, below_perm hp hn hl]
theorem min_mem : ∀ {l : List Re}, l ≠ [] → ∃ c ∈ l, ∀ d ∈ l, c.id.1 ≤ d.id.1
  | [], h => absurd rfl h
  | [x], _ => ⟨x, by simp, fun d hd => by rw [List.mem_singleton.1 hd]; omega⟩
  | x :: y :: r, _ => by
    obtain ⟨c, hc, hm⟩ := min_mem (l := y :: r) (by simp)
    by_cases h : x.id.1 ≤ c.id.1
    · refine ⟨x, by simp, fun d hd => ?_⟩
      rcases List.mem_cons.1 hd with rfl | hd
      · omega
      · have := hm d hd; omega
    · refine ⟨c, List.mem_cons_of_mem _ hc, fun d hd => ?_⟩
      rcases List.mem_cons.1 hd with rfl | hd
      · omega
      · exact hm d hd
/-- May be put now. -/
def Can (L : List Ce) (c : Re) : Prop := ¬ (c.id.1 < 1 ∨ c.id.1 ≤ c.after.1) ∧ (∀ x ∈ L, x.id ≠ c.id) ∧ (c.after = z0 ∨ ∃ x ∈ L, x.id = c.after)
/-- Some are put, some are left. -/
structure Fill (R D Lf : List Re) (L : List Ce) : Prop where
  al : Alike L D
  pm : (D ++ Lf).Perm R
theorem Fill.sub (h : Fill R D Lf L) : ∀ x ∈ Lf, x ∈ R := fun x hx => h.pm.mem_iff.1 (List.mem_append.2 (Or.inr hx))
theorem Fill.can {L0 : List Ce} (hR : Alike L0 R) (h : Fill R D Lf L) {c : Re} (hc : c ∈ Lf) (ha : c.after = z0 ∨ ∃ q ∈ D, q.id = c.after) : Can L c := by
  have hcR := h.sub c hc
  refine ⟨?_, fun x hx e => ?_, ha.imp_right (fun h2 => (h.al.mem _).2 h2)⟩
  · have h1 := hR.pos c hcR
    have h2 := hR.up c hcR
    omega
  · obtain ⟨q, hq, e2⟩ := (h.al.mem c.id).1 ⟨x, hx, e⟩
    have hnd : (idsOf (D ++ Lf)).Nodup := by
      have : (idsOf (D ++ Lf)).Perm (idsOf R) := h.pm.map _
      exact this.nodup_iff.2 hR.nd
    rw [ids_app] at hnd
    exact (List.nodup_append.1 hnd).2.2 _ (mem_ids.2 ⟨q, hq, e2⟩) _ (mem_ids.2 ⟨c, hc, rfl⟩) rfl
theorem Fill.some {L0 : List Ce} (hR : Alike L0 R) (h : Fill R D Lf L) (hn : Lf ≠ []) : ∃ c ∈ Lf, Can L c := by
  obtain ⟨c, hc, hm⟩ := min_mem hn
  have hcR := h.sub c hc
  refine ⟨c, hc, h.can hR hc ((hR.afters c hcR).imp_right (fun ⟨q, hq, e⟩ => ⟨q, ?_, e⟩))⟩
  rcases List.mem_append.1 (h.pm.mem_iff.2 hq) with h1 | h1
  · exact h1
  · have h2 := hm q h1
    have h3 := hR.up c hcR
    rw [← e] at h3
    omega
theorem Fill.put {L0 : List Ce} (hR : Alike L0 R) (hg : ∀ x ∈ R, x.gone = false) (h : Fill R D Lf L) {j : Nat} {c : Re} (hj : Lf[j]? = Option.some c) (hc : Can L c) {k : Nat} (hk : start L c.after k) : Fill R (D ++ [c]) (Lf.take j ++ Lf.drop (j + 1)) (insAt L (adv L c.id k) ⟨c.id, c.ch, false⟩) := by
  have hcm := List.mem_of_getElem? hj
  have hcR := h.sub c hcm
  have hce : (⟨c.id, c.after, c.ch, false⟩ : Re) = c := by rw [← hg c hcR]
  refine ⟨?_, ?_⟩
  · have := h.al.put (ch := c.ch) hc.1 (fun x hx e => by obtain ⟨q, hq, e2⟩ := (h.al.mem c.id).2 ⟨x, hx, e⟩; exact hc.2.1 q hq e2) (hc.2.2.imp_right (fun h2 => (h.al.mem _).1 h2)) (hR.ok c hcR) hk
    rwa [hce] at this
  · refine List.Perm.trans ?_ h.pm
    rw [List.append_assoc]
    refine List.Perm.append_left D ?_
    obtain ⟨hlt, he⟩ := List.getElem?_eq_some_iff.1 hj
    have h1 : Lf = Lf.take j ++ (c :: Lf.drop (j + 1)) := by rw [← he, ← List.drop_eq_getElem_cons hlt, List.take_append_drop]
    conv => rhs; rw [h1]
    rw [List.singleton_append]
    exact List.perm_middle.symm
theorem Fill.done {L0 : List Ce} (hR : Alike L0 R) (h : Fill R D [] L) : L = (tellF R).map toC := by
  have hp := h.pm
  rw [List.append_nil] at hp
  rw [h.al.eq, tell_perm hp hR.nd (fun x hx => (hR.ok x hx).2.1)]
theorem Fill.start : Fill R [] R [] := ⟨alike_nil, List.Perm.refl _⟩
theorem Fill.len (h : Fill R D Lf L) : D.length + Lf.length = R.length := by have := h.pm.length_eq; rwa [List.length_append] at this
theorem Fill.lenL (h : Fill R D Lf L) : L.length + Lf.length = R.length := by have := h.len; rw [h.al.size]; exact this
end
/-- The document's row grows on as it should. -/
theorem alike_ins {L : List Ce} {R R' : List Re} {a i : Idt} {ch c : Int} (h : Alike L R) (hi : okI i) (h2 : RIns R a i ch R' c) : ∃ L', Alike L' R' := by
  rcases h2 with ⟨rfl, rfl, _⟩ | ⟨rfl, rfl, _⟩ | ⟨rfl, rfl, _⟩ | ⟨rfl, rfl, h3, h4, h5⟩
  · exact ⟨L, h⟩
  · exact ⟨L, h⟩
  · exact ⟨L, h⟩
  · have hs : ∃ j, start L a j := by
      rcases h5 with e | ⟨x, hx, e⟩
      · exact ⟨0, Or.inl ⟨e, rfl⟩⟩
      · obtain ⟨q, hq, e2⟩ := (h.mem a).2 ⟨x, hx, e⟩
        obtain ⟨k, hk, hk2⟩ := List.getElem_of_mem hq
        refine ⟨k + 1, Or.inr ⟨fun e3 => ?_, k, q, rfl, by rw [List.getElem?_eq_getElem hk, hk2], e2⟩⟩
        have h6 := h.pos x hx
        rw [e, e3] at h6
        exact absurd h6 (by decide)
    obtain ⟨j, hj⟩ := hs
    exact ⟨_, h.put h3 h4 h5 hi hj⟩
end Go.Proofs.Ytkcdlilglgfkaaa.Rg

/- Rows of cells: tame walked. -/
set_option linter.unusedVariables false
set_option linter.unusedSimpArgs false
namespace Go.Proofs.Ytkcdlilglgfkaaa.Rg
open Go Go.RowKit Go.Proofs.YtkcdlilglgfkaaaW.PrintWords Go.Proofs.YtkcdlilglgfkaaaW.PrintLast Go.Proofs.YtkcdlilglgfkaaaW.PrintMore Go.Proofs.Ytkcdlilglgfkaaa.PA Go.Proofs.Ytkcdlilglgfkaaa.Ar Go.Proofs.Ytkcdlilglgfkaaa.Sha
theorem wpList_load_add {P : Program} {ops : Array Oper} {rest : List Oper} {op : Oper} {a : Act} {w : World} {Q : Exit → Act → World → Prop} (hgd : op.guard = none) (ty : TypeId) (x : Operand) (ho : op.op = .load ty x)
    (ad : Addr) (hx : a.eval x = .pointer (some ad)) (cs : List Value) (hc : ∀ j v, cs[j]? = some v → w.cell? (ad.add j) = some v) (d : TypeDesc)
    (hu : P.underlying ty = some d) (hd : d.isRow = true) (hi : (P.info? ty).map (·.size) = some cs.length)
    (h : wpList P ops Q rest (a.put op.dst (.agg cs.toArray)) w) : wpList P ops Q (op :: rest) a w :=
  wpList_plain hgd fun K hK => by
    unfold Oper.wp execOp
    simp only [ho, hx, Instr.loadAt, Instr.sureAddr, Sem.run_bind, Sem.run_pure, Result.andThen_ok, loadVar_add w ad ty cs d hc hu hd hi]
    exact hK _ _ h
def zp : S46 := ⟨0, 0, 0, 0, false, false, 0, 0⟩
theorem zero_put (w : World) : (zeroValue TP).run Try.prog w = .ok (.agg (pcells zp).toArray) w := by
  have h : (Try.prog.info? TP).map (·.zero) = some (some (.agg (pcells zp).toArray)) := by kernel_rfl
  obtain ⟨i, hq, hz⟩ := Option.map_eq_some_iff.1 h
  simp [zeroValue, typeInfo, hq, hz]
theorem pc_all (x : S46) : (pcells x).toArray.all (·.oneCell') = true := by simp [pcells, Value.oneCell']
/-- What a tame row is. -/
structure Tame (k : Nat) (R : List Re) : Prop where
  al : ∃ L, Alike L R
  len : R.length ≤ k
  num : ∀ x ∈ R, x.id.1 ≤ 4 * (k : Int)
  here : ∀ x ∈ R, x.gone = false
theorem tame_nil : Tame 0 [] := ⟨⟨[], alike_nil⟩, Nat.le_refl _, fun x hx => by simp at hx, fun x hx => by simp at hx⟩
def still (p : S46) : S46 := { p with f5 := false }
theorem aft_num {R : List Re} {k : Nat} (h : Tame k R) (p : S46) : (aftF R p).1 ≤ 4 * (k : Int) := by
  unfold aftF
  split
  · show (0 : Int) ≤ _; omega
  · split
    · rename_i x hx; exact h.num x (List.mem_of_getElem? hx)
    · show (0 : Int) ≤ _; omega
theorem tame_step {R R' : List Re} {k : Nat} {p : S46} {ch c : Int} (h : Tame k R) (hp : PutOk p) (h2 : RIns R (idsF R (still p)).1 (idsF R (still p)).2 ch R' c) : Tame (k + 1) R' := by
  obtain ⟨L, hL⟩ := h.al
  have ho := (ids_ok (p := still p) (R := R) ⟨hp.b0, hp.b1, hp.b2, hp.b3, hp.w6, hp.w7⟩ hL.ok).2
  obtain ⟨L', hL'⟩ := alike_ins hL ho h2
  have he : (idsF R (still p)).2.1 = (aftF R (still p)).1 + upF (aftF R (still p)) (still p) := by
    unfold idsF
    rw [if_neg (by show ¬ (false = true); decide)]
  have hn : (idsF R (still p)).2.1 ≤ 4 * ((k + 1 : Nat) : Int) := by
    have h1 := aft_num h (still p)
    have h3 := hp.b1
    rw [he]
    unfold upF
    have h4 : (still p).f1 = p.f1 := rfl
    rw [h4]
    split <;> omega
  have hk : ∀ x ∈ R, x.id.1 ≤ 4 * ((k + 1 : Nat) : Int) := fun x hx => by have := h.num x hx; omega
  have hd : R' = R ∨ R' = R ++ [⟨(idsF R (still p)).2, (idsF R (still p)).1, ch, false⟩] := by
    rcases h2 with ⟨_, e, _⟩ | ⟨_, e, _⟩ | ⟨_, e, _⟩ | ⟨_, e, _⟩
    · exact Or.inl e
    · exact Or.inl e
    · exact Or.inl e
    · exact Or.inr e
  have hlen := h.len
  rcases hd with rfl | rfl
  · exact ⟨⟨L', hL'⟩, by omega, hk, h.here⟩
  · refine ⟨⟨L', hL'⟩, by rw [List.length_append]; simp; omega, fun x hx => ?_, fun x hx => ?_⟩
    · rcases List.mem_append.1 hx with hx | hx
      · exact hk x hx
      · rw [List.mem_singleton.1 hx]; exact hn
    · rcases List.mem_append.1 hx with hx | hx
      · exact h.here x hx
      · rw [List.mem_singleton.1 hx]
structure Tm (w : World) (g k : Nat) (W : World) : Prop where
  ex : ∃ vr R, W.heap[g]? = some (.cells #[vr] TE (0, 0)) ∧ OwnD W 0 vr R ∧ Tame k R
  bel : Below w.heap.size w W
  g0 : w.heap.size ≤ g
/-- In the midst of a round. -/
structure Tn (w : World) (g : Nat) (vr : Value) (R : List Re) (gp : Nat) (p : S46) (W : World) : Prop where
  bel : Below w.heap.size w W
  bg : W.heap[g]? = some (.cells #[vr] TE (0, 0))
  bp : W.heap[gp]? = some (.cells (pcells p).toArray TP (0, 0))
  own : OwnD W 0 vr R
section
variable {w w1 W : World} {g gp : Nat} {vr : Value} {R : List Re} {p : S46}
theorem Tn.step (h : Tn w g vr R gp p W) (hb : Below W.heap.size W w1) : Tn w g vr R gp p w1 := ⟨below_step h.bel hb, blk_below h.bg hb, blk_below h.bp hb, ownD_below h.own hb⟩
theorem tn_new (hb : Below w.heap.size w W) (hg : W.heap[g]? = some (.cells #[vr] TE (0, 0))) (hO : OwnD W 0 vr R) (Z : Array Value) (p : S46) : Tn w g vr R W.heap.size (still p) (((W.alloc (.cells Z TP)).setRow W.heap.size (pcells p).toArray).setCell ⟨W.heap.size, 5, none⟩ (.bool false)) := by
  have h1 : Below W.heap.size W ((W.alloc (.cells Z TP)).setRow W.heap.size (pcells p).toArray) := below_setRow (below_alloc (Below.refl _ _) _) (Nat.le_refl _) _
  have h2 : Below W.heap.size W (((W.alloc (.cells Z TP)).setRow W.heap.size (pcells p).toArray).setCell ⟨W.heap.size, 5, none⟩ (.bool false)) := below_cell h1 (Nat.le_refl _)
  exact ⟨below_step hb h2, blk_below hg h2, blk_set (blk_row (blk_new W _) _) 5 _, ownD_below hO h2⟩
end
set_option maxRecDepth 100000 in
set_option maxHeartbeats 8000000 in
theorem tame_calls (A0 : Option Addr) (c0 : Nat) (l0 : List S46) (w : World) (hr0 : Kd.C k46 w A0 l0.length l0) (hn : l0.length ≤ 120) (hX : ∀ x ∈ l0, PutOk x) :
    Calls Try.prog 16 #[.slice A0 l0.length c0] w fun e w' => ∃ v R, e = .returned v ∧ OwnD w' 0 v R ∧ Tame l0.length R ∧ Below w.heap.size w w' := by
  have HX := Aside0.mk hX
  have HR := Aside0.mk hr0
  have HN := Aside0.mk hn
  have hmax : l0.length ≤ 9223372036854775807 := hr0.2.1
  have huP := Try.underlying46
  have huF := Try.underlying26
  have hiP : (Try.prog.info? TP).map (·.size) = some 8 := by kernel_rfl
  have HZ := Aside0.mk zero_ref
  have HZs : Aside0 ((iv z0).toArray.size = 33) := ⟨rfl⟩
  obtain ⟨Z, hZe⟩ : ∃ Z, (iv z0).toArray = Z := ⟨_, rfl⟩
  rw [hZe] at HZ HZs
  have HZP := Aside0.mk zero_put
  have HZP8 : Aside0 ((pcells zp).toArray.size = 8) := ⟨rfl⟩
  obtain ⟨ZP, hZPe⟩ : ∃ Z, (pcells zp).toArray = Z := ⟨_, rfl⟩
  rw [hZPe] at HZP HZP8
  clear hr0 hn hX hZe hZPe
  go_enter Try.func16, Try.ntmps16
  go_upto_region 2 with fail
  have HT : Aside0 (Tm w w.heap.size 0 (w.alloc (.cells #[.slice none 0 0] TE))) := ⟨⟨⟨_, [], blk_new w _, Kd.R_nil _ _ _ _ _, tame_nil⟩, below_alloc (Below.refl _ _) _, Nat.le_refl _⟩⟩
  generalize hg : w.heap.size = g at *
  generalize w.alloc (.cells #[.slice none 0 0] TE) = w1 at *
  go_wp2_with fail
  go_loopw [4] (fun i wr => ∃ j : Nat, j ≤ l0.length ∧ i = .int .i64 j ∧ Aside0 (Tm w g j wr)) (fun i _ => l0.length - (intOf i).toNat)
  case atStart => exact ⟨0, by omega, rfl, HT⟩
  case round =>
    clear HT
    obtain ⟨j, hj, rfl, HW⟩ := hrel
    by_cases hlt : j < l0.length
    · obtain ⟨ad, x, he, hxe, hac⟩ := put_at46 HR.out j hlt
      subst he
      obtain ⟨vr, R, hG, hO, hT⟩ := HW.out.ex
      have HXX := Aside0.mk (HX.out x (List.mem_of_getElem? hxe))
      have HAC : Aside0 (∀ (i : Nat) (y : Value), (pcells x)[i]? = some y → wr.cell? ((ad.add (j * 8)).add i) = some y) := ⟨fun i y hy => by
        rw [Go.Deep.add_add]
        exact pw_cell_below HW.out.bel (hac i y hy)⟩
      have HTN := Aside0.mk (tn_new HW.out.bel hG hO ZP x)
      have HG0 := Aside0.mk HW.out.g0
      have HTM := Aside0.mk hT
      have HBP : Aside0 ((((wr.alloc (.cells ZP TP)).setRow wr.heap.size (pcells x).toArray)).heap[wr.heap.size]? = some (.cells (pcells x).toArray TP (0, 0))) := ⟨blk_row (blk_new wr _) _⟩
      clear hac hxe hG hO hT HW
      go_upto_region 6 with (first | ((with_reducible refine gate_ (Op.load TP (.tmp 16)) rfl ?_); refine wpList_load_add rfl TP (.tmp 16) rfl (ad.add (j * 8)) rfl (pcells x) HAC.out _ huP rfl hiP ?_) | ((with_reducible refine gate_ (Op.alloc TP) rfl ?_); refine wpList_alloc_as rfl TP rfl ZP HZP.out ?_) | ((with_reducible refine gate_ (Op.store TP (.tmp 5) (.tmp 17)) rfl ?_); refine wpList_store_at rfl TP (.tmp 5) (.tmp 17) rfl wr.heap.size 0 (pcells x).toArray rfl rfl TP ZP (blk_new wr _) (by rw [HZP8.out]; exact Nat.le_refl 8) hiP (pc_all x) ?_; rw [splice_all _ _ (by rw [Array.length_toList, Array.length_toList, HZP8.out]; rfl), Array.toArray_toList]))
      generalize hws : (wr.alloc (.cells ZP TP)).setRow wr.heap.size (pcells x).toArray = ws at *
      have k5 : ws.cell? ⟨wr.heap.size, 5, none⟩ = some (.bool x.f5) := (blk_cell HBP.out 5).trans rfl
      have f5 : ws.frozen? ⟨wr.heap.size, 5, none⟩ = false := blk_frozen HBP.out _
      clear hws HBP HAC
      go_upto_region 7 with fail
      clear k5 f5
      generalize ws.setCell ⟨wr.heap.size, 5, none⟩ (.bool false) = wt at *
      generalize wr.heap.size = gp at *
      obtain ⟨L, hL⟩ := HTM.out.al
      have hok := ids_ok (p := still x) (R := R) ⟨HXX.out.b0, HXX.out.b1, HXX.out.b2, HXX.out.b3, HXX.out.w6, HXX.out.w7⟩ hL.ok
      have HRL : Aside0 (R.length < 80000) := ⟨by have := HTM.out.len; have := HN.out; omega⟩
      have HID := Aside0.mk (fun W (hW : OwnD W 0 vr R) => ids_calls W vr R hW (by have := HRL.out; omega) (still x) ⟨HXX.out.b0, HXX.out.b1, HXX.out.b2, HXX.out.b3, HXX.out.w6, HXX.out.w7⟩ hL.ok)
      have HRI := Aside0.mk (fun W (hW : OwnD W 0 vr R) => RInsert_calls W vr R hW (by have := HRL.out; omega) (idsF R (still x)).1 (idsF R (still x)).2 hok.1.2.1 hok.2.2.1 x.f3)
      have HTS : Aside0 (∀ R' c, RIns R (idsF R (still x)).1 (idsF R (still x)).2 x.f3 R' c → Tame (j + 1) R') := ⟨fun R' c h => tame_step HTM.out HXX.out h⟩
      have HAs : Aside0 ((iv (idsF R (still x)).1).toArray.size = 33) := ⟨by rw [List.size_toArray, iv_len hok.1.2.1]⟩
      have HIs : Aside0 ((iv (idsF R (still x)).2).toArray.size = 33) := ⟨by rw [List.size_toArray, iv_len hok.2.2.1]⟩
      have HA1 : Aside0 ((iv (idsF R (still x)).1).toArray.all (·.oneCell') = true) := ⟨iv_all _⟩
      have HI1 : Aside0 ((iv (idsF R (still x)).2).toArray.all (·.oneCell') = true) := ⟨iv_all _⟩
      obtain ⟨a, ha⟩ : ∃ a, (idsF R (still x)).1 = a := ⟨_, rfl⟩
      obtain ⟨i, hi⟩ : ∃ i, (idsF R (still x)).2 = i := ⟨_, rfl⟩
      rw [ha] at HID HRI HTS HAs HA1
      rw [hi] at HID HRI HTS HIs HI1
      obtain ⟨A, hAe⟩ : ∃ A, iv a = A := ⟨_, rfl⟩
      obtain ⟨I, hIe⟩ : ∃ I, iv i = I := ⟨_, rfl⟩
      rw [hAe] at HID HRI HAs HA1
      rw [hIe] at HID HRI HIs HI1
      have HSA : Aside0 ((Try.prog.info? TF).map (·.size) = some A.toArray.size) := ⟨by rw [HAs.out]; exact size_ref⟩
      have HSI : Aside0 ((Try.prog.info? TF).map (·.size) = some I.toArray.size) := ⟨by rw [HIs.out]; exact size_ref⟩
      have HPS : Aside0 ((Try.prog.info? TP).map (·.size) = some (pcells (still x)).toArray.size) := ⟨hiP⟩
      have HPB := Aside0.mk HTN.out.bp
      have k0 : wt.cell? ⟨g, 0, none⟩ = some vr := (blk_cell HTN.out.bg 0).trans rfl
      clear hL hok ha hi hAe hIe
      go_upto_region 8 with (first | ((with_reducible refine gate_ (Op.load TP (.tmp 5)) rfl ?_); refine wpList_load_row rfl TP (.tmp 5) rfl gp rfl _ _ _ _ HPB.out huP rfl HPS.out ?_) | (go_at_call 19; refine (HID.out _ HTN.out.own).mono ?_; rintro e w2 ⟨rfl, hb⟩; have HT2 := Aside0.mk (HTN.out.step hb); clear hb) | ((with_reducible refine gate_ (Op.alloc TF) rfl ?_); refine wpList_alloc_as rfl TF rfl Z HZ.out ?_) | ((with_reducible refine gate_ (Op.store TF (.tmp 6) (.tmp 23)) rfl ?_); refine wpList_store_at rfl TF (.tmp 6) (.tmp 23) rfl w2.heap.size 0 A.toArray rfl rfl TF Z (blk_alloc (blk_new w2 _) _) (by rw [HAs.out, HZs.out]; decide) HSA.out HA1.out ?_; rw [splice_all _ _ (by rw [Array.length_toList, Array.length_toList, HAs.out, HZs.out]), Array.toArray_toList]) | ((with_reducible refine gate_ (Op.store TF (.tmp 7) (.tmp 24)) rfl ?_); refine wpList_store_at rfl TF (.tmp 7) (.tmp 24) rfl (w2.heap.size + 1) 0 I.toArray (by rw [← alloc_size w2 (.cells Z TF)]; rfl) rfl TF Z (ids_b9 w2 Z A.toArray) (by rw [HIs.out, HZs.out]; decide) HSI.out HI1.out ?_; rw [splice_all _ _ (by rw [Array.length_toList, Array.length_toList, HIs.out, HZs.out]), Array.toArray_toList]))
      have hb3 := below_ids w2 Z A.toArray I.toArray
      have HT3 := Aside0.mk (HT2.out.step hb3)
      have HC8 : Aside0 (((((w2.alloc (.cells Z TF)).alloc (.cells Z TF)).setRow w2.heap.size A.toArray).setRow (w2.heap.size + 1) I.toArray).heap[w2.heap.size]? = some (.cells A.toArray TF (0, 0))) := ⟨(setRow_other _ _ _ _ (by omega)).trans (blk_row (blk_alloc (blk_new w2 _) _) _)⟩
      have HC9 : Aside0 (((((w2.alloc (.cells Z TF)).alloc (.cells Z TF)).setRow w2.heap.size A.toArray).setRow (w2.heap.size + 1) I.toArray).heap[w2.heap.size + 1]? = some (.cells I.toArray TF (0, 0))) := ⟨blk_row (ids_b9 w2 Z A.toArray) _⟩
      clear k0 HPB HTN HT2 HID hb3
      rw [alloc_size w2 (.cells Z TF)]
      generalize (((w2.alloc (.cells Z TF)).alloc (.cells Z TF)).setRow w2.heap.size A.toArray).setRow (w2.heap.size + 1) I.toArray = w3 at *
      generalize w2.heap.size = g8 at *
      generalize g8 + 1 = g9 at *
      have k0 : w3.cell? ⟨g, 0, none⟩ = some vr := (blk_cell HT3.out.bg 0).trans rfl
      have k3 : w3.cell? ⟨gp, 3, none⟩ = some (.int .u8 x.f3) := (blk_cell HT3.out.bp 3).trans rfl
      have HFR := Aside0.mk (fun (W : World) (hW : Tn w g vr R gp (still x) W) => (blk_frozen hW.bg 0 : W.frozen? ⟨g, 0, none⟩ = false))
      go_wp2_with (first | ((with_reducible refine gate_ (Op.load TF (.tmp 6)) rfl ?_); refine wpList_load_row rfl TF (.tmp 6) rfl g8 rfl _ _ _ _ HC8.out huF rfl HSA.out ?_) | ((with_reducible refine gate_ (Op.load TF (.tmp 7)) rfl ?_); refine wpList_load_row rfl TF (.tmp 7) rfl g9 rfl _ _ _ _ HC9.out huF rfl HSI.out ?_) | (go_at_call 33; refine (HRI.out _ HT3.out.own).mono ?_; rintro e w6 ⟨vr1, R1, c', rfl, hO, hb, hrr⟩; obtain ⟨A6, c6, rfl⟩ := Kd.R_slice hO; have HT6 := Aside0.mk (HT3.out.step hb); have HO6 := Aside0.mk hO; have HM := Aside0.mk (HTS.out _ _ hrr); clear hb hO hrr k0; have k0 : w6.cell? ⟨g, 0, none⟩ = some vr := (blk_cell HT6.out.bg 0).trans rfl; have f0 := HFR.out w6 HT6.out))
      have HTF : Aside0 (Tm w g (j + 1) (w6.setCell ⟨g, 0, none⟩ (.slice A6 R1.length c6))) := ⟨⟨⟨_, R1, blk_set HT6.out.bg 0 _, ownD_cell HO6.out HT6.out.bg (by decide) _ _, HM.out⟩, below_cell HT6.out.bel HG0.out, HG0.out⟩⟩
      go_roundw
      case rel => exact ⟨j + 1, hlt, by go_num, HTF⟩
      case measure => simp [intOf]; omega
    · obtain rfl : j = l0.length := by omega
      obtain ⟨vr, R, hG, hO, hT⟩ := HW.out.ex
      have HE := Aside0.mk (And.intro hO (And.intro hT HW.out.bel))
      have k0 : wr.cell? ⟨g, 0, none⟩ = some vr := (blk_cell hG 0).trans rfl
      clear HW hG hO hT
      go_wp2_with fail
      go_ret
      exact ⟨vr, R, rfl, HE.out.1, HE.out.2.1, HE.out.2.2⟩
end Go.Proofs.Ytkcdlilglgfkaaa.Rg

/- Rows of cells: filled walked. -/
set_option linter.unusedVariables false
set_option linter.unusedSimpArgs false
namespace Go.Proofs.Ytkcdlilglgfkaaa.Rg
open Go Go.RowKit Go.Proofs.YtkcdlilglgfkaaaW.PrintWords Go.Proofs.YtkcdlilglgfkaaaW.PrintLast Go.Proofs.YtkcdlilglgfkaaaW.PrintMore Go.Proofs.Ytkcdlilglgfkaaa.PA Go.Proofs.Ytkcdlilglgfkaaa.Ar Go.Proofs.Ytkcdlilglgfkaaa.Sha
theorem zero_re (w : World) : (zeroValue TD).run Try.prog w = .ok (.agg (re r0).toArray) w := by
  have h : (Try.prog.info? TD).map (·.zero) = some (some (.agg (re r0).toArray)) := by kernel_rfl
  obtain ⟨i, hq, hz⟩ := Option.map_eq_some_iff.1 h
  simp [zeroValue, typeInfo, hq, hz]
theorem re_all (x : Re) : (re x).toArray.all (·.oneCell') = true := all_oneCell_toArray (re_one x)
/-- What stands between the rounds. -/
structure Fl (w : World) (gr gm : Nat) (R : List Re) (k : Nat) (vl : Value) (W : World) : Prop where
  ex : ∃ L M v D Lf, Rw w gr gm L M v W ∧ OwnD W w.heap.size vl Lf ∧ Fill R D Lf L ∧ D.length = k
/-- In a round: which were tried. -/
structure Fi (w : World) (gr gm : Nat) (L : List Ce) (Lf : List Re) (vl : Value) (q i : Nat) (W : World) : Prop where
  ex : ∃ M v, Rw w gr gm L M v W
  own : OwnD W w.heap.size vl Lf
  no : ∀ i' < i, ∀ c, Lf[(q + i') % Lf.length]? = some c → ¬ Can L c
/-- In the drawn region. -/
structure Fj (w : World) (gr gm : Nat) (L : List Ce) (M : List Idt) (v : Value) (Lf : List Re) (vl : Value) (gc : Nat) (c : Re) (W : World) : Prop where
  rw : Rw w gr gm L M v W
  own : OwnD W w.heap.size vl Lf
  blk : W.heap[gc]? = some (.cells (re c).toArray TD (0, 0))
def SFj (w : World) (gr gm : Nat) (L : List Ce) (M : List Idt) (v : Value) (Lf : List Re) (vl : Value) (gc : Nat) (c : Re) (X Y : List Value) (W : World) : Prop :=
  W.rangeAt gc 0 X ∧ W.rangeAt gc 33 Y ∧ W.cell? ⟨gc, 66, none⟩ = some (.int .u8 c.ch) ∧ Aside0 (Fj w gr gm L M v Lf vl gc c W)
section
variable {w w1 W : World} {gr gm gc : Nat} {L : List Ce} {M : List Idt} {v vl : Value} {R Lf : List Re} {c : Re}
theorem Fj.step (h : Fj w gr gm L M v Lf vl gc c W) (hb : Below W.heap.size W w1) : Fj w gr gm L M v Lf vl gc c w1 := ⟨h.rw.step hb, ownD_below h.own hb, blk_below h.blk hb⟩
theorem sfj_of (hc : okR c) (h : Fj w gr gm L M v Lf vl gc c W) : SFj w gr gm L M v Lf vl gc c (iv c.id) (iv c.after) W := by
  refine ⟨fun j v hv => ?_, fun j v hv => ?_, ?_, ⟨h⟩⟩
  · rw [blk_cell h.blk, List.getElem?_toArray, Nat.zero_add]; exact re_id j v hv
  · rw [blk_cell h.blk, List.getElem?_toArray]; exact re_after hc j v hv
  · rw [blk_cell h.blk, List.getElem?_toArray, re, List.getElem?_append_right (by rw [iv_len hc.1]; omega), iv_len hc.1, List.getElem?_append_right (by rw [iv_len hc.2]; omega), iv_len hc.2]; rfl
theorem oins_cases {a i : Idt} {ch e : Int} {L1 : List Ce} (hc : c.id = i ∧ c.after = a) (h : OIns L a i ch L1 e) : (e = 0 ∧ Can L c ∧ ∃ j, start L a j ∧ L1 = insAt L (adv L i j) ⟨i, ch, false⟩) ∨ (e ≠ 0 ∧ L1 = L ∧ ¬ Can L c) := by
  obtain ⟨rfl, rfl⟩ := hc
  rcases h with ⟨rfl, rfl, h1⟩ | ⟨rfl, rfl, h1, x, hx, h2⟩ | ⟨rfl, rfl, h1, h2, h3, h4⟩ | ⟨rfl, ⟨j, hj, e⟩, h1, h2, h3⟩
  · exact Or.inr ⟨by decide, rfl, fun h => h.1 h1⟩
  · exact Or.inr ⟨by decide, rfl, fun h => h.2.1 x hx h2⟩
  · exact Or.inr ⟨by decide, rfl, fun h => h.2.2.elim h3 (fun ⟨x, hx, e⟩ => h4 x hx e)⟩
  · exact Or.inl ⟨rfl, ⟨h1, h2, h3⟩, j, hj, e⟩
theorem rem_in (q i m : Nat) (h : q + i < 1000000) : (wrap64 ((q : Int) + (i : Int))).tmod ((m : Int) + 1) = (((q + i) % (m + 1) : Nat) : Int) := by
  have h1 : wrap64 ((q : Int) + (i : Int)) = ((q + i : Nat) : Int) := by unfold wrap64; omega
  rw [h1, show ((m : Int) + 1) = ((m + 1 : Nat) : Int) by omega]
  rw [Int.tmod_eq_emod_of_nonneg (by omega)]
  exact (Int.natCast_emod _ _).symm
theorem all_tried {n q : Nat} (hq : q < n) {j : Nat} (hj : j < n) : ∃ i < n, (q + i) % n = j := by
  by_cases h : q ≤ j
  · exact ⟨j - q, by omega, by rw [show q + (j - q) = j by omega]; exact Nat.mod_eq_of_lt hj⟩
  · exact ⟨j + n - q, by omega, by rw [show q + (j + n - q) = j + n by omega, Nat.add_mod_right]; exact Nat.mod_eq_of_lt hj⟩
end
theorem after_ok {R : List Re} {L : List Ce} (h : Alike L R) : ∀ x ∈ R, okI x.after := fun x hx => by
  rcases h.afters x hx with e | ⟨q, hq, e⟩
  · rw [e]; exact z0_ok
  · rw [← e]; exact h.ok q hq
set_option maxRecDepth 100000 in
set_option maxHeartbeats 8000000 in
theorem filled_calls {L0 : List Ce} (A0 : Option Addr) (c0 : Nat) (R : List Re) (A1 : Option Addr) (c1 : Nat) (ts : List Int) (w : World) (hr0 : Kd.C KD w A0 R.length R) (hr1 : Kd.C (Kd.int .u8) w A1 ts.length ts) (hn : R.length ≤ 1000) (hts : ∀ x ∈ ts, 0 ≤ x ∧ x < 256) (hA : Alike L0 R) (hg : ∀ x ∈ R, x.gone = false) :
    Calls Try.prog 17 #[.slice A0 R.length c0, .slice A1 ts.length c1] w fun e w' => ∃ gr gm M v, e = .returned (.pointer (some ⟨gr, 0, none⟩)) ∧ Rw w gr gm ((tellF R).map toC) M v w' := by
  have HAL := Aside0.mk (And.intro hA hg)
  have HR := Aside0.mk hr0
  have HR1 := Aside0.mk hr1
  have HN := Aside0.mk hn
  have HTS := Aside0.mk hts
  have hmax : R.length ≤ 1000 := hn
  have hmax1 : ts.length ≤ 9223372036854775807 := hr1.2.1
  have huD := Try.underlying52
  have huF := Try.underlying26
  have HZ := Aside0.mk zero_re
  have HZs : Aside0 ((re r0).toArray.size = 68) := ⟨rfl⟩
  obtain ⟨Z, hZe⟩ : ∃ Z, (re r0).toArray = Z := ⟨_, rfl⟩
  rw [hZe] at HZ HZs
  clear hr0 hr1 hn hts hA hg hZe
  go_enter Try.func17, Try.ntmps17
  go_upto_region 3 with (first | (go_at_call 22; refine (New_calls _).mono ?_; rintro e w2 ⟨gr, gm, rfl, hR⟩; have HR2 := Aside0.mk hR; clear hR) | ((with_reducible refine gate_dst (N := 14) rfl ?_); refine Kd.R_lit KD (w0 := w2) w2.heap.size TD ?hg (N := 14) ?hd (xs := ([] : List Re)) (inner := []) (ok := fun _ => True) (okp := fun _ => True) ?hr ?hp (fun _ hk => hk) trivial (Below.refl _ _) (Nat.le_refl _) (by simp) ?_; (case hd => rfl); (case hg => rfl); (case hr => first | (go_simp; done) | (go_simp; rfl)); (case hp => exact (Reps.none _ _)); intro v360 w18 ho19 hb hg_ hnew_; clear hg_ hnew_) | ((with_reducible refine gate_builtin (b := .append) (xs := #[.tmp 14, .tmp 15]) rfl ?_); at_builtin; refine appD_more (w0 := w2) w2.heap.size rfl (.tmp 14) (.tmp 15) rfl R A0 R.length c0 ho19 (Kd.C_below (Kd.C_below HR.out HR2.out.below) hb) (by simp) (by have := HN.out; omega) rfl rfl hb hb.size ?_; intro v1 w3 ho2 hb2 hg2 hat2; have HO := Aside0.mk ho2; have HB := Aside0.mk hb2; clear ho2 hb2 hg2 hat2 ho19 hb))
  have HFL : Aside0 (Fl w gr gm R 0 v1 w3) := ⟨⟨[], [], _, [], R, HR2.out.step HB.out, ownD_low (by have := HO.out; rwa [List.nil_append] at this) HR2.out.below.size, Fill.start, rfl⟩⟩
  clear HO HB HR2 HR
  generalize w3 = wa at *
  go_wp2_with fail
  go_loopw [6, 7] (fun ql qn wr => ∃ (k : Nat) (vl : Value), k ≤ R.length ∧ qn = .int .i64 k ∧ vl = ql ∧ Aside0 (Fl w gr gm R k vl wr)) (fun _ n _ => R.length + 1 - (intOf n).toNat)
  case atStart => exact ⟨0, _, by omega, rfl, rfl, HFL⟩
  case round =>
    clear HFL
    obtain ⟨k, vl, hk, rfl, rfl, HW⟩ := hrel
    obtain ⟨L, M, v, D, Lf, hRw, hO, hF, hD⟩ := HW.out.ex
    obtain ⟨A6, c6, rfl⟩ := Kd.R_slice hO
    have hlen := hF.len
    cases Lf with
    | nil =>
      have HRT : Aside0 (Rw w gr gm ((tellF R).map toC) M v wr) := ⟨by rw [← hF.done HAL.out.1]; exact hRw⟩
      clear hRw hO hF HW hlen hD
      simp only [List.length_nil]
      go_wp2_with fail
      go_ret
      exact ⟨gr, gm, M, v, rfl, HRT.out⟩
    | cons c Lt =>
      obtain ⟨m, hm⟩ : ∃ m, Lt.length = m := ⟨_, rfl⟩
      obtain ⟨Lf, hLf⟩ : ∃ Lf, c :: Lt = Lf := ⟨_, rfl⟩
      have hl1 : Lf.length = m + 1 := by rw [← hLf, List.length_cons, hm]
      rw [hLf] at hO hF hlen ⊢
      rw [hl1] at hlen hO ⊢
      have HO := Aside0.mk hO
      have HF := Aside0.mk (And.intro hF hD)
      have HL1 := Aside0.mk hl1
      have HRW := Aside0.mk hRw
      have hm1 : m + 1 ≤ 1000 := by omega
      have hkR : (k : Int) ≤ (R.length : Int) := by omega
      have hk2 : k < R.length := by omega
      clear hRw hO hF HW hlen hD hLf hm hl1
      go_upto_if 31 with fail
      go_cut [8] from 28 to 40 (fun s8 wy => (∃ q : Nat, q ≤ m ∧ s8 = .int .i64 q) ∧ wy = wr)
      case first =>
        by_cases hkt : k < ts.length
        · obtain ⟨ad1, x, hA1, hxe, hcx⟩ : ∃ ad x, A1 = some ad ∧ ts[k]? = some x ∧ w.cell? (ad.add k) = some (.int .u8 x) := by
            obtain ⟨ad, cs, e, _, hK, hc⟩ := Kd.C_get HR1.out (0 : Int) (k : Int) (by omega) (by omega)
            rw [Int.toNat_natCast] at hK hc
            refine ⟨ad, ts[k], e, List.getElem?_eq_getElem hkt, ?_⟩
            have h1 : ts.getD k 0 = ts[k] := by simp [List.getD_eq_getElem?_getD, hkt]
            rw [h1] at hK
            have hK : cs = [.int .u8 ts[k]] := hK
            have := hc 0 (.int .u8 ts[k]) (by rw [hK]; rfl)
            simp at this
            rwa [show (Kd.int IntKind.u8).sz = 1 from rfl, Nat.mul_one] at this
          subst hA1
          have hx := HTS.out x (List.mem_of_getElem? hxe)
          have kx : wr.cell? (ad1.add k) = some (.int .u8 x) := pw_cell_below HRW.out.below hcx
          have hrem := rem_nat x m hx
          have hq : x.toNat % (m + 1) ≤ m := by have := Nat.mod_lt x.toNat (show 0 < m + 1 by omega); omega
          have t1 : ((k : Int) < (ts.length : Int)) = True := eq_true (by omega)
          have t2 : decide ((k : Int) < (ts.length : Int)) = true := decide_eq_true (by omega)
          generalize x.toNat % (m + 1) = q at hrem hq
          clear hcx hxe hx
          go_wp2_with fail
          go_meet
          exact ⟨⟨q, hq, rfl⟩, rfl⟩
        · have t1 : ((k : Int) < (ts.length : Int)) = False := eq_false (by omega)
          have t2 : decide ((k : Int) < (ts.length : Int)) = false := decide_eq_false (by omega)
          go_wp2_with fail
          go_meet
          exact ⟨⟨0, by omega, rfl⟩, rfl⟩
      case rest =>
        obtain ⟨⟨q, hq, rfl⟩, rfl⟩ := hcut
        have HFI : Aside0 (Fi w gr gm L Lf (.slice A6 (m + 1) c6) q 0 wc) := ⟨⟨⟨M, v, HRW.out⟩, HO.out, fun i' hi' => absurd hi' (by omega)⟩⟩
        clear HRW HO
        go_wp2_with fail
        go_loopw [6, 9] (fun ql qi wr => ∃ i : Nat, i ≤ m + 1 ∧ qi = .int .i64 i ∧ ql = .slice A6 (m + 1) c6 ∧ Aside0 (Fi w gr gm L Lf (.slice A6 (m + 1) c6) q i wr)) (fun _ i _ => m + 1 - (intOf i).toNat)
        case atStart => exact ⟨0, by omega, rfl, rfl, HFI⟩
        case round =>
          clear HFI
          obtain ⟨i, hi, rfl, rfl, HI⟩ := hrel
          by_cases hlt : i < m + 1
          · obtain ⟨j, hj⟩ : ∃ j, (q + i) % (m + 1) = j := ⟨_, rfl⟩
            have hrem2 : ((q : Int) + (i : Int)) % ((m : Int) + 1) = (j : Int) := by rw [← hj]; exact (Int.natCast_emod (q + i) (m + 1)).symm
            have hqi : (q : Int) + (i : Int) < 10000 := by omega
            have hjm : j < m + 1 := by rw [← hj]; exact Nat.mod_lt _ (Nat.succ_pos m)
            have HJ0 := Aside0.mk hj
            obtain ⟨c, hc⟩ : ∃ c, Lf[j]? = some c := ⟨_, List.getElem?_eq_getElem (by rw [HL1.out]; exact hjm)⟩
            have HC := Aside0.mk hc
            have hok := HI.out.own.okr c (List.mem_of_getElem? hc)
            obtain ⟨g6, cap, cur, he, hg, ht⟩ : ∃ gk cap cur, (.slice A6 (m + 1) c6 : Value) = .slice (some ⟨gk, 0, none⟩) (m + 1) cap ∧ wr.heap[gk]? = some (.cells cur TD (0, 0)) ∧ cur.toList.take (Lf.length * 68) = fr Lf := by
              rcases ownD_form HI.out.own with ⟨_, hn⟩ | ⟨gk, cap, cur, hv, _, h2, _, _, _, h3⟩
              · rw [hn] at hc; simp at hc
              · rw [HL1.out] at hv; exact ⟨gk, cap, cur, hv, h2, h3⟩
            obtain ⟨rfl, rfl⟩ : A6 = some ⟨g6, 0, none⟩ ∧ c6 = cap := by injection he with h1 _ h3; exact ⟨h1, h3⟩
            have HG := Aside0.mk hg
            have HCA : Aside0 (∀ jj v, (re c)[jj]? = some v → cur[j * 68 + jj]? = some v) := ⟨fun jj v hv => curD_at HI.out.own.okr ht hc jj v hv⟩
            have HSR : Aside0 ((Try.prog.info? TD).map (·.size) = some (re c).length) := ⟨by rw [re_len hok]; exact size_re⟩
            have HRs : Aside0 ((re c).toArray.size = 68) := ⟨by rw [List.size_toArray, re_len hok]⟩
            have HR1a : Aside0 ((re c).toArray.all (·.oneCell') = true) := ⟨re_all c⟩
            have hsD := size_re
            have t8 : decide ((i : Int) < ((m : Int) + 1)) = true := decide_eq_true (by omega)
            have t9 : ((i : Int) < ((m : Int) + 1)) = True := eq_true (by omega)
            have t10 : ((j : Int) < ((m : Int) + 1)) = True := eq_true (by omega)
            obtain ⟨RC, hRC⟩ : ∃ RC, re c = RC := ⟨_, rfl⟩
            rw [hRC] at HCA HSR HRs HR1a
            have HRC := Aside0.mk hRC
            have HOK := Aside0.mk hok
            clear hc hok hg ht he hRC hj
            go_upto_region 13 with fail
            rw [hrem2]
            clear hrem2 hqi
            go_upto_region 14 with (first | ((with_reducible refine gate_ (Op.load TD (.tmp 54)) rfl ?_); refine wpList_load_at rfl TD (.tmp 54) rfl g6 (j * 68) rfl TD cur HG.out RC HCA.out _ huD rfl HSR.out ?_) | ((with_reducible refine gate_ (Op.alloc TD) rfl ?_); refine wpList_alloc_as rfl TD rfl Z HZ.out ?_) | ((with_reducible refine gate_ (Op.store TD (.tmp 11) (.tmp 55)) rfl ?_); refine wpList_store_at rfl TD (.tmp 11) (.tmp 55) rfl wr.heap.size 0 RC.toArray rfl rfl TD Z (blk_new wr _) (by rw [HRs.out, HZs.out]; decide) (by rw [List.size_toArray]; exact HSR.out) HR1a.out ?_; rw [splice_all _ _ (by rw [Array.length_toList, Array.length_toList, HRs.out, HZs.out]), Array.toArray_toList]))
            obtain ⟨⟨M, v, hRw⟩, hOw, hno⟩ := HI.out
            have hcR := HF.out.1.sub c (List.mem_of_getElem? HC.out)
            have hoi := HAL.out.1.ok c hcR
            have hoa := after_ok HAL.out.1 c hcR
            have hLl : L.length < 99999 := by have := HF.out.1.lenL; have := HN.out; omega
            have HIN := Aside0.mk (fun M v W (hW : Rw w gr gm L M v W) => Insert2_calls (ch := c.ch) hW hLl hoa hoi)
            have HOX := Aside0.mk (fun W => own_calls W c.id hoi.2.1)
            have HOY := Aside0.mk (fun W => own_calls W c.after hoa.2.1)
            have hb : Below wr.heap.size wr ((wr.alloc (.cells Z TD)).setRow wr.heap.size RC.toArray) := below_setRow (below_alloc (Below.refl _ _) _) (Nat.le_refl _) _
            have HJ : Aside0 (Fj w gr gm L M v Lf (.slice (some ⟨g6, 0, none⟩) (m + 1) c6) wr.heap.size c ((wr.alloc (.cells Z TD)).setRow wr.heap.size RC.toArray)) := ⟨⟨hRw.step hb, ownD_below hOw hb, by rw [HRC.out]; exact blk_row (blk_new wr _) _⟩⟩
            have HNO := Aside0.mk hno
            have HSJ : Aside0 (∀ W, Fj w gr gm L M v Lf (.slice (some ⟨g6, 0, none⟩) (m + 1) c6) wr.heap.size c W → SFj w gr gm L M v Lf (.slice (some ⟨g6, 0, none⟩) (m + 1) c6) wr.heap.size c (iv c.id) (iv c.after) W) := ⟨fun W h => sfj_of HOK.out h⟩
            have HSX : Aside0 ((Try.prog.info? TF).map (·.size) = some (iv c.id).length) := ⟨by rw [iv_len HOK.out.1]; exact size_ref⟩
            have HSY : Aside0 ((Try.prog.info? TF).map (·.size) = some (iv c.after).length) := ⟨by rw [iv_len HOK.out.2]; exact size_ref⟩
            clear hRw hOw hno hcR hoi hoa hLl hb HI HG HCA HSR HRs HR1a HRC
            generalize (wr.alloc (.cells Z TD)).setRow wr.heap.size RC.toArray = wj at *
            generalize wr.heap.size = gc at *
            generalize iv c.id = X at *
            generalize iv c.after = Y at *
            -- [r14
            refine start_ (n := 11) (S := SFj w gr gm L M v Lf (.slice (some ⟨g6, 0, none⟩) (m + 1) c6) gc c X Y) (ds := [9]) #[false, false, false, false, false, false, false, false, false, false, false] (by kernel_rfl) rfl rfl (HSJ.out _ (HJ.out.step (pw_below_drewN (Below.refl _ _) 1))) (fun hHeld => ?_)
            generalize wj.drew = wd at hHeld ⊢
            clear HJ
            refine pure_ (i := 0) (N := some 56) (v := ?_) (a' := ?_) #[true, false, false, false, false, false, false, false, false, false, false] rfl rfl (by kernel_rfl) (fun _ _ _ h => h) (Or.inl ⟨by rfl, ?_⟩) ?_ ?_
            rotate_left
            · intro w'
              go_simp
              with_reducible rfl
            rotate_left
            · simp only [Act.put, List.setIfInBounds_toArray, List.set_cons_zero, List.set_cons_succ, i64_w, i32_w]
              rfl
            refine pure_ (i := 1) (N := some 57) (v := ?_) (a' := ?_) #[true, true, false, false, false, false, false, false, false, false, false] rfl rfl (by kernel_rfl) (fun _ _ _ h => h) (Or.inl ⟨by rfl, ?_⟩) ?_ ?_
            rotate_left
            · intro w'
              go_simp
              with_reducible rfl
            rotate_left
            · simp only [Act.put, List.setIfInBounds_toArray, List.set_cons_zero, List.set_cons_succ, i64_w, i32_w]
              rfl
            refine take_ (i := 2) (N := some 58) (v := .agg Y.toArray) (a' := ?_) #[true, true, true, false, false, false, false, false, false, false, false] rfl rfl (by kernel_rfl) (fun _ _ _ h => h) (yieldsIf_load_mid (by rfl) TF (.tmp 57) rfl gc 33 rfl Y _ (fun w' hS => hS.2.1) huF rfl HSY.out) hHeld ?_ ?_
            rotate_left
            · simp only [Act.put, List.setIfInBounds_toArray, List.set_cons_zero, List.set_cons_succ, i64_w, i32_w]
              rfl
            refine pure_ (i := 4) (N := some 60) (v := ?_) (a' := ?_) #[true, true, true, false, true, false, false, false, false, false, false] rfl rfl (by kernel_rfl) (fun _ _ _ h => h) (Or.inl ⟨by rfl, ?_⟩) ?_ ?_
            rotate_left
            · intro w'
              go_simp
              with_reducible rfl
            rotate_left
            · simp only [Act.put, List.setIfInBounds_toArray, List.set_cons_zero, List.set_cons_succ, i64_w, i32_w]
              rfl
            refine take_ (i := 5) (N := some 61) (v := .agg X.toArray) (a' := ?_) #[true, true, true, false, true, true, false, false, false, false, false] rfl rfl (by kernel_rfl) (fun _ _ _ h => h) (yieldsIf_load_mid (by rfl) TF (.tmp 60) rfl gc 0 rfl X _ (fun w' hS => hS.1) huF rfl HSX.out) hHeld ?_ ?_
            rotate_left
            · simp only [Act.put, List.setIfInBounds_toArray, List.set_cons_zero, List.set_cons_succ, i64_w, i32_w]
              rfl
            refine pure_ (i := 7) (N := some 63) (v := ?_) (a' := ?_) #[true, true, true, false, true, true, false, true, false, false, false] rfl rfl (by kernel_rfl) (fun _ _ _ h => h) (Or.inl ⟨by rfl, ?_⟩) ?_ ?_
            rotate_left
            · intro w'
              go_simp
              with_reducible rfl
            rotate_left
            · simp only [Act.put, List.setIfInBounds_toArray, List.set_cons_zero, List.set_cons_succ, i64_w, i32_w]
              rfl
            refine take_ (i := 8) (N := some 64) (v := ?_) (a' := ?_) #[true, true, true, false, true, true, false, true, true, false, false] rfl rfl (by kernel_rfl) (fun _ _ _ h => h) (Or.inl ⟨by rfl, ?_⟩) hHeld ?_ ?_
            rotate_left
            · rintro w' ⟨_, _, s3, _⟩
              go_simp
              with_reducible rfl
            rotate_left
            · simp only [Act.put, List.setIfInBounds_toArray, List.set_cons_zero, List.set_cons_succ, i64_w, i32_w]
              rfl
            refine one_ (i := 3) (N := some 59) #[true, true, true, true, true, true, false, true, true, false, false] rfl rfl (by kernel_rfl) (by decide) (fun K hK => ?_)
            refine goes_ Try.func12 (by kernel_rfl) rfl #[.agg Y.toArray] (by rfl) rfl rfl (by first | rfl | (simp only [List.map_toArray, List.map_cons, List.map_nil]; done) | (simp only [List.map_toArray, List.map_cons, List.map_nil]; rfl)) ?_
            refine (HOY.out _).mono ?_
            rintro e w4 ⟨rfl, hb⟩
            refine ⟨_, rfl, ?_⟩
            have hS2 := HSJ.out _ (hHeld.2.2.2.out.step hb)
            clear hb hHeld
            refine hK.out _ _ hS2 (fun hHeld => ?_)
            clear hK K hS2
            refine norm_ (a' := ?_) ?_ ?_
            rotate_left
            · show Act.put _ (some 59) _ = _
              simp only [Act.put, List.setIfInBounds_toArray, List.set_cons_zero, List.set_cons_succ, i64_w, i32_w]
              rfl
            refine one_ (i := 6) (N := some 62) #[true, true, true, true, true, true, true, true, true, false, false] rfl rfl (by kernel_rfl) (by decide) (fun K hK => ?_)
            refine goes_ Try.func12 (by kernel_rfl) rfl #[.agg X.toArray] (by rfl) rfl rfl (by first | rfl | (simp only [List.map_toArray, List.map_cons, List.map_nil]; done) | (simp only [List.map_toArray, List.map_cons, List.map_nil]; rfl)) ?_
            refine (HOX.out _).mono ?_
            rintro e w4 ⟨rfl, hb⟩
            refine ⟨_, rfl, ?_⟩
            have hS2 := HSJ.out _ (hHeld.2.2.2.out.step hb)
            clear hb hHeld
            refine hK.out _ _ hS2 (fun hHeld => ?_)
            clear hK K hS2
            refine norm_ (a' := ?_) ?_ ?_
            rotate_left
            · show Act.put _ (some 62) _ = _
              simp only [Act.put, List.setIfInBounds_toArray, List.set_cons_zero, List.set_cons_succ, i64_w, i32_w]
              rfl
            refine last_ (i := 9) (N := some 65) #[true, true, true, true, true, true, true, true, true, true, false] rfl rfl (by kernel_rfl) (by decide) (fun K hK => ?_)
            refine goes_ Try.func20 (by kernel_rfl) rfl #[.pointer (some ⟨gr, 0, none⟩), .agg Y.toArray, .agg X.toArray, .int .u8 c.ch] (by rfl) rfl rfl (by first | rfl | (simp only [List.map_toArray, List.map_cons, List.map_nil]; done) | (simp only [List.map_toArray, List.map_cons, List.map_nil]; rfl)) ?_
            refine (HIN.out _ _ _ hHeld.2.2.2.out.rw).mono ?_
            rintro e w5 ⟨cc, L1, M1, v1, rfl, hR, hk, ho, hor⟩
            refine ⟨_, rfl, ?_⟩
            have HR5 := Aside0.mk hR
            have HO5 := Aside0.mk (ownD_kept hHeld.2.2.2.out.own hk (fun k h2 => (own_ty hHeld.2.2.2.out.rw h2).1))
            have HOC := Aside0.mk (oins_cases (c := c) ⟨rfl, rfl⟩ hor)
            clear hk hR ho hor hHeld
            refine hK.out _ _ ?_
            clear hK K
            refine norm_ (a' := ?_) ?_ ?_
            rotate_left
            · show Act.put _ (some 65) _ = _
              simp only [Act.put, List.setIfInBounds_toArray, List.set_cons_zero, List.set_cons_succ, i64_w, i32_w]
              rfl
            refine pure_ (i := 10) (N := some 66) (v := ?_) (a' := ?_) #[true, true, true, true, true, true, true, true, true, true, true] rfl rfl (by kernel_rfl) (fun _ _ _ h => h) (Or.inl ⟨by rfl, ?_⟩) ?_ ?_
            rotate_left
            · intro w'
              go_simp
              with_reducible rfl
            rotate_left
            · simp only [Act.put, List.setIfInBounds_toArray, List.set_cons_zero, List.set_cons_succ, i64_w, i32_w]
              rfl
            refine done_ (by kernel_rfl) ?_
            -- r14]
            have hmc : m + 1 ≤ c6 := (Kd.R_reads' HO5.out).2.1
            rcases HOC.out with ⟨rfl, hcan, jj, hst, rfl⟩ | ⟨hne, rfl, hncan⟩
            · have HFN := Aside0.mk (HF.out.1.put HAL.out.1 HAL.out.2 HC.out hcan hst)
              have HDN : Aside0 ((D ++ [c]).length = k + 1) := ⟨by rw [List.length_append, HF.out.2]; rfl⟩
              have hslto := fun W => sliceD_to (A := some ⟨g6, 0, none⟩) (m := m + 1) (c := c6) (k := j) (by omega) W
              have hslfr := fun W => sliceD_from (A := some ⟨g6, 0, none⟩) (m := m + 1) (c := c6) (k := j + 1) (by omega) (fun e => by cases e) hmc W
              have e1 : m + 1 - (j + 1) = m - j := by omega
              rw [show ((j + 1 : Nat) : Int) = (j : Int) + 1 by omega] at hslfr
              simp only [e1] at hslfr
              have hCt := Kd.C_take (Kd.R_reads' HO5.out).2.2 (show j ≤ Lf.length by rw [HL1.out]; omega)
              rw [show (Lf.take j).length = j by rw [List.length_take, HL1.out]; omega] at hCt
              have hCd := Kd.C_drop (Kd.R_reads' HO5.out).2.2 (show j + 1 ≤ Lf.length by rw [HL1.out]; omega) (by rw [HL1.out]; exact hmc)
              rw [show (Lf.drop (j + 1)).length = m - j by rw [List.length_drop, HL1.out]; omega] at hCd
              have HCT := Aside0.mk hCt
              have HCD := Aside0.mk hCd
              have HLT : Aside0 ((Lf.take j).length < 200000 ∧ j < 200000 ∧ m - j < 200000) := ⟨by rw [List.length_take]; omega⟩
              generalize (if c6 = j + 1 then (some ⟨g6, 0, none⟩ : Option Addr) else (some (⟨g6, 0, none⟩ : Addr)).map (·.add ((j + 1) * KD.sz))) = Ad at hslfr HCD
              clear hCt hCd hst hcan HNO HOC HIN HSJ HOX HOY HSX HSY
              go_upto_region 17 with ((with_reducible refine gate_builtin (b := .append) (xs := #[.tmp 67, .tmp 70]) rfl ?_); at_builtin; refine appD_more (w0 := w5) w5.heap.size rfl (.tmp 67) (.tmp 70) rfl (Lf.take j) (some ⟨g6, 0, none⟩) j c6 (Kd.R_nil _ _ _ _ _ : OwnD w5 w5.heap.size (.slice none 0 0) []) HCT.out (by simp) HLT.out.2.1 rfl rfl (Below.refl _ _) (Nat.le_refl _) ?_; intro v3 w6 ho hb _ _; have HO6 := Aside0.mk ho; have HB6 := Aside0.mk hb; clear ho hb)
              rw [List.nil_append] at HO6
              generalize Lf.take j = KT at HO6 HLT HFN HCT
              clear e1 hslto HCT
              obtain ⟨A3, c3, rfl⟩ := Kd.R_slice HO6.out
              go_wp2_with ((with_reducible refine gate_builtin (b := .append) (xs := #[.tmp 72, .tmp 76]) rfl ?_); at_builtin; refine appD_more (w0 := w5) w5.heap.size rfl (.tmp 72) (.tmp 76) rfl (Lf.drop (j + 1)) Ad (m - j) (c6 - (j + 1)) HO6.out (Kd.C_below HCD.out HB6.out) HLT.out.1 HLT.out.2.2 rfl rfl HB6.out HB6.out.size ?_; intro v4 w7 ho hb _ _; have HO7 := Aside0.mk ho; have HB7 := Aside0.mk hb; clear ho hb)
              go_roundw
              case rel => exact ⟨k + 1, _, by omega, by go_num, rfl, ⟨⟨_, M1, v1, D ++ [c], _, HR5.out.step HB7.out, ownD_low HO7.out HR5.out.below.size, HFN.out, HDN.out⟩⟩⟩
              case measure => simp [intOf]; omega
            · have t1 : (cc == 0) = false := beq_eq_false_iff_ne.2 hne
              have t2 : decide (cc = 0) = false := decide_eq_false hne
              have HFI2 : Aside0 (Fi w gr gm L1 Lf (.slice (some ⟨g6, 0, none⟩) (m + 1) c6) q (i + 1) w5) := ⟨⟨⟨M1, _, HR5.out⟩, HO5.out, fun i' hi' c' hc' => by
                by_cases e : i' < i
                · exact HNO.out i' e c' hc'
                · obtain rfl : i' = i := by omega
                  rw [HL1.out, HJ0.out, HC.out] at hc'
                  obtain rfl : c = c' := by simpa using hc'
                  exact hncan⟩⟩
              clear hne hncan HOC HNO HIN HSJ HOX HOY HSX HSY
              go_wp2_with fail
              go_roundw
              case rel => exact ⟨i + 1, by omega, by go_num, rfl, HFI2⟩
              case measure => simp [intOf]; omega
          · exfalso
            obtain ⟨c, hc, hcan⟩ := Fill.some HAL.out.1 HF.out.1 (fun e => by have := HL1.out; rw [e] at this; simp at this)
            obtain ⟨jj, hjj, e⟩ := List.getElem_of_mem hc
            obtain ⟨i', hi', e2⟩ := all_tried (n := Lf.length) (q := q) (by have := HL1.out; omega) hjj
            exact HI.out.no i' (by have := HL1.out; omega) c (by rw [e2, List.getElem?_eq_getElem hjj, e]) hcan
end Go.Proofs.Ytkcdlilglgfkaaa.Rg
