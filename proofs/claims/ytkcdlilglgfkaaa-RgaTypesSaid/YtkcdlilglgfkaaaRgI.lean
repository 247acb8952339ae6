/- Rows of cells: Insert. -/
import Derived.Test.YtkcdlilglgfkaaaRgM
import Derived.BigQuiet
import Derived.Deep.CutBlock
set_option linter.unusedVariables false
set_option linter.unusedSimpArgs false
namespace Go.Proofs.Ytkcdlilglgfkaaa.Rg
open Go Go.RowKit Go.Proofs.YtkcdlilglgfkaaaW.PrintWords Go.Proofs.YtkcdlilglgfkaaaW.PrintLast Go.Proofs.YtkcdlilglgfkaaaW.PrintMore Go.Proofs.Ytkcdlilglgfkaaa.PA Go.Proofs.Ytkcdlilglgfkaaa.Ar Go.Proofs.Ytkcdlilglgfkaaa.Sha
/-- From a place on past those that the id is behind. -/
def adv (L : List Ce) (i : Idt) (k : Nat) : Nat := k + ((L.drop k).takeWhile fun c => lessI i c.id).length
def insAt (L : List Ce) (k : Nat) (x : Ce) : List Ce := L.take k ++ [x] ++ L.drop k
theorem adv_step {L : List Ce} {i : Idt} {k : Nat} {x : Ce} (hx : L[k]? = some x) : (lessI i x.id = true → adv L i (k + 1) = adv L i k) ∧ (lessI i x.id = false → adv L i k = k) := by
  have hlt := (List.getElem?_eq_some_iff.1 hx).1
  have hd : L.drop k = x :: L.drop (k + 1) := by
    rw [List.drop_eq_getElem_cons hlt]
    rw [(List.getElem?_eq_some_iff.1 hx).2]
  refine ⟨fun h => ?_, fun h => ?_⟩
  · unfold adv
    rw [hd, List.takeWhile_cons, if_pos h, List.length_cons]
    omega
  · unfold adv
    rw [hd, List.takeWhile_cons, if_neg (by rw [h]; decide)]
    rfl
theorem adv_end {L : List Ce} {i : Idt} : adv L i L.length = L.length := by
  unfold adv
  rw [List.drop_of_length_le (Nat.le_refl _)]
  rfl
/-- Behind which one, and where that ends. -/
def start (L : List Ce) (a : Idt) (j : Nat) : Prop := (a = z0 ∧ j = 0) ∨ (a ≠ z0 ∧ ∃ (k : Nat) (x : Ce), j = k + 1 ∧ L[k]? = some x ∧ x.id = a)
theorem loadVar_row {P : Program} (w : World) (g : Nat) (ty T : TypeId) (C : Array Value) (d : TypeDesc) (hg : w.heap[g]? = some (.cells C T (0, 0))) (hu : P.underlying ty = some d) (hd : d.isRow = true) (hi : (P.info? ty).map (·.size) = some C.size) :
    (loadVar ty ⟨g, 0, none⟩).run P w = .ok (.agg C) w := by
  have h := run_loadVar_mid (P := P) w g 0 ty C.toList d (fun j v hv => by rw [Nat.zero_add, blk_cell hg]; simpa using hv) hu hd (by rw [hi, Array.length_toList])
  rwa [Array.toArray_toList] at h
/-- A whole record, loaded in a region that draws its order and only reads. -/
theorem quiet_load {P : Program} {ops : Array Oper} {Cl : World → Prop} {Q : Act → Prop} {rest : List Oper} {o : Oper} {a : Act} (ty : TypeId) (x : Operand) (ho : o.op = .load ty x) (hw : Region.wanted o (yielded ops a.tmps) = true)
    (g : Nat) (hx : a.eval x = .pointer (some ⟨g, 0, none⟩)) (cs : Array Value) (hr : ∀ w, Cl w → (loadVar ty ⟨g, 0, none⟩).run P w = .ok (.agg cs) w) (h : wpQuiet P ops Cl Q rest (a.put o.dst (.agg cs))) : wpQuiet P ops Cl Q (o :: rest) a :=
  BigFrame.wpQuiet_want hw fun K hK => ⟨.agg cs, fun w hc => by
    unfold Oper.quietAt execOp
    simp only [ho, hx, Instr.loadAt, Instr.sureAddr, Sem.run_bind, Sem.run_pure, Result.andThen_ok, hr w hc]
    exact ⟨rfl, rfl⟩, hK _ h⟩
theorem loadAt_row {P : Program} (w : World) (g : Nat) (ty T : TypeId) (C : Array Value) (d : TypeDesc) (hg : w.heap[g]? = some (.cells C T (0, 0))) (hu : P.underlying ty = some d) (hd : d.isRow = true) (hi : (P.info? ty).map (·.size) = some C.size) :
    (Instr.loadAt ty (.pointer (some ⟨g, 0, none⟩))).run P w = .ok (.agg C) w := by
  have h := run_loadAt_mid (P := P) w g 0 ty C.toList d (fun j v hv => by rw [Nat.zero_add, blk_cell hg]; simpa using hv) hu hd (by rw [hi, Array.length_toList])
  rwa [Array.toArray_toList] at h
section
variable {w0 w w1 : World} {gr gm : Nat} {L : List Ce} {M : List Idt} {v : Value} {a i : Idt} {ch : Int}
/-- What an Insert leaves. -/
def InsPost (w0 w : World) (gr gm : Nat) (L : List Ce) (M : List Idt) (v : Value) (a i : Idt) (ch : Int) (e : Ending) (w' : World) : Prop :=
  ∃ c : Int, e = .returned (.int .i64 c) ∧
    ((((c = 2 ∧ (i.1 < 1 ∨ i.1 ≤ a.1)) ∨ (c = 23 ∧ ¬ (i.1 < 1 ∨ i.1 ≤ a.1) ∧ i ∈ M) ∨ (c = 22 ∧ ¬ (i.1 < 1 ∨ i.1 ≤ a.1) ∧ i ∉ M ∧ a ≠ z0 ∧ a ∉ M)) ∧ Below w.heap.size w w') ∨
      (c = 0 ∧ ¬ (i.1 < 1 ∨ i.1 ≤ a.1) ∧ i ∉ M ∧ (a = z0 ∨ a ∈ M) ∧ ∃ j v', start L a j ∧ Rw w0 gr gm (insAt L (adv L i j) ⟨i, ch, false⟩) (M ++ [i]) v' w' ∧ Kept w w' (fun k => k = gr ∨ k = gm ∨ v.ownBlock = some k) ∧ (v'.ownBlock = v.ownBlock ∨ ∃ b, v'.ownBlock = some b ∧ w.heap.size ≤ b)))
/-- The boxes of the call. -/
structure Ix (w : World) (g : Nat) (a i : Idt) (W : World) : Prop where
  below : Below w.heap.size w W
  ba : W.heap[g]? = some (.cells (iv a).toArray TI (0, 0))
  bi : W.heap[g + 1]? = some (.cells (iv i).toArray TI (0, 0))
def SI (w w0 : World) (gr gm : Nat) (L : List Ce) (M : List Idt) (v : Value) (a i : Idt) (g : Nat) (D : List Value) (gc o : Nat) (F : List Value) (W : World) : Prop :=
  W.cell? ⟨gr, 0, none⟩ = some v ∧ W.rangeAt (g + 1) 0 D ∧ W.rangeAt gc o F ∧ Aside0 (Ix w g a i W ∧ Rw w0 gr gm L M v W)
def SO (w w0 : World) (gr gm : Nat) (L : List Ce) (M : List Idt) (v : Value) (a i : Idt) (g : Nat) (W : World) : Prop :=
  W.cell? ⟨gr, 0, none⟩ = some v ∧ Aside0 (Ix w g a i W ∧ Rw w0 gr gm L M v W)
theorem so_of {g : Nat} {W : World} (h1 : Ix w g a i W) (h2 : Rw w0 gr gm L M v W) : SO w w0 gr gm L M v a i g W := ⟨(blk_cell h2.pb 0).trans rfl, ⟨h1, h2⟩⟩
theorem rw_range {W : World} (h : Rw w0 gr gm L M v W) {k : Nat} {x : Ce} (hk : L[k]? = some x) : ∃ gc cap, v = .slice (some ⟨gc, 0, none⟩) L.length cap ∧ W.rangeAt gc (k * 35) (ce x) := by
  rcases own_form h.row with ⟨rfl, rfl⟩ | ⟨gc, cap, cur, rfl, _, hg, _, _, _, ht⟩
  · simp at hk
  · exact ⟨gc, cap, rfl, fun j u hu => (blk_cell hg _).trans (cur_at h.okc ht hk j u hu)⟩
theorem si_of {g gc n cap k : Nat} {x : Ce} {W : World} (h1 : Ix w g a i W) (h2 : Rw w0 gr gm L M (.slice (some ⟨gc, 0, none⟩) n cap) W) (hk : L[k]? = some x) : SI w w0 gr gm L M (.slice (some ⟨gc, 0, none⟩) n cap) a i g (iv i) gc (k * 35) (iv x.id) W := by
  refine ⟨(blk_cell h2.pb 0).trans rfl, fun j u hu => ?_, ?_, ⟨h1, h2⟩⟩
  · rw [Nat.zero_add, blk_cell h1.bi]; simpa using hu
  · obtain ⟨gc', cap', e, hr⟩ := rw_range h2 hk
    injection e with e _ _
    injection e with e
    injection e with e
    subst e
    intro j u hu
    exact hr j u (by rw [ce, List.getElem?_append_left (List.getElem?_eq_some_iff.1 hu).1]; exact hu)
def SP (gr : Nat) (v : Value) (g : Nat) (D : List Value) (W : World) : Prop := W.cell? ⟨gr, 0, none⟩ = some v ∧ W.rangeAt (g + 1) 0 D
def SQ (gr gm : Nat) (g : Nat) (D : List Value) (W : World) : Prop := W.cell? ⟨gr, 1, none⟩ = some (.map (some gm)) ∧ W.rangeAt (g + 1) 0 D
theorem sp_of {g : Nat} {W : World} {m s : Value} (h1 : W.heap[g + 1]? = some (.cells (iv i).toArray TI (0, 0))) (h2 : W.heap[gr]? = some (.cells #[v, m, s] TR (0, 0))) : SP gr v g (iv i) W :=
  ⟨(blk_cell h2 0).trans rfl, fun j u hu => by rw [Nat.zero_add, blk_cell h1]; simpa using hu⟩
theorem sq_of {g : Nat} {W : World} {X : Nat → Prop} {v0 : Value} {sh : Int} (h : Mid w0 w gr gm g i X L M v v0 sh W) : SQ gr gm g (iv i) W :=
  ⟨(blk_cell h.pb 1).trans rfl, fun j u hu => by rw [Nat.zero_add, blk_cell h.bi]; simpa using hu⟩
theorem ins_calls2 {k : Nat} {CE : Array Value} {A : Option Addr} {cap : Nat} {W : World} (h : Rw w0 gr gm L M (.slice A L.length cap) W) {x : Ce} (hCE : (ce x).toArray = CE) (hx : okC x) (hk : k ≤ L.length) (hl : L.length < 100000) :
    Calls Try.prog 36 #[.slice A L.length cap, .int .i64 (k : Int), .slice (some ⟨W.heap.size, 0, none⟩) 1 1] (W.alloc (.cells CE TC)) fun e w' => ∃ v', e = .returned v' ∧ Own w' w0.heap.size v' (insAt L k x) ∧ (W.alloc (.cells CE TC)).grownBy w' (Value.slice A L.length cap).ownBlock ∧ (v'.ownBlock = (Value.slice A L.length cap).ownBlock ∨ ∃ b, v'.ownBlock = some b ∧ (W.alloc (.cells CE TC)).heap.size ≤ b) := by
  have hb := below_alloc (Below.refl W.heap.size W) (.cells CE TC)
  exact Ins_calls (Kd.R_below h.row hb) (Nat.le_trans h.below.size hb.size) hx (by rw [hCE]; exact blk_new W _) (fun e => absurd (own_block h.row _ e).2.1 (by omega)) hk hl
theorem mid_of {g : Nat} {W w2 : World} {o : Obj} {v' : Value} {L' : List Ce} (h1 : Ix w g a i W) (h : Rw w0 gr gm L M v W) (hO : Own w2 w0.heap.size v' L') (hG : (W.alloc o).grownBy w2 v.ownBlock) :
    Mid w0 w gr gm g i (fun k => k = gr ∨ k = gm ∨ v.ownBlock = some k) L' M v' v (shown L) w2 := by
  have hb := below_alloc (Below.refl W.heap.size W) o
  have hne : ∀ {k : Nat} {T : TypeId} {cs : Array Value}, W.heap[k]? = some (.cells cs T (0, 0)) → T ≠ TC → some k ≠ v.ownBlock := fun {k T cs} hk hT e => hT (Ty.ne ⟨_, hk⟩ (own_block h.row k e.symm).1)
  refine ⟨?_, blk_grown (blk_below h.pb hb) hG (hne h.pb (by decide)), hO, blk_grown (blk_below h.mb hb) hG (fun e => ?_), blk_grown (blk_below h1.bi hb) hG (hne h1.bi (by decide)), ?_, ⟨h.g0, Or.inl rfl, Or.inr (Or.inl rfl)⟩⟩
  · exact (h.below.trans (hb.mono h.below.size)).trans ⟨hG.os, hG.tape, hG.output, hG.size, fun k hk => hG.block k (Nat.lt_of_lt_of_le hk (Nat.le_trans h.below.size hb.size)) (fun e => by
      have := (own_block h.row k e.symm).2.2
      omega)⟩
  · obtain ⟨⟨cs, hc⟩, _⟩ := own_block h.row gm e.symm
    rw [h.mb] at hc
    cases hc
  · refine Kept.of_grown hG ((Kept.of_below h1.below _).below hb) (fun k hk => Or.inl (Or.inr (Or.inr hk)))
theorem shown_le (L : List Ce) : 0 ≤ shown L ∧ shown L ≤ L.length := by
  unfold shown
  have := List.length_filter_le (fun x : Ce => !x.gone) L
  omega
theorem wrap_shown (hl : L.length < 100000) : wrap64 (shown L + 1) = shown L + 1 := by
  have := shown_le L
  unfold wrap64
  omega
theorem shown_ins {k : Nat} {x : Ce} (hx : x.gone = false) : shown (insAt L k x) = shown L + 1 := by
  unfold shown insAt
  rw [List.filter_append, List.filter_append, List.length_append, List.length_append, List.filter_cons, if_pos (by rw [hx]; rfl), List.filter_nil]
  conv => rhs; rw [← List.take_append_drop k L, List.filter_append, List.length_append]
  simp
  omega
theorem rw_mid {g k : Nat} {W : World} {X : Nat → Prop} {v' : Value} (h : Mid w0 w gr gm g i X (insAt L k ⟨i, ch, false⟩) (M ++ [i]) v' v' (shown L + 1) W) (ho : Oks M) (hs : ∀ y, y ∈ M ↔ ∃ x ∈ L, x.id = y) (hi : okI i) : Rw w0 gr gm (insAt L k ⟨i, ch, false⟩) (M ++ [i]) v' W :=
  ⟨h.below, by rw [shown_ins rfl]; exact h.pb, h.row, h.mb, h.g0.1, fun x hx => by
    rcases List.mem_append.1 hx with hx | hx
    · exact ho x hx
    · rw [List.mem_singleton.1 hx]; exact hi, fun y => by
    have hm : ∀ z : Ce, z ∈ insAt L k ⟨i, ch, false⟩ ↔ z ∈ L ∨ z = ⟨i, ch, false⟩ := fun z => by
      unfold insAt
      conv => rhs; rw [← List.take_append_drop k L]
      simp only [List.mem_append, List.mem_singleton]
      constructor
      · rintro ((h | h) | h)
        · exact Or.inl (Or.inl h)
        · exact Or.inr h
        · exact Or.inl (Or.inr h)
      · rintro ((h | h) | h)
        · exact Or.inl (Or.inl h)
        · exact Or.inr h
        · exact Or.inl (Or.inr h)
    rw [List.mem_append, hs y]
    constructor
    · rintro (⟨x, hx, rfl⟩ | h)
      · exact ⟨x, (hm x).2 (Or.inl hx), rfl⟩
      · rw [List.mem_singleton.1 h]; exact ⟨_, (hm _).2 (Or.inr rfl), rfl⟩
    · rintro ⟨x, hx, rfl⟩
      rcases (hm x).1 hx with h | rfl
      · exact Or.inl ⟨x, h, rfl⟩
      · exact Or.inr (List.mem_singleton.2 rfl)⟩
theorem rw_form {W : World} (h : Rw w0 gr gm L M v W) : ∃ A cap, v = .slice A L.length cap := by
  rcases own_form h.row with ⟨rfl, rfl⟩ | ⟨gc, cap, cur, rfl, _⟩
  · exact ⟨_, _, rfl⟩
  · exact ⟨_, _, rfl⟩
theorem Ix.step {g : Nat} {W W1 : World} (h : Ix w g a i W) (hb : Below W.heap.size W W1) : Ix w g a i W1 := ⟨h.below.trans (hb.mono h.below.size), blk_below h.ba hb, blk_below h.bi hb⟩
set_option maxRecDepth 100000 in
set_option maxHeartbeats 4000000 in
theorem Insert_calls (h : Rw w0 gr gm L M v w) (hl : L.length < 99999) (ha : okI a) (hi : okI i) :
    Calls Try.prog 20 #[.pointer (some ⟨gr, 0, none⟩), .agg (iv a).toArray, .agg (iv i).toArray, .int .u8 ch] w fun e w' => InsPost w0 w gr gm L M v a i ch e w' := by
  have H := Aside0.mk h
  have HL := Aside0.mk hl
  have HA := Aside0.mk ha
  have HI := Aside0.mk hi
  have huI := Try.underlying28
  have HX : Aside0 (Ix w w.heap.size a i ((w.alloc (.cells (iv a).toArray TI)).alloc (.cells (iv i).toArray TI))) := ⟨⟨below_alloc (below_alloc (Below.refl _ _) _) _, blk_alloc (blk_new w _) _, new_at _ _ _ (by simp)⟩⟩
  have heq := fun W => run_eqId W a z0 ha.2.1 rfl
  have HAs : Aside0 ((iv a).toArray.size = 33) := ⟨by rw [List.size_toArray, iv_len ha.2.1]⟩
  have HIs : Aside0 ((iv i).toArray.size = 33) := ⟨by rw [List.size_toArray, iv_len hi.2.1]⟩
  have HA0 : Aside0 ((iv a).toArray[0]? = some (.int .i64 a.1)) := ⟨by simp [iv]⟩
  have HI0 : Aside0 ((iv i).toArray[0]? = some (.int .i64 i.1)) := ⟨by simp [iv]⟩
  obtain ⟨C, hC⟩ : ∃ C, (iv a).toArray = C := ⟨_, rfl⟩
  obtain ⟨D, hD⟩ : ∃ D, (iv i).toArray = D := ⟨_, rfl⟩
  have HC := Aside0.mk hC
  have HD := Aside0.mk hD
  rw [hC] at heq HAs HA0 ⊢
  rw [hD] at HIs HI0 ⊢
  rw [hC, hD] at HX
  have heqz : ∀ W, (Op.equalIn 10000 28 (.agg C) (.agg #[.int .i64 0, .int .u8 0, .int .u8 0, .int .u8 0, .int .u8 0, .int .u8 0, .int .u8 0, .int .u8 0, .int .u8 0, .int .u8 0, .int .u8 0, .int .u8 0, .int .u8 0, .int .u8 0, .int .u8 0, .int .u8 0, .int .u8 0, .int .u8 0, .int .u8 0, .int .u8 0, .int .u8 0, .int .u8 0, .int .u8 0, .int .u8 0, .int .u8 0, .int .u8 0, .int .u8 0, .int .u8 0, .int .u8 0, .int .u8 0, .int .u8 0, .int .u8 0, .int .u8 0])).run Try.prog W = .ok (decide (a = z0)) W := heq
  have hlt : gr < w.heap.size := blk_lt h.pb
  clear hC hD ha hi h hl heq
  go_enter Try.func20, Try.ntmps20
  go_upto_region 3 with fail
  obtain ⟨wa, hwa⟩ : ∃ W, (w.alloc (.cells C TI)).alloc (.cells D TI) = W := ⟨_, rfl⟩
  rw [hwa] at HX ⊢
  obtain ⟨g, hg⟩ : ∃ g, w.heap.size = g := ⟨_, rfl⟩
  rw [hg] at HX hlt ⊢
  have ba : wa.heap[g]? = some (.cells C TI (0, 0)) := by rw [← HC.out]; exact HX.out.ba
  have bi : wa.heap[g + 1]? = some (.cells D TI (0, 0)) := by rw [← HD.out]; exact HX.out.bi
  have BA := Aside0.mk ba
  have BI := Aside0.mk bi
  have ka : wa.cell? ⟨g, 0, none⟩ = some (.int .i64 a.1) := (blk_cell ba 0).trans HA0.out
  have ki : wa.cell? ⟨g + 1, 0, none⟩ = some (.int .i64 i.1) := (blk_cell bi 0).trans HI0.out
  have HG := Aside0.mk hg
  have hR1 := H.out.step HX.out.below
  have HR := Aside0.mk hR1
  have HLK : Aside0 (∀ W : World, W.heap[gm]? = some (.map (E 0 M).toArray M.length) → (Instr.lookup TM (.map (some gm)) (.agg D) false).run Try.prog W = .ok (.bool (decide (i ∈ M))) W) := ⟨fun W hm => by rw [← HD.out]; exact lookup_run hm HI.out hR1.oks⟩
  have HLA : Aside0 (∀ W : World, W.heap[gm]? = some (.map (E 0 M).toArray M.length) → (Instr.lookup TM (.map (some gm)) (.agg C) false).run Try.prog W = .ok (.bool (decide (a ∈ M))) W) := ⟨fun W hm => by rw [← HC.out]; exact lookup_run hm HA.out hR1.oks⟩
  have HSA : Aside0 ((Try.prog.info? TI).map (·.size) = some C.size) := ⟨by rw [HAs.out]; exact size_id⟩
  have HSI : Aside0 ((Try.prog.info? TI).map (·.size) = some D.size) := ⟨by rw [HIs.out]; exact size_id⟩
  have kp : wa.cell? ⟨gr, 1, none⟩ = some (.map (some gm)) := (blk_cell hR1.pb 1).trans rfl
  clear hwa ba bi hg hR1
  by_cases h2 : i.1 < 1 ∨ i.1 ≤ a.1
  · by_cases h1 : i.1 < 1
    · have t1 : decide (i.1 < 1) = true := decide_eq_true h1
      have H2 := Aside0.mk h2
      clear h2 h1
      go_wp2_with fail
      go_ret
      exact ⟨2, rfl, Or.inl ⟨Or.inl ⟨rfl, H2.out⟩, HX.out.below⟩⟩
    · have t1 : decide (i.1 < 1) = false := decide_eq_false h1
      have t2 : decide (i.1 ≤ a.1) = true := decide_eq_true (by omega)
      have H2 := Aside0.mk h2
      clear h2 h1
      go_wp2_with fail
      go_ret
      exact ⟨2, rfl, Or.inl ⟨Or.inl ⟨rfl, H2.out⟩, HX.out.below⟩⟩
  have t1 : decide (i.1 < 1) = false := decide_eq_false (by omega)
  have t2 : decide (i.1 ≤ a.1) = false := decide_eq_false (by omega)
  have H2 := Aside0.mk h2
  clear h2
  have hlk := fun k => HLK.out (wa.drewN k) HR.out.mb
  have hld := fun k => loadVar_row (wa.drewN k) (g + 1) TI TI D _ BI.out huI rfl HSI.out
  have HUI := Aside0.mk huI
  clear huI
  go_upto_region 5 with fail
  by_cases h3 : i ∈ M
  · have t3 : decide (i ∈ M) = true := decide_eq_true h3
    rw [t3] at hlk
    have H3 := Aside0.mk h3
    clear h3 t3
    refine wp_region_quiet_lit (by kernel_rfl) (by kernel_rfl) ?_
    repeat (first | (refine quiet_load TI (.tmp 6) rfl (by rfl) (g + 1) rfl D (fun w' hc => by obtain ⟨k, rfl⟩ := hc; exact hld k) ?_; simp only [Act.put, List.setIfInBounds_toArray, List.set_cons_zero, List.set_cons_succ]) | go_big_quiet_step (fail))
    refine wpQuiet_nil ?_
    intro _ hw'
    obtain ⟨nq, hw''⟩ := hw'
    subst hw''
    go_wp2_with fail
    go_ret
    exact ⟨23, rfl, Or.inl ⟨Or.inr (Or.inl ⟨rfl, H2.out, H3.out⟩), (HX.out.step (pw_below_drewN (Below.refl _ _) nq)).below⟩⟩
  · have t3 : decide (i ∈ M) = false := decide_eq_false h3
    rw [t3] at hlk
    have H3 := Aside0.mk h3
    clear h3 t3
    refine wp_region_quiet_lit (by kernel_rfl) (by kernel_rfl) ?_
    repeat (first | (refine quiet_load TI (.tmp 6) rfl (by rfl) (g + 1) rfl D (fun w' hc => by obtain ⟨k, rfl⟩ := hc; exact hld k) ?_; simp only [Act.put, List.setIfInBounds_toArray, List.set_cons_zero, List.set_cons_succ]) | go_big_quiet_step (fail))
    refine wpQuiet_nil ?_
    intro _ hw'
    obtain ⟨nq, hw''⟩ := hw'
    subst hw''
    have HXb := Aside0.mk (HX.out.step (pw_below_drewN (Below.refl wa.heap.size wa) nq))
    have HRb := Aside0.mk (HR.out.step (pw_below_drewN (Below.refl wa.heap.size wa) nq))
    clear hlk hld HX HR BA BI ka ki kp
    generalize wa.drewN nq = wb at *
    go_upto_region 7 with fail
    have hlc := fun k => loadVar_row (wb.drewN k) g TI TI C _ (by rw [← HC.out]; exact HXb.out.ba) HUI.out rfl HSA.out
    have hlk := fun k => HLA.out (wb.drewN k) HRb.out.mb
    have kp : wb.cell? ⟨gr, 1, none⟩ = some (.map (some gm)) := (blk_cell HRb.out.pb 1).trans rfl
    by_cases h4 : a ≠ z0 ∧ a ∉ M
    · have t4 : decide (a = z0) = false := decide_eq_false h4.1
      have t5 : decide (a ∈ M) = false := decide_eq_false h4.2
      have H4 := Aside0.mk h4
      rw [t5] at hlk
      rw [t4] at heqz
      clear h4 t4 t5
      refine wp_region_quiet_lit (by kernel_rfl) (by kernel_rfl) ?_
      repeat (first | (refine quiet_load TI (.tmp 5) rfl (by rfl) g rfl C (fun w' hc => by obtain ⟨k, rfl⟩ := hc; exact hlc k) ?_; simp only [Act.put, List.setIfInBounds_toArray, List.set_cons_zero, List.set_cons_succ]) | go_big_quiet_step (fail))
      refine wpQuiet_nil ?_
      intro _ hw'
      obtain ⟨nq, hw''⟩ := hw'
      subst hw''
      go_wp2_with fail
      go_ret
      exact ⟨22, rfl, Or.inl ⟨Or.inr (Or.inr ⟨rfl, H2.out, H3.out, H4.out⟩), (HXb.out.step (pw_below_drewN (Below.refl _ _) nq)).below⟩⟩
    have H4 : Aside0 (a = z0 ∨ a ∈ M) := ⟨by
      by_cases e : a = z0
      · exact Or.inl e
      · exact Or.inr (Classical.byContradiction fun e2 => h4 ⟨e, e2⟩)⟩
    clear h4
    go_cut [31] from 32 (fun s31 wx => s31 = .bool false ∧ ∃ n, wx = wb.drewN n)
    case first =>
      by_cases h5 : a = z0
      · have t4 : decide (a = z0) = true := decide_eq_true h5
        rw [t4] at heqz
        clear h5 t4
        refine wp_region_quiet_lit (by kernel_rfl) (by kernel_rfl) ?_
        repeat (first | (refine quiet_load TI (.tmp 5) rfl (by rfl) g rfl C (fun w' hc => by obtain ⟨k, rfl⟩ := hc; exact hlc k) ?_; simp only [Act.put, List.setIfInBounds_toArray, List.set_cons_zero, List.set_cons_succ]) | go_big_quiet_step (fail))
        refine wpQuiet_nil ?_
        intro _ hw'
        obtain ⟨nq, hw''⟩ := hw'
        subst hw''
        go_wp2_with fail
        go_meet
        exact ⟨rfl, nq, rfl⟩
      · have t4 : decide (a = z0) = false := decide_eq_false h5
        have t5 : decide (a ∈ M) = true := decide_eq_true (H4.out.resolve_left h5)
        rw [t5] at hlk
        rw [t4] at heqz
        clear h5 t4 t5
        refine wp_region_quiet_lit (by kernel_rfl) (by kernel_rfl) ?_
        repeat (first | (refine quiet_load TI (.tmp 5) rfl (by rfl) g rfl C (fun w' hc => by obtain ⟨k, rfl⟩ := hc; exact hlc k) ?_; simp only [Act.put, List.setIfInBounds_toArray, List.set_cons_zero, List.set_cons_succ]) | go_big_quiet_step (fail))
        refine wpQuiet_nil ?_
        intro _ hw'
        obtain ⟨nq, hw''⟩ := hw'
        subst hw''
        go_wp2_with fail
        go_meet
        exact ⟨rfl, nq, rfl⟩
    case rest =>
      obtain ⟨rfl, n7, rfl⟩ := hcut
      have HXc := Aside0.mk (HXb.out.step (pw_below_drewN (Below.refl wb.heap.size wb) n7))
      have HRc := Aside0.mk (HRb.out.step (pw_below_drewN (Below.refl wb.heap.size wb) n7))
      clear hlc hlk kp HXb HRb
      generalize wb.drewN n7 = wx at *
      have BA : Aside0 (wx.heap[g]? = some (.cells C TI (0, 0))) := ⟨by rw [← HC.out]; exact HXc.out.ba⟩
      go_upto_if 46 with ((with_reducible refine gate_ (Op.load 28 (.tmp 5)) rfl ?_); refine wpList_load_row rfl 28 (.tmp 5) rfl g rfl _ _ _ _ BA.out HUI.out rfl HSA.out ?_)
      go_cut [9] from 44 (fun s9 wy => (∃ j : Nat, s9 = .int .i64 j ∧ j ≤ L.length ∧ Aside0 (start L a j)) ∧ Aside0 (Below wx.heap.size wx wy))
      case first =>
        by_cases h5 : a = z0
        · have t4 : decide (a = z0) = true := decide_eq_true h5
          rw [t4, Bool.not_true]
          clear heqz
          go_wp2_with ((with_reducible refine gate_ (Op.load 28 (.tmp 5)) rfl ?_); refine wpList_load_row rfl 28 (.tmp 5) rfl g rfl _ _ _ _ BA.out HUI.out rfl HSA.out ?_)
          go_meet
          exact ⟨⟨0, rfl, Nat.zero_le _, ⟨Or.inl ⟨h5, rfl⟩⟩⟩, ⟨Below.refl _ _⟩⟩
        · have t4 : decide (a = z0) = false := decide_eq_false h5
          rw [t4, Bool.not_false]
          clear heqz
          have H5 := Aside0.mk h5
          have HPL := Aside0.mk (place_calls HRc.out (by have := HL.out; omega) a HA.out.2.1)
          rw [HC.out] at HPL
          clear t4 h5
          go_wp2_with (first | ((with_reducible refine gate_ (Op.load 28 (.tmp 5)) rfl ?_); refine wpList_load_row rfl 28 (.tmp 5) rfl g rfl _ _ _ _ BA.out HUI.out rfl HSA.out ?_) | (go_at_call 35; refine HPL.out.mono ?_; rintro e wz ⟨r, rfl, hp, hb⟩; have HP := Aside0.mk hp; have HB := Aside0.mk hb; clear hp hb))
          go_meet
          obtain ⟨x, hx, hxe⟩ := (HRc.out.same a).1 (H4.out.resolve_left H5.out)
          rcases HP.out with ⟨rfl, hn⟩ | ⟨k, y, rfl, hk, hy⟩
          · exact absurd hxe (hn x hx)
          · have hkl := (List.getElem?_eq_some_iff.1 hk).1
            exact ⟨⟨k + 1, by rw [show (k : Int) + 1 = ((k + 1 : Nat) : Int) from rfl, wrap_nat (by have := HL.out; omega)], hkl, ⟨Or.inr ⟨H5.out, k, y, rfl, hk, hy⟩⟩⟩, HB⟩
      case rest =>
        obtain ⟨⟨j, rfl, hj, HST⟩, HB⟩ := hcut
        have HXd := Aside0.mk (HXc.out.step HB.out)
        have HRd := Aside0.mk (HRc.out.step HB.out)
        clear HXc HRc HB BA heqz H
        go_upto_block 1 with fail
        go_cut [9] from 51 (fun s9 wy => (∃ k : Nat, s9 = .int .i64 k ∧ k ≤ L.length ∧ Aside0 (adv L i j = k)) ∧ Aside0 (Ix w g a i wy ∧ Rw w0 gr gm L M v wy))
        case first =>
          have hll : L.length < 99999 := HL.out
          go_wp2_with fail
          go_loopw [9] (fun s wr => ∃ k : Nat, s = .int .i64 k ∧ k ≤ L.length ∧ Aside0 (adv L i k = adv L i j) ∧ Aside0 (Ix w g a i wr ∧ Rw w0 gr gm L M v wr)) (fun s _ => L.length - (intOf s).toNat)
          case atStart => exact ⟨j, rfl, hj, ⟨rfl⟩, ⟨HXd.out, HRd.out⟩⟩
          case round =>
            clear HXd HRd
            obtain ⟨k, rfl, hk, HAD, HW⟩ := hrel
            have HXr := Aside0.mk HW.out.1
            have HRr := Aside0.mk HW.out.2
            clear HW
            by_cases hlt : k < L.length
            · obtain ⟨x, hx⟩ : ∃ x, L[k]? = some x := ⟨_, List.getElem?_eq_getElem hlt⟩
              obtain ⟨gc, cap, rfl, _⟩ := rw_range HRr.out hx
              have HXX := Aside0.mk hx
              have HSI2 : Aside0 (∀ W, Ix w g a i W → Rw w0 gr gm L M (.slice (some ⟨gc, 0, none⟩) L.length cap) W → SI w w0 gr gm L M (.slice (some ⟨gc, 0, none⟩) L.length cap) a i g D.toList gc (k * 35) (iv x.id) W) := ⟨fun W h1 h2 => by rw [← HD.out]; exact si_of h1 h2 hx⟩
              have hok := HRr.out.okc x (List.mem_of_getElem? hx)
              have HLS : Aside0 (∀ W, Calls Try.prog 11 #[.agg D, .agg (iv x.id).toArray] W fun e w' => e = .returned (.bool (lessI i x.id)) ∧ Below W.heap.size W w') := ⟨fun W => by rw [← HD.out]; exact LessI_calls W i x.id HI.out.2.1 hok⟩
              have HSF : Aside0 ((Try.prog.info? 28).map (·.size) = some (iv x.id).length) := ⟨by rw [iv_len hok]; exact size_id⟩
              have t8 : decide ((k : Int) < (L.length : Int)) = true := decide_eq_true (by omega)
              have t9 : ((k : Int) < (L.length : Int)) = True := eq_true (by omega)
              obtain ⟨b, hb⟩ : ∃ b, lessI i x.id = b := ⟨_, rfl⟩
              have HBB := Aside0.mk hb
              rw [hb] at HLS
              generalize (iv x.id) = F at *
              clear hx hok hb
              go_upto_region 12 with fail
              -- [on
              refine start_ (n := 19) (S := SI w w0 gr gm L M (.slice (some ⟨gc, 0, none⟩) L.length cap) a i g D.toList gc (k * 35) F) (ds := []) #[false, false, false, false, false, false, false, false, false, false, false, false, false, false, false, false, false, false, false] (by kernel_rfl) rfl rfl (HSI2.out _ (HXr.out.step (pw_below_drewN (Below.refl wr.heap.size wr) 1)) (HRr.out.step (pw_below_drewN (Below.refl wr.heap.size wr) 1))) (fun hHeld => ?_)
              generalize wr.drew = wd at hHeld ⊢
              clear HXr HRr
              refine pure_ (i := 0) (N := some 51) (v := ?_) (a' := ?_) #[true, false, false, false, false, false, false, false, false, false, false, false, false, false, false, false, false, false, false] rfl rfl (by kernel_rfl) (fun _ _ _ h => h) (Or.inl ⟨by rfl, ?_⟩) ?_ ?_
              rotate_left
              · intro w'
                go_simp
                with_reducible rfl
              rotate_left
              · simp only [Act.put, List.setIfInBounds_toArray, List.set_cons_zero, List.set_cons_succ, i64_w, i32_w]
                rfl
              refine pure_ (i := 1) (N := some 52) (v := ?_) (a' := ?_) #[true, true, false, false, false, false, false, false, false, false, false, false, false, false, false, false, false, false, false] rfl rfl (by kernel_rfl) (fun _ _ _ h => h) (Or.inl ⟨by rfl, ?_⟩) ?_ ?_
              rotate_left
              · intro w'
                go_simp
                with_reducible rfl
              rotate_left
              · simp only [Act.put, List.setIfInBounds_toArray, List.set_cons_zero, List.set_cons_succ, i64_w, i32_w]
                rfl
              refine pure_ (i := 2) (N := some 53) (v := ?_) (a' := ?_) #[true, true, true, false, false, false, false, false, false, false, false, false, false, false, false, false, false, false, false] rfl rfl (by kernel_rfl) (fun _ _ _ h => h) (Or.inl ⟨by rfl, ?_⟩) ?_ ?_
              rotate_left
              · intro w'
                go_simp
                with_reducible rfl
              rotate_left
              · simp only [Act.put, List.setIfInBounds_toArray, List.set_cons_zero, List.set_cons_succ, i64_w, i32_w]
                rfl
              refine pure_ (i := 3) (N := some 54) (v := ?_) (a' := ?_) #[true, true, true, true, false, false, false, false, false, false, false, false, false, false, false, false, false, false, false] rfl rfl (by kernel_rfl) (fun _ _ _ h => h) (Or.inl ⟨by rfl, ?_⟩) ?_ ?_
              rotate_left
              · intro w'
                go_simp
                with_reducible rfl
              rotate_left
              · simp only [Act.put, List.setIfInBounds_toArray, List.set_cons_zero, List.set_cons_succ, i64_w, i32_w]
                rfl
              refine take_ (i := 4) (N := some 55) (v := ?_) (a' := ?_) #[true, true, true, true, true, false, false, false, false, false, false, false, false, false, false, false, false, false, false] rfl rfl (by kernel_rfl) (fun _ _ _ h => h) (Or.inl ⟨by rfl, ?_⟩) hHeld ?_ ?_
              rotate_left
              · rintro w' ⟨s1, s2, s3, s4⟩
                go_simp
                with_reducible rfl
              rotate_left
              · simp only [Act.put, List.setIfInBounds_toArray, List.set_cons_zero, List.set_cons_succ, i64_w, i32_w]
                rfl
              refine pure_ (i := 5) (N := some 56) (v := ?_) (a' := ?_) #[true, true, true, true, true, true, false, false, false, false, false, false, false, false, false, false, false, false, false] rfl rfl (by kernel_rfl) (fun _ _ _ h => h) (Or.inl ⟨by rfl, ?_⟩) ?_ ?_
              rotate_left
              · intro w'
                go_simp
                with_reducible rfl
              rotate_left
              · simp only [Act.put, List.setIfInBounds_toArray, List.set_cons_zero, List.set_cons_succ, i64_w, i32_w]
                rfl
              refine pure_ (i := 6) (N := some 57) (v := ?_) (a' := ?_) #[true, true, true, true, true, true, true, false, false, false, false, false, false, false, false, false, false, false, false] rfl rfl (by kernel_rfl) (fun _ _ _ h => h) (Or.inl ⟨by rfl, ?_⟩) ?_ ?_
              rotate_left
              · intro w'
                go_simp
                with_reducible rfl
              rotate_left
              · simp only [Act.put, List.setIfInBounds_toArray, List.set_cons_zero, List.set_cons_succ, i64_w, i32_w]
                rfl
              refine pure_ (i := 7) (N := some 58) (v := ?_) (a' := ?_) #[true, true, true, true, true, true, true, true, false, false, false, false, false, false, false, false, false, false, false] rfl rfl (by kernel_rfl) (fun _ _ _ h => h) (Or.inl ⟨by rfl, ?_⟩) ?_ ?_
              rotate_left
              · intro w'
                go_simp
                with_reducible rfl
              rotate_left
              · simp only [Act.put, List.setIfInBounds_toArray, List.set_cons_zero, List.set_cons_succ, i64_w, i32_w]
                rfl
              refine take_ (i := 8) (N := some 59) (v := .agg D) (a' := ?_) #[true, true, true, true, true, true, true, true, true, false, false, false, false, false, false, false, false, false, false] rfl rfl (by kernel_rfl) (fun _ _ _ h => h) (yieldsIf_load_mid (by rfl) 28 (.tmp 6) rfl (g + 1) 0 rfl D.toList _ (fun w' hS => hS.2.1) HUI.out rfl (by rw [Array.length_toList]; exact HSI.out)) hHeld ?_ ?_
              rotate_left
              · simp only [Act.put, List.setIfInBounds_toArray, List.set_cons_zero, List.set_cons_succ, i64_w, i32_w]
                rfl
              refine pure_ (i := 9) (N := some 60) (v := ?_) (a' := ?_) #[true, true, true, true, true, true, true, true, true, true, false, false, false, false, false, false, false, false, false] rfl rfl (by kernel_rfl) (fun _ _ _ h => h) (Or.inl ⟨by rfl, ?_⟩) ?_ ?_
              rotate_left
              · intro w'
                go_simp
                with_reducible rfl
              rotate_left
              · simp only [Act.put, List.setIfInBounds_toArray, List.set_cons_zero, List.set_cons_succ, i64_w, i32_w]
                rfl
              refine pure_ (i := 10) (N := some 61) (v := ?_) (a' := ?_) #[true, true, true, true, true, true, true, true, true, true, true, false, false, false, false, false, false, false, false] rfl rfl (by kernel_rfl) (fun _ _ _ h => h) (Or.inl ⟨by rfl, ?_⟩) ?_ ?_
              rotate_left
              · intro w'
                go_simp
                with_reducible rfl
              rotate_left
              · simp only [Act.put, List.setIfInBounds_toArray, List.set_cons_zero, List.set_cons_succ, i64_w, i32_w]
                rfl
              refine pure_ (i := 11) (N := some 62) (v := ?_) (a' := ?_) #[true, true, true, true, true, true, true, true, true, true, true, true, false, false, false, false, false, false, false] rfl rfl (by kernel_rfl) (fun _ _ _ h => h) (Or.inl ⟨by rfl, ?_⟩) ?_ ?_
              rotate_left
              · intro w'
                go_simp
                with_reducible rfl
              rotate_left
              · simp only [Act.put, List.setIfInBounds_toArray, List.set_cons_zero, List.set_cons_succ, i64_w, i32_w]
                rfl
              refine take_ (i := 12) (N := some 63) (v := ?_) (a' := ?_) #[true, true, true, true, true, true, true, true, true, true, true, true, true, false, false, false, false, false, false] rfl rfl (by kernel_rfl) (fun _ _ _ h => h) (Or.inl ⟨by rfl, ?_⟩) hHeld ?_ ?_
              rotate_left
              · rintro w' ⟨s1, s2, s3, s4⟩
                go_simp
                with_reducible rfl
              rotate_left
              · simp only [Act.put, List.setIfInBounds_toArray, List.set_cons_zero, List.set_cons_succ, i64_w, i32_w]
                rfl
              refine pure_ (i := 13) (N := some 64) (v := ?_) (a' := ?_) #[true, true, true, true, true, true, true, true, true, true, true, true, true, true, false, false, false, false, false] rfl rfl (by kernel_rfl) (fun _ _ _ h => h) (Or.inl ⟨by rfl, ?_⟩) ?_ ?_
              rotate_left
              · intro w'
                go_simp
                with_reducible rfl
              rotate_left
              · simp only [Act.put, List.setIfInBounds_toArray, List.set_cons_zero, List.set_cons_succ, i64_w, i32_w]
                rfl
              refine pure_ (i := 14) (N := some 65) (v := ?_) (a' := ?_) #[true, true, true, true, true, true, true, true, true, true, true, true, true, true, true, false, false, false, false] rfl rfl (by kernel_rfl) (fun _ _ _ h => h) (Or.inl ⟨by rfl, ?_⟩) ?_ ?_
              rotate_left
              · intro w'
                go_simp
                with_reducible rfl
              rotate_left
              · simp only [Act.put, List.setIfInBounds_toArray, List.set_cons_zero, List.set_cons_succ, i64_w, i32_w]
                rfl
              refine pure_ (i := 15) (N := some 66) (v := ?_) (a' := ?_) #[true, true, true, true, true, true, true, true, true, true, true, true, true, true, true, true, false, false, false] rfl rfl (by kernel_rfl) (fun _ _ _ h => h) (Or.inl ⟨by rfl, ?_⟩) ?_ ?_
              rotate_left
              · intro w'
                go_simp
                with_reducible rfl
              rotate_left
              · simp only [Act.put, List.setIfInBounds_toArray, List.set_cons_zero, List.set_cons_succ, i64_w, i32_w]
                rfl
              refine take_ (i := 16) (N := some 67) (v := .agg F.toArray) (a' := ?_) #[true, true, true, true, true, true, true, true, true, true, true, true, true, true, true, true, true, false, false] rfl rfl (by kernel_rfl) (fun _ _ _ h => h) (yieldsIf_load_mid (by rfl) 28 (.tmp 66) rfl gc (k * 35) rfl F _ (fun w' hS => hS.2.2.1) HUI.out rfl HSF.out) hHeld ?_ ?_
              rotate_left
              · simp only [Act.put, List.setIfInBounds_toArray, List.set_cons_zero, List.set_cons_succ, i64_w, i32_w]
                rfl
              refine one_ (i := 17) (N := some 68) #[true, true, true, true, true, true, true, true, true, true, true, true, true, true, true, true, true, true, false] rfl rfl (by kernel_rfl) (by decide) (fun K hK => ?_)
              refine goes_ Try.func11 (by kernel_rfl) rfl #[.agg D, .agg F.toArray] (by rfl) rfl rfl (by first | rfl | (simp only [List.map_toArray, List.map_cons, List.map_nil]; done) | (simp only [List.map_toArray, List.map_cons, List.map_nil]; rfl)) ?_
              refine (HLS.out wd).mono ?_
              rintro e1 w2 ⟨rfl, hb2⟩
              refine ⟨_, rfl, ?_⟩
              have hS2 := HSI2.out w2 (hHeld.2.2.2.out.1.step hb2) (hHeld.2.2.2.out.2.step hb2)
              clear hb2 hHeld
              refine hK.out _ _ hS2 (fun hHeld => ?_)
              clear hK K hS2
              refine norm_ (a' := ?_) ?_ ?_
              rotate_left
              · show Act.put _ (some 68) _ = _
                simp only [Act.put, List.setIfInBounds_toArray, List.set_cons_zero, List.set_cons_succ, i64_w, i32_w]
                rfl
              refine pure_ (i := 18) (N := some 69) (v := ?_) (a' := ?_) #[true, true, true, true, true, true, true, true, true, true, true, true, true, true, true, true, true, true, true] rfl rfl (by kernel_rfl) (fun _ _ _ h => h) (Or.inl ⟨by rfl, ?_⟩) ?_ ?_
              rotate_left
              · intro w'
                go_simp
                with_reducible rfl
              rotate_left
              · simp only [Act.put, List.setIfInBounds_toArray, List.set_cons_zero, List.set_cons_succ, i64_w, i32_w]
                rfl
              refine done_ (by kernel_rfl) ?_
              -- on]
              have HW2 := hHeld.2.2.2
              clear hHeld HSI2 HLS
              have HAS := Aside0.mk (adv_step (i := i) HXX.out)
              rw [HBB.out] at HAS
              cases b with
              | true =>
                go_wp2_with fail
                go_roundw
                case rel => exact ⟨k + 1, by go_num, hlt, ⟨(HAS.out.1 (by first | rfl | trivial)).trans HAD.out⟩, HW2⟩
                case measure => simp [intOf]; omega
              | false =>
                go_wp2_with fail
                go_meet
                exact ⟨⟨k, rfl, hk, ⟨HAD.out.symm.trans (HAS.out.2 (by first | rfl | trivial))⟩⟩, HW2⟩
            · obtain rfl : k = L.length := by omega
              obtain ⟨A, cap, rfl⟩ := rw_form HRr.out
              have t8 : decide ((L.length : Int) < (L.length : Int)) = false := decide_eq_false (by omega)
              go_upto_region 12 with fail
              -- [off
              refine start_ (n := 19) (S := SO w w0 gr gm L M (.slice A L.length cap) a i g) (ds := []) #[false, false, false, false, false, false, false, false, false, false, false, false, false, false, false, false, false, false, false] (by kernel_rfl) rfl rfl (so_of (HXr.out.step (pw_below_drewN (Below.refl wr.heap.size wr) 1)) (HRr.out.step (pw_below_drewN (Below.refl wr.heap.size wr) 1))) (fun hHeld => ?_)
              generalize wr.drew = wd at hHeld ⊢
              clear HXr HRr
              refine pure_ (i := 0) (N := some 51) (v := ?_) (a' := ?_) #[true, false, false, false, false, false, false, false, false, false, false, false, false, false, false, false, false, false, false] rfl rfl (by kernel_rfl) (fun _ _ _ h => h) (Or.inl ⟨by rfl, ?_⟩) ?_ ?_
              rotate_left
              · intro w'
                go_simp
                with_reducible rfl
              rotate_left
              · simp only [Act.put, List.setIfInBounds_toArray, List.set_cons_zero, List.set_cons_succ, i64_w, i32_w]
                rfl
              refine pure_ (i := 1) (N := some 52) (v := ?_) (a' := ?_) #[true, true, false, false, false, false, false, false, false, false, false, false, false, false, false, false, false, false, false] rfl rfl (by kernel_rfl) (fun _ _ _ h => h) (Or.inl ⟨by rfl, ?_⟩) ?_ ?_
              rotate_left
              · intro w'
                go_simp
                with_reducible rfl
              rotate_left
              · simp only [Act.put, List.setIfInBounds_toArray, List.set_cons_zero, List.set_cons_succ, i64_w, i32_w]
                rfl
              refine pure_ (i := 2) (N := some 53) (v := ?_) (a' := ?_) #[true, true, true, false, false, false, false, false, false, false, false, false, false, false, false, false, false, false, false] rfl rfl (by kernel_rfl) (fun _ _ _ h => h) (Or.inl ⟨by rfl, ?_⟩) ?_ ?_
              rotate_left
              · intro w'
                go_simp
                with_reducible rfl
              rotate_left
              · simp only [Act.put, List.setIfInBounds_toArray, List.set_cons_zero, List.set_cons_succ, i64_w, i32_w]
                rfl
              refine pure_ (i := 3) (N := some 54) (v := ?_) (a' := ?_) #[true, true, true, true, false, false, false, false, false, false, false, false, false, false, false, false, false, false, false] rfl rfl (by kernel_rfl) (fun _ _ _ h => h) (Or.inl ⟨by rfl, ?_⟩) ?_ ?_
              rotate_left
              · intro w'
                go_simp
                with_reducible rfl
              rotate_left
              · simp only [Act.put, List.setIfInBounds_toArray, List.set_cons_zero, List.set_cons_succ, i64_w, i32_w]
                rfl
              refine take_ (i := 4) (N := some 55) (v := ?_) (a' := ?_) #[true, true, true, true, true, false, false, false, false, false, false, false, false, false, false, false, false, false, false] rfl rfl (by kernel_rfl) (fun _ _ _ h => h) (Or.inl ⟨by rfl, ?_⟩) hHeld ?_ ?_
              rotate_left
              · rintro w' ⟨s1, s2⟩
                go_simp
                with_reducible rfl
              rotate_left
              · simp only [Act.put, List.setIfInBounds_toArray, List.set_cons_zero, List.set_cons_succ, i64_w, i32_w]
                rfl
              refine pure_ (i := 5) (N := some 56) (v := ?_) (a' := ?_) #[true, true, true, true, true, true, false, false, false, false, false, false, false, false, false, false, false, false, false] rfl rfl (by kernel_rfl) (fun _ _ _ h => h) (Or.inl ⟨by rfl, ?_⟩) ?_ ?_
              rotate_left
              · intro w'
                go_simp
                with_reducible rfl
              rotate_left
              · simp only [Act.put, List.setIfInBounds_toArray, List.set_cons_zero, List.set_cons_succ, i64_w, i32_w]
                rfl
              refine pure_ (i := 6) (N := some 57) (v := ?_) (a' := ?_) #[true, true, true, true, true, true, true, false, false, false, false, false, false, false, false, false, false, false, false] rfl rfl (by kernel_rfl) (fun _ _ _ h => h) (Or.inl ⟨by rfl, ?_⟩) ?_ ?_
              rotate_left
              · intro w'
                go_simp
                with_reducible rfl
              rotate_left
              · simp only [Act.put, List.setIfInBounds_toArray, List.set_cons_zero, List.set_cons_succ, i64_w, i32_w]
                rfl
              refine pure_ (i := 7) (N := some 58) (v := ?_) (a' := ?_) #[true, true, true, true, true, true, true, true, false, false, false, false, false, false, false, false, false, false, false] rfl rfl (by kernel_rfl) (fun _ _ _ h => h) (Or.inl ⟨by rfl, ?_⟩) ?_ ?_
              rotate_left
              · intro w'
                go_simp
                with_reducible rfl
              rotate_left
              · simp only [Act.put, List.setIfInBounds_toArray, List.set_cons_zero, List.set_cons_succ, i64_w, i32_w]
                rfl
              refine pure_ (i := 8) (N := some 59) (v := undef) (a' := ?_) #[true, true, true, true, true, true, true, true, true, false, false, false, false, false, false, false, false, false, false] rfl rfl (by kernel_rfl) (fun _ _ _ h => h) (Or.inr ⟨by rfl, rfl⟩) ?_ ?_
              rotate_left
              · simp only [Act.put, List.setIfInBounds_toArray, List.set_cons_zero, List.set_cons_succ, i64_w, i32_w]
                rfl
              refine pure_ (i := 9) (N := some 60) (v := undef) (a' := ?_) #[true, true, true, true, true, true, true, true, true, true, false, false, false, false, false, false, false, false, false] rfl rfl (by kernel_rfl) (fun _ _ _ h => h) (Or.inr ⟨by rfl, rfl⟩) ?_ ?_
              rotate_left
              · simp only [Act.put, List.setIfInBounds_toArray, List.set_cons_zero, List.set_cons_succ, i64_w, i32_w]
                rfl
              refine pure_ (i := 10) (N := some 61) (v := undef) (a' := ?_) #[true, true, true, true, true, true, true, true, true, true, true, false, false, false, false, false, false, false, false] rfl rfl (by kernel_rfl) (fun _ _ _ h => h) (Or.inr ⟨by rfl, rfl⟩) ?_ ?_
              rotate_left
              · simp only [Act.put, List.setIfInBounds_toArray, List.set_cons_zero, List.set_cons_succ, i64_w, i32_w]
                rfl
              refine pure_ (i := 11) (N := some 62) (v := undef) (a' := ?_) #[true, true, true, true, true, true, true, true, true, true, true, true, false, false, false, false, false, false, false] rfl rfl (by kernel_rfl) (fun _ _ _ h => h) (Or.inr ⟨by rfl, rfl⟩) ?_ ?_
              rotate_left
              · simp only [Act.put, List.setIfInBounds_toArray, List.set_cons_zero, List.set_cons_succ, i64_w, i32_w]
                rfl
              refine pure_ (i := 12) (N := some 63) (v := undef) (a' := ?_) #[true, true, true, true, true, true, true, true, true, true, true, true, true, false, false, false, false, false, false] rfl rfl (by kernel_rfl) (fun _ _ _ h => h) (Or.inr ⟨by rfl, rfl⟩) ?_ ?_
              rotate_left
              · simp only [Act.put, List.setIfInBounds_toArray, List.set_cons_zero, List.set_cons_succ, i64_w, i32_w]
                rfl
              refine pure_ (i := 13) (N := some 64) (v := undef) (a' := ?_) #[true, true, true, true, true, true, true, true, true, true, true, true, true, true, false, false, false, false, false] rfl rfl (by kernel_rfl) (fun _ _ _ h => h) (Or.inr ⟨by rfl, rfl⟩) ?_ ?_
              rotate_left
              · simp only [Act.put, List.setIfInBounds_toArray, List.set_cons_zero, List.set_cons_succ, i64_w, i32_w]
                rfl
              refine pure_ (i := 14) (N := some 65) (v := undef) (a' := ?_) #[true, true, true, true, true, true, true, true, true, true, true, true, true, true, true, false, false, false, false] rfl rfl (by kernel_rfl) (fun _ _ _ h => h) (Or.inr ⟨by rfl, rfl⟩) ?_ ?_
              rotate_left
              · simp only [Act.put, List.setIfInBounds_toArray, List.set_cons_zero, List.set_cons_succ, i64_w, i32_w]
                rfl
              refine pure_ (i := 15) (N := some 66) (v := undef) (a' := ?_) #[true, true, true, true, true, true, true, true, true, true, true, true, true, true, true, true, false, false, false] rfl rfl (by kernel_rfl) (fun _ _ _ h => h) (Or.inr ⟨by rfl, rfl⟩) ?_ ?_
              rotate_left
              · simp only [Act.put, List.setIfInBounds_toArray, List.set_cons_zero, List.set_cons_succ, i64_w, i32_w]
                rfl
              refine pure_ (i := 16) (N := some 67) (v := undef) (a' := ?_) #[true, true, true, true, true, true, true, true, true, true, true, true, true, true, true, true, true, false, false] rfl rfl (by kernel_rfl) (fun _ _ _ h => h) (Or.inr ⟨by rfl, rfl⟩) ?_ ?_
              rotate_left
              · simp only [Act.put, List.setIfInBounds_toArray, List.set_cons_zero, List.set_cons_succ, i64_w, i32_w]
                rfl
              refine one_ (i := 17) (N := some 68) #[true, true, true, true, true, true, true, true, true, true, true, true, true, true, true, true, true, true, false] rfl rfl (by kernel_rfl) (by decide) (fun K hK => ?_)
              refine off_ (by rfl) ?_
              refine hK.out _ _ hHeld (fun hHeld => ?_)
              clear hK K
              refine norm_ (a' := ?_) ?_ ?_
              rotate_left
              · show Act.put _ (some 68) _ = _
                simp only [Act.put, List.setIfInBounds_toArray, List.set_cons_zero, List.set_cons_succ, i64_w, i32_w]
                rfl
              refine pure_ (i := 18) (N := some 69) (v := ?_) (a' := ?_) #[true, true, true, true, true, true, true, true, true, true, true, true, true, true, true, true, true, true, true] rfl rfl (by kernel_rfl) (fun _ _ _ h => h) (Or.inl ⟨by rfl, ?_⟩) ?_ ?_
              rotate_left
              · intro w'
                go_simp
                with_reducible rfl
              rotate_left
              · simp only [Act.put, List.setIfInBounds_toArray, List.set_cons_zero, List.set_cons_succ, i64_w, i32_w]
                rfl
              refine done_ (by kernel_rfl) ?_
              -- off]
              have HW2 := hHeld.2
              clear hHeld
              go_wp2_with fail
              go_meet
              exact ⟨⟨L.length, rfl, hk, ⟨HAD.out.symm.trans adv_end⟩⟩, HW2⟩
        case rest =>
          obtain ⟨⟨k, rfl, hk, HAD⟩, HW⟩ := hcut
          have HXe := Aside0.mk HW.out.1
          have HRe := Aside0.mk HW.out.2
          clear HW
          obtain ⟨A, cap, rfl⟩ := rw_form HRe.out
          have HMO := Aside0.mk HRe.out.oks
          have HSAM := Aside0.mk HRe.out.same
          have HLL : Aside0 (L.length < 100000) := ⟨by have := HL.out; omega⟩
          have HOK : Aside0 (okC ⟨i, ch, false⟩) := ⟨HI.out.2.1⟩
          have HBC : Aside0 (Try.prog.built TC [(0, .agg D), (1, .int .u8 ch), (2, .bool false)] = some (ce ⟨i, ch, false⟩).toArray) := ⟨by rw [← HD.out]; exact built_ce ⟨i, ch, false⟩ HOK.out⟩
          have HBS : Aside0 (∀ (o : Oper) (a : Act) (w : World), o.op = .buildSlice TCs 1 #[(0, .tmp 80)] → a.eval (.tmp 80) = .agg (ce ⟨i, ch, false⟩).toArray → (execOp a.eval o).run Try.prog w = .ok (.value (.slice (some ⟨w.heap.size, 0, none⟩) 1 1)) (w.alloc (.cells (ce ⟨i, ch, false⟩).toArray TC))) := ⟨fun o a w ho hy => exec_bslice ⟨i, ch, false⟩ HOK.out (.tmp 80) ho hy⟩
          obtain ⟨CE, hCE⟩ : ∃ C : Array Value, (ce ⟨i, ch, false⟩).toArray = C := ⟨_, rfl⟩
          rw [hCE] at HBC HBS
          have HCE := Aside0.mk hCE
          clear hCE
          go_upto_region 14 with fail
          -- [put
          refine start_ (n := 14) (S := SP gr (.slice A L.length cap) g D.toList) (ds := [13]) #[false, false, false, false, false, false, false, false, false, false, false, false, false, false] (by kernel_rfl) rfl rfl (by rw [← HD.out]; exact sp_of (HXe.out.step (pw_below_drewN (Below.refl wc.heap.size wc) 1)).bi (HRe.out.step (pw_below_drewN (Below.refl wc.heap.size wc) 1)).pb) (fun hHeld => ?_)
          have HXf := Aside0.mk (HXe.out.step (pw_below_drewN (Below.refl wc.heap.size wc) 1))
          have HRf := Aside0.mk (HRe.out.step (pw_below_drewN (Below.refl wc.heap.size wc) 1))
          generalize hwd : wc.drewN 1 = wd at HXf HRf
          rw [show wc.drew = wd from hwd] at hHeld ⊢
          clear HXe HRe hwd
          have HIC := Aside0.mk (ins_calls2 HRf.out HCE.out HOK.out hk HLL.out)
          refine pure_ (i := 0) (N := some 72) (v := ?_) (a' := ?_) #[true, false, false, false, false, false, false, false, false, false, false, false, false, false] rfl rfl (by kernel_rfl) (fun _ _ _ h => h) (Or.inl ⟨by rfl, ?_⟩) ?_ ?_
          rotate_left
          · intro w'
            go_simp
            with_reducible rfl
          rotate_left
          · simp only [Act.put, List.setIfInBounds_toArray, List.set_cons_zero, List.set_cons_succ, i64_w, i32_w]
            rfl
          refine pure_ (i := 1) (N := some 73) (v := ?_) (a' := ?_) #[true, true, false, false, false, false, false, false, false, false, false, false, false, false] rfl rfl (by kernel_rfl) (fun _ _ _ h => h) (Or.inl ⟨by rfl, ?_⟩) ?_ ?_
          rotate_left
          · intro w'
            go_simp
            with_reducible rfl
          rotate_left
          · simp only [Act.put, List.setIfInBounds_toArray, List.set_cons_zero, List.set_cons_succ, i64_w, i32_w]
            rfl
          refine pure_ (i := 2) (N := some 74) (v := ?_) (a' := ?_) #[true, true, true, false, false, false, false, false, false, false, false, false, false, false] rfl rfl (by kernel_rfl) (fun _ _ _ h => h) (Or.inl ⟨by rfl, ?_⟩) ?_ ?_
          rotate_left
          · intro w'
            go_simp
            with_reducible rfl
          rotate_left
          · simp only [Act.put, List.setIfInBounds_toArray, List.set_cons_zero, List.set_cons_succ, i64_w, i32_w]
            rfl
          refine pure_ (i := 3) (N := some 75) (v := ?_) (a' := ?_) #[true, true, true, true, false, false, false, false, false, false, false, false, false, false] rfl rfl (by kernel_rfl) (fun _ _ _ h => h) (Or.inl ⟨by rfl, ?_⟩) ?_ ?_
          rotate_left
          · intro w'
            go_simp
            with_reducible rfl
          rotate_left
          · simp only [Act.put, List.setIfInBounds_toArray, List.set_cons_zero, List.set_cons_succ, i64_w, i32_w]
            rfl
          refine take_ (i := 4) (N := some 76) (v := ?_) (a' := ?_) #[true, true, true, true, true, false, false, false, false, false, false, false, false, false] rfl rfl (by kernel_rfl) (fun _ _ _ h => h) (Or.inl ⟨by rfl, ?_⟩) hHeld ?_ ?_
          rotate_left
          · rintro w' ⟨s1, s2⟩
            go_simp
            with_reducible rfl
          rotate_left
          · simp only [Act.put, List.setIfInBounds_toArray, List.set_cons_zero, List.set_cons_succ, i64_w, i32_w]
            rfl
          refine pure_ (i := 5) (N := some 77) (v := ?_) (a' := ?_) #[true, true, true, true, true, true, false, false, false, false, false, false, false, false] rfl rfl (by kernel_rfl) (fun _ _ _ h => h) (Or.inl ⟨by rfl, ?_⟩) ?_ ?_
          rotate_left
          · intro w'
            go_simp
            with_reducible rfl
          rotate_left
          · simp only [Act.put, List.setIfInBounds_toArray, List.set_cons_zero, List.set_cons_succ, i64_w, i32_w]
            rfl
          refine take_ (i := 6) (N := some 78) (v := .agg D) (a' := ?_) #[true, true, true, true, true, true, true, false, false, false, false, false, false, false] rfl rfl (by kernel_rfl) (fun _ _ _ h => h) (yieldsIf_load_mid (by rfl) 28 (.tmp 6) rfl (g + 1) 0 rfl D.toList _ (fun w' hS => hS.2) HUI.out rfl (by rw [Array.length_toList]; exact HSI.out)) hHeld ?_ ?_
          rotate_left
          · simp only [Act.put, List.setIfInBounds_toArray, List.set_cons_zero, List.set_cons_succ, i64_w, i32_w]
            rfl
          refine pure_ (i := 7) (N := some 79) (v := ?_) (a' := ?_) #[true, true, true, true, true, true, true, true, false, false, false, false, false, false] rfl rfl (by kernel_rfl) (fun _ _ _ h => h) (Or.inl ⟨by rfl, ?_⟩) ?_ ?_
          rotate_left
          · intro w'
            go_simp
            with_reducible rfl
          rotate_left
          · simp only [Act.put, List.setIfInBounds_toArray, List.set_cons_zero, List.set_cons_succ, i64_w, i32_w]
            rfl
          refine pure_ (i := 8) (N := some 80) (v := .agg CE) (a' := ?_) #[true, true, true, true, true, true, true, true, true, false, false, false, false, false] rfl rfl (by kernel_rfl) (fun _ _ _ h => h) (Or.inl ⟨by rfl, fun w' => exec_build TC #[(0, .tmp 78), (1, .tmp 79), (2, .const (.bool false))] rfl [(0, .agg D), (1, .int .u8 ch), (2, .bool false)] (by simp only [List.map_toArray, List.map_cons, List.map_nil]; rfl) CE HBC.out⟩) ?_ ?_
          rotate_left
          · simp only [Act.put, List.setIfInBounds_toArray, List.set_cons_zero, List.set_cons_succ, i64_w, i32_w]
            rfl
          refine one_ (i := 9) (N := some 81) #[true, true, true, true, true, true, true, true, true, true, false, false, false, false] rfl rfl (by kernel_rfl) (by decide) (fun K hK => ?_)
          refine value_ (N := some 81) (by rfl) rfl (HBS.out _ _ _ rfl rfl) ?_
          have hS2 : SP gr (.slice A L.length cap) g D.toList (wd.alloc (.cells CE TC)) := by rw [← HD.out]; exact sp_of (blk_alloc HXf.out.bi _) (blk_alloc HRf.out.pb _)
          clear hHeld
          refine hK.out _ _ hS2 (fun hHeld => ?_)
          clear hK K hS2
          refine norm_ (a' := ?_) ?_ ?_
          rotate_left
          · show Act.put _ (some 81) _ = _
            simp only [Act.put, List.setIfInBounds_toArray, List.set_cons_zero, List.set_cons_succ, i64_w, i32_w]
            rfl
          refine one_ (i := 10) (N := some 82) #[true, true, true, true, true, true, true, true, true, true, true, false, false, false] rfl rfl (by kernel_rfl) (by decide) (fun K hK => ?_)
          refine goes_ Try.func36 (by kernel_rfl) rfl #[.slice A L.length cap, .int .i64 (k : Int), .slice (some ⟨wd.heap.size, 0, none⟩) 1 1] (by rfl) rfl rfl (by first | rfl | (simp only [List.map_toArray, List.map_cons, List.map_nil]; done) | (simp only [List.map_toArray, List.map_cons, List.map_nil]; rfl)) ?_
          refine HIC.out.mono ?_
          rintro e1 w2 ⟨v2, rfl, hO2, hG2, hAT⟩
          obtain ⟨A2, c2, rfl⟩ := Kd.R_slice hO2
          have HMid := Aside0.mk (mid_of HXf.out HRf.out hO2 hG2)
          have HAT : Aside0 ((Value.slice A2 (insAt L k ⟨i, ch, false⟩).length c2).ownBlock = (Value.slice A L.length cap).ownBlock ∨ ∃ b, (Value.slice A2 (insAt L k ⟨i, ch, false⟩).length c2).ownBlock = some b ∧ w.heap.size ≤ b) := ⟨hAT.imp_right (fun ⟨b, h1, h2⟩ => ⟨b, h1, Nat.le_trans HXf.out.below.size (Nat.le_trans (Nat.le_of_lt (by simp)) h2)⟩)⟩
          refine ⟨_, rfl, ?_⟩
          have hS2 : SP gr (.slice A L.length cap) g D.toList w2 := by rw [← HD.out]; exact sp_of HMid.out.bi HMid.out.pb
          clear hO2 hG2 hAT hHeld HIC HXf HRf
          refine hK.out _ _ hS2 (fun hHeld => ?_)
          clear hK K hS2
          refine norm_ (a' := ?_) ?_ ?_
          rotate_left
          · show Act.put _ (some 82) _ = _
            simp only [Act.put, List.setIfInBounds_toArray, List.set_cons_zero, List.set_cons_succ, i64_w, i32_w]
            rfl
          refine pure_ (i := 11) (N := some 83) (v := ?_) (a' := ?_) #[true, true, true, true, true, true, true, true, true, true, true, true, false, false] rfl rfl (by kernel_rfl) (fun _ _ _ h => h) (Or.inl ⟨by rfl, ?_⟩) ?_ ?_
          rotate_left
          · intro w'
            go_simp
            with_reducible rfl
          rotate_left
          · simp only [Act.put, List.setIfInBounds_toArray, List.set_cons_zero, List.set_cons_succ, i64_w, i32_w]
            rfl
          refine pure_ (i := 12) (N := some 84) (v := ?_) (a' := ?_) #[true, true, true, true, true, true, true, true, true, true, true, true, true, false] rfl rfl (by kernel_rfl) (fun _ _ _ h => h) (Or.inl ⟨by rfl, ?_⟩) ?_ ?_
          rotate_left
          · intro w'
            go_simp
            with_reducible rfl
          rotate_left
          · simp only [Act.put, List.setIfInBounds_toArray, List.set_cons_zero, List.set_cons_succ, i64_w, i32_w]
            rfl
          refine last_ (i := 13) (N := none) #[true, true, true, true, true, true, true, true, true, true, true, true, true, true] rfl rfl (by kernel_rfl) (by decide) (fun K hK => ?_)
          have kc := hHeld.1
          have kf : w2.frozen? ⟨gr, 0, none⟩ = false := blk_frozen HMid.out.pb 0
          refine skip_ (w1 := w2.setCell ⟨gr, 0, none⟩ (.slice A2 (insAt L k ⟨i, ch, false⟩).length c2)) (by rfl) rfl (by go_simp) ?_
          refine hK.out _ _ ?_
          clear hK K hHeld kc kf
          refine done_ (by kernel_rfl) ?_
          -- put]
          have HM3 := Aside0.mk (HMid.out.set0 (.slice A2 (insAt L k ⟨i, ch, false⟩).length c2))
          clear HMid
          generalize w2.setCell ⟨gr, 0, none⟩ (.slice A2 (insAt L k ⟨i, ch, false⟩).length c2) = w3 at *
          go_upto_region 15 with fail
          -- [key
          refine start_ (n := 6) (S := SQ gr gm g D.toList) (ds := [5]) #[false, false, false, false, false, false] (by kernel_rfl) rfl rfl (by rw [← HD.out]; exact sq_of (HM3.out.step (pw_below_drewN (Below.refl w3.heap.size w3) 1))) (fun hHeld => ?_)
          have HM4 := Aside0.mk (HM3.out.step (pw_below_drewN (Below.refl w3.heap.size w3) 1))
          generalize hwd : w3.drewN 1 = wd at HM4
          rw [show w3.drew = wd from hwd] at hHeld ⊢
          clear HM3 hwd
          refine pure_ (i := 0) (N := some 85) (v := ?_) (a' := ?_) #[true, false, false, false, false, false] rfl rfl (by kernel_rfl) (fun _ _ _ h => h) (Or.inl ⟨by rfl, ?_⟩) ?_ ?_
          rotate_left
          · intro w'
            go_simp
            with_reducible rfl
          rotate_left
          · simp only [Act.put, List.setIfInBounds_toArray, List.set_cons_zero, List.set_cons_succ, i64_w, i32_w]
            rfl
          refine pure_ (i := 1) (N := some 86) (v := ?_) (a' := ?_) #[true, true, false, false, false, false] rfl rfl (by kernel_rfl) (fun _ _ _ h => h) (Or.inl ⟨by rfl, ?_⟩) ?_ ?_
          rotate_left
          · intro w'
            go_simp
            with_reducible rfl
          rotate_left
          · simp only [Act.put, List.setIfInBounds_toArray, List.set_cons_zero, List.set_cons_succ, i64_w, i32_w]
            rfl
          refine pure_ (i := 2) (N := some 87) (v := ?_) (a' := ?_) #[true, true, true, false, false, false] rfl rfl (by kernel_rfl) (fun _ _ _ h => h) (Or.inl ⟨by rfl, ?_⟩) ?_ ?_
          rotate_left
          · intro w'
            go_simp
            with_reducible rfl
          rotate_left
          · simp only [Act.put, List.setIfInBounds_toArray, List.set_cons_zero, List.set_cons_succ, i64_w, i32_w]
            rfl
          refine take_ (i := 3) (N := some 88) (v := ?_) (a' := ?_) #[true, true, true, true, false, false] rfl rfl (by kernel_rfl) (fun _ _ _ h => h) (Or.inl ⟨by rfl, ?_⟩) hHeld ?_ ?_
          rotate_left
          · rintro w' ⟨s1, s2⟩
            go_simp
            with_reducible rfl
          rotate_left
          · simp only [Act.put, List.setIfInBounds_toArray, List.set_cons_zero, List.set_cons_succ, i64_w, i32_w]
            rfl
          refine take_ (i := 4) (N := some 89) (v := .agg D) (a' := ?_) #[true, true, true, true, true, false] rfl rfl (by kernel_rfl) (fun _ _ _ h => h) (yieldsIf_load_mid (by rfl) 28 (.tmp 6) rfl (g + 1) 0 rfl D.toList _ (fun w' hS => hS.2) HUI.out rfl (by rw [Array.length_toList]; exact HSI.out)) hHeld ?_ ?_
          rotate_left
          · simp only [Act.put, List.setIfInBounds_toArray, List.set_cons_zero, List.set_cons_succ, i64_w, i32_w]
            rfl
          refine last_ (i := 5) (N := none) #[true, true, true, true, true, true] rfl rfl (by kernel_rfl) (by decide) (fun K hK => ?_)
          have hupd : (Instr.mapUpdate TM (.map (some gm)) (.agg D) (.bool true)).run Try.prog wd = .ok () (ChangeMaps.setBlock wd gm (.map (E 0 (M ++ [i])).toArray (M ++ [i]).length)) := by rw [← HD.out]; exact update_run HM4.out.mb HI.out HMO.out H3.out
          refine skip_ (w1 := ChangeMaps.setBlock wd gm (.map (E 0 (M ++ [i])).toArray (M ++ [i]).length)) (by rfl) rfl (by go_simp) ?_
          refine hK.out _ _ ?_
          clear hK K hHeld hupd
          refine done_ (by kernel_rfl) ?_
          -- key]
          have HM5 := Aside0.mk (HM4.out.setm (M ++ [i]))
          clear HM4
          generalize ChangeMaps.setBlock wd gm (.map (E 0 (M ++ [i])).toArray (M ++ [i]).length) = w5 at *
          have kc : w5.cell? ⟨gr, 2, none⟩ = some (.int .i64 (shown L)) := (blk_cell HM5.out.pb 2).trans rfl
          have kf : w5.frozen? ⟨gr, 2, none⟩ = false := blk_frozen HM5.out.pb 2
          have hws := wrap_shown HLL.out
          go_wp2_with fail
          go_ret
          have HM6 := HM5.out.set2 (shown L + 1)
          exact ⟨0, rfl, Or.inr ⟨rfl, H2.out, H3.out, H4.out, j, _, HST.out, by rw [HAD.out]; exact rw_mid HM6 HMO.out HSAM.out HI.out, HM6.kp, HAT.out⟩⟩
end
end Go.Proofs.Ytkcdlilglgfkaaa.Rg
