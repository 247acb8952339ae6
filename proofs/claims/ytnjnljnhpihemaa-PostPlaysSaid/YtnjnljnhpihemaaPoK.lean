/- Posts: the keys of the map, what is looked up. -/
import Derived.Test.YtnjnljnhpihemaaPAx0
import Derived.Maps.Keyed
import Derived.DeepKeys4
import Derived.LoopTactic
import Derived.WalkSpells
import Derived.Lib.Hide
set_option linter.unusedVariables false
set_option linter.unusedSimpArgs false
namespace Go.Proofs.Ytnjnljnhpihemaa.Po
open Go Go.RowKit Go.Proofs.YtnjnljnhpihemaaW.PrintWords Go.Proofs.YtnjnljnhpihemaaW.PrintLast Go.Proofs.YtnjnljnhpihemaaW.PrintMore Go.Proofs.Ytnjnljnhpihemaa.PA
def key (a b : Int) : Value := .agg #[.int .i64 a, .int .i64 b]
theorem laid_out : laidOutB Try.prog = true := by kernel_rfl
theorem keyed : Maps.Keyed Try.prog 53 := Maps.Keyed.of_law (deep_law_laid laid_out (m := 3) (by decide) (of_decide_eq_true (by kernel_rfl)) (by kernel_rfl) (by kernel_rfl))
def small (a : Int) : Prop := -1000 ≤ a ∧ a < 1000
theorem wf_small {a : Int} (h : small a) : (Lit.int .i64 a).wf = true := by
  obtain ⟨h1, h2⟩ := h
  simp [Lit.wf, IntKind.min, IntKind.max, IntKind.signed, IntKind.bits]
  omega
theorem lits_int (m : Nat) (x : Int) (hx : (Lit.int .i64 x).wf = true) : Try.prog.keyLits (m + 1) 3 [.int .i64 x] = some [.int .i64 x] := by
  have hi := Try.underlying3
  rw [Program.keyLits.eq_def]
  simp only
  rw [hi]
  simp only
  rw [if_pos ⟨trivial, hx⟩]
theorem lits_way (m : Nat) (a b : Int) (w1 : (Lit.int .i64 a).wf = true) (w2 : (Lit.int .i64 b).wf = true) : Try.prog.keyLits (m + 1 + 1) 53 [.int .i64 a, .int .i64 b] = some [.int .i64 a, .int .i64 b] := by
  have hu := Try.underlying53
  have h2 : Try.prog.cellsOf 53 = 2 := by kernel_rfl
  have h3 : Try.prog.cellsOf 3 = 1 := by kernel_rfl
  rw [Program.keyLits.eq_def]
  simp only
  rw [hu]
  simp only
  rw [if_pos ⟨by rw [h2]; rfl, by kernel_rfl⟩]
  simp only [List.mapM_cons, List.mapM_nil, h3, List.drop_zero, List.drop_succ_cons, List.take_succ_cons, List.take_zero, lits_int m a w1, lits_int m b w2]
  rfl
theorem key_of (a b : Int) (ha : small a) (hb : small b) : ∃ l, keyOf Try.prog 53 (key a b) = some l := by
  have hu := Try.underlying53
  have h1 : Try.prog.keyType 53 = true := by kernel_rfl
  have h2 : Try.prog.cellsOf 53 = 2 := by kernel_rfl
  have h4 : ∃ n, Try.prog.types.size = n + 1 := ⟨Try.prog.types.size - 1, by have : (0 : Nat) < Try.prog.types.size := of_decide_eq_true (by kernel_rfl); omega⟩
  obtain ⟨n, hn⟩ := h4
  have hf : (key a b).formed Try.prog 53 = true := by
    unfold key Value.formed
    simp only
    rw [hu]
    simp only
    rw [h2]
    rfl
  refine ⟨.string (keyBytes [.int .i64 a, .int .i64 b]), ?_⟩
  unfold keyOf
  rw [hu]
  simp only
  rw [h1, hf, if_pos (by rfl), hn]
  exact congrArg (Option.map fun ls => Lit.string (keyBytes ls)) (lits_way n a b (wf_small ha) (wf_small hb))
theorem key_inj {a b c d : Int} (h : key a b = key c d) : a = c ∧ b = d := by
  unfold key at h
  simp at h
  exact h
/-- The keys of a map are ways between few. -/
def Keys (es : List MapEntry) : Prop := ∀ e ∈ es, ∃ a b, small a ∧ small b ∧ e.key = key a b
theorem look_run (w : World) (gm : Nat) (es : Array MapEntry) (ck : Nat) (hm : w.heap[gm]? = some (.map es ck)) (hk : Keys es.toList) (a b : Int) (ha : small a) (hb : small b) :
    ((∀ e ∈ es.toList, e.key ≠ key a b) ∧ (Instr.lookup 49 (.map (some gm)) (key a b) false).run Try.prog w = .ok (.slice none 0 0) w) ∨
      ∃ (j : Nat) (e : MapEntry), es.toList[j]? = some e ∧ e.key = key a b ∧ (Instr.lookup 49 (.map (some gm)) (key a b) false).run Try.prog w = .ok e.val w := by
  obtain ⟨l, hl⟩ := key_of a b ha hb
  have hu := Try.underlying49
  have hc := keyed.check w es.isEmpty hl
  have hg := MapKept.run_getObj_map (P := Try.prog) hm
  rcases keyed.find w hl es.toList (fun e he => by obtain ⟨c, d, hc, hd, h⟩ := hk e he; rw [h]; exact key_of c d hc hd) with ⟨h1, h2⟩ | ⟨j, e, h1, h2, h3⟩
  · refine Or.inl ⟨h2, ?_⟩
    unfold Instr.lookup
    simp [Sem.run_bind, run_underlying hu w, hg, hc, h1]
  · refine Or.inr ⟨j, e, h2, h3, ?_⟩
    unfold Instr.lookup
    simp [Sem.run_bind, run_underlying hu w, hg, hc, h1]
/-- The entries of a map from which nothing was taken: each is stamped by its place. -/
def E : Nat → List (Int × Int × Value) → List MapEntry
  | _, [] => []
  | n, (a, b, v) :: r => ⟨key a b, v, n⟩ :: E (n + 1) r
theorem E_len : ∀ (n : Nat) (L : List (Int × Int × Value)), (E n L).length = L.length
  | _, [] => rfl
  | n, _ :: r => by rw [E, List.length_cons, List.length_cons, E_len (n + 1) r]
theorem E_get : ∀ (n : Nat) (L : List (Int × Int × Value)) (j : Nat), (E n L)[j]? = (L[j]?).map fun x => ⟨key x.1 x.2.1, x.2.2, n + j⟩
  | _, [], j => by simp [E]
  | n, (a, b, v) :: r, 0 => by simp [E]
  | n, (a, b, v) :: r, j + 1 => by
    rw [E, List.getElem?_cons_succ, List.getElem?_cons_succ, E_get (n + 1) r j]
    simp only [Nat.add_assoc, Nat.add_comm 1 j]
theorem E_push (L : List (Int × Int × Value)) (x : Int × Int × Value) : (E 0 L).toArray.push ⟨key x.1 x.2.1, x.2.2, L.length⟩ = (E 0 (L ++ [x])).toArray := by
  apply Array.ext_getElem?
  intro i
  rw [Array.getElem?_push, List.getElem?_toArray, List.getElem?_toArray, E_get, E_get, List.size_toArray, E_len]
  by_cases h : i = L.length
  · subst h; simp
  · rw [if_neg h]
    rcases Nat.lt_or_gt_of_ne h with h | h
    · rw [List.getElem?_append_left h]
    · rw [List.getElem?_eq_none (by omega), List.getElem?_eq_none (by simp; omega)]
theorem E_val (L : List (Int × Int × Value)) (j : Nat) (a b : Int) (v v' : Value) (h : L[j]? = some (a, b, v)) : ((E 0 L).toArray.modify j fun e => { e with val := v' }) = (E 0 (L.set j (a, b, v'))).toArray := by
  apply Array.ext_getElem?
  intro i
  rw [Array.getElem?_modify, List.getElem?_toArray, List.getElem?_toArray, E_get, E_get, List.getElem?_set]
  by_cases hi : j = i
  · subst hi
    obtain ⟨hl, hv⟩ := List.getElem?_eq_some_iff.1 h
    simp [hl, hv]
  · simp [hi]
theorem E_key (L : List (Int × Int × Value)) (j : Nat) (a b : Int) (v : Value) (h : L[j]? = some (a, b, v)) : ((E 0 L).toArray.modify j fun e => { e with key := key a b }) = (E 0 L).toArray := by
  apply Array.ext_getElem?
  intro i
  rw [Array.getElem?_modify, List.getElem?_toArray, E_get]
  by_cases hi : j = i
  · subst hi
    simp [h]
  · simp [hi]
theorem E_upd (L : List (Int × Int × Value)) (j : Nat) (a b : Int) (v v' : Value) (h : L[j]? = some (a, b, v)) : ((E 0 L).toArray.modify j fun e => { e with key := key a b, val := v' }) = (E 0 (L.set j (a, b, v'))).toArray := by
  apply Array.ext_getElem?
  intro i
  rw [Array.getElem?_modify, List.getElem?_toArray, List.getElem?_toArray, E_get, E_get, List.getElem?_set]
  by_cases hi : j = i
  · subst hi
    obtain ⟨hl, hv⟩ := List.getElem?_eq_some_iff.1 h
    simp [hl, hv]
  · simp [hi]
theorem E_stamp (L : List (Int × Int × Value)) (j : Nat) (hj : j < L.length) : (E 0 L).toArray.findIdx? (fun e => ((e.born : Nat) : Int) == (j : Int)) = some j := by
  rw [List.findIdx?_toArray, List.findIdx?_eq_some_iff_getElem]
  have hl : j < (E 0 L).length := by rw [E_len]; exact hj
  have hg : ∀ (i : Nat) (hi : i < (E 0 L).length), ((E 0 L)[i]).born = i := fun i hi => by
    have h1 := E_get 0 L i
    rw [List.getElem?_eq_getElem hi, List.getElem?_eq_getElem (by rw [E_len] at hi; exact hi)] at h1
    have h2 := Option.some.inj h1
    rw [h2]
    simp
  refine ⟨hl, by rw [hg j hl]; exact beq_self_eq_true _, fun i hi => ?_⟩
  rw [hg i (by omega)]
  simp
  omega
theorem E_keys (L : List (Int × Int × Value)) (h : ∀ x ∈ L, small x.1 ∧ small x.2.1) : Keys (E 0 L).toArray.toList := by
  intro e he
  obtain ⟨j, hj⟩ := List.getElem?_of_mem he
  rw [E_get] at hj
  obtain ⟨x, hx, rfl⟩ := Option.map_eq_some_iff.1 hj
  exact ⟨x.1, x.2.1, (h x (List.mem_of_getElem? hx)).1, (h x (List.mem_of_getElem? hx)).2, rfl⟩
abbrev TM : TypeId := 49
abbrev mapW (w : World) (gm : Nat) (L : List (Int × Int × Value)) : World := ChangeMaps.setBlock w gm (.map (E 0 L).toArray L.length)
def Smalls (L : List (Int × Int × Value)) : Prop := ∀ x ∈ L, small x.1 ∧ small x.2.1
/-- Where a way is, if it is there. -/
theorem at_key (L : List (Int × Int × Value)) (w : World) (a b : Int) (ha : small a) (hb : small b) (hL : Smalls L) :
    ((∀ x ∈ L, ¬ (x.1 = a ∧ x.2.1 = b)) ∧ (Instr.findKey 53 (key a b) (E 0 L)).run Try.prog w = .ok none w) ∨
      ∃ (j : Nat) (v : Value), L[j]? = some (a, b, v) ∧ (Instr.findKey 53 (key a b) (E 0 L)).run Try.prog w = .ok (some (j, v)) w := by
  obtain ⟨l, hl⟩ := key_of a b ha hb
  rcases keyed.find w hl (E 0 L) (fun e he => by obtain ⟨c, d, hc, hd, h⟩ := E_keys L hL e he; rw [h]; exact key_of c d hc hd) with ⟨h1, h2⟩ | ⟨j, e, h1, h2, h3⟩
  · refine Or.inl ⟨fun x hx h => ?_, h1⟩
    obtain ⟨j, hj⟩ := List.getElem?_of_mem hx
    have hE := E_get 0 L j
    rw [hj] at hE
    exact h2 _ (List.mem_of_getElem? hE) (by show key x.1 x.2.1 = key a b; rw [h.1, h.2])
  · rw [E_get] at h2
    obtain ⟨x, hx, rfl⟩ := Option.map_eq_some_iff.1 h2
    obtain ⟨e1, e2⟩ := key_inj h3
    refine Or.inr ⟨j, x.2.2, ?_, h1⟩
    rw [hx, ← e1, ← e2]
theorem check_run (w : World) (em : Bool) (a b : Int) (ha : small a) (hb : small b) : (Instr.checkKey em 10000 53 (key a b)).run Try.prog w = .ok () w := by
  obtain ⟨l, hl⟩ := key_of a b ha hb
  exact keyed.check w em hl
theorem stays_run (w : World) (a b : Int) (ha : small a) (hb : small b) : (Instr.keyThatStays (key a b) (key a b)).run Try.prog w = .ok (key a b) w := by
  obtain ⟨l, hl⟩ := key_of a b ha hb
  exact keyed.stays w hl
theorem zero_row (w : World) : (zeroValue 22).run Try.prog w = .ok (.slice none 0 0) w := by
  have hi : (Try.prog.info? 22).map (·.zero) = some (some (.slice none 0 0)) := by kernel_rfl
  obtain ⟨i, h1, h2⟩ := Option.map_eq_some_iff.1 hi
  simp [zeroValue, typeInfo, h1, h2]
section
variable {w : World} {gm : Nat} {L : List (Int × Int × Value)} {a b : Int}
theorem lookup_none (hm : w.heap[gm]? = some (.map (E 0 L).toArray L.length)) (ha : small a) (hb : small b) (hf : (Instr.findKey 53 (key a b) (E 0 L)).run Try.prog w = .ok none w) :
    (Instr.lookup TM (.map (some gm)) (key a b) false).run Try.prog w = .ok (.slice none 0 0) w := by
  have hu := Try.underlying49
  have hg := MapKept.run_getObj_map (P := Try.prog) hm
  have hc := check_run w (E 0 L).isEmpty a b ha hb
  unfold Instr.lookup
  simp [Sem.run_bind, run_underlying hu w, hg, hc, hf, zero_row]
theorem lookup_some {j : Nat} {v : Value} (hm : w.heap[gm]? = some (.map (E 0 L).toArray L.length)) (ha : small a) (hb : small b) (hf : (Instr.findKey 53 (key a b) (E 0 L)).run Try.prog w = .ok (some (j, v)) w) :
    (Instr.lookup TM (.map (some gm)) (key a b) false).run Try.prog w = .ok v w := by
  have hu := Try.underlying49
  have hg := MapKept.run_getObj_map (P := Try.prog) hm
  have hc := check_run w (E 0 L).isEmpty a b ha hb
  unfold Instr.lookup
  simp [Sem.run_bind, run_underlying hu w, hg, hc, hf]
theorem entry_none (hm : w.heap[gm]? = some (.map (E 0 L).toArray L.length)) (ha : small a) (hb : small b) (hf : (Instr.findKey 53 (key a b) (E 0 L)).run Try.prog w = .ok none w) :
    (Instr.mapEntry TM (.map (some gm)) (key a b)).run Try.prog w = .ok (.tuple #[.slice none 0 0, .int .i64 (L.length : Int)]) (mapW w gm (L ++ [(a, b, .slice none 0 0)])) := by
  have hu := Try.underlying49
  have hg := MapKept.run_getObj_map (P := Try.prog) hm
  have hc := check_run w false a b ha hb
  have hp := E_push L (a, b, .slice none 0 0)
  have hs := MapKept.run_setObj_map (P := Try.prog) (.map ((E 0 L).toArray.push ⟨key a b, .slice none 0 0, L.length⟩) (L.length + 1)) hm
  simp only at hp
  rw [hp] at hs
  have hp2 : E 0 L ++ [⟨key a b, .slice none 0 0, L.length⟩] = E 0 (L ++ [(a, b, .slice none 0 0)]) := by simpa using hp
  unfold Instr.mapEntry
  simp [Sem.run_bind, run_underlying hu w, hg, hc, hf, zero_row, hp2, hs, goInt, ChangeMaps.setBlock]
theorem entry_some {j : Nat} {v : Value} (hm : w.heap[gm]? = some (.map (E 0 L).toArray L.length)) (ha : small a) (hb : small b) (hj : L[j]? = some (a, b, v)) (hf : (Instr.findKey 53 (key a b) (E 0 L)).run Try.prog w = .ok (some (j, v)) w) :
    (Instr.mapEntry TM (.map (some gm)) (key a b)).run Try.prog w = .ok (.tuple #[v, .int .i64 (j : Int)]) (mapW w gm L) := by
  have hu := Try.underlying49
  have hg := MapKept.run_getObj_map (P := Try.prog) hm
  have hc := check_run w false a b ha hb
  have hst := stays_run w a b ha hb
  have hE : (E 0 L)[j]? = some ⟨key a b, v, j⟩ := by rw [E_get, hj]; simp
  have hs := MapKept.run_setObj_map (P := Try.prog) (.map ((E 0 L).toArray.modify j fun e => { e with key := key a b }) L.length) hm
  rw [E_key L j a b v hj] at hs
  have hk : ((E 0 L).modify j fun e => { e with key := key a b }) = E 0 L := by simpa using E_key L j a b v hj
  unfold Instr.mapEntry
  simp [Sem.run_bind, run_underlying hu w, hg, hc, hf, hE, hst, hk, hs, goInt, ChangeMaps.setBlock]
theorem store_run {j : Nat} {v v' : Value} (hm : w.heap[gm]? = some (.map (E 0 L).toArray L.length)) (hj : L[j]? = some (a, b, v)) :
    (Instr.entryStore TM (.map (some gm)) (.int .i64 (j : Int)) v').run Try.prog w = .ok () (mapW w gm (L.set j (a, b, v'))) := by
  have hg := MapKept.run_getObj_map (P := Try.prog) hm
  have hl : j < L.length := (List.getElem?_eq_some_iff.1 hj).1
  have hst := E_stamp L j hl
  have hv := E_val L j a b v v' hj
  have hs := MapKept.run_setObj_map (P := Try.prog) (.map ((E 0 L).toArray.modify j fun e => { e with val := v' }) L.length) hm
  rw [hv] at hs
  have hv2 : ((E 0 L).modify j fun e => { e with val := v' }) = E 0 (L.set j (a, b, v')) := by simpa using hv
  have hst2 : (E 0 L).findIdx? (fun e => ((e.born : Nat) : Int) == (j : Int)) = some j := by simpa using hst
  unfold Instr.entryStore
  simp [Sem.run_bind, hg, asInt, asIntOf, hst2, hv2, hs, ChangeMaps.setBlock]
theorem update_run {j : Nat} {v v' : Value} (hm : w.heap[gm]? = some (.map (E 0 L).toArray L.length)) (ha : small a) (hb : small b) (hj : L[j]? = some (a, b, v)) (hf : (Instr.findKey 53 (key a b) (E 0 L)).run Try.prog w = .ok (some (j, v)) w) :
    (Instr.mapUpdate TM (.map (some gm)) (key a b) v').run Try.prog w = .ok () (mapW w gm (L.set j (a, b, v'))) := by
  have hu := Try.underlying49
  have hg := MapKept.run_getObj_map (P := Try.prog) hm
  have hc := check_run w false a b ha hb
  have hst := stays_run w a b ha hb
  have hE : (E 0 L)[j]? = some ⟨key a b, v, j⟩ := by rw [E_get, hj]; simp
  have hs := MapKept.run_setObj_map (P := Try.prog) (.map ((E 0 L).toArray.modify j fun e => { e with key := key a b, val := v' }) L.length) hm
  have hk := E_upd L j a b v v' hj
  rw [hk] at hs
  have hk2 : ((E 0 L).modify j fun e => { e with key := key a b, val := v' }) = E 0 (L.set j (a, b, v')) := by simpa using hk
  unfold Instr.mapUpdate
  simp [Sem.run_bind, run_underlying hu w, hg, hc, hf, hE, hst, hk2, hs, ChangeMaps.setBlock]
end
end Go.Proofs.Ytnjnljnhpihemaa.Po
