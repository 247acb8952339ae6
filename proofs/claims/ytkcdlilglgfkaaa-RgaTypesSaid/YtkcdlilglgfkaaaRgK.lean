/- Rows of cells: ids as keys of the map. -/
import Derived.Test.YtkcdlilglgfkaaaRgL
import Derived.Maps.Keyed
import Derived.DeepKeys4
set_option linter.unusedVariables false
set_option linter.unusedSimpArgs false
namespace Go.Proofs.Ytkcdlilglgfkaaa.Rg
open Go Go.RowKit Go.Proofs.YtkcdlilglgfkaaaW.PrintWords Go.Proofs.YtkcdlilglgfkaaaW.PrintLast Go.Proofs.YtkcdlilglgfkaaaW.PrintMore Go.Proofs.Ytkcdlilglgfkaaa.PA Go.Proofs.Ytkcdlilglgfkaaa.Ar Go.Proofs.Ytkcdlilglgfkaaa.Sha
/-- An id: its number, and by whom. -/
abbrev Idt := Int × List Int
def iv (x : Idt) : List Value := .int .i64 x.1 :: nums .u8 x.2
def okI (x : Idt) : Prop := (Lit.int .i64 x.1).wf = true ∧ x.2.length = 32 ∧ ∀ y ∈ x.2, 0 ≤ y ∧ y < 256
theorem nums_len (k : IntKind) (l : List Int) : (nums k l).length = l.length := by simp [nums]
theorem iv_len {x : Idt} (h : x.2.length = 32) : (iv x).length = 33 := by simp [iv, nums_len, h]
theorem iv_one (x : Idt) : ∀ u ∈ iv x, u.oneCell' = true := by
  intro u hu
  rcases List.mem_cons.1 hu with rfl | hu
  · rfl
  · simp [nums] at hu
    obtain ⟨a, _, rfl⟩ := hu
    rfl
theorem iv_inj {x y : Idt} (h : iv x = iv y) : x = y := by
  unfold iv at h
  simp only [List.cons.injEq, Value.int.injEq, true_and] at h
  have h2 : ns .u8 x.2 = ns .u8 y.2 := by
    have := congrArg List.toArray h.2
    rwa [← ns_toList, ← ns_toList, Array.toArray_toList, Array.toArray_toList] at this
  exact Prod.ext h.1 (ns_inj h2)
def key (x : Idt) : Value := .agg (iv x).toArray
theorem key_inj {x y : Idt} (h : key x = key y) : x = y := by
  unfold key at h
  injection h with h
  exact iv_inj (by simpa using h)
theorem laid_out : laidOutB Try.prog = true := by kernel_rfl
theorem keyed : Maps.Keyed Try.prog 28 := Maps.Keyed.of_law (deep_law_laid laid_out (m := 4) (by decide) (of_decide_eq_true (by kernel_rfl)) (by kernel_rfl) (by kernel_rfl))
theorem lits_int (m : Nat) (x : Int) (hx : (Lit.int .i64 x).wf = true) : Try.prog.keyLits (m + 1) 3 [.int .i64 x] = some [.int .i64 x] := by
  have hi := Try.underlying3
  rw [Program.keyLits.eq_def]
  simp only
  rw [hi]
  simp only
  rw [if_pos ⟨trivial, hx⟩]
theorem wf_byte {x : Int} (h : 0 ≤ x ∧ x < 256) : (Lit.int .u8 x).wf = true := by
  obtain ⟨h1, h2⟩ := h
  simp [Lit.wf, IntKind.min, IntKind.max, IntKind.signed, IntKind.bits]
  omega
theorem lits_byte (m : Nat) (x : Int) (hx : 0 ≤ x ∧ x < 256) : Try.prog.keyLits (m + 1) 5 [.int .u8 x] = some [.int .u8 x] := by
  have hi := Try.underlying5
  rw [Program.keyLits.eq_def]
  simp only
  rw [hi]
  simp only
  rw [if_pos ⟨trivial, wf_byte hx⟩]
theorem mapM_all {α β : Type} (f : α → Option β) (g : α → β) : ∀ l : List α, (∀ x ∈ l, f x = some (g x)) → l.mapM f = some (l.map g)
  | [], _ => rfl
  | x :: r, h => by
    rw [List.mapM_cons, h x (by simp), mapM_all f g r (fun y hy => h y (by simp [hy]))]
    rfl
theorem nums_at (b : List Int) (i : Nat) (h : i < b.length) : ((nums .u8 b).drop i).take 1 = [.int .u8 b[i]] := by
  rw [List.drop_eq_getElem_cons (by rw [nums_len]; exact h), List.take_succ_cons, List.take_zero]
  simp [nums]
theorem lits_hash (m : Nat) (b : List Int) (hl : b.length = 32) (hb : ∀ y ∈ b, 0 ≤ y ∧ y < 256) : ∃ l, Try.prog.keyLits (m + 1 + 1) 23 (nums .u8 b) = some l := by
  have hu := Try.underlying23
  have h2 : Try.prog.cellsOf 23 = 32 := by kernel_rfl
  have h3 : Try.prog.cellsOf 5 = 1 := by kernel_rfl
  have hm := mapM_all (fun i => Try.prog.keyLits (m + 1) 5 (((nums .u8 b).drop (i * 1)).take 1)) (fun i => [Lit.int .u8 (b.getD i 0)]) (List.range 32) (fun i hi => by
    have hlt : i < b.length := by have := List.mem_range.1 hi; omega
    simp only [Nat.mul_one]
    rw [nums_at b i hlt, lits_byte m _ (hb _ (List.getElem_mem hlt))]
    simp [List.getD_eq_getElem?_getD, hlt])
  rw [Program.keyLits.eq_def]
  simp only
  rw [hu]
  simp only
  rw [if_pos (by rw [h2, nums_len]; exact hl), h3, hm]
  exact ⟨_, rfl⟩
theorem lits_id (m : Nat) (x : Idt) (h : okI x) : ∃ l, Try.prog.keyLits (m + 1 + 1 + 1) 28 (iv x) = some l := by
  obtain ⟨h0, hl, hb⟩ := h
  obtain ⟨l, hl2⟩ := lits_hash m x.2 hl hb
  have hu := Try.underlying28
  have h2 : Try.prog.cellsOf 28 = 33 := by kernel_rfl
  have h3 : Try.prog.cellsOf 3 = 1 := by kernel_rfl
  have h4 : Try.prog.cellsOf 23 = 32 := by kernel_rfl
  have e1 : ((iv x).drop 0).take 1 = [.int .i64 x.1] := rfl
  have e2 : ((iv x).drop 1).take 32 = nums .u8 x.2 := by
    show (nums .u8 x.2).take 32 = _
    rw [List.take_of_length_le (by rw [nums_len]; omega)]
  rw [Program.keyLits.eq_def]
  simp only
  rw [hu]
  simp only
  rw [if_pos ⟨by rw [h2, iv_len hl], by kernel_rfl⟩]
  simp only [List.mapM_cons, List.mapM_nil, h3, h4, e1, e2, lits_int (m + 1) x.1 h0, hl2]
  exact ⟨_, rfl⟩
theorem key_of (x : Idt) (h : okI x) : ∃ l, keyOf Try.prog 28 (key x) = some l := by
  have hu := Try.underlying28
  have h1 : Try.prog.keyType 28 = true := by kernel_rfl
  have h2 : Try.prog.cellsOf 28 = 33 := by kernel_rfl
  obtain ⟨n, hn⟩ : ∃ n, Try.prog.types.size = n + 1 + 1 := ⟨Try.prog.types.size - 2, by have : (1 : Nat) < Try.prog.types.size := of_decide_eq_true (by kernel_rfl); omega⟩
  have hf : (key x).formed Try.prog 28 = true := by
    unfold key Value.formed
    simp only
    rw [hu]
    simp only
    rw [h2]
    simpa [iv, nums] using h.2.1
  obtain ⟨l, hl⟩ := lits_id n x h
  refine ⟨.string (keyBytes l), ?_⟩
  unfold keyOf
  rw [hu]
  simp only
  rw [h1, hf, if_pos (by rfl), hn]
  have e : (key x).cells.toList = iv x := rfl
  rw [e, hl]
  rfl
/-- The entries of a map of ids, each stamped by its place. -/
def E : Nat → List Idt → List MapEntry
  | _, [] => []
  | n, x :: r => ⟨key x, .bool true, n⟩ :: E (n + 1) r
theorem E_get : ∀ (n : Nat) (L : List Idt) (j : Nat), (E n L)[j]? = (L[j]?).map fun x => ⟨key x, .bool true, n + j⟩
  | n, [], j => by simp [E]
  | n, x :: r, 0 => by simp [E]
  | n, x :: r, j + 1 => by
    rw [E, List.getElem?_cons_succ, List.getElem?_cons_succ, E_get (n + 1) r j]
    cases r[j]? with
    | none => rfl
    | some x => simp; omega
theorem E_len : ∀ (n : Nat) (L : List Idt), (E n L).length = L.length
  | _, [] => rfl
  | n, x :: r => by rw [E, List.length_cons, List.length_cons, E_len (n + 1) r]
theorem E_app : ∀ (n : Nat) (L : List Idt) (x : Idt), E n (L ++ [x]) = E n L ++ [⟨key x, .bool true, n + L.length⟩]
  | n, [], x => rfl
  | n, y :: r, x => by
    rw [List.cons_append, E, E, E_app (n + 1) r x, List.cons_append, List.length_cons, Nat.add_right_comm, Nat.add_assoc]
def Oks (L : List Idt) : Prop := ∀ x ∈ L, okI x
abbrev TM : TypeId := 76
theorem find (L : List Idt) (w : World) (x : Idt) (hx : okI x) (hL : Oks L) :
    (x ∉ L ∧ (Instr.findKey 28 (key x) (E 0 L)).run Try.prog w = .ok none w) ∨
      (x ∈ L ∧ ∃ j : Nat, L[j]? = some x ∧ (Instr.findKey 28 (key x) (E 0 L)).run Try.prog w = .ok (some (j, .bool true)) w) := by
  obtain ⟨l, hl⟩ := key_of x hx
  rcases keyed.find w hl (E 0 L) (fun e he => by
    obtain ⟨j, hj⟩ := List.getElem?_of_mem he
    rw [E_get] at hj
    obtain ⟨y, hy, rfl⟩ := Option.map_eq_some_iff.1 hj
    exact key_of y (hL y (List.mem_of_getElem? hy))) with ⟨h1, h2⟩ | ⟨j, e, h1, h2, h3⟩
  · refine Or.inl ⟨fun hm => ?_, h1⟩
    obtain ⟨j, hj⟩ := List.getElem?_of_mem hm
    have hE := E_get 0 L j
    rw [hj] at hE
    exact h2 _ (List.mem_of_getElem? hE) rfl
  · rw [E_get] at h2
    obtain ⟨y, hy, rfl⟩ := Option.map_eq_some_iff.1 h2
    obtain rfl := key_inj h3
    exact Or.inr ⟨List.mem_of_getElem? hy, j, hy, h1⟩
theorem check_run (w : World) (em : Bool) (x : Idt) (hx : okI x) : (Instr.checkKey em 10000 28 (key x)).run Try.prog w = .ok () w := by
  obtain ⟨l, hl⟩ := key_of x hx
  exact keyed.check w em hl
theorem zero_bool (w : World) : (zeroValue 4).run Try.prog w = .ok (.bool false) w := by
  have hi : (Try.prog.info? 4).map (·.zero) = some (some (.bool false)) := by kernel_rfl
  obtain ⟨i, h1, h2⟩ := Option.map_eq_some_iff.1 hi
  simp [zeroValue, typeInfo, h1, h2]
section
variable {w : World} {gm : Nat} {L : List Idt} {x : Idt}
theorem lookup_run (hm : w.heap[gm]? = some (.map (E 0 L).toArray L.length)) (hx : okI x) (hL : Oks L) :
    (Instr.lookup TM (.map (some gm)) (key x) false).run Try.prog w = .ok (.bool (decide (x ∈ L))) w := by
  have hu := Try.underlying76
  have hg := MapKept.run_getObj_map (P := Try.prog) hm
  have hc := check_run w (E 0 L).isEmpty x hx
  rcases find L w x hx hL with ⟨h1, hf⟩ | ⟨h1, j, _, hf⟩
  · rw [decide_eq_false h1]
    unfold Instr.lookup
    simp [Sem.run_bind, run_underlying hu w, hg, hc, hf, zero_bool]
  · rw [decide_eq_true h1]
    unfold Instr.lookup
    simp [Sem.run_bind, run_underlying hu w, hg, hc, hf]
theorem update_run (hm : w.heap[gm]? = some (.map (E 0 L).toArray L.length)) (hx : okI x) (hL : Oks L) (hn : x ∉ L) :
    (Instr.mapUpdate TM (.map (some gm)) (key x) (.bool true)).run Try.prog w = .ok () (ChangeMaps.setBlock w gm (.map (E 0 (L ++ [x])).toArray (L ++ [x]).length)) := by
  have hu := Try.underlying76
  have hg := MapKept.run_getObj_map (P := Try.prog) hm
  have hc := check_run w false x hx
  rcases find L w x hx hL with ⟨h1, hf⟩ | ⟨h1, _⟩
  · have hs := MapKept.run_setObj_map (P := Try.prog) (.map ((E 0 L).toArray.push ⟨key x, .bool true, L.length⟩) (L.length + 1)) hm
    have hp := E_app 0 L x
    rw [Nat.zero_add] at hp
    rw [List.push_toArray] at hs
    unfold Instr.mapUpdate
    simp [Sem.run_bind, run_underlying hu w, hg, hc, hf, hs, hp, ChangeMaps.setBlock]
  · exact absurd h1 hn
end
end Go.Proofs.Ytkcdlilglgfkaaa.Rg
