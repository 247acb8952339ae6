/- Own texts of this claim. -/
import Derived.Maps.Keyed
import Derived.DeepKeys4
import Derived.Test.YtpnnjefhchppfaaCg25
import Derived.Test.YtpnnjefhchppfaaCg26
import Derived.Test.YtpnnjefhchppfaaCg31
set_option linter.unusedVariables false
set_option linter.unusedSimpArgs false
namespace Go.Proofs.Ytpnnjefhchppfaa.Op
open Go Go.RowKit Go.Proofs.YtpnnjefhchppfaaW.PrintWords Go.Proofs.YtpnnjefhchppfaaW.PrintLast Go.Proofs.YtpnnjefhchppfaaW.PrintMore Go.Proofs.Ytpnnjefhchppfaa.PA
abbrev TN : TypeId := 43
theorem keyed : Maps.Keyed Try.prog 9 := Maps.string_keyed Try.underlying9
def shortN (s : ByteArray) : Prop := s.size ≤ 32
theorem key_of (s : ByteArray) (h : shortN s) : ∃ l, keyOf Try.prog 9 (.string s) = some l := by
  have hu := Try.underlying9
  unfold keyOf
  rw [hu]
  unfold shortN at h
  simp [mapKey, hu]
  simp only [maxLen]
  omega
def E : Nat → List ByteArray → List MapEntry
  | _, [] => []
  | n, x :: r => ⟨.string x, .int .i64 (n : Int), n⟩ :: E (n + 1) r
theorem E_get : ∀ (n : Nat) (L : List ByteArray) (j : Nat), (E n L)[j]? = (L[j]?).map fun x => ⟨.string x, .int .i64 ((n + j : Nat) : Int), n + j⟩
  | n, [], j => by simp [E]
  | n, x :: r, 0 => by simp [E]
  | n, x :: r, j + 1 => by
    rw [E, List.getElem?_cons_succ, List.getElem?_cons_succ, E_get (n + 1) r j, show n + 1 + j = n + (j + 1) by omega]
theorem E_len : ∀ (n : Nat) (L : List ByteArray), (E n L).length = L.length
  | _, [] => rfl
  | n, x :: r => by rw [E, List.length_cons, List.length_cons, E_len (n + 1) r]
theorem E_app : ∀ (n : Nat) (L : List ByteArray) (x : ByteArray), E n (L ++ [x]) = E n L ++ [⟨.string x, .int .i64 ((n + L.length : Nat) : Int), n + L.length⟩]
  | n, [], x => rfl
  | n, y :: r, x => by
    rw [List.cons_append, E, E, E_app (n + 1) r x, List.cons_append, List.length_cons, show n + 1 + r.length = n + (r.length + 1) by omega]
def Oks (L : List ByteArray) : Prop := ∀ x ∈ L, shortN x
def idx : List ByteArray → ByteArray → Nat
  | [], _ => 0
  | y :: r, x => if y = x then 0 else idx r x + 1
theorem idx_le : ∀ (L : List ByteArray) (x : ByteArray), idx L x ≤ L.length
  | [], _ => Nat.le_refl _
  | y :: r, x => by
    rw [idx]
    split
    · simp
    · have := idx_le r x
      simp; omega
theorem idx_mem : ∀ (L : List ByteArray) (x : ByteArray), x ∈ L → L[idx L x]? = some x
  | [], x, h => by simp at h
  | y :: r, x, h => by
    rw [idx]
    by_cases e : y = x
    · rw [if_pos e, e]; rfl
    · rw [if_neg e, List.getElem?_cons_succ]
      rcases List.mem_cons.1 h with h | h
      · exact absurd h.symm e
      · exact idx_mem r x h
theorem idx_not : ∀ (L : List ByteArray) (x : ByteArray), x ∉ L → idx L x = L.length
  | [], x, _ => rfl
  | y :: r, x, h => by
    rw [idx, if_neg (fun e => h (by rw [e]; simp)), idx_not r x (fun hm => h (by simp [hm]))]
    rfl
theorem idx_lt (L : List ByteArray) (x : ByteArray) (h : x ∈ L) : idx L x < L.length := (List.getElem?_eq_some_iff.1 (idx_mem L x h)).1
theorem idx_app : ∀ (L M : List ByteArray) (x : ByteArray), x ∈ L → idx (L ++ M) x = idx L x
  | [], M, x, h => by simp at h
  | y :: r, M, x, h => by
    rw [List.cons_append, idx, idx]
    by_cases e : y = x
    · rw [if_pos e, if_pos e]
    · rw [if_neg e, if_neg e]
      rcases List.mem_cons.1 h with h | h
      · exact absurd h.symm e
      · rw [idx_app r M x h]
theorem idx_of : ∀ (L : List ByteArray), L.Nodup → ∀ (j : Nat) (x : ByteArray), L[j]? = some x → idx L x = j
  | [], _, j, x, h => by simp at h
  | y :: r, hn, 0, x, h => by
    rw [List.getElem?_cons_zero] at h
    rw [idx, if_pos (Option.some.inj h)]
  | y :: r, hn, j + 1, x, h => by
    rw [List.getElem?_cons_succ] at h
    have h1 := List.nodup_cons.1 hn
    rw [idx, if_neg (fun e => h1.1 (by rw [e]; exact List.mem_of_getElem? h)), idx_of r h1.2 j x h]
theorem find (L : List ByteArray) (w : World) (x : ByteArray) (hx : shortN x) (hL : Oks L) (hn : L.Nodup) :
    (x ∉ L ∧ (Instr.findKey 9 (.string x) (E 0 L)).run Try.prog w = .ok none w) ∨
      (x ∈ L ∧ (Instr.findKey 9 (.string x) (E 0 L)).run Try.prog w = .ok (some (idx L x, .int .i64 (idx L x : Int))) w) := by
  obtain ⟨l, hl⟩ := key_of x hx
  rcases keyed.find w hl (E 0 L) (fun e he => by
    obtain ⟨j, hj⟩ := List.getElem?_of_mem he
    rw [E_get] at hj
    obtain ⟨y, hy, rfl⟩ := Option.map_eq_some_iff.1 hj
    exact key_of y (hL y (List.mem_of_getElem? hy))) with ⟨h1, h2⟩ | ⟨j, e, h1, h2, h3⟩
  · refine Or.inl ⟨fun hm => ?_, h1⟩
    obtain ⟨j, hj⟩ := List.getElem?_of_mem hm
    have hE := E_get 0 L j
    rw [hj] at hE
    exact h2 _ (List.mem_of_getElem? hE) rfl
  · rw [E_get] at h2
    obtain ⟨y, hy, rfl⟩ := Option.map_eq_some_iff.1 h2
    have h4 : y = x := by injection h3
    subst h4
    have h5 := idx_of L hn j y hy
    simp only [Nat.zero_add] at h1
    rw [h5]
    exact Or.inr ⟨List.mem_of_getElem? hy, h1⟩
theorem check_run (w : World) (em : Bool) (x : ByteArray) (hx : shortN x) : (Instr.checkKey em 10000 9 (.string x)).run Try.prog w = .ok () w := by
  obtain ⟨l, hl⟩ := key_of x hx
  exact keyed.check w em hl
theorem zero_int (w : World) : (zeroValue 3).run Try.prog w = .ok (.int .i64 0) w := by
  have hi : (Try.prog.info? 3).map (·.zero) = some (some (.int .i64 0)) := by kernel_rfl
  obtain ⟨i, h1, h2⟩ := Option.map_eq_some_iff.1 hi
  simp [zeroValue, typeInfo, h1, h2]
theorem set_same {w : World} {g : Nat} {o o' : Obj} (h : w.heap[g]? = some o') : (ChangeMaps.setBlock w g o).heap[g]? = some o := by
  have hl : g < w.heap.size := (Array.getElem?_eq_some_iff.1 h).1
  show (w.heap.setIfInBounds g o)[g]? = some o
  simp [hl]
theorem set_other {w : World} {g k : Nat} {o : Obj} (hk : k ≠ g) : (ChangeMaps.setBlock w g o).heap[k]? = w.heap[k]? := by
  show (w.heap.setIfInBounds g o)[k]? = w.heap[k]?
  rw [Array.getElem?_setIfInBounds]
  simp [hk.symm]
theorem set_size {w : World} {g : Nat} {o : Obj} : (ChangeMaps.setBlock w g o).heap.size = w.heap.size := by
  show (w.heap.setIfInBounds g o).size = w.heap.size
  simp
theorem below_setm {B : Nat} {w w1 : World} {g : Nat} {o : Obj} (h : Below B w w1) (hB : B ≤ g) : Below B w (ChangeMaps.setBlock w1 g o) :=
  ⟨h.os, h.tape, h.output, by rw [set_size]; exact h.size, fun i hi => (set_other (by omega)).trans (h.block i hi)⟩
theorem R_set_map {base gm : Nat} {w : World} {S : Nat → Prop} {v : Value} {q : List Int} {es : Array MapEntry} {ck : Nat} {o : Obj} (h : Kd.R (Kd.int .u8) 5 w base S v q) (hm : w.heap[gm]? = some (.map es ck)) : Kd.R (Kd.int .u8) 5 (ChangeMaps.setBlock w gm o) base S v q :=
  Kd.R_mono (Kd.R_step (Kd.R_bound h) (fun k hk hl => by
    obtain ⟨_, _, _, q, _, cells, hc⟩ := hk
    exact set_other (fun e => by rw [e, hm] at hc; cases hc))) (fun _ hk => hk.1)
section
variable {w : World} {gm : Nat} {L : List ByteArray} {x : ByteArray}
theorem lookup_run (hm : w.heap[gm]? = some (.map (E 0 L).toArray L.length)) (hx : shortN x) (hL : Oks L) (hn : L.Nodup) (hi : x ∈ L) :
    (Instr.lookup TN (.map (some gm)) (.string x) false).run Try.prog w = .ok (.int .i64 (idx L x : Int)) w := by
  have hu := Try.underlying43
  have hg := MapKept.run_getObj_map (P := Try.prog) hm
  have hc := check_run w (E 0 L).isEmpty x hx
  rcases find L w x hx hL hn with ⟨h1, hf⟩ | ⟨h1, hf⟩
  · exact absurd hi h1
  · unfold Instr.lookup
    simp [Sem.run_bind, run_underlying hu w, hg, hc, hf]
theorem lookok_run (hm : w.heap[gm]? = some (.map (E 0 L).toArray L.length)) (hx : shortN x) (hL : Oks L) (hn : L.Nodup) :
    ∃ v : Int, (Instr.lookup TN (.map (some gm)) (.string x) true).run Try.prog w = .ok (.tuple #[.int .i64 v, .bool (decide (idx L x < L.length))]) w := by
  have hu := Try.underlying43
  have hg := MapKept.run_getObj_map (P := Try.prog) hm
  have hc := check_run w (E 0 L).isEmpty x hx
  rcases find L w x hx hL hn with ⟨h1, hf⟩ | ⟨h1, hf⟩
  · refine ⟨0, ?_⟩
    rw [decide_eq_false (by rw [idx_not L x h1]; omega)]
    unfold Instr.lookup
    simp [Sem.run_bind, run_underlying hu w, hg, hc, hf, zero_int]
  · refine ⟨idx L x, ?_⟩
    rw [decide_eq_true (idx_lt L x h1)]
    unfold Instr.lookup
    simp [Sem.run_bind, run_underlying hu w, hg, hc, hf]
theorem update_run (hm : w.heap[gm]? = some (.map (E 0 L).toArray L.length)) (hx : shortN x) (hL : Oks L) (hn : L.Nodup) (hi : x ∉ L) :
    (Instr.mapUpdate TN (.map (some gm)) (.string x) (.int .i64 (L.length : Int))).run Try.prog w = .ok () (ChangeMaps.setBlock w gm (.map (E 0 (L ++ [x])).toArray (L ++ [x]).length)) := by
  have hu := Try.underlying43
  have hg := MapKept.run_getObj_map (P := Try.prog) hm
  have hc := check_run w false x hx
  rcases find L w x hx hL hn with ⟨h1, hf⟩ | ⟨h1, _⟩
  · have hs := MapKept.run_setObj_map (P := Try.prog) (.map ((E 0 L).toArray.push ⟨.string x, .int .i64 (L.length : Int), L.length⟩) (L.length + 1)) hm
    have hp := E_app 0 L x
    rw [Nat.zero_add] at hp
    rw [List.push_toArray] at hs
    unfold Instr.mapUpdate
    simp [Sem.run_bind, run_underlying hu w, hg, hc, hf, hs, hp, ChangeMaps.setBlock]
  · exact absurd h1 hi
end
end Go.Proofs.Ytpnnjefhchppfaa.Op

set_option linter.unusedVariables false
set_option linter.unusedSimpArgs false
namespace Go.Proofs.Ytpnnjefhchppfaa.Op
open Go Go.RowKit Go.Proofs.YtpnnjefhchppfaaW.PrintWords Go.Proofs.YtpnnjefhchppfaaW.PrintLast Go.Proofs.YtpnnjefhchppfaaW.PrintMore Go.Proofs.Ytpnnjefhchppfaa.PA
abbrev aggO (o : S33) : Value := .agg #[.int .i64 o.f0, .string o.f1, .int .i64 o.f2, .int .i64 o.f3, .string o.f4]
set_option maxHeartbeats 4000000 in
set_option maxRecDepth 100000 in
theorem kind_calls (o : S33) (w : World) : Calls Try.prog 25 #[aggO o] w fun e w' => e = .returned (.int .i64 o.f0) ∧ Below w.heap.size w w' := by
  have hu33 := Try.underlying33
  have HB := Aside0.mk (Below.refl w.heap.size w)
  go_enter Try.func25, Try.ntmps25
  go_wp2_with (first | ((with_reducible refine gate_dst (N := 1) rfl ?_); refine box_event ?hg (N := 1) ?hd (cs := #[.int .i64 o.f0, .string o.f1, .int .i64 o.f2, .int .i64 o.f3, .string o.f4]) (t := 33) ?hr ?_; (case hd => rfl); (case hg => rfl); (case hr => first | (go_simp; done) | (go_simp; rfl)); intro gb101 hg w1 hbox hb; have n0_ := Aside0.mk (below_step (zb_ HB.out) hb); have n1_ := Aside0.mk (hbox); have n2_ := Aside0.mk ((by rw [hg]; exact (below_size (zb_ HB.out)) : w.heap.size ≤ gb101)); have n3_ := Aside0.mk ((by rw [hg]; exact (below_size (zb_ HB.out)) : w.heap.size ≤ gb101)); clear HB; have HB := n0_; have BK101 := n1_; have GW101 := n2_; have GE101 := n3_; clear n0_ n1_ n2_ n3_; clear hb hbox hg; have hcz_0 : w1.cell? ⟨gb101, 0, none⟩ = some (.int .i64 o.f0) := (blk_cell BK101.out 0).trans rfl; have hcz_1 : w1.cell? ⟨gb101, 1, none⟩ = some (.string o.f1) := (blk_cell BK101.out 1).trans rfl; have hcz_2 : w1.cell? ⟨gb101, 2, none⟩ = some (.int .i64 o.f2) := (blk_cell BK101.out 2).trans rfl; have hcz_3 : w1.cell? ⟨gb101, 3, none⟩ = some (.int .i64 o.f3) := (blk_cell BK101.out 3).trans rfl; have hcz_4 : w1.cell? ⟨gb101, 4, none⟩ = some (.string o.f4) := (blk_cell BK101.out 4).trans rfl; have hfz_0 := blk_frozen BK101.out 0; have hfz_1 := blk_frozen BK101.out 1; have hfz_2 := blk_frozen BK101.out 2; have hfz_3 := blk_frozen BK101.out 3; have hfz_4 := blk_frozen BK101.out 4))
  go_ret
  exact ⟨rfl, by repeat (first | (with_reducible first | exact HB.out | apply below_alloc | apply pw_below_drewN | apply below_drew1 | refine below_set ?_ GE101.out) | exact HB.out)⟩
set_option maxHeartbeats 4000000 in
set_option maxRecDepth 100000 in
theorem pos_calls (o : S33) (w : World) : Calls Try.prog 29 #[aggO o] w fun e w' => e = .returned (.int .i64 o.f2) ∧ Below w.heap.size w w' := by
  have hu33 := Try.underlying33
  have HB := Aside0.mk (Below.refl w.heap.size w)
  go_enter Try.func29, Try.ntmps29
  go_wp2_with (first | ((with_reducible refine gate_dst (N := 1) rfl ?_); refine box_event ?hg (N := 1) ?hd (cs := #[.int .i64 o.f0, .string o.f1, .int .i64 o.f2, .int .i64 o.f3, .string o.f4]) (t := 33) ?hr ?_; (case hd => rfl); (case hg => rfl); (case hr => first | (go_simp; done) | (go_simp; rfl)); intro gb101 hg w1 hbox hb; have n0_ := Aside0.mk (below_step (zb_ HB.out) hb); have n1_ := Aside0.mk (hbox); have n2_ := Aside0.mk ((by rw [hg]; exact (below_size (zb_ HB.out)) : w.heap.size ≤ gb101)); have n3_ := Aside0.mk ((by rw [hg]; exact (below_size (zb_ HB.out)) : w.heap.size ≤ gb101)); clear HB; have HB := n0_; have BK101 := n1_; have GW101 := n2_; have GE101 := n3_; clear n0_ n1_ n2_ n3_; clear hb hbox hg; have hcz_0 : w1.cell? ⟨gb101, 0, none⟩ = some (.int .i64 o.f0) := (blk_cell BK101.out 0).trans rfl; have hcz_1 : w1.cell? ⟨gb101, 1, none⟩ = some (.string o.f1) := (blk_cell BK101.out 1).trans rfl; have hcz_2 : w1.cell? ⟨gb101, 2, none⟩ = some (.int .i64 o.f2) := (blk_cell BK101.out 2).trans rfl; have hcz_3 : w1.cell? ⟨gb101, 3, none⟩ = some (.int .i64 o.f3) := (blk_cell BK101.out 3).trans rfl; have hcz_4 : w1.cell? ⟨gb101, 4, none⟩ = some (.string o.f4) := (blk_cell BK101.out 4).trans rfl; have hfz_0 := blk_frozen BK101.out 0; have hfz_1 := blk_frozen BK101.out 1; have hfz_2 := blk_frozen BK101.out 2; have hfz_3 := blk_frozen BK101.out 3; have hfz_4 := blk_frozen BK101.out 4))
  go_ret
  exact ⟨rfl, by repeat (first | (with_reducible first | exact HB.out | apply below_alloc | apply pw_below_drewN | apply below_drew1 | refine below_set ?_ GE101.out) | exact HB.out)⟩
set_option maxHeartbeats 4000000 in
set_option maxRecDepth 100000 in
theorem by_calls (o : S33) (w : World) : Calls Try.prog 30 #[aggO o] w fun e w' => e = .returned (.int .i64 o.f3) ∧ Below w.heap.size w w' := by
  have hu33 := Try.underlying33
  have HB := Aside0.mk (Below.refl w.heap.size w)
  go_enter Try.func30, Try.ntmps30
  go_wp2_with (first | ((with_reducible refine gate_dst (N := 1) rfl ?_); refine box_event ?hg (N := 1) ?hd (cs := #[.int .i64 o.f0, .string o.f1, .int .i64 o.f2, .int .i64 o.f3, .string o.f4]) (t := 33) ?hr ?_; (case hd => rfl); (case hg => rfl); (case hr => first | (go_simp; done) | (go_simp; rfl)); intro gb101 hg w1 hbox hb; have n0_ := Aside0.mk (below_step (zb_ HB.out) hb); have n1_ := Aside0.mk (hbox); have n2_ := Aside0.mk ((by rw [hg]; exact (below_size (zb_ HB.out)) : w.heap.size ≤ gb101)); have n3_ := Aside0.mk ((by rw [hg]; exact (below_size (zb_ HB.out)) : w.heap.size ≤ gb101)); clear HB; have HB := n0_; have BK101 := n1_; have GW101 := n2_; have GE101 := n3_; clear n0_ n1_ n2_ n3_; clear hb hbox hg; have hcz_0 : w1.cell? ⟨gb101, 0, none⟩ = some (.int .i64 o.f0) := (blk_cell BK101.out 0).trans rfl; have hcz_1 : w1.cell? ⟨gb101, 1, none⟩ = some (.string o.f1) := (blk_cell BK101.out 1).trans rfl; have hcz_2 : w1.cell? ⟨gb101, 2, none⟩ = some (.int .i64 o.f2) := (blk_cell BK101.out 2).trans rfl; have hcz_3 : w1.cell? ⟨gb101, 3, none⟩ = some (.int .i64 o.f3) := (blk_cell BK101.out 3).trans rfl; have hcz_4 : w1.cell? ⟨gb101, 4, none⟩ = some (.string o.f4) := (blk_cell BK101.out 4).trans rfl; have hfz_0 := blk_frozen BK101.out 0; have hfz_1 := blk_frozen BK101.out 1; have hfz_2 := blk_frozen BK101.out 2; have hfz_3 := blk_frozen BK101.out 3; have hfz_4 := blk_frozen BK101.out 4))
  go_ret
  exact ⟨rfl, by repeat (first | (with_reducible first | exact HB.out | apply below_alloc | apply pw_below_drewN | apply below_drew1 | refine below_set ?_ GE101.out) | exact HB.out)⟩
set_option maxHeartbeats 8000000 in
set_option maxRecDepth 100000 in
theorem of_kind (A0 : Option Addr) (c0 : Nat) (l0 : List S33) (w : World) (hr0 : Kd.C k33 w A0 l0.length l0) (hl : l0.length ≤ 256) :
    Calls Try.prog 24 #[.slice A0 l0.length c0, .func (.func 25) #[] #[]] w fun e w' => ∃ v0_ : Value, e = .returned v0_ ∧ Kd.R (Kd.int .i64) 2 w' w.heap.size (fun _ => True) v0_ (l0.map (·.f0)) ∧ Below w.heap.size w w' := by
  have HR0 := Aside0.mk hr0
  have HL := Aside0.mk hl
  have hu33 := Try.underlying33
  have HB := Aside0.mk (Below.refl w.heap.size w)
  clear hr0 hl
  go_enter Try.func24, Try.ntmps24
  go_wp2_with (first | ((with_reducible refine gate_dst (N := 10) rfl ?_); refine Kd.R_make0 (Kd.int .i64) (w0 := w) w.heap.size 2 rfl (N := 10) rfl 49 _ _ rfl (l0.length : Int) rfl rfl Try.underlying49 (.int .i64 0) 8 info2 rfl (by decide) (by decide) (ok := fun _ => True) (okp := fun _ => True) (fun _ h => h) trivial (by omega) (by have := HL.out; omega) HB.out (Nat.le_refl _) ?_; intro v1 w1 ho1 hb1 hg1 hat1; have HO := Aside0.mk ho1; have HBL := Aside0.mk hb1; clear ho1 hb1 hg1 hat1))
  go_loopw [5, 13] (fun v5 v13 wr => ∃ j : Nat, j ≤ l0.length ∧ v13 = .int .i64 j ∧ Aside0 (Kd.R (Kd.int .i64) 2 wr w.heap.size (fun _ => True) v5 ((l0.take j).map (·.f0))) ∧ Aside0 (Below w.heap.size w wr)) (fun _ v13 _ => l0.length - (intOf v13).toNat)
  case atStart => exact ⟨0, by omega, rfl, HO, HBL⟩
  case round =>
    obtain ⟨j, hj, rfl, HO, HBL⟩ := hrel
    by_cases hlt : j < l0.length
    · obtain ⟨ad, e191, hx0, hx1, hx2, hx3, hx4⟩ := at_T33 HR0.out (j : Int) (by omega) (by omega)
      cases e191
      obtain ⟨x, hx⟩ : ∃ x, rd_T33 l0 (j : Int) = x := ⟨_, rfl⟩
      rw [hx] at hx0 hx1 hx2 hx3 hx4
      simp only [Int.toNat_natCast] at hx0 hx1 hx2 hx3 hx4
      replace hx0 := (HBL.out.cell (World.block_lt_of_cell? w _ hx0)).trans hx0
      replace hx1 := (HBL.out.cell (World.block_lt_of_cell? w _ hx1)).trans hx1
      replace hx2 := (HBL.out.cell (World.block_lt_of_cell? w _ hx2)).trans hx2
      replace hx3 := (HBL.out.cell (World.block_lt_of_cell? w _ hx3)).trans hx3
      replace hx4 := (HBL.out.cell (World.block_lt_of_cell? w _ hx4)).trans hx4
      go_wp2_with (first | (go_at_call 25; refine (kind_calls x _).mono ?_; rintro e w2 ⟨rfl, hb⟩; have HB2 := Aside0.mk (HBL.out.trans ((below_alloc (Below.refl _ _) _ |>.trans (hb.mono (by simp))).mono HBL.out.size)); have HO2 := Aside0.mk (Kd.R_below (Kd.R_alloc HO.out _) hb); clear hb) | ((with_reducible refine gate_builtin (b := .append) (xs := #[.tmp 17, .tmp 21]) rfl ?_); at_builtin; refine Kd.R_append (Kd.int .i64) (w0 := w) w.heap.size rfl (.tmp 17) (.tmp 21) 49 2 (.int .i64 0) 8 rfl Try.underlying49 info2 rfl (by decide) (by omega) u5 ((l0.take j).map (·.f0)) x.f0 [.int .i64 x.f0] (fun _ => True) (fun _ => False) rfl rfl ?aP (fun _ hk => hk.elim) ?aF ?aO ?aB ?aS ?aL ?_; (case aP => exact rfl); (case aB => exact HB2.out); (case aF => exact fun _ _ => trivial); (case aO => exact HO2.out); (case aS => exact below_size HB2.out); (case aL => have := HL.out; simp; omega); intro v3 w3 ho hb hg hat; have HO3 := Aside0.mk ho; have HB3 := Aside0.mk hb; clear ho hb hg hat))
      go_roundw
      case rel =>
        have hw : wrap64 ((j : Int) + 1) = ((j + 1 : Nat) : Int) := by have := HL.out; unfold wrap64; omega
        refine ⟨j + 1, by omega, by rw [hw], ⟨?_⟩, HB3⟩
        have he : l0[j]? = some x := by
          rw [← hx]
          simp only [rd_T33, Int.toNat_natCast]
          rw [List.getD_eq_getElem?_getD, List.getElem?_eq_getElem hlt]; rfl
        rw [List.take_add_one, he, Option.toList_some, List.map_append]
        exact HO3.out
      case measure =>
        have hw : wrap64 ((j : Int) + 1) = ((j + 1 : Nat) : Int) := by have := HL.out; unfold wrap64; omega
        rw [hw]
        show l0.length - ((j + 1 : Nat) : Int).toNat < l0.length - ((j : Nat) : Int).toNat
        rw [Int.toNat_natCast, Int.toNat_natCast]
        omega
    · obtain rfl : j = l0.length := by omega
      go_wp2_with fail
      go_ret
      exact ⟨_, rfl, by have := HO.out; rwa [List.take_length] at this, HBL.out⟩
set_option maxHeartbeats 8000000 in
set_option maxRecDepth 100000 in
theorem of_pos (A0 : Option Addr) (c0 : Nat) (l0 : List S33) (w : World) (hr0 : Kd.C k33 w A0 l0.length l0) (hl : l0.length ≤ 256) :
    Calls Try.prog 24 #[.slice A0 l0.length c0, .func (.func 29) #[] #[]] w fun e w' => ∃ v0_ : Value, e = .returned v0_ ∧ Kd.R (Kd.int .i64) 2 w' w.heap.size (fun _ => True) v0_ (l0.map (·.f2)) ∧ Below w.heap.size w w' := by
  have HR0 := Aside0.mk hr0
  have HL := Aside0.mk hl
  have hu33 := Try.underlying33
  have HB := Aside0.mk (Below.refl w.heap.size w)
  clear hr0 hl
  go_enter Try.func24, Try.ntmps24
  go_wp2_with (first | ((with_reducible refine gate_dst (N := 10) rfl ?_); refine Kd.R_make0 (Kd.int .i64) (w0 := w) w.heap.size 2 rfl (N := 10) rfl 49 _ _ rfl (l0.length : Int) rfl rfl Try.underlying49 (.int .i64 0) 8 info2 rfl (by decide) (by decide) (ok := fun _ => True) (okp := fun _ => True) (fun _ h => h) trivial (by omega) (by have := HL.out; omega) HB.out (Nat.le_refl _) ?_; intro v1 w1 ho1 hb1 hg1 hat1; have HO := Aside0.mk ho1; have HBL := Aside0.mk hb1; clear ho1 hb1 hg1 hat1))
  go_loopw [5, 13] (fun v5 v13 wr => ∃ j : Nat, j ≤ l0.length ∧ v13 = .int .i64 j ∧ Aside0 (Kd.R (Kd.int .i64) 2 wr w.heap.size (fun _ => True) v5 ((l0.take j).map (·.f2))) ∧ Aside0 (Below w.heap.size w wr)) (fun _ v13 _ => l0.length - (intOf v13).toNat)
  case atStart => exact ⟨0, by omega, rfl, HO, HBL⟩
  case round =>
    obtain ⟨j, hj, rfl, HO, HBL⟩ := hrel
    by_cases hlt : j < l0.length
    · obtain ⟨ad, e191, hx0, hx1, hx2, hx3, hx4⟩ := at_T33 HR0.out (j : Int) (by omega) (by omega)
      cases e191
      obtain ⟨x, hx⟩ : ∃ x, rd_T33 l0 (j : Int) = x := ⟨_, rfl⟩
      rw [hx] at hx0 hx1 hx2 hx3 hx4
      simp only [Int.toNat_natCast] at hx0 hx1 hx2 hx3 hx4
      replace hx0 := (HBL.out.cell (World.block_lt_of_cell? w _ hx0)).trans hx0
      replace hx1 := (HBL.out.cell (World.block_lt_of_cell? w _ hx1)).trans hx1
      replace hx2 := (HBL.out.cell (World.block_lt_of_cell? w _ hx2)).trans hx2
      replace hx3 := (HBL.out.cell (World.block_lt_of_cell? w _ hx3)).trans hx3
      replace hx4 := (HBL.out.cell (World.block_lt_of_cell? w _ hx4)).trans hx4
      go_wp2_with (first | (go_at_call 29; refine (pos_calls x _).mono ?_; rintro e w2 ⟨rfl, hb⟩; have HB2 := Aside0.mk (HBL.out.trans ((below_alloc (Below.refl _ _) _ |>.trans (hb.mono (by simp))).mono HBL.out.size)); have HO2 := Aside0.mk (Kd.R_below (Kd.R_alloc HO.out _) hb); clear hb) | ((with_reducible refine gate_builtin (b := .append) (xs := #[.tmp 17, .tmp 21]) rfl ?_); at_builtin; refine Kd.R_append (Kd.int .i64) (w0 := w) w.heap.size rfl (.tmp 17) (.tmp 21) 49 2 (.int .i64 0) 8 rfl Try.underlying49 info2 rfl (by decide) (by omega) u5 ((l0.take j).map (·.f2)) x.f2 [.int .i64 x.f2] (fun _ => True) (fun _ => False) rfl rfl ?aP (fun _ hk => hk.elim) ?aF ?aO ?aB ?aS ?aL ?_; (case aP => exact rfl); (case aB => exact HB2.out); (case aF => exact fun _ _ => trivial); (case aO => exact HO2.out); (case aS => exact below_size HB2.out); (case aL => have := HL.out; simp; omega); intro v3 w3 ho hb hg hat; have HO3 := Aside0.mk ho; have HB3 := Aside0.mk hb; clear ho hb hg hat))
      go_roundw
      case rel =>
        have hw : wrap64 ((j : Int) + 1) = ((j + 1 : Nat) : Int) := by have := HL.out; unfold wrap64; omega
        refine ⟨j + 1, by omega, by rw [hw], ⟨?_⟩, HB3⟩
        have he : l0[j]? = some x := by
          rw [← hx]
          simp only [rd_T33, Int.toNat_natCast]
          rw [List.getD_eq_getElem?_getD, List.getElem?_eq_getElem hlt]; rfl
        rw [List.take_add_one, he, Option.toList_some, List.map_append]
        exact HO3.out
      case measure =>
        have hw : wrap64 ((j : Int) + 1) = ((j + 1 : Nat) : Int) := by have := HL.out; unfold wrap64; omega
        rw [hw]
        show l0.length - ((j + 1 : Nat) : Int).toNat < l0.length - ((j : Nat) : Int).toNat
        rw [Int.toNat_natCast, Int.toNat_natCast]
        omega
    · obtain rfl : j = l0.length := by omega
      go_wp2_with fail
      go_ret
      exact ⟨_, rfl, by have := HO.out; rwa [List.take_length] at this, HBL.out⟩
set_option maxHeartbeats 8000000 in
set_option maxRecDepth 100000 in
theorem of_by (A0 : Option Addr) (c0 : Nat) (l0 : List S33) (w : World) (hr0 : Kd.C k33 w A0 l0.length l0) (hl : l0.length ≤ 256) :
    Calls Try.prog 24 #[.slice A0 l0.length c0, .func (.func 30) #[] #[]] w fun e w' => ∃ v0_ : Value, e = .returned v0_ ∧ Kd.R (Kd.int .i64) 2 w' w.heap.size (fun _ => True) v0_ (l0.map (·.f3)) ∧ Below w.heap.size w w' := by
  have HR0 := Aside0.mk hr0
  have HL := Aside0.mk hl
  have hu33 := Try.underlying33
  have HB := Aside0.mk (Below.refl w.heap.size w)
  clear hr0 hl
  go_enter Try.func24, Try.ntmps24
  go_wp2_with (first | ((with_reducible refine gate_dst (N := 10) rfl ?_); refine Kd.R_make0 (Kd.int .i64) (w0 := w) w.heap.size 2 rfl (N := 10) rfl 49 _ _ rfl (l0.length : Int) rfl rfl Try.underlying49 (.int .i64 0) 8 info2 rfl (by decide) (by decide) (ok := fun _ => True) (okp := fun _ => True) (fun _ h => h) trivial (by omega) (by have := HL.out; omega) HB.out (Nat.le_refl _) ?_; intro v1 w1 ho1 hb1 hg1 hat1; have HO := Aside0.mk ho1; have HBL := Aside0.mk hb1; clear ho1 hb1 hg1 hat1))
  go_loopw [5, 13] (fun v5 v13 wr => ∃ j : Nat, j ≤ l0.length ∧ v13 = .int .i64 j ∧ Aside0 (Kd.R (Kd.int .i64) 2 wr w.heap.size (fun _ => True) v5 ((l0.take j).map (·.f3))) ∧ Aside0 (Below w.heap.size w wr)) (fun _ v13 _ => l0.length - (intOf v13).toNat)
  case atStart => exact ⟨0, by omega, rfl, HO, HBL⟩
  case round =>
    obtain ⟨j, hj, rfl, HO, HBL⟩ := hrel
    by_cases hlt : j < l0.length
    · obtain ⟨ad, e191, hx0, hx1, hx2, hx3, hx4⟩ := at_T33 HR0.out (j : Int) (by omega) (by omega)
      cases e191
      obtain ⟨x, hx⟩ : ∃ x, rd_T33 l0 (j : Int) = x := ⟨_, rfl⟩
      rw [hx] at hx0 hx1 hx2 hx3 hx4
      simp only [Int.toNat_natCast] at hx0 hx1 hx2 hx3 hx4
      replace hx0 := (HBL.out.cell (World.block_lt_of_cell? w _ hx0)).trans hx0
      replace hx1 := (HBL.out.cell (World.block_lt_of_cell? w _ hx1)).trans hx1
      replace hx2 := (HBL.out.cell (World.block_lt_of_cell? w _ hx2)).trans hx2
      replace hx3 := (HBL.out.cell (World.block_lt_of_cell? w _ hx3)).trans hx3
      replace hx4 := (HBL.out.cell (World.block_lt_of_cell? w _ hx4)).trans hx4
      go_wp2_with (first | (go_at_call 30; refine (by_calls x _).mono ?_; rintro e w2 ⟨rfl, hb⟩; have HB2 := Aside0.mk (HBL.out.trans ((below_alloc (Below.refl _ _) _ |>.trans (hb.mono (by simp))).mono HBL.out.size)); have HO2 := Aside0.mk (Kd.R_below (Kd.R_alloc HO.out _) hb); clear hb) | ((with_reducible refine gate_builtin (b := .append) (xs := #[.tmp 17, .tmp 21]) rfl ?_); at_builtin; refine Kd.R_append (Kd.int .i64) (w0 := w) w.heap.size rfl (.tmp 17) (.tmp 21) 49 2 (.int .i64 0) 8 rfl Try.underlying49 info2 rfl (by decide) (by omega) u5 ((l0.take j).map (·.f3)) x.f3 [.int .i64 x.f3] (fun _ => True) (fun _ => False) rfl rfl ?aP (fun _ hk => hk.elim) ?aF ?aO ?aB ?aS ?aL ?_; (case aP => exact rfl); (case aB => exact HB2.out); (case aF => exact fun _ _ => trivial); (case aO => exact HO2.out); (case aS => exact below_size HB2.out); (case aL => have := HL.out; simp; omega); intro v3 w3 ho hb hg hat; have HO3 := Aside0.mk ho; have HB3 := Aside0.mk hb; clear ho hb hg hat))
      go_roundw
      case rel =>
        have hw : wrap64 ((j : Int) + 1) = ((j + 1 : Nat) : Int) := by have := HL.out; unfold wrap64; omega
        refine ⟨j + 1, by omega, by rw [hw], ⟨?_⟩, HB3⟩
        have he : l0[j]? = some x := by
          rw [← hx]
          simp only [rd_T33, Int.toNat_natCast]
          rw [List.getD_eq_getElem?_getD, List.getElem?_eq_getElem hlt]; rfl
        rw [List.take_add_one, he, Option.toList_some, List.map_append]
        exact HO3.out
      case measure =>
        have hw : wrap64 ((j : Int) + 1) = ((j + 1 : Nat) : Int) := by have := HL.out; unfold wrap64; omega
        rw [hw]
        show l0.length - ((j + 1 : Nat) : Int).toNat < l0.length - ((j : Nat) : Int).toNat
        rw [Int.toNat_natCast, Int.toNat_natCast]
        omega
    · obtain rfl : j = l0.length := by omega
      go_wp2_with fail
      go_ret
      exact ⟨_, rfl, by have := HO.out; rwa [List.take_length] at this, HBL.out⟩
set_option maxHeartbeats 4000000 in
set_option maxRecDepth 100000 in
theorem name_calls (o : S33) (w : World) {B gm : Nat} {ns : List ByteArray} (hB : w.heap[B]? = some (.cells #[.map (some gm)] TN (0, 0))) (hM : w.heap[gm]? = some (.map (E 0 ns).toArray ns.length)) (hL : Oks ns) (hn : ns.Nodup) (hi : o.f1 ∈ ns) : Calls Try.prog 27 #[aggO o, .pointer (some ⟨B, 0, none⟩)] w fun e w' => e = .returned (.int .i64 (idx ns o.f1 : Int)) ∧ Below w.heap.size w w' := by
  have hu33 := Try.underlying33
  have HB := Aside0.mk (Below.refl w.heap.size w)
  have HBX := Aside0.mk hB
  have HM := Aside0.mk hM
  have HN := Aside0.mk (And.intro hL (And.intro hn hi))
  clear hB hM hL hn hi
  go_enter Try.func27, Try.ntmps27
  go_wp2_with (first | ((with_reducible refine gate_dst (N := 2) rfl ?_); refine box_event ?hg (N := 2) ?hd (cs := #[.int .i64 o.f0, .string o.f1, .int .i64 o.f2, .int .i64 o.f3, .string o.f4]) (t := 33) ?hr ?_; (case hd => rfl); (case hg => rfl); (case hr => first | (go_simp; done) | (go_simp; rfl)); intro gb101 hg w1 hbox hb; have n0_ := Aside0.mk (below_step (zb_ HB.out) hb); have n1_ := Aside0.mk (hbox); have n2_ := Aside0.mk ((by rw [hg]; exact (below_size (zb_ HB.out)) : w.heap.size ≤ gb101)); have n3_ := Aside0.mk ((by rw [hg]; exact (below_size (zb_ HB.out)) : w.heap.size ≤ gb101)); clear HB; have HB := n0_; have BK101 := n1_; have GW101 := n2_; have GE101 := n3_; clear n0_ n1_ n2_ n3_; clear hb hbox hg; have hcz_0 : w1.cell? ⟨gb101, 0, none⟩ = some (.int .i64 o.f0) := (blk_cell BK101.out 0).trans rfl; have hcz_1 : w1.cell? ⟨gb101, 1, none⟩ = some (.string o.f1) := (blk_cell BK101.out 1).trans rfl; have hcz_2 : w1.cell? ⟨gb101, 2, none⟩ = some (.int .i64 o.f2) := (blk_cell BK101.out 2).trans rfl; have hcz_3 : w1.cell? ⟨gb101, 3, none⟩ = some (.int .i64 o.f3) := (blk_cell BK101.out 3).trans rfl; have hcz_4 : w1.cell? ⟨gb101, 4, none⟩ = some (.string o.f4) := (blk_cell BK101.out 4).trans rfl; have hfz_0 := blk_frozen BK101.out 0; have hfz_1 := blk_frozen BK101.out 1; have hfz_2 := blk_frozen BK101.out 2; have hfz_3 := blk_frozen BK101.out 3; have hfz_4 := blk_frozen BK101.out 4; have hcm : w1.cell? ⟨B, 0, none⟩ = some (.map (some gm)) := (blk_cell (blk_below HBX.out HB.out) 0).trans rfl; have hlk := lookup_run (blk_below HM.out HB.out) (HN.out.1 _ HN.out.2.2) HN.out.1 HN.out.2.1 HN.out.2.2))
  go_ret
  exact ⟨rfl, by repeat (first | (with_reducible first | exact HB.out | apply below_alloc | apply pw_below_drewN | apply below_drew1 | refine below_set ?_ GE101.out) | exact HB.out)⟩
set_option maxHeartbeats 8000000 in
set_option maxRecDepth 100000 in
theorem of_name (A0 : Option Addr) (c0 : Nat) (l0 : List S33) (w : World) (hr0 : Kd.C k33 w A0 l0.length l0) (hl : l0.length ≤ 256) {B gm : Nat} {ns : List ByteArray} (hB : w.heap[B]? = some (.cells #[.map (some gm)] TN (0, 0))) (hM : w.heap[gm]? = some (.map (E 0 ns).toArray ns.length)) (hL : Oks ns) (hn : ns.Nodup) (hi : ∀ o ∈ l0, o.f1 ∈ ns) :
    Calls Try.prog 24 #[.slice A0 l0.length c0, .func (.func 27) #[] #[.pointer (some ⟨B, 0, none⟩)]] w fun e w' => ∃ v0_ : Value, e = .returned v0_ ∧ Kd.R (Kd.int .i64) 2 w' w.heap.size (fun _ => True) v0_ (l0.map (fun o => (idx ns o.f1 : Int))) ∧ Below w.heap.size w w' := by
  have HR0 := Aside0.mk hr0
  have HL := Aside0.mk hl
  have hu33 := Try.underlying33
  have HB := Aside0.mk (Below.refl w.heap.size w)
  have HBX := Aside0.mk hB
  have HM := Aside0.mk hM
  have HN := Aside0.mk (And.intro hL (And.intro hn hi))
  clear hr0 hl hB hM hL hn hi
  go_enter Try.func24, Try.ntmps24
  go_wp2_with (first | ((with_reducible refine gate_dst (N := 10) rfl ?_); refine Kd.R_make0 (Kd.int .i64) (w0 := w) w.heap.size 2 rfl (N := 10) rfl 49 _ _ rfl (l0.length : Int) rfl rfl Try.underlying49 (.int .i64 0) 8 info2 rfl (by decide) (by decide) (ok := fun _ => True) (okp := fun _ => True) (fun _ h => h) trivial (by omega) (by have := HL.out; omega) HB.out (Nat.le_refl _) ?_; intro v1 w1 ho1 hb1 hg1 hat1; have HO := Aside0.mk ho1; have HBL := Aside0.mk hb1; clear ho1 hb1 hg1 hat1))
  go_loopw [5, 13] (fun v5 v13 wr => ∃ j : Nat, j ≤ l0.length ∧ v13 = .int .i64 j ∧ Aside0 (Kd.R (Kd.int .i64) 2 wr w.heap.size (fun _ => True) v5 ((l0.take j).map (fun o => (idx ns o.f1 : Int)))) ∧ Aside0 (Below w.heap.size w wr)) (fun _ v13 _ => l0.length - (intOf v13).toNat)
  case atStart => exact ⟨0, by omega, rfl, HO, HBL⟩
  case round =>
    obtain ⟨j, hj, rfl, HO, HBL⟩ := hrel
    by_cases hlt : j < l0.length
    · obtain ⟨ad, e191, hx0, hx1, hx2, hx3, hx4⟩ := at_T33 HR0.out (j : Int) (by omega) (by omega)
      cases e191
      obtain ⟨x, hx⟩ : ∃ x, rd_T33 l0 (j : Int) = x := ⟨_, rfl⟩
      rw [hx] at hx0 hx1 hx2 hx3 hx4
      have he : l0[j]? = some x := by
        rw [← hx]
        simp only [rd_T33, Int.toNat_natCast]
        rw [List.getD_eq_getElem?_getD, List.getElem?_eq_getElem hlt]; rfl
      have HX := Aside0.mk (List.mem_of_getElem? he)
      simp only [Int.toNat_natCast] at hx0 hx1 hx2 hx3 hx4
      replace hx0 := (HBL.out.cell (World.block_lt_of_cell? w _ hx0)).trans hx0
      replace hx1 := (HBL.out.cell (World.block_lt_of_cell? w _ hx1)).trans hx1
      replace hx2 := (HBL.out.cell (World.block_lt_of_cell? w _ hx2)).trans hx2
      replace hx3 := (HBL.out.cell (World.block_lt_of_cell? w _ hx3)).trans hx3
      replace hx4 := (HBL.out.cell (World.block_lt_of_cell? w _ hx4)).trans hx4
      go_wp2_with (first | (go_at_call 27; refine (name_calls x _ (blk_alloc (blk_below HBX.out HBL.out) _) (blk_alloc (blk_below HM.out HBL.out) _) HN.out.1 HN.out.2.1 (HN.out.2.2 x HX.out)).mono ?_; rintro e w2 ⟨rfl, hb⟩; have HB2 := Aside0.mk (HBL.out.trans ((below_alloc (Below.refl _ _) _ |>.trans (hb.mono (by simp))).mono HBL.out.size)); have HO2 := Aside0.mk (Kd.R_below (Kd.R_alloc HO.out _) hb); clear hb) | ((with_reducible refine gate_builtin (b := .append) (xs := #[.tmp 17, .tmp 21]) rfl ?_); at_builtin; refine Kd.R_append (Kd.int .i64) (w0 := w) w.heap.size rfl (.tmp 17) (.tmp 21) 49 2 (.int .i64 0) 8 rfl Try.underlying49 info2 rfl (by decide) (by omega) u5 ((l0.take j).map (fun o => (idx ns o.f1 : Int))) (idx ns x.f1 : Int) [.int .i64 (idx ns x.f1 : Int)] (fun _ => True) (fun _ => False) rfl rfl ?aP (fun _ hk => hk.elim) ?aF ?aO ?aB ?aS ?aL ?_; (case aP => exact rfl); (case aB => exact HB2.out); (case aF => exact fun _ _ => trivial); (case aO => exact HO2.out); (case aS => exact below_size HB2.out); (case aL => have := HL.out; simp; omega); intro v3 w3 ho hb hg hat; have HO3 := Aside0.mk ho; have HB3 := Aside0.mk hb; clear ho hb hg hat))
      go_roundw
      case rel =>
        have hw : wrap64 ((j : Int) + 1) = ((j + 1 : Nat) : Int) := by have := HL.out; unfold wrap64; omega
        refine ⟨j + 1, by omega, by rw [hw], ⟨?_⟩, HB3⟩
        have he : l0[j]? = some x := by
          rw [← hx]
          simp only [rd_T33, Int.toNat_natCast]
          rw [List.getD_eq_getElem?_getD, List.getElem?_eq_getElem hlt]; rfl
        rw [List.take_add_one, he, Option.toList_some, List.map_append]
        exact HO3.out
      case measure =>
        have hw : wrap64 ((j : Int) + 1) = ((j + 1 : Nat) : Int) := by have := HL.out; unfold wrap64; omega
        rw [hw]
        show l0.length - ((j + 1 : Nat) : Int).toNat < l0.length - ((j : Nat) : Int).toNat
        rw [Int.toNat_natCast, Int.toNat_natCast]
        omega
    · obtain rfl : j = l0.length := by omega
      go_wp2_with fail
      go_ret
      exact ⟨_, rfl, by have := HO.out; rwa [List.take_length] at this, HBL.out⟩
end Go.Proofs.Ytpnnjefhchppfaa.Op

set_option linter.unusedVariables false
set_option linter.unusedSimpArgs false
namespace Go.Proofs.Ytpnnjefhchppfaa.Op
open Go Go.RowKit Go.Proofs.YtpnnjefhchppfaaW.PrintWords Go.Proofs.YtpnnjefhchppfaaW.PrintLast Go.Proofs.YtpnnjefhchppfaaW.PrintMore Go.Proofs.Ytpnnjefhchppfaa.PA
theorem toList_inj {a b : ByteArray} (h : a.toList = b.toList) : a = b := by
  rw [Go.ByteArray.toList_eq, Go.ByteArray.toList_eq] at h
  cases a
  cases b
  simpa using h
theorem find_l0 (L : List ByteArray) (s : ByteArray) (hl : L.length < 9000000000000000000) : ∀ (d k i : Nat), i + d = L.length → d < k → stemmaref07_find.l0 k L s (i : Int) = some ((i + idx (L.drop i) s : Nat) : Int)
  | 0, k, i, hi, hk => by
    obtain ⟨k, rfl⟩ : ∃ q, k = q + 1 := ⟨k - 1, by omega⟩
    rw [stemmaref07_find.l0, if_neg (by omega), List.drop_of_length_le (by omega)]
    rfl
  | d + 1, k, i, hi, hk => by
    obtain ⟨k, rfl⟩ : ∃ q, k = q + 1 := ⟨k - 1, by omega⟩
    have hlt : i < L.length := by omega
    rw [stemmaref07_find.l0, if_pos (by omega), if_pos (by omega), List.drop_eq_getElem_cons hlt, idx]
    have hr : rdOf ByteArray.empty L (i : Int) = L[i] := by
      simp only [rdOf, Int.toNat_natCast]
      rw [List.getD_eq_getElem?_getD, List.getElem?_eq_getElem hlt]; rfl
    rw [hr]
    by_cases h : L[i] = s
    · rw [if_pos (by rw [h]), if_pos h]; rfl
    · rw [if_neg (fun e => h (toList_inj e)), if_neg h, show wrap64 ((i : Int) + 1) = ((i + 1 : Nat) : Int) by unfold wrap64; omega, find_l0 L s hl d k (i + 1) (by omega) (by omega)]
      congr 2
      omega
theorem find_f (L : List ByteArray) (s : ByteArray) (hl : L.length < 9000000000000000000) {k : Nat} (hk : L.length < k) : stemmaref07_find.f k L s = some (idx L s : Int) := by
  have := find_l0 L s hl L.length k 0 (by omega) hk
  rw [List.drop_zero, Nat.zero_add] at this
  exact this
end Go.Proofs.Ytpnnjefhchppfaa.Op

