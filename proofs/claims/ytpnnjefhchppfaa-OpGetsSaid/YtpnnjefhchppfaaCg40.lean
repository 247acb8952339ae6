/- Own texts of this claim. -/
import Derived.Test.YtpnnjefhchppfaaCg26
import Derived.Test.YtpnnjefhchppfaaCg28
import Derived.Test.YtpnnjefhchppfaaCg29
import Derived.Test.YtpnnjefhchppfaaCg33
import Derived.Test.YtpnnjefhchppfaaCg35
import Derived.Test.YtpnnjefhchppfaaCg37
set_option linter.unusedVariables false
set_option linter.unusedSimpArgs false
namespace Go.Proofs.Ytpnnjefhchppfaa.Op
open Go Go.RowKit Go.Proofs.YtpnnjefhchppfaaW.PrintWords Go.Proofs.YtpnnjefhchppfaaW.PrintLast Go.Proofs.YtpnnjefhchppfaaW.PrintMore Go.Proofs.Ytpnnjefhchppfaa.PA
def textP (s : ByteArray) : List Int := LebT.putU s.size ++ bytesOf s
def addN (ns : List ByteArray) (s : ByteArray) : List ByteArray := if idx ns s < ns.length then ns else ns ++ [s]
def nsF (l : List Sop) : List ByteArray := l.foldl (fun n o => addN n o.f1) []
def txF (o : Sop) : List Int := if o.f0 = 1 ∨ o.f0 = 4 then textP o.f4 else []
def layF (l : List Sop) : List Int :=
  ColS.runs (l.map (·.f0)) ++ LebT.putU (nsF l).length ++ (nsF l).flatMap textP ++ ColS.runs (l.map (fun o => (idx (nsF l) o.f1 : Int))) ++ ColS.runs (ColT.dif0 (l.map (·.f2))) ++ ColS.runs (l.map (·.f3)) ++ l.flatMap txF
def putB (l : List Sop) : List Int := if l.all chkF then layF l else []
def putE (l : List Sop) : Int := if l.all chkF then 0 else 40
theorem put_bad {l : List Sop} {x : Sop} (hx : x ∈ l) (h : ¬ chkF x = true) : putB l = [] ∧ putE l = 40 := by
  have : ¬ (l.all chkF = true) := fun ha => h (List.all_eq_true.1 ha x hx)
  exact ⟨if_neg this, if_neg this⟩
structure Rd (w : World) (l0 : List Sop) (B gm j : Nat) (v5 v6 : Value) (W : World) : Prop where
  box : W.heap[B]? = some (.cells #[.map (some gm)] TN (0, 0))
  map : W.heap[gm]? = some (.map (E 0 (nsF (l0.take j))).toArray (nsF (l0.take j)).length)
  names : Kd.R (Kd.int .u8) 5 W w.heap.size (fun k => some k ≠ v6.ownBlock) v5 ((nsF (l0.take j)).flatMap textP)
  texts : Kd.R (Kd.int .u8) 5 W w.heap.size (fun k => some k ≠ v5.ownBlock) v6 ((l0.take j).flatMap txF)
  bel : Below w.heap.size w W
  chk : ∀ o ∈ l0.take j, chkF o = true
theorem make_run (w : World) : (Instr.makeMap TN none).run Try.prog w = .ok (.map (some w.heap.size)) (w.alloc (.map #[] 0)) := by
  have hu := Try.underlying43
  unfold Instr.makeMap
  simp [Sem.run_bind, run_underlying hu w]
theorem Rd.start (w : World) (l0 : List Sop) (v : Value) (hv : v = .slice none 0 0) {W : World} (hW : W = (w.alloc (.map #[] 0)).alloc (.cells #[.map (some w.heap.size)] TN (0, 0))) : Rd w l0 (w.heap.size + 1) w.heap.size 0 v v W := by
  subst hv
  subst hW
  refine ⟨?_, ?_, Kd.R_nil _ _ _ _ _, Kd.R_nil _ _ _ _ _, below_alloc (below_alloc (Below.refl _ _) _) _, fun o ho => by simp at ho⟩
  · have := blk_new (w.alloc (.map #[] 0)) (.cells #[.map (some w.heap.size)] TN (0, 0))
    simpa using this
  · exact blk_alloc (blk_new w _) _
theorem Rd.step {w W W1 : World} {l0 : List Sop} {B gm j : Nat} {v5 v6 : Value} (h : Rd w l0 B gm j v5 v6 W) (hb : Below W.heap.size W W1) : Rd w l0 B gm j v5 v6 W1 :=
  ⟨blk_below h.box hb, blk_below h.map hb, Kd.R_below h.names hb, Kd.R_below h.texts hb, h.bel.trans (hb.mono h.bel.size), h.chk⟩
theorem chk_short {o : Sop} (h : chkF o = true) : shortN o.f1 := by
  unfold chkF nameF at h
  simp only [Bool.and_eq_true, decide_eq_true_eq] at h
  exact h.1.1.2.1
theorem addN_ok {ns : List ByteArray} {s : ByteArray} (h : Oks ns) (hn : ns.Nodup) (hs : shortN s) : Oks (addN ns s) ∧ (addN ns s).Nodup ∧ s ∈ addN ns s ∧ ∀ x ∈ ns, x ∈ addN ns s := by
  unfold addN
  by_cases hi : s ∈ ns
  · rw [if_pos (idx_lt ns s hi)]
    exact ⟨h, hn, hi, fun x hx => hx⟩
  · rw [if_neg (by rw [idx_not ns s hi]; omega)]
    refine ⟨fun x hx => ?_, ?_, by simp, fun x hx => by simp [hx]⟩
    · rcases List.mem_append.1 hx with hx | hx
      · exact h x hx
      · obtain rfl : x = s := by simpa using hx
        exact hs
    · rw [List.nodup_append]
      exact ⟨hn, by simp, fun a ha b hb => by obtain rfl : b = s := by simpa using hb
                                              exact fun e => hi (e ▸ ha)⟩
theorem nsF_snoc (l : List Sop) (o : Sop) : nsF (l ++ [o]) = addN (nsF l) o.f1 := by simp [nsF, List.foldl_append]
theorem nsF_ok : ∀ (n : Nat) (l : List Sop), l.length = n → (∀ o ∈ l, chkF o = true) → Oks (nsF l) ∧ (nsF l).Nodup ∧ ∀ o ∈ l, o.f1 ∈ nsF l
  | 0, l, hl, h => by
    obtain rfl := List.length_eq_zero_iff.1 hl
    exact ⟨fun x hx => by simp [nsF] at hx, by simp [nsF], fun o ho => by simp at ho⟩
  | n + 1, l, hl, h => by
    obtain ⟨l', o, rfl⟩ : ∃ l' o, l = l' ++ [o] := ⟨l.dropLast, l.getLast (by intro e; simp [e] at hl), (List.dropLast_concat_getLast _).symm⟩
    obtain ⟨h1, h2, h3⟩ := nsF_ok n l' (by simpa using hl) (fun x hx => h x (by simp [hx]))
    obtain ⟨g1, g2, g3, g4⟩ := addN_ok h1 h2 (chk_short (h o (by simp)))
    rw [nsF_snoc]
    refine ⟨g1, g2, fun x hx => ?_⟩
    rcases List.mem_append.1 hx with hx | hx
    · exact g4 _ (h3 x hx)
    · obtain rfl : x = o := by simpa using hx
      exact g3
theorem take_next {l0 : List Sop} {j : Nat} {x : Sop} (hx : l0[j]? = some x) : l0.take (j + 1) = l0.take j ++ [x] := by
  rw [List.take_add_one, hx, Option.toList_some]
theorem nsF_in {l : List Sop} {x : Sop} (h : idx (nsF l) x.f1 < (nsF l).length) : nsF (l ++ [x]) = nsF l := by
  rw [nsF_snoc, addN, if_pos h]
theorem nsF_new {l : List Sop} {x : Sop} (h : ¬ idx (nsF l) x.f1 < (nsF l).length) : nsF (l ++ [x]) = nsF l ++ [x.f1] := by
  rw [nsF_snoc, addN, if_neg h]
theorem chk_next {l : List Sop} {x : Sop} (h : ∀ o ∈ l, chkF o = true) (hx : chkF x = true) : ∀ o ∈ l ++ [x], chkF o = true := fun o ho => by
  rcases List.mem_append.1 ho with ho | ho
  · exact h o ho
  · obtain rfl : o = x := by simpa using ho
    exact hx
theorem Rd.next_in {w W : World} {l0 : List Sop} {B gm j : Nat} {v5 v6 : Value} {x : Sop} (h : Rd w l0 B gm j v5 v6 W) (hx : l0[j]? = some x) (hc : chkF x = true) (hin : idx (nsF (l0.take j)) x.f1 < (nsF (l0.take j)).length) (ht : txF x = []) : Rd w l0 B gm (j + 1) v5 v6 W := by
  have e1 := take_next hx
  have e2 : nsF (l0.take (j + 1)) = nsF (l0.take j) := by rw [e1, nsF_in hin]
  have e3 : (l0.take (j + 1)).flatMap txF = (l0.take j).flatMap txF := by rw [e1, List.flatMap_append]; simp [ht]
  exact ⟨h.box, by rw [e2]; exact h.map, by rw [e2]; exact h.names, by rw [e3]; exact h.texts, h.bel, by rw [e1]; exact chk_next h.chk hc⟩
theorem texted_f (a : Int) : op_texted.f a = some (decide (a = 1 ∨ a = 4)) := by
  unfold op_texted.f
  by_cases h1 : a = 1
  · rw [if_pos h1, decide_eq_true (Or.inl h1)]
  · rw [if_neg h1]
    by_cases h4 : a = 4
    · rw [decide_eq_true (Or.inr h4), h4]; rfl
    · rw [decide_eq_false (by rintro (h | h) <;> contradiction)]
      exact congrArg some (beq_eq_false_iff_ne.2 h4)
theorem chk_text {o : Sop} (h : chkF o = true) : o.f4.size ≤ 1024 := by
  unfold chkF at h
  simp only [Bool.and_eq_true, decide_eq_true_eq] at h
  omega
theorem textP_len {s : ByteArray} (h : s.size ≤ 1024) : (textP s).length ≤ 1034 := by
  have h1 : (LebT.putU s.size).length ≤ 10 := LebT.putU_len64 (by omega)
  have h2 : (bytesOf s).length = s.size := bytesOf_length s
  rw [textP, List.length_append]
  omega
theorem Text_eq {s : ByteArray} (h : s.size ≤ 1024) : leb_Text.f 140 s = some (textP s) := by
  have h1 : (LebT.putU s.size).length ≤ 10 := LebT.putU_len64 (by omega)
  unfold leb_Text.f
  rw [LebP.u64_size (by omega), LebP.uint_f (by omega) (by omega) (by omega)]
  simp only [Option.bind_some, Int.toNat_natCast]
  rw [if_pos (by omega)]
  rfl
theorem flat_len {α : Type} (f : α → List Int) (c : Nat) : ∀ l : List α, (∀ x ∈ l, (f x).length ≤ c) → (l.flatMap f).length ≤ c * l.length
  | [], _ => by simp
  | x :: r, h => by
    have h1 := h x (by simp)
    have h2 := flat_len f c r (fun y hy => h y (by simp [hy]))
    rw [List.flatMap_cons, List.length_append, List.length_cons, Nat.mul_succ]
    omega
theorem txF_len {o : Sop} (h : chkF o = true) : (txF o).length ≤ 1034 := by
  unfold txF
  split
  · exact textP_len (chk_text h)
  · simp
theorem ne_map {W : World} {base gm : Nat} {ok : Nat → Prop} {v : Value} {xs : List Int} {es : Array MapEntry} {ck : Nat} (h : Kd.R (Kd.int .u8) 5 W base ok v xs) (hm : W.heap[gm]? = some (.map es ck)) : some gm ≠ v.ownBlock := fun e => by
  obtain ⟨cells, hc⟩ := Kd.R_typed h gm e.symm
  rw [hm] at hc
  cases hc
theorem Rd.texts_put {w W W1 : World} {l0 : List Sop} {B gm j : Nat} {v5 v6 v6' : Value} {x : Sop} (h : Rd w l0 B gm j v5 v6 W) (hx : l0[j]? = some x) (hc : chkF x = true) (hin : idx (nsF (l0.take j)) x.f1 < (nsF (l0.take j)).length) (ht : txF x = textP x.f4)
    (ho : Kd.R (Kd.int .u8) 5 W1 w.heap.size (fun k => some k ≠ v5.ownBlock) v6' ((l0.take j).flatMap txF ++ textP x.f4)) (hb : Below w.heap.size w W1) (hg : W.grownBy W1 v6.ownBlock) (hat : v6'.ownBlock = v6.ownBlock ∨ ∃ b, v6'.ownBlock = some b ∧ W.heap.size ≤ b) : Rd w l0 B gm (j + 1) v5 v6' W1 := by
  have e1 := take_next hx
  have e2 : nsF (l0.take (j + 1)) = nsF (l0.take j) := by rw [e1, nsF_in hin]
  have e3 : (l0.take (j + 1)).flatMap txF = (l0.take j).flatMap txF ++ textP x.f4 := by rw [e1, List.flatMap_append]; simp [ht]
  refine ⟨blk_grown h.box hg (Kd.R_ne h.texts h.box (by decide)), ?_, ?_, by rw [e3]; exact ho, hb, by rw [e1]; exact chk_next h.chk hc⟩
  · rw [e2]
    exact (hg.block gm (Array.getElem?_eq_some_iff.1 h.map).1 (ne_map h.texts h.map)).trans h.map
  · rw [e2]
    exact Kd.R_mono (Kd.R_after (ok := fun _ => True) (Kd.R_mono h.names (fun _ hk => ⟨trivial, hk⟩)) hg hat) (fun _ hk => hk.2)
structure Ru (w : World) (l0 : List Sop) (B gm j : Nat) (ns ms : List ByteArray) (v5 v6 : Value) (W : World) : Prop where
  box : W.heap[B]? = some (.cells #[.map (some gm)] TN (0, 0))
  map : W.heap[gm]? = some (.map (E 0 ns).toArray ns.length)
  names : Kd.R (Kd.int .u8) 5 W w.heap.size (fun k => some k ≠ v6.ownBlock) v5 (ms.flatMap textP)
  texts : Kd.R (Kd.int .u8) 5 W w.heap.size (fun k => some k ≠ v5.ownBlock) v6 ((l0.take j).flatMap txF)
  bel : Below w.heap.size w W
  chk : ∀ o ∈ l0.take j, chkF o = true
theorem Ru.step {w W W1 : World} {l0 : List Sop} {B gm j : Nat} {ns ms : List ByteArray} {v5 v6 : Value} (h : Ru w l0 B gm j ns ms v5 v6 W) (hb : Below W.heap.size W W1) : Ru w l0 B gm j ns ms v5 v6 W1 :=
  ⟨blk_below h.box hb, blk_below h.map hb, Kd.R_below h.names hb, Kd.R_below h.texts hb, h.bel.trans (hb.mono h.bel.size), h.chk⟩
theorem Rd.upd {w W : World} {l0 : List Sop} {B gm j : Nat} {v5 v6 : Value} (h : Rd w l0 B gm j v5 v6 W) (hB : B ≠ gm) (hg : w.heap.size ≤ gm) (s : ByteArray) : Ru w l0 B gm j (nsF (l0.take j) ++ [s]) (nsF (l0.take j)) v5 v6 (ChangeMaps.setBlock W gm (.map (E 0 (nsF (l0.take j) ++ [s])).toArray (nsF (l0.take j) ++ [s]).length)) :=
  ⟨(set_other hB).trans h.box, set_same h.map, R_set_map h.names h.map, R_set_map h.texts h.map, below_setm h.bel hg, h.chk⟩
theorem Ru.names_put {w W W1 : World} {l0 : List Sop} {B gm j : Nat} {ns ms : List ByteArray} {v5 v5' v6 : Value} {s : ByteArray} (h : Ru w l0 B gm j ns ms v5 v6 W)
    (ho : Kd.R (Kd.int .u8) 5 W1 w.heap.size (fun k => some k ≠ v6.ownBlock) v5' (ms.flatMap textP ++ textP s)) (hb : Below w.heap.size w W1) (hg : W.grownBy W1 v5.ownBlock) (hat : v5'.ownBlock = v5.ownBlock ∨ ∃ b, v5'.ownBlock = some b ∧ W.heap.size ≤ b) : Ru w l0 B gm j ns (ms ++ [s]) v5' v6 W1 :=
  ⟨blk_grown h.box hg (Kd.R_ne h.names h.box (by decide)), (hg.block gm (Array.getElem?_eq_some_iff.1 h.map).1 (ne_map h.names h.map)).trans h.map, by rw [List.flatMap_append]; simpa using ho,
    Kd.R_mono (Kd.R_after (ok := fun _ => True) (Kd.R_mono h.texts (fun _ hk => ⟨trivial, hk⟩)) hg hat) (fun _ hk => hk.2), hb, h.chk⟩
theorem Ru.next {w W : World} {l0 : List Sop} {B gm j : Nat} {v5 v6 : Value} {x : Sop} (h : Ru w l0 B gm j (nsF (l0.take j) ++ [x.f1]) (nsF (l0.take j) ++ [x.f1]) v5 v6 W) (hx : l0[j]? = some x) (hc : chkF x = true) (hin : ¬ idx (nsF (l0.take j)) x.f1 < (nsF (l0.take j)).length) (ht : txF x = []) : Rd w l0 B gm (j + 1) v5 v6 W := by
  have e1 := take_next hx
  have e2 : nsF (l0.take (j + 1)) = nsF (l0.take j) ++ [x.f1] := by rw [e1, nsF_new hin]
  have e3 : (l0.take (j + 1)).flatMap txF = (l0.take j).flatMap txF := by rw [e1, List.flatMap_append]; simp [ht]
  exact ⟨h.box, by rw [e2]; exact h.map, by rw [e2]; exact h.names, by rw [e3]; exact h.texts, h.bel, by rw [e1]; exact chk_next h.chk hc⟩
theorem Ru.texts_put {w W W1 : World} {l0 : List Sop} {B gm j : Nat} {v5 v6 v6' : Value} {x : Sop} (h : Ru w l0 B gm j (nsF (l0.take j) ++ [x.f1]) (nsF (l0.take j) ++ [x.f1]) v5 v6 W) (hx : l0[j]? = some x) (hc : chkF x = true) (hin : ¬ idx (nsF (l0.take j)) x.f1 < (nsF (l0.take j)).length) (ht : txF x = textP x.f4)
    (ho : Kd.R (Kd.int .u8) 5 W1 w.heap.size (fun k => some k ≠ v5.ownBlock) v6' ((l0.take j).flatMap txF ++ textP x.f4)) (hb : Below w.heap.size w W1) (hg : W.grownBy W1 v6.ownBlock) (hat : v6'.ownBlock = v6.ownBlock ∨ ∃ b, v6'.ownBlock = some b ∧ W.heap.size ≤ b) : Rd w l0 B gm (j + 1) v5 v6' W1 := by
  have e1 := take_next hx
  have e2 : nsF (l0.take (j + 1)) = nsF (l0.take j) ++ [x.f1] := by rw [e1, nsF_new hin]
  have e3 : (l0.take (j + 1)).flatMap txF = (l0.take j).flatMap txF ++ textP x.f4 := by rw [e1, List.flatMap_append]; simp [ht]
  refine ⟨blk_grown h.box hg (Kd.R_ne h.texts h.box (by decide)), ?_, ?_, by rw [e3]; exact ho, hb, by rw [e1]; exact chk_next h.chk hc⟩
  · rw [e2]
    exact (hg.block gm (Array.getElem?_eq_some_iff.1 h.map).1 (ne_map h.texts h.map)).trans h.map
  · rw [e2]
    exact Kd.R_mono (Kd.R_after (ok := fun _ => True) (Kd.R_mono h.names (fun _ hk => ⟨trivial, hk⟩)) hg hat) (fun _ hk => hk.2)
theorem nsF_len : ∀ (n : Nat) (l : List Sop), l.length = n → (nsF l).length ≤ l.length
  | 0, l, hl => by
    obtain rfl := List.length_eq_zero_iff.1 hl
    simp [nsF]
  | n + 1, l, hl => by
    obtain ⟨l', o, rfl⟩ : ∃ l' o, l = l' ++ [o] := ⟨l.dropLast, l.getLast (by intro e; simp [e] at hl), (List.dropLast_concat_getLast _).symm⟩
    have h1 := nsF_len n l' (by simpa using hl)
    rw [nsF_snoc, addN]
    split
    · simp; omega
    · simp; omega
theorem addN_pre (ns : List ByteArray) (s : ByteArray) : ∃ m, addN ns s = ns ++ m := by
  unfold addN
  split
  · exact ⟨[], by simp⟩
  · exact ⟨[s], rfl⟩
theorem fold_pre : ∀ (r : List Sop) (ns : List ByteArray), ∃ m, r.foldl (fun n o => addN n o.f1) ns = ns ++ m
  | [], ns => ⟨[], by simp⟩
  | o :: r, ns => by
    obtain ⟨m1, h1⟩ := addN_pre ns o.f1
    obtain ⟨m2, h2⟩ := fold_pre r (addN ns o.f1)
    exact ⟨m1 ++ m2, by rw [List.foldl_cons, h2, h1, List.append_assoc]⟩
theorem nsF_pre (l r : List Sop) : ∃ m, nsF (l ++ r) = nsF l ++ m := by
  obtain ⟨m, h⟩ := fold_pre r (nsF l)
  exact ⟨m, by rw [nsF, List.foldl_append]; exact h⟩
theorem idx_met (l r : List Sop) (x : Sop) : idx (nsF (l ++ x :: r)) x.f1 = idx (nsF l) x.f1 := by
  obtain ⟨m, h⟩ := nsF_pre (l ++ [x]) r
  rw [List.append_assoc, List.singleton_append] at h
  rw [h, nsF_snoc]
  unfold addN
  by_cases hi : x.f1 ∈ nsF l
  · rw [if_pos (idx_lt _ _ hi), idx_app _ _ _ hi]
  · have e := idx_not _ _ hi
    rw [if_neg (by omega), idx_app _ _ _ (by simp), e]
    have e2 : (nsF l ++ [x.f1])[(nsF l).length]? = some x.f1 := by simp
    clear h
    have key : ∀ (L : List ByteArray) (s : ByteArray), s ∉ L → idx (L ++ [s]) s = L.length := by
      intro L s
      induction L with
      | nil => intro _; simp [idx]
      | cons y L ih =>
        intro hn
        rw [List.cons_append, idx, if_neg (fun e => hn (by rw [e]; simp)), ih (fun hm => hn (by simp [hm]))]
        rfl
    exact key _ _ hi
theorem chk_rng {o : Sop} (h : chkF o = true) : (1 ≤ o.f0 ∧ o.f0 ≤ 5) ∧ (0 ≤ o.f2 ∧ o.f2 ≤ 1099511627776) ∧ -2147483648 ≤ o.f3 ∧ o.f3 ≤ 2147483648 := by
  unfold chkF at h
  simp only [Bool.and_eq_true, decide_eq_true_eq] at h
  omega
def in64 (x : Int) : Prop := -9223372036854775808 ≤ x ∧ x < 9223372036854775808
theorem kinds_ok {l : List Sop} (h : ∀ o ∈ l, chkF o = true) : ∀ x ∈ l.map (·.f0), in64 x := fun x hx => by
  obtain ⟨o, ho, rfl⟩ := List.mem_map.1 hx
  have := chk_rng (h o ho)
  unfold in64
  omega
theorem pos_ok {l : List Sop} (h : ∀ o ∈ l, chkF o = true) : ∀ x ∈ l.map (·.f2), in64 x := fun x hx => by
  obtain ⟨o, ho, rfl⟩ := List.mem_map.1 hx
  have := chk_rng (h o ho)
  unfold in64
  omega
theorem by_ok {l : List Sop} (h : ∀ o ∈ l, chkF o = true) : ∀ x ∈ l.map (·.f3), in64 x := fun x hx => by
  obtain ⟨o, ho, rfl⟩ := List.mem_map.1 hx
  have := chk_rng (h o ho)
  unfold in64
  omega
theorem which_ok (l : List Sop) (ns : List ByteArray) (hn : ns.length ≤ 256) : ∀ x ∈ l.map (fun o => (idx ns o.f1 : Int)), in64 x := fun x hx => by
  obtain ⟨o, ho, rfl⟩ := List.mem_map.1 hx
  have := idx_le ns o.f1
  unfold in64
  omega
theorem kinds_runs {l : List Sop} (hl : l.length ≤ 256) (h : ∀ o ∈ l, chkF o = true) : column_Runs.f (l.map (·.f0)) = some (ColS.runs (l.map (·.f0))) := ColT.runs_some _ (by simp; omega) (kinds_ok h)
theorem by_runs {l : List Sop} (hl : l.length ≤ 256) (h : ∀ o ∈ l, chkF o = true) : column_Runs.f (l.map (·.f3)) = some (ColS.runs (l.map (·.f3))) := ColT.runs_some _ (by simp; omega) (by_ok h)
theorem which_runs {l : List Sop} (ns : List ByteArray) (hl : l.length ≤ 256) (hn : ns.length ≤ 256) : column_Runs.f (l.map (fun o => (idx ns o.f1 : Int))) = some (ColS.runs (l.map (fun o => (idx ns o.f1 : Int)))) := ColT.runs_some _ (by simp; omega) (which_ok l ns hn)
theorem pos_deltas {l : List Sop} (hl : l.length ≤ 256) (h : ∀ o ∈ l, chkF o = true) : column_Deltas.f 300 (l.map (·.f2)) = some (ColS.runs (ColT.dif0 (l.map (·.f2)))) := by
  rw [ColT.putDeltas_f _ (by simp; omega) (by simp; omega)]
  exact ColT.runs_some _ (by rw [ColT.dif0_length]; simp; omega) (ColT.dif0_rng _ (pos_ok h))
theorem runs_len (l : List Int) (hl : l.length ≤ 256) (h : ∀ x ∈ l, in64 x) : (ColS.runs l).length ≤ 6000 := by
  have key : ∀ ps : List (Int × Nat), (∀ p ∈ ps, in64 p.1 ∧ p.2 < 18446744073709551616) → (ColS.flat ps).length ≤ 20 * ps.length := by
    intro ps
    induction ps with
    | nil => intro _; simp [ColS.flat]
    | cons p t ih =>
      intro hp
      have h1 := hp p (by simp)
      have h3 : (LebT.putU p.2).length ≤ 10 := LebT.putU_len64 h1.2
      have h4 : (LebT.putI p.1).length ≤ 10 := LebT.putI_len64 h1.1.1 h1.1.2
      have e : ColS.flat (p :: t) = LebT.putU p.2 ++ LebT.putI p.1 ++ ColS.flat t := by simp [ColS.flat]
      have := ih (fun q hq => hp q (by simp [hq]))
      rw [e]
      simp only [List.length_append, List.length_cons]
      omega
  have h1 := key (ColS.st l) (fun p hp => by
    have := ColS.st_mem l p hp
    exact ⟨h _ this.1, by omega⟩)
  have h2 := ColS.st_length l
  have h3 : (LebT.putU (ColS.st l).length).length ≤ 10 := LebT.putU_len64 (by omega)
  unfold ColS.runs
  rw [List.length_append]
  omega
theorem uint_len {n : Nat} (hn : n ≤ 256) : leb_Uint.f 140 (n : Int) = some (LebT.putU n) := by
  rw [LebP.uint_f (by omega) (by omega) (by omega), Int.toNat_natCast]
theorem len_run {w : World} {gm : Nat} {L : List ByteArray} (hm : w.heap[gm]? = some (.map (E 0 L).toArray L.length)) : (Builtin.len_ #[TN] 3 #[.map (some gm)]).run Try.prog w = .ok (.int .i64 (L.length : Int)) w := by
  have hu := Try.underlying43
  have hg := MapKept.run_getObj_map (P := Try.prog) hm
  unfold Builtin.len_
  simp [Sem.run_bind, run_underlying hu w, hg, E_len]
  rfl
set_option maxRecDepth 100000 in
set_option maxHeartbeats 8000000 in
theorem Put_long (A0 : Option Addr) (c0 : Nat) (l0 : List Sop) (w : World) (hl : 256 < l0.length) :
    Calls Try.prog 9 #[.slice A0 l0.length c0] w fun e w' => ∃ v : Value, e = .returned (.tuple #[v, .int .i64 5]) ∧ Kd.R (Kd.int .u8) 5 w' w.heap.size (fun _ => True) v [] ∧ Below w.heap.size w w' := by
  have hlt : decide ((256 : Int) < l0.length) = true := decide_eq_true (by omega)
  clear hl
  go_enter Try.func9, Try.ntmps9
  go_wp2
  go_ret2
  exact ⟨_, rfl, Kd.R_nil _ _ _ _ _, Below.refl _ _⟩
set_option maxRecDepth 100000 in
set_option maxHeartbeats 8000000 in
theorem Put_calls (A0 : Option Addr) (c0 : Nat) (l0 : List Sop) (w : World) (hr0 : Kd.C k33 w A0 l0.length l0) (hl : l0.length ≤ 256) :
    Calls Try.prog 9 #[.slice A0 l0.length c0] w fun e w' => ∃ v : Value, e = .returned (.tuple #[v, .int .i64 (putE l0)]) ∧ Kd.R (Kd.int .u8) 5 w' w.heap.size (fun _ => True) v (putB l0) ∧ Below w.heap.size w w' := by
  have HR0 := Aside0.mk hr0
  have HL := Aside0.mk hl
  have hu33 := Try.underlying33
  have hmk := make_run w
  have hlt : decide ((256 : Int) < l0.length) = false := decide_eq_false (by omega)
  have HS := fun W hW => Aside0.mk (Rd.start w l0 (.slice none 0 0) rfl (W := W) hW)
  clear hr0 hl
  go_enter Try.func9, Try.ntmps9
  go_wp2_with fail
  have HS2 := HS _ rfl
  clear HS
  have HBB : Aside0 (w.heap.size ≤ w.heap.size) := ⟨Nat.le_refl _⟩
  go_loopw [5, 6, 18] (fun v5 v6 v18 wr => ∃ j : Nat, j ≤ l0.length ∧ v18 = .int .i64 j ∧ Aside0 (Rd w l0 (w.heap.size + 1) w.heap.size j v5 v6 wr)) (fun _ _ v18 _ => l0.length - (intOf v18).toNat)
  case atStart => exact ⟨0, by omega, rfl, HS2⟩
  case round =>
    clear HS2
    obtain ⟨j, hj, rfl, HR⟩ := hrel
    by_cases hjl : j < l0.length
    · obtain ⟨ad, e191, hx0, hx1, hx2, hx3, hx4⟩ := at_T33 HR0.out (j : Int) (by omega) (by omega)
      cases e191
      obtain ⟨x, hx⟩ : ∃ x, rd_T33 l0 (j : Int) = x := ⟨_, rfl⟩
      rw [hx] at hx0 hx1 hx2 hx3 hx4
      have he : l0[j]? = some x := by
        rw [← hx]
        simp only [rd_T33, Int.toNat_natCast]
        rw [List.getD_eq_getElem?_getD, List.getElem?_eq_getElem hjl]; rfl
      have HX := Aside0.mk he
      simp only [Int.toNat_natCast] at hx0 hx1 hx2 hx3 hx4
      replace hx0 := (HR.out.bel.cell (World.block_lt_of_cell? w _ hx0)).trans hx0
      replace hx1 := (HR.out.bel.cell (World.block_lt_of_cell? w _ hx1)).trans hx1
      replace hx2 := (HR.out.bel.cell (World.block_lt_of_cell? w _ hx2)).trans hx2
      replace hx3 := (HR.out.bel.cell (World.block_lt_of_cell? w _ hx3)).trans hx3
      replace hx4 := (HR.out.bel.cell (World.block_lt_of_cell? w _ hx4)).trans hx4
      clear he hx
      have HCK := Aside0.mk (Check_eq x 140 (Nat.le_refl _))
      by_cases hck : chkF x = true
      · rw [if_pos hck] at HCK
        have HCX := Aside0.mk hck
        clear hck
        obtain ⟨g1, g2, g3⟩ := nsF_ok j (l0.take j) (by simp; omega) HR.out.chk
        have HOK := Aside0.mk (And.intro g1 g2)
        clear g1 g2 g3
        have HSH := Aside0.mk (chk_short HCX.out)
        by_cases hin : idx (nsF (l0.take j)) x.f1 < (nsF (l0.take j)).length
        · have hdi : decide (idx (nsF (l0.take j)) x.f1 < (nsF (l0.take j)).length) = true := decide_eq_true hin
          have HIN := Aside0.mk hin
          clear hin
          have HTX := Aside0.mk (texted_f x.f0)
          by_cases htx : x.f0 = 1 ∨ x.f0 = 4
          · have htf : txF x = textP x.f4 := if_pos htx
            rw [decide_eq_true htx] at HTX
            have HTF := Aside0.mk htf
            have HTT := Aside0.mk (Text_eq (chk_text HCX.out))
            have HLT : Aside0 (((l0.take j).flatMap txF).length ≤ 1034 * 256 ∧ (textP x.f4).length ≤ 1034) := ⟨⟨Nat.le_trans (flat_len txF 1034 (l0.take j) (fun o ho => txF_len (HR.out.chk o ho))) (Nat.mul_le_mul_left _ (by have := HL.out; simp; omega)), textP_len (chk_text HCX.out)⟩⟩
            clear htx htf
            go_wp2_with (first | (go_at_call 13; refine (op_Check.calls 140 x.f0 x.f1 x.f2 x.f3 x.f4 0 _ HCK.out).mono ?_; rintro e w2 ⟨rfl, hb⟩; have HBX := Aside0.mk (blk_below (blk_new wr (.cells #[.int .i64 x.f0, .string x.f1, .int .i64 x.f2, .int .i64 x.f3, .string x.f4] 33)) hb); have HR2 := Aside0.mk (HR.out.step (below_alloc (Below.refl _ _) _ |>.trans (hb.mono (by simp)))); clear hb; have hb0 : w2.cell? ⟨wr.heap.size, 0, none⟩ = some (.int .i64 x.f0) := (blk_cell HBX.out 0).trans rfl; have hb1 : w2.cell? ⟨wr.heap.size, 1, none⟩ = some (.string x.f1) := (blk_cell HBX.out 1).trans rfl; have hb4 : w2.cell? ⟨wr.heap.size, 4, none⟩ = some (.string x.f4) := (blk_cell HBX.out 4).trans rfl; have hcm : w2.cell? ⟨w.heap.size + 1, 0, none⟩ = some (.map (some w.heap.size)) := (blk_cell HR2.out.box 0).trans rfl; obtain ⟨vv, hlk⟩ := lookok_run HR2.out.map HSH.out HOK.out.1 HOK.out.2; rw [hdi] at hlk) | (go_at_call 21; refine (op_texted.calls x.f0 true _ HTX.out).mono ?_; rintro e w' ⟨rfl, ⟨nd, rfl⟩⟩; have HR3 := Aside0.mk (HR2.out.step (pw_below_drewN (Below.refl _ _) nd))) | (go_at_call 20; refine (leb_Text.calls 140 x.f4 (textP x.f4) _ HTT.out).mono ?_; rintro e w4 ⟨vt, rfl, ho, hb⟩; obtain ⟨At, ct, et⟩ := Kd.R_slice ho; subst et; have HRT := Aside0.mk (Kd.R_reads' ho).2.2; have HR5 := Aside0.mk (HR3.out.step hb); clear ho hb) | ((with_reducible refine gate_builtin (b := .append) (xs := #[.tmp 49, .tmp 52]) rfl ?_); at_builtin; refine Kd.R_append_rows (Kd.int .u8) (w0 := w) w.heap.size rfl (.tmp 49) (.tmp 52) 23 5 (.int .u8 0) 1 rfl Try.underlying23 info5 rfl (by decide) (by omega) u6 ((l0.take j).flatMap txF) (textP x.f4) _ _ _ (fun k_ => some k_ ≠ u5.ownBlock) (fun _ => False) rfl rfl ?aO ?aR (fun _ _ h => h) (fun _ h => h.elim) ?aF ?aB ?aS ?aL ?_; (case aR => exact HRT.out); (case aB => exact HR5.out.bel); (case aF => exact (fun k_ hk => Kd.fresh' (Kd.R_lt HR5.out.names) k_ hk)); (case aO => exact HR5.out.texts); (case aS => exact below_size HR5.out.bel); (case aL => have := HLT.out; omega); intro v6 w6 ho hb hg hat; have HR6 := Aside0.mk (HR5.out.texts_put HX.out HCX.out HIN.out HTF.out ho hb hg hat); clear ho hb hg hat))
            go_roundw
            case rel =>
              have hw : wrap64 ((j : Int) + 1) = ((j + 1 : Nat) : Int) := by have := HL.out; unfold wrap64; omega
              exact ⟨j + 1, by omega, by rw [hw], ⟨HR6.out⟩⟩
            case measure =>
              have hw : wrap64 ((j : Int) + 1) = ((j + 1 : Nat) : Int) := by have := HL.out; unfold wrap64; omega
              rw [hw]
              show l0.length - ((j + 1 : Nat) : Int).toNat < l0.length - ((j : Nat) : Int).toNat
              rw [Int.toNat_natCast, Int.toNat_natCast]
              omega
          · have htf : txF x = [] := if_neg htx
            rw [decide_eq_false htx] at HTX
            have HTF := Aside0.mk htf
            clear htx htf
            go_wp2_with (first | (go_at_call 13; refine (op_Check.calls 140 x.f0 x.f1 x.f2 x.f3 x.f4 0 _ HCK.out).mono ?_; rintro e w2 ⟨rfl, hb⟩; have HBX := Aside0.mk (blk_below (blk_new wr (.cells #[.int .i64 x.f0, .string x.f1, .int .i64 x.f2, .int .i64 x.f3, .string x.f4] 33)) hb); have HR2 := Aside0.mk (HR.out.step (below_alloc (Below.refl _ _) _ |>.trans (hb.mono (by simp)))); clear hb; have hb0 : w2.cell? ⟨wr.heap.size, 0, none⟩ = some (.int .i64 x.f0) := (blk_cell HBX.out 0).trans rfl; have hb1 : w2.cell? ⟨wr.heap.size, 1, none⟩ = some (.string x.f1) := (blk_cell HBX.out 1).trans rfl; have hb4 : w2.cell? ⟨wr.heap.size, 4, none⟩ = some (.string x.f4) := (blk_cell HBX.out 4).trans rfl; have hcm : w2.cell? ⟨w.heap.size + 1, 0, none⟩ = some (.map (some w.heap.size)) := (blk_cell HR2.out.box 0).trans rfl; obtain ⟨vv, hlk⟩ := lookok_run HR2.out.map HSH.out HOK.out.1 HOK.out.2; rw [hdi] at hlk) | (go_at_call 21; refine (op_texted.calls x.f0 false _ HTX.out).mono ?_; rintro e w' ⟨rfl, ⟨nd, rfl⟩⟩; have HR3 := Aside0.mk (HR2.out.step (pw_below_drewN (Below.refl _ _) nd))))
            go_roundw
            case rel =>
              have hw : wrap64 ((j : Int) + 1) = ((j + 1 : Nat) : Int) := by have := HL.out; unfold wrap64; omega
              exact ⟨j + 1, by omega, by rw [hw], ⟨HR3.out.next_in HX.out HCX.out HIN.out HTF.out⟩⟩
            case measure =>
              have hw : wrap64 ((j : Int) + 1) = ((j + 1 : Nat) : Int) := by have := HL.out; unfold wrap64; omega
              rw [hw]
              show l0.length - ((j + 1 : Nat) : Int).toNat < l0.length - ((j : Nat) : Int).toNat
              rw [Int.toNat_natCast, Int.toNat_natCast]
              omega
        · have hdi : decide (idx (nsF (l0.take j)) x.f1 < (nsF (l0.take j)).length) = false := decide_eq_false hin
          have HIN := Aside0.mk hin
          have HNI : Aside0 (x.f1 ∉ nsF (l0.take j)) := ⟨fun hm => hin (idx_lt _ _ hm)⟩
          have HTX := Aside0.mk (texted_f x.f0)
          have HTN := Aside0.mk (Text_eq (s := x.f1) (by have := HSH.out; unfold shortN at this; omega))
          have HLT3 : Aside0 (wr.heap.size ≠ w.heap.size) := ⟨fun e => by have := (Array.getElem?_eq_some_iff.1 HR.out.map).1; omega⟩
          have HLN : Aside0 (((nsF (l0.take j)).flatMap textP).length ≤ 1034 * 256 ∧ (textP x.f1).length ≤ 1034) := ⟨⟨Nat.le_trans (flat_len textP 1034 (nsF (l0.take j)) (fun s hs => textP_len (by have := HOK.out.1 s hs; unfold shortN at this; omega))) (Nat.mul_le_mul_left _ (by have := HL.out; have h2 := nsF_len _ (l0.take j) rfl; simp at h2; omega)), textP_len (by have := HSH.out; unfold shortN at this; omega)⟩⟩
          clear hin
          by_cases htx : x.f0 = 1 ∨ x.f0 = 4
          · have htf : txF x = textP x.f4 := if_pos htx
            rw [decide_eq_true htx] at HTX
            have HTF := Aside0.mk htf
            have HTT := Aside0.mk (Text_eq (chk_text HCX.out))
            have HLT : Aside0 (((l0.take j).flatMap txF).length ≤ 1034 * 256 ∧ (textP x.f4).length ≤ 1034) := ⟨⟨Nat.le_trans (flat_len txF 1034 (l0.take j) (fun o ho => txF_len (HR.out.chk o ho))) (Nat.mul_le_mul_left _ (by have := HL.out; simp; omega)), textP_len (chk_text HCX.out)⟩⟩
            clear htx htf
            go_wp2_with (first | (go_at_call 13; refine (op_Check.calls 140 x.f0 x.f1 x.f2 x.f3 x.f4 0 _ HCK.out).mono ?_; rintro e w2 ⟨rfl, hb⟩; have HBX := Aside0.mk (blk_below (blk_new wr (.cells #[.int .i64 x.f0, .string x.f1, .int .i64 x.f2, .int .i64 x.f3, .string x.f4] 33)) hb); have HR2 := Aside0.mk (HR.out.step (below_alloc (Below.refl _ _) _ |>.trans (hb.mono (by simp)))); clear hb; have hb0 : w2.cell? ⟨wr.heap.size, 0, none⟩ = some (.int .i64 x.f0) := (blk_cell HBX.out 0).trans rfl; have hb1 : w2.cell? ⟨wr.heap.size, 1, none⟩ = some (.string x.f1) := (blk_cell HBX.out 1).trans rfl; have hb4 : w2.cell? ⟨wr.heap.size, 4, none⟩ = some (.string x.f4) := (blk_cell HBX.out 4).trans rfl; have hcm : w2.cell? ⟨w.heap.size + 1, 0, none⟩ = some (.map (some w.heap.size)) := (blk_cell HR2.out.box 0).trans rfl; obtain ⟨vv, hlk⟩ := lookok_run HR2.out.map HSH.out HOK.out.1 HOK.out.2; rw [hdi] at hlk; have hupd := update_run HR2.out.map HSH.out HOK.out.1 HOK.out.2 HNI.out; have hlen := len_run HR2.out.map; have HU := HR2.out.upd (by omega) (Nat.le_refl _) x.f1; have HBX3 := (set_other (o := .map (E 0 (nsF (l0.take j) ++ [x.f1])).toArray (nsF (l0.take j) ++ [x.f1]).length) HLT3.out).trans HBX.out; obtain ⟨W3, hW3⟩ : ∃ W3, ChangeMaps.setBlock w2 w.heap.size (.map (E 0 (nsF (l0.take j) ++ [x.f1])).toArray (nsF (l0.take j) ++ [x.f1]).length) = W3 := ⟨_, rfl⟩; rw [hW3] at hupd HU HBX3; have HU3 := Aside0.mk HU; have HBX3' := Aside0.mk HBX3; clear hW3 HU HBX3; have hd0 : W3.cell? ⟨wr.heap.size, 0, none⟩ = some (.int .i64 x.f0) := (blk_cell HBX3'.out 0).trans rfl; have hd1 : W3.cell? ⟨wr.heap.size, 1, none⟩ = some (.string x.f1) := (blk_cell HBX3'.out 1).trans rfl; have hd4 : W3.cell? ⟨wr.heap.size, 4, none⟩ = some (.string x.f4) := (blk_cell HBX3'.out 4).trans rfl) | (go_at_call 20; (first | (refine (leb_Text.calls 140 x.f1 (textP x.f1) _ HTN.out).mono ?_; rintro e w4 ⟨vt, rfl, ho, hb⟩; obtain ⟨At, ct, et⟩ := Kd.R_slice ho; subst et; have HRT := Aside0.mk (Kd.R_reads' ho).2.2; have HU4 := Aside0.mk (HU3.out.step hb); have HBX4 := Aside0.mk (blk_below HBX3'.out hb); clear ho hb))) | ((with_reducible refine gate_builtin (b := .append) (xs := #[.tmp 41, .tmp 44]) rfl ?_); at_builtin; refine Kd.R_append_rows (Kd.int .u8) (w0 := w) w.heap.size rfl (.tmp 41) (.tmp 44) 23 5 (.int .u8 0) 1 rfl Try.underlying23 info5 rfl (by decide) (by omega) u5 ((nsF (l0.take j)).flatMap textP) (textP x.f1) _ _ _ (fun k_ => some k_ ≠ u6.ownBlock) (fun _ => False) rfl rfl ?aO ?aR (fun _ _ h => h) (fun _ h => h.elim) ?aF ?aB ?aS ?aL ?_; (case aR => exact HRT.out); (case aB => exact HU4.out.bel); (case aF => exact (fun k_ hk => Kd.fresh' (Kd.R_lt HU4.out.texts) k_ hk)); (case aO => exact HU4.out.names); (case aS => exact below_size HU4.out.bel); (case aL => have := HLN.out; omega); intro v5n w5 ho hb hg hat; have HU5 := Aside0.mk (HU4.out.names_put ho hb hg hat); have HBX5 := Aside0.mk (blk_grown HBX4.out hg (Kd.R_ne HU4.out.names HBX4.out (by decide))); clear ho hb hg hat; have he0 : w5.cell? ⟨wr.heap.size, 0, none⟩ = some (.int .i64 x.f0) := (blk_cell HBX5.out 0).trans rfl; have he4 : w5.cell? ⟨wr.heap.size, 4, none⟩ = some (.string x.f4) := (blk_cell HBX5.out 4).trans rfl) | (go_at_call 21; refine (op_texted.calls x.f0 true _ HTX.out).mono ?_; rintro e w' ⟨rfl, ⟨nd, rfl⟩⟩; have HU6 := Aside0.mk (HU5.out.step (pw_below_drewN (Below.refl _ _) nd))) | (go_at_call 20; refine (leb_Text.calls 140 x.f4 (textP x.f4) _ HTT.out).mono ?_; rintro e w7 ⟨vt2, rfl, ho, hb⟩; obtain ⟨At2, ct2, et2⟩ := Kd.R_slice ho; subst et2; have HRT2 := Aside0.mk (Kd.R_reads' ho).2.2; have HU7 := Aside0.mk (HU6.out.step hb); clear ho hb) | ((with_reducible refine gate_builtin (b := .append) (xs := #[.tmp 49, .tmp 52]) rfl ?_); at_builtin; refine Kd.R_append_rows (Kd.int .u8) (w0 := w) w.heap.size rfl (.tmp 49) (.tmp 52) 23 5 (.int .u8 0) 1 rfl Try.underlying23 info5 rfl (by decide) (by omega) u6 ((l0.take j).flatMap txF) (textP x.f4) _ _ _ (fun k_ => some k_ ≠ v5n.ownBlock) (fun _ => False) rfl rfl ?aO ?aR (fun _ _ h => h) (fun _ h => h.elim) ?aF ?aB ?aS ?aL ?_; (case aR => exact HRT2.out); (case aB => exact HU7.out.bel); (case aF => exact (fun k_ hk => Kd.fresh' (Kd.R_lt HU7.out.names) k_ hk)); (case aO => exact HU7.out.texts); (case aS => exact below_size HU7.out.bel); (case aL => have := HLT.out; omega); intro v6 w6 ho hb hg hat; have HR6 := Aside0.mk (HU7.out.texts_put HX.out HCX.out HIN.out HTF.out ho hb hg hat); clear ho hb hg hat))
            go_roundw
            case rel =>
              have hw : wrap64 ((j : Int) + 1) = ((j + 1 : Nat) : Int) := by have := HL.out; unfold wrap64; omega
              exact ⟨j + 1, by omega, by rw [hw], ⟨HR6.out⟩⟩
            case measure =>
              have hw : wrap64 ((j : Int) + 1) = ((j + 1 : Nat) : Int) := by have := HL.out; unfold wrap64; omega
              rw [hw]
              show l0.length - ((j + 1 : Nat) : Int).toNat < l0.length - ((j : Nat) : Int).toNat
              rw [Int.toNat_natCast, Int.toNat_natCast]
              omega
          · have htf : txF x = [] := if_neg htx
            rw [decide_eq_false htx] at HTX
            have HTF := Aside0.mk htf
            clear htx htf
            go_wp2_with (first | (go_at_call 13; refine (op_Check.calls 140 x.f0 x.f1 x.f2 x.f3 x.f4 0 _ HCK.out).mono ?_; rintro e w2 ⟨rfl, hb⟩; have HBX := Aside0.mk (blk_below (blk_new wr (.cells #[.int .i64 x.f0, .string x.f1, .int .i64 x.f2, .int .i64 x.f3, .string x.f4] 33)) hb); have HR2 := Aside0.mk (HR.out.step (below_alloc (Below.refl _ _) _ |>.trans (hb.mono (by simp)))); clear hb; have hb0 : w2.cell? ⟨wr.heap.size, 0, none⟩ = some (.int .i64 x.f0) := (blk_cell HBX.out 0).trans rfl; have hb1 : w2.cell? ⟨wr.heap.size, 1, none⟩ = some (.string x.f1) := (blk_cell HBX.out 1).trans rfl; have hb4 : w2.cell? ⟨wr.heap.size, 4, none⟩ = some (.string x.f4) := (blk_cell HBX.out 4).trans rfl; have hcm : w2.cell? ⟨w.heap.size + 1, 0, none⟩ = some (.map (some w.heap.size)) := (blk_cell HR2.out.box 0).trans rfl; obtain ⟨vv, hlk⟩ := lookok_run HR2.out.map HSH.out HOK.out.1 HOK.out.2; rw [hdi] at hlk; have hupd := update_run HR2.out.map HSH.out HOK.out.1 HOK.out.2 HNI.out; have hlen := len_run HR2.out.map; have HU := HR2.out.upd (by omega) (Nat.le_refl _) x.f1; have HBX3 := (set_other (o := .map (E 0 (nsF (l0.take j) ++ [x.f1])).toArray (nsF (l0.take j) ++ [x.f1]).length) HLT3.out).trans HBX.out; obtain ⟨W3, hW3⟩ : ∃ W3, ChangeMaps.setBlock w2 w.heap.size (.map (E 0 (nsF (l0.take j) ++ [x.f1])).toArray (nsF (l0.take j) ++ [x.f1]).length) = W3 := ⟨_, rfl⟩; rw [hW3] at hupd HU HBX3; have HU3 := Aside0.mk HU; have HBX3' := Aside0.mk HBX3; clear hW3 HU HBX3; have hd0 : W3.cell? ⟨wr.heap.size, 0, none⟩ = some (.int .i64 x.f0) := (blk_cell HBX3'.out 0).trans rfl; have hd1 : W3.cell? ⟨wr.heap.size, 1, none⟩ = some (.string x.f1) := (blk_cell HBX3'.out 1).trans rfl; have hd4 : W3.cell? ⟨wr.heap.size, 4, none⟩ = some (.string x.f4) := (blk_cell HBX3'.out 4).trans rfl) | (go_at_call 20; (first | (refine (leb_Text.calls 140 x.f1 (textP x.f1) _ HTN.out).mono ?_; rintro e w4 ⟨vt, rfl, ho, hb⟩; obtain ⟨At, ct, et⟩ := Kd.R_slice ho; subst et; have HRT := Aside0.mk (Kd.R_reads' ho).2.2; have HU4 := Aside0.mk (HU3.out.step hb); have HBX4 := Aside0.mk (blk_below HBX3'.out hb); clear ho hb))) | ((with_reducible refine gate_builtin (b := .append) (xs := #[.tmp 41, .tmp 44]) rfl ?_); at_builtin; refine Kd.R_append_rows (Kd.int .u8) (w0 := w) w.heap.size rfl (.tmp 41) (.tmp 44) 23 5 (.int .u8 0) 1 rfl Try.underlying23 info5 rfl (by decide) (by omega) u5 ((nsF (l0.take j)).flatMap textP) (textP x.f1) _ _ _ (fun k_ => some k_ ≠ u6.ownBlock) (fun _ => False) rfl rfl ?aO ?aR (fun _ _ h => h) (fun _ h => h.elim) ?aF ?aB ?aS ?aL ?_; (case aR => exact HRT.out); (case aB => exact HU4.out.bel); (case aF => exact (fun k_ hk => Kd.fresh' (Kd.R_lt HU4.out.texts) k_ hk)); (case aO => exact HU4.out.names); (case aS => exact below_size HU4.out.bel); (case aL => have := HLN.out; omega); intro v5n w5 ho hb hg hat; have HU5 := Aside0.mk (HU4.out.names_put ho hb hg hat); have HBX5 := Aside0.mk (blk_grown HBX4.out hg (Kd.R_ne HU4.out.names HBX4.out (by decide))); clear ho hb hg hat; have he0 : w5.cell? ⟨wr.heap.size, 0, none⟩ = some (.int .i64 x.f0) := (blk_cell HBX5.out 0).trans rfl; have he4 : w5.cell? ⟨wr.heap.size, 4, none⟩ = some (.string x.f4) := (blk_cell HBX5.out 4).trans rfl) | (go_at_call 21; refine (op_texted.calls x.f0 false _ HTX.out).mono ?_; rintro e w' ⟨rfl, ⟨nd, rfl⟩⟩; have HU6 := Aside0.mk (HU5.out.step (pw_below_drewN (Below.refl _ _) nd))))
            go_roundw
            case rel =>
              have hw : wrap64 ((j : Int) + 1) = ((j + 1 : Nat) : Int) := by have := HL.out; unfold wrap64; omega
              exact ⟨j + 1, by omega, by rw [hw], ⟨HU6.out.next HX.out HCX.out HIN.out HTF.out⟩⟩
            case measure =>
              have hw : wrap64 ((j : Int) + 1) = ((j + 1 : Nat) : Int) := by have := HL.out; unfold wrap64; omega
              rw [hw]
              show l0.length - ((j + 1 : Nat) : Int).toNat < l0.length - ((j : Nat) : Int).toNat
              rw [Int.toNat_natCast, Int.toNat_natCast]
              omega
      · rw [if_neg hck] at HCK
        have HNC := Aside0.mk hck
        clear hck
        go_wp2_with (go_at_call 13; refine (op_Check.calls 140 x.f0 x.f1 x.f2 x.f3 x.f4 40 _ HCK.out).mono ?_; rintro e w2 ⟨rfl, hb⟩; have HB2 := Aside0.mk (HR.out.bel.trans ((below_alloc (Below.refl _ _) _ |>.trans (hb.mono (by simp))).mono HR.out.bel.size)); clear hb)
        go_ret2
        obtain ⟨hb1, hb2⟩ := put_bad (List.mem_of_getElem? HX.out) HNC.out
        rw [hb1, hb2]
        exact ⟨_, rfl, Kd.R_nil _ _ _ _ _, HB2.out⟩
    · obtain rfl : j = l0.length := by omega
      go_upto_region 18 with (fail)
      have hkf := HR.out.chk
      rw [List.take_length] at hkf
      have HKF := Aside0.mk hkf
      clear hkf
      have HU := Aside0.mk (show Ru w l0 (w.heap.size + 1) w.heap.size l0.length (nsF (l0.take l0.length)) (nsF (l0.take l0.length)) _ _ wr from ⟨HR.out.box, HR.out.map, HR.out.names, HR.out.texts, HR.out.bel, HR.out.chk⟩)
      clear HR
      rw [List.take_length] at HU
      have HNO : Aside0 (Oks (nsF l0) ∧ (nsF l0).Nodup ∧ (∀ o ∈ l0, o.f1 ∈ nsF l0) ∧ (nsF l0).length ≤ 256) := ⟨by
        obtain ⟨a1, a2, a3⟩ := nsF_ok _ l0 rfl HKF.out
        exact ⟨a1, a2, a3, Nat.le_trans (nsF_len _ l0 rfl) HL.out⟩⟩
      obtain ⟨NS, hNS⟩ : ∃ NS, nsF l0 = NS := ⟨_, rfl⟩
      rw [hNS] at HU HNO
      have HNS := Aside0.mk hNS
      clear hNS
      refine start_ (n := 23) (S := fun w' => w'.cell? ⟨w.heap.size + 1, 0, none⟩ = some (.map (some w.heap.size))) (ds := []) #[false, false, false, false, false, false, false, false, false, false, false, false, false, false, false, false, false, false, false, false, false, false, false] (by kernel_rfl) rfl rfl ((blk_cell (blk_below HU.out.box (pw_below_drewN (Below.refl _ _) 1)) 0).trans rfl) (fun hHeld => ?_)
      have HRd := Aside0.mk (HU.out.step (pw_below_drewN (Below.refl wr.heap.size wr) 1))
      generalize hwd : wr.drewN 1 = wd at HRd
      rw [show wr.drew = wd from hwd] at hHeld ⊢
      clear hwd HU
      refine pure_ (i := 0) (N := some 55) (v := ?_) (a' := ?_) #[true, false, false, false, false, false, false, false, false, false, false, false, false, false, false, false, false, false, false, false, false, false, false] rfl rfl (by kernel_rfl) (fun _ _ _ h => h) (Or.inl ⟨by rfl, ?_⟩) ?_ ?_
      rotate_left
      · intro w'
        go_simp
        with_reducible rfl
      rotate_left
      · simp only [Act.put, List.setIfInBounds_toArray, List.set_cons_zero, List.set_cons_succ, i64_w, i32_w]
        rfl
      refine pure_ (i := 7) (N := some 62) (v := ?_) (a' := ?_) #[true, false, false, false, false, false, false, true, false, false, false, false, false, false, false, false, false, false, false, false, false, false, false] rfl rfl (by kernel_rfl) (fun _ _ _ h => h) (Or.inl ⟨by rfl, ?_⟩) ?_ ?_
      rotate_left
      · intro w'
        go_simp
        with_reducible rfl
      rotate_left
      · simp only [Act.put, List.setIfInBounds_toArray, List.set_cons_zero, List.set_cons_succ, i64_w, i32_w]
        rfl
      refine pure_ (i := 8) (N := some 63) (v := ?_) (a' := ?_) #[true, false, false, false, false, false, false, true, true, false, false, false, false, false, false, false, false, false, false, false, false, false, false] rfl rfl (by kernel_rfl) (fun _ _ _ h => h) (Or.inl ⟨by rfl, ?_⟩) ?_ ?_
      rotate_left
      · intro w'
        go_simp
        with_reducible rfl
      rotate_left
      · simp only [Act.put, List.setIfInBounds_toArray, List.set_cons_zero, List.set_cons_succ, i64_w, i32_w]
        rfl
      refine pure_ (i := 9) (N := some 64) (v := ?_) (a' := ?_) #[true, false, false, false, false, false, false, true, true, true, false, false, false, false, false, false, false, false, false, false, false, false, false] rfl rfl (by kernel_rfl) (fun _ _ _ h => h) (Or.inl ⟨by rfl, ?_⟩) ?_ ?_
      rotate_left
      · intro w'
        go_simp
        with_reducible rfl
      rotate_left
      · simp only [Act.put, List.setIfInBounds_toArray, List.set_cons_zero, List.set_cons_succ, i64_w, i32_w]
        rfl
      refine pure_ (i := 12) (N := some 67) (v := ?_) (a' := ?_) #[true, false, false, false, false, false, false, true, true, true, false, false, true, false, false, false, false, false, false, false, false, false, false] rfl rfl (by kernel_rfl) (fun _ _ _ h => h) (Or.inl ⟨by rfl, ?_⟩) ?_ ?_
      rotate_left
      · intro w'
        go_simp
        with_reducible rfl
      rotate_left
      · simp only [Act.put, List.setIfInBounds_toArray, List.set_cons_zero, List.set_cons_succ, i64_w, i32_w]
        rfl
      refine pure_ (i := 15) (N := some 70) (v := ?_) (a' := ?_) #[true, false, false, false, false, false, false, true, true, true, false, false, true, false, false, true, false, false, false, false, false, false, false] rfl rfl (by kernel_rfl) (fun _ _ _ h => h) (Or.inl ⟨by rfl, ?_⟩) ?_ ?_
      rotate_left
      · intro w'
        go_simp
        with_reducible rfl
      rotate_left
      · simp only [Act.put, List.setIfInBounds_toArray, List.set_cons_zero, List.set_cons_succ, i64_w, i32_w]
        rfl
      refine pure_ (i := 18) (N := some 73) (v := ?_) (a' := ?_) #[true, false, false, false, false, false, false, true, true, true, false, false, true, false, false, true, false, false, true, false, false, false, false] rfl rfl (by kernel_rfl) (fun _ _ _ h => h) (Or.inl ⟨by rfl, ?_⟩) ?_ ?_
      rotate_left
      · intro w'
        go_simp
        with_reducible rfl
      rotate_left
      · simp only [Act.put, List.setIfInBounds_toArray, List.set_cons_zero, List.set_cons_succ, i64_w, i32_w]
        rfl
      refine take_ (i := 3) (N := some 58) (v := ?_) (a' := ?_) #[true, false, false, true, false, false, false, true, true, true, false, false, true, false, false, true, false, false, true, false, false, false, false] rfl rfl (by kernel_rfl) (fun _ _ _ h => h) (Or.inl ⟨by rfl, ?_⟩) hHeld ?_ ?_
      rotate_left
      · intro w' s1
        go_simp
        with_reducible rfl
      rotate_left
      · simp only [Act.put, List.setIfInBounds_toArray, List.set_cons_zero, List.set_cons_succ, i64_w, i32_w]
        rfl
      refine one_ (i := 1) (N := some 56) #[true, true, false, true, false, false, false, true, true, true, false, false, true, false, false, true, false, false, true, false, false, false, false] rfl rfl (by kernel_rfl) (by decide) (fun K hK => ?_)
      refine goes_ Try.func24 (by kernel_rfl) rfl #[.slice A0 l0.length c0, .func (.func 25) #[] #[]] (by rfl) rfl rfl (by first | rfl | (simp only [List.map_toArray, List.map_cons, List.map_nil]; done) | (simp only [List.map_toArray, List.map_cons, List.map_nil]; rfl)) ?_
      refine (of_kind A0 c0 l0 wd (Kd.C_below HR0.out HRd.out.bel) HL.out).mono ?_
      rintro e1 w1 ⟨v1, rfl, ho1, hb1⟩
      obtain ⟨L1, hL1⟩ : ∃ L, l0.map (·.f0) = L := ⟨_, rfl⟩
      rw [hL1] at ho1
      have HL1 := Aside0.mk hL1
      clear hL1
      obtain ⟨A1, c1, ec1⟩ := Kd.R_slice ho1
      subst ec1
      have HO1 := Aside0.mk ho1
      have HR1 := Aside0.mk (HRd.out.step hb1)
      clear ho1 hb1
      refine ⟨_, rfl, ?_⟩
      clear hHeld
      refine hK.out _ _ ((blk_cell HR1.out.box 0).trans rfl) (fun hHeld => ?_)
      clear hK K
      refine norm_ (a' := ?_) ?_ ?_
      rotate_left
      · show Act.put _ (some 56) _ = _
        simp only [Act.put, List.setIfInBounds_toArray, List.set_cons_zero, List.set_cons_succ, i64_w, i32_w]
        rfl
      refine one_ (i := 2) (N := some 57) #[true, true, true, true, false, false, false, true, true, true, false, false, true, false, false, true, false, false, true, false, false, false, false] rfl rfl (by kernel_rfl) (by decide) (fun K hK => ?_)
      refine goes_ Try.func23 (by kernel_rfl) rfl #[.slice A1 (L1).length c1] (by rfl) rfl rfl (by first | rfl | (simp only [List.map_toArray, List.map_cons, List.map_nil]; done) | (simp only [List.map_toArray, List.map_cons, List.map_nil]; rfl)) ?_
      refine (column_Runs.calls A1 c1 L1 _ w1 (Kd.R_reads' HO1.out).2.2 (Kd.R_reads' HO1.out).2.1 (show column_Runs.f L1 = some (ColS.runs L1) by rw [← HL1.out]; exact kinds_runs HL.out HKF.out)).mono ?_
      rintro e2 w2 ⟨v2, rfl, ho2, hb2⟩
      obtain ⟨A2, c2, ec2⟩ := Kd.R_slice ho2
      subst ec2
      have HR2 := Aside0.mk (HR1.out.step hb2)
      have HB2 := Aside0.mk ho2
      clear HO1 ho2 hb2
      refine ⟨_, rfl, ?_⟩
      clear hHeld
      refine hK.out _ _ ((blk_cell HR2.out.box 0).trans rfl) (fun hHeld => ?_)
      clear hK K
      refine norm_ (a' := ?_) ?_ ?_
      rotate_left
      · show Act.put _ (some 57) _ = _
        simp only [Act.put, List.setIfInBounds_toArray, List.set_cons_zero, List.set_cons_succ, i64_w, i32_w]
        rfl
      refine one_ (i := 4) (N := some 59) #[true, true, true, true, true, false, false, true, true, true, false, false, true, false, false, true, false, false, true, false, false, false, false] rfl rfl (by kernel_rfl) (by decide) (fun K hK => ?_)
      have hlen := len_run HR2.out.map
      refine value_ (v := .int .i64 (NS.length : Int)) (w1 := w2) (by rfl) rfl (by go_simp) ?_
      refine hK.out _ _ hHeld (fun hHeld => ?_)
      clear hK K hlen
      refine norm_ (a' := ?_) ?_ ?_
      rotate_left
      · show Act.put _ (some 59) _ = _
        simp only [Act.put, List.setIfInBounds_toArray, List.set_cons_zero, List.set_cons_succ, i64_w, i32_w]
        rfl
      refine pure_ (i := 5) (N := some 60) (v := .int .u64 (NS.length : Int)) (a' := ?_) #[true, true, true, true, true, true, false, true, true, true, false, false, true, false, false, true, false, false, true, false, false, false, false] rfl rfl (by kernel_rfl) (fun _ _ _ h => h) (Or.inl ⟨by rfl, ?_⟩) ?_ ?_
      · intro w'
        have hwu := LebP.u64_size (n := NS.length) (by have := HNO.out.2.2.2; omega)
        go_simp
      rotate_left
      · simp only [Act.put, List.setIfInBounds_toArray, List.set_cons_zero, List.set_cons_succ, i64_w, i32_w]
        rfl
      refine one_ (i := 6) (N := some 61) #[true, true, true, true, true, true, true, true, true, true, false, false, true, false, false, true, false, false, true, false, false, false, false] rfl rfl (by kernel_rfl) (by decide) (fun K hK => ?_)
      refine goes_ Try.func26 (by kernel_rfl) rfl #[.int .u64 (NS.length : Int)] (by rfl) rfl rfl (by first | rfl | (simp only [List.map_toArray, List.map_cons, List.map_nil]; done) | (simp only [List.map_toArray, List.map_cons, List.map_nil]; rfl)) ?_
      refine (leb_Uint.calls 140 (NS.length : Int) (LebT.putU NS.length) w2 (uint_len HNO.out.2.2.2)).mono ?_
      rintro e3 w3 ⟨v3, rfl, ho3, hb3⟩
      obtain ⟨A3, c3, ec3⟩ := Kd.R_slice ho3
      subst ec3
      have HR3 := Aside0.mk (HR2.out.step hb3)
      have hk_ := Kd.R_below HB2.out hb3
      clear HB2
      have HB2 := Aside0.mk hk_
      clear hk_
      have HB3 := Aside0.mk ho3
      clear ho3 hb3
      refine ⟨_, rfl, ?_⟩
      clear hHeld
      refine hK.out _ _ ((blk_cell HR3.out.box 0).trans rfl) (fun hHeld => ?_)
      clear hK K
      refine norm_ (a' := ?_) ?_ ?_
      rotate_left
      · show Act.put _ (some 61) _ = _
        simp only [Act.put, List.setIfInBounds_toArray, List.set_cons_zero, List.set_cons_succ, i64_w, i32_w]
        rfl
      refine one_ (i := 10) (N := some 65) #[true, true, true, true, true, true, true, true, true, true, true, false, true, false, false, true, false, false, true, false, false, false, false] rfl rfl (by kernel_rfl) (by decide) (fun K hK => ?_)
      refine goes_ Try.func24 (by kernel_rfl) rfl #[.slice A0 l0.length c0, .func (.func 27) #[] #[.pointer (some ⟨w.heap.size + 1, 0, none⟩)]] (by rfl) rfl rfl (by first | rfl | (simp only [List.map_toArray, List.map_cons, List.map_nil]; done) | (simp only [List.map_toArray, List.map_cons, List.map_nil]; rfl)) ?_
      refine (of_name A0 c0 l0 w3 (Kd.C_below HR0.out HR3.out.bel) HL.out HR3.out.box HR3.out.map HNO.out.1 HNO.out.2.1 HNO.out.2.2.1).mono ?_
      rintro e4 w4 ⟨v4, rfl, ho4, hb4⟩
      obtain ⟨L4, hL4⟩ : ∃ L, l0.map (fun o => (idx NS o.f1 : Int)) = L := ⟨_, rfl⟩
      rw [hL4] at ho4
      have HL4 := Aside0.mk hL4
      clear hL4
      obtain ⟨A4, c4, ec4⟩ := Kd.R_slice ho4
      subst ec4
      have HO4 := Aside0.mk ho4
      have HR4 := Aside0.mk (HR3.out.step hb4)
      have hk_ := Kd.R_below HB2.out hb4
      clear HB2
      have HB2 := Aside0.mk hk_
      clear hk_
      have hk_ := Kd.R_below HB3.out hb4
      clear HB3
      have HB3 := Aside0.mk hk_
      clear hk_
      clear ho4 hb4
      refine ⟨_, rfl, ?_⟩
      clear hHeld
      refine hK.out _ _ ((blk_cell HR4.out.box 0).trans rfl) (fun hHeld => ?_)
      clear hK K
      refine norm_ (a' := ?_) ?_ ?_
      rotate_left
      · show Act.put _ (some 65) _ = _
        simp only [Act.put, List.setIfInBounds_toArray, List.set_cons_zero, List.set_cons_succ, i64_w, i32_w]
        rfl
      refine one_ (i := 11) (N := some 66) #[true, true, true, true, true, true, true, true, true, true, true, true, true, false, false, true, false, false, true, false, false, false, false] rfl rfl (by kernel_rfl) (by decide) (fun K hK => ?_)
      refine goes_ Try.func23 (by kernel_rfl) rfl #[.slice A4 (L4).length c4] (by rfl) rfl rfl (by first | rfl | (simp only [List.map_toArray, List.map_cons, List.map_nil]; done) | (simp only [List.map_toArray, List.map_cons, List.map_nil]; rfl)) ?_
      refine (column_Runs.calls A4 c4 L4 _ w4 (Kd.R_reads' HO4.out).2.2 (Kd.R_reads' HO4.out).2.1 (show column_Runs.f L4 = some (ColS.runs L4) by rw [← HL4.out]; exact which_runs _ HL.out HNO.out.2.2.2)).mono ?_
      rintro e5 w5 ⟨v5, rfl, ho5, hb5⟩
      obtain ⟨A5, c5, ec5⟩ := Kd.R_slice ho5
      subst ec5
      have HR5 := Aside0.mk (HR4.out.step hb5)
      have hk_ := Kd.R_below HB2.out hb5
      clear HB2
      have HB2 := Aside0.mk hk_
      clear hk_
      have hk_ := Kd.R_below HB3.out hb5
      clear HB3
      have HB3 := Aside0.mk hk_
      clear hk_
      have HB5 := Aside0.mk ho5
      clear HO4 ho5 hb5
      refine ⟨_, rfl, ?_⟩
      clear hHeld
      refine hK.out _ _ ((blk_cell HR5.out.box 0).trans rfl) (fun hHeld => ?_)
      clear hK K
      refine norm_ (a' := ?_) ?_ ?_
      rotate_left
      · show Act.put _ (some 66) _ = _
        simp only [Act.put, List.setIfInBounds_toArray, List.set_cons_zero, List.set_cons_succ, i64_w, i32_w]
        rfl
      refine one_ (i := 13) (N := some 68) #[true, true, true, true, true, true, true, true, true, true, true, true, true, true, false, true, false, false, true, false, false, false, false] rfl rfl (by kernel_rfl) (by decide) (fun K hK => ?_)
      refine goes_ Try.func24 (by kernel_rfl) rfl #[.slice A0 l0.length c0, .func (.func 29) #[] #[]] (by rfl) rfl rfl (by first | rfl | (simp only [List.map_toArray, List.map_cons, List.map_nil]; done) | (simp only [List.map_toArray, List.map_cons, List.map_nil]; rfl)) ?_
      refine (of_pos A0 c0 l0 w5 (Kd.C_below HR0.out HR5.out.bel) HL.out).mono ?_
      rintro e6 w6 ⟨v6, rfl, ho6, hb6⟩
      obtain ⟨L6, hL6⟩ : ∃ L, l0.map (·.f2) = L := ⟨_, rfl⟩
      rw [hL6] at ho6
      have HL6 := Aside0.mk hL6
      clear hL6
      obtain ⟨A6, c6, ec6⟩ := Kd.R_slice ho6
      subst ec6
      have HO6 := Aside0.mk ho6
      have HR6 := Aside0.mk (HR5.out.step hb6)
      have hk_ := Kd.R_below HB2.out hb6
      clear HB2
      have HB2 := Aside0.mk hk_
      clear hk_
      have hk_ := Kd.R_below HB3.out hb6
      clear HB3
      have HB3 := Aside0.mk hk_
      clear hk_
      have hk_ := Kd.R_below HB5.out hb6
      clear HB5
      have HB5 := Aside0.mk hk_
      clear hk_
      clear ho6 hb6
      refine ⟨_, rfl, ?_⟩
      clear hHeld
      refine hK.out _ _ ((blk_cell HR6.out.box 0).trans rfl) (fun hHeld => ?_)
      clear hK K
      refine norm_ (a' := ?_) ?_ ?_
      rotate_left
      · show Act.put _ (some 68) _ = _
        simp only [Act.put, List.setIfInBounds_toArray, List.set_cons_zero, List.set_cons_succ, i64_w, i32_w]
        rfl
      refine one_ (i := 14) (N := some 69) #[true, true, true, true, true, true, true, true, true, true, true, true, true, true, true, true, false, false, true, false, false, false, false] rfl rfl (by kernel_rfl) (by decide) (fun K hK => ?_)
      refine goes_ Try.func28 (by kernel_rfl) rfl #[.slice A6 (L6).length c6] (by rfl) rfl rfl (by first | rfl | (simp only [List.map_toArray, List.map_cons, List.map_nil]; done) | (simp only [List.map_toArray, List.map_cons, List.map_nil]; rfl)) ?_
      refine (column_Deltas.calls 300 A6 c6 L6 _ w6 (Kd.R_reads' HO6.out).2.2 (Kd.R_reads' HO6.out).2.1 (show column_Deltas.f 300 L6 = some (ColS.runs (ColT.dif0 L6)) by rw [← HL6.out]; exact pos_deltas HL.out HKF.out)).mono ?_
      rintro e7 w7 ⟨v7, rfl, ho7, hb7⟩
      obtain ⟨A7, c7, ec7⟩ := Kd.R_slice ho7
      subst ec7
      have HR7 := Aside0.mk (HR6.out.step hb7)
      have hk_ := Kd.R_below HB2.out hb7
      clear HB2
      have HB2 := Aside0.mk hk_
      clear hk_
      have hk_ := Kd.R_below HB3.out hb7
      clear HB3
      have HB3 := Aside0.mk hk_
      clear hk_
      have hk_ := Kd.R_below HB5.out hb7
      clear HB5
      have HB5 := Aside0.mk hk_
      clear hk_
      have HB7 := Aside0.mk ho7
      clear HO6 ho7 hb7
      refine ⟨_, rfl, ?_⟩
      clear hHeld
      refine hK.out _ _ ((blk_cell HR7.out.box 0).trans rfl) (fun hHeld => ?_)
      clear hK K
      refine norm_ (a' := ?_) ?_ ?_
      rotate_left
      · show Act.put _ (some 69) _ = _
        simp only [Act.put, List.setIfInBounds_toArray, List.set_cons_zero, List.set_cons_succ, i64_w, i32_w]
        rfl
      refine one_ (i := 16) (N := some 71) #[true, true, true, true, true, true, true, true, true, true, true, true, true, true, true, true, true, false, true, false, false, false, false] rfl rfl (by kernel_rfl) (by decide) (fun K hK => ?_)
      refine goes_ Try.func24 (by kernel_rfl) rfl #[.slice A0 l0.length c0, .func (.func 30) #[] #[]] (by rfl) rfl rfl (by first | rfl | (simp only [List.map_toArray, List.map_cons, List.map_nil]; done) | (simp only [List.map_toArray, List.map_cons, List.map_nil]; rfl)) ?_
      refine (of_by A0 c0 l0 w7 (Kd.C_below HR0.out HR7.out.bel) HL.out).mono ?_
      rintro e8 w8 ⟨v8, rfl, ho8, hb8⟩
      obtain ⟨L8, hL8⟩ : ∃ L, l0.map (·.f3) = L := ⟨_, rfl⟩
      rw [hL8] at ho8
      have HL8 := Aside0.mk hL8
      clear hL8
      obtain ⟨A8, c8, ec8⟩ := Kd.R_slice ho8
      subst ec8
      have HO8 := Aside0.mk ho8
      have HR8 := Aside0.mk (HR7.out.step hb8)
      have hk_ := Kd.R_below HB2.out hb8
      clear HB2
      have HB2 := Aside0.mk hk_
      clear hk_
      have hk_ := Kd.R_below HB3.out hb8
      clear HB3
      have HB3 := Aside0.mk hk_
      clear hk_
      have hk_ := Kd.R_below HB5.out hb8
      clear HB5
      have HB5 := Aside0.mk hk_
      clear hk_
      have hk_ := Kd.R_below HB7.out hb8
      clear HB7
      have HB7 := Aside0.mk hk_
      clear hk_
      clear ho8 hb8
      refine ⟨_, rfl, ?_⟩
      clear hHeld
      refine hK.out _ _ ((blk_cell HR8.out.box 0).trans rfl) (fun hHeld => ?_)
      clear hK K
      refine norm_ (a' := ?_) ?_ ?_
      rotate_left
      · show Act.put _ (some 71) _ = _
        simp only [Act.put, List.setIfInBounds_toArray, List.set_cons_zero, List.set_cons_succ, i64_w, i32_w]
        rfl
      refine one_ (i := 17) (N := some 72) #[true, true, true, true, true, true, true, true, true, true, true, true, true, true, true, true, true, true, true, false, false, false, false] rfl rfl (by kernel_rfl) (by decide) (fun K hK => ?_)
      refine goes_ Try.func23 (by kernel_rfl) rfl #[.slice A8 (L8).length c8] (by rfl) rfl rfl (by first | rfl | (simp only [List.map_toArray, List.map_cons, List.map_nil]; done) | (simp only [List.map_toArray, List.map_cons, List.map_nil]; rfl)) ?_
      refine (column_Runs.calls A8 c8 L8 _ w8 (Kd.R_reads' HO8.out).2.2 (Kd.R_reads' HO8.out).2.1 (show column_Runs.f L8 = some (ColS.runs L8) by rw [← HL8.out]; exact by_runs HL.out HKF.out)).mono ?_
      rintro e9 w9 ⟨v9, rfl, ho9, hb9⟩
      obtain ⟨A9, c9, ec9⟩ := Kd.R_slice ho9
      subst ec9
      have HR9 := Aside0.mk (HR8.out.step hb9)
      have hk_ := Kd.R_below HB2.out hb9
      clear HB2
      have HB2 := Aside0.mk hk_
      clear hk_
      have hk_ := Kd.R_below HB3.out hb9
      clear HB3
      have HB3 := Aside0.mk hk_
      clear hk_
      have hk_ := Kd.R_below HB5.out hb9
      clear HB5
      have HB5 := Aside0.mk hk_
      clear hk_
      have hk_ := Kd.R_below HB7.out hb9
      clear HB7
      have HB7 := Aside0.mk hk_
      clear hk_
      have HB9 := Aside0.mk ho9
      clear HO8 ho9 hb9
      refine ⟨_, rfl, ?_⟩
      clear hHeld
      refine hK.out _ _ ((blk_cell HR9.out.box 0).trans rfl) (fun hHeld => ?_)
      clear hK K
      refine norm_ (a' := ?_) ?_ ?_
      rotate_left
      · show Act.put _ (some 72) _ = _
        simp only [Act.put, List.setIfInBounds_toArray, List.set_cons_zero, List.set_cons_succ, i64_w, i32_w]
        rfl
      generalize hX2 : ColS.runs L1 = X2 at HB2 ⊢
      have HX2 := Aside0.mk hX2
      clear hX2
      generalize hX3 : LebT.putU NS.length = X3 at HB3 ⊢
      have HX3 := Aside0.mk hX3
      clear hX3
      generalize hX5 : ColS.runs L4 = X5 at HB5 ⊢
      have HX5 := Aside0.mk hX5
      clear hX5
      generalize hX7 : ColS.runs (ColT.dif0 L6) = X7 at HB7 ⊢
      have HX7 := Aside0.mk hX7
      clear hX7
      generalize hX9 : ColS.runs L8 = X9 at HB9 ⊢
      have HX9 := Aside0.mk hX9
      clear hX9
      obtain ⟨AN, cN, eN⟩ := Kd.R_slice HR9.out.names
      subst eN
      obtain ⟨AT, cT, eT⟩ := Kd.R_slice HR9.out.texts
      subst eT
      refine one_ (i := 19) (N := some 74) #[true, true, true, true, true, true, true, true, true, true, true, true, true, true, true, true, true, true, true, true, false, false, false] rfl rfl (by kernel_rfl) (by decide) (fun K hK => ?_)
      refine value_ (v := .slice (some ⟨w9.heap.size, 0, none⟩) 7 7) (w1 := w9.alloc (.cells #[.slice A2 X2.length c2, .slice A3 X3.length c3, .slice AN (NS.flatMap textP).length cN, .slice A5 X5.length c5, .slice A7 X7.length c7, .slice A9 X9.length c9, .slice AT ((l0.take l0.length).flatMap txF).length cT] 23)) (by rfl) rfl (by go_simp) ?_
      have HC7 := Aside0.mk (PA.seven (Kd.R_lower HB2.out HR1.out.bel.size) (Kd.R_lower HB3.out HR2.out.bel.size) HR9.out.names (Kd.R_lower HB5.out HR4.out.bel.size) (Kd.R_lower HB7.out HR6.out.bel.size) (Kd.R_lower HB9.out HR8.out.bel.size) HR9.out.texts)
      have HR10 := Aside0.mk (HR9.out.step (below_alloc (Below.refl w9.heap.size w9) (.cells #[.slice A2 X2.length c2, .slice A3 X3.length c3, .slice AN (NS.flatMap textP).length cN, .slice A5 X5.length c5, .slice A7 X7.length c7, .slice A9 X9.length c9, .slice AT ((l0.take l0.length).flatMap txF).length cT] 23)))
      refine hK.out _ _ ((blk_cell HR10.out.box 0).trans rfl) (fun hHeld => ?_)
      clear hK K
      refine norm_ (a' := ?_) ?_ ?_
      rotate_left
      · show Act.put _ (some 74) _ = _
        simp only [Act.put, List.setIfInBounds_toArray, List.set_cons_zero, List.set_cons_succ, i64_w, i32_w]
        rfl
      obtain ⟨w10, hw10⟩ : ∃ w10, w9.alloc (.cells #[.slice A2 X2.length c2, .slice A3 X3.length c3, .slice AN (NS.flatMap textP).length cN, .slice A5 X5.length c5, .slice A7 X7.length c7, .slice A9 X9.length c9, .slice AT ((l0.take l0.length).flatMap txF).length cT] 23) = w10 := ⟨_, rfl⟩
      rw [hw10] at HC7 HR10 hHeld ⊢
      clear hw10 HR9 HB3 HB5 HB7 HB9
      have HLN : Aside0 (([X2, X3, NS.flatMap textP, X5, X7, X9, (l0.take l0.length).flatMap txF].map List.length).sum < 140737488355328) := ⟨by
        have a0 := HL.out
        have a1 := HNO.out.2.2.2
        have b1 := runs_len _ (by simp; omega) (kinds_ok HKF.out)
        have b2 := runs_len _ (by simp; omega) (by_ok HKF.out)
        have b3 := runs_len _ (by simp; omega) (which_ok l0 NS a1)
        have b4 := runs_len _ (by rw [ColT.dif0_length]; simp; omega) (ColT.dif0_rng _ (pos_ok HKF.out))
        rw [HL1.out, HX2.out] at b1
        rw [HL8.out, HX9.out] at b2
        rw [HL4.out, HX5.out] at b3
        rw [HL6.out, HX7.out] at b4
        have b5 : X3.length ≤ 10 := by rw [← HX3.out]; exact LebT.putU_len64 (by omega)
        have b6 : (NS.flatMap textP).length ≤ 1034 * 256 := Nat.le_trans (flat_len textP 1034 NS (fun s hs => textP_len (by have := HNO.out.1 s hs; unfold shortN at this; omega))) (Nat.mul_le_mul_left _ a1)
        have b7 : ((l0.take l0.length).flatMap txF).length ≤ 1034 * 256 := by
          rw [List.take_length]
          exact Nat.le_trans (flat_len txF 1034 l0 (fun o ho => txF_len (HKF.out o ho))) (Nat.mul_le_mul_left _ a0)
        simp only [List.map_cons, List.map_nil, List.sum_cons, List.sum_nil]
        omega⟩
      refine one_ (i := 20) (N := some 75) #[true, true, true, true, true, true, true, true, true, true, true, true, true, true, true, true, true, true, true, true, true, false, false] rfl rfl (by kernel_rfl) (by decide) (fun K hK => ?_)
      refine goes_ Try.func22 (by kernel_rfl) rfl #[.slice (some ⟨w9.heap.size, 0, none⟩) 7 7] (by rfl) rfl rfl (by first | rfl | (simp only [List.map_toArray, List.map_cons, List.map_nil]; done) | (simp only [List.map_toArray, List.map_cons, List.map_nil]; rfl)) ?_
      refine (PA.slices_Concat_byte_byte.calls (some ⟨w9.heap.size, 0, none⟩) 7 [X2, X3, NS.flatMap textP, X5, X7, X9, (l0.take l0.length).flatMap txF] _ w10 HC7.out (by simp) (if_pos ⟨by simp, HLN.out⟩)).mono ?_
      rintro e11 w11 ⟨v11, rfl, ho11, hb11⟩
      have HO11 := Aside0.mk ho11
      have HR11 := Aside0.mk (HR10.out.step hb11)
      have HLO := Aside0.mk HR10.out.bel.size
      clear ho11 hb11
      refine ⟨_, rfl, ?_⟩
      clear hHeld
      refine hK.out _ _ ((blk_cell HR11.out.box 0).trans rfl) (fun hHeld => ?_)
      clear hK K
      refine norm_ (a' := ?_) ?_ ?_
      rotate_left
      · show Act.put _ (some 75) _ = _
        simp only [Act.put, List.setIfInBounds_toArray, List.set_cons_zero, List.set_cons_succ, i64_w, i32_w]
        rfl
      refine pure_ (i := 21) (N := some 2) (v := ?_) (a' := ?_) #[true, true, true, true, true, true, true, true, true, true, true, true, true, true, true, true, true, true, true, true, true, true, false] rfl rfl (by kernel_rfl) (fun _ _ _ h => h) (Or.inl ⟨by rfl, ?_⟩) ?_ ?_
      rotate_left
      · intro w'
        go_simp
        with_reducible rfl
      rotate_left
      · simp only [Act.put, List.setIfInBounds_toArray, List.set_cons_zero, List.set_cons_succ, i64_w, i32_w]
        rfl
      refine pure_ (i := 22) (N := some 3) (v := ?_) (a' := ?_) #[true, true, true, true, true, true, true, true, true, true, true, true, true, true, true, true, true, true, true, true, true, true, true] rfl rfl (by kernel_rfl) (fun _ _ _ h => h) (Or.inl ⟨by rfl, ?_⟩) ?_ ?_
      rotate_left
      · intro w'
        go_simp
        with_reducible rfl
      rotate_left
      · simp only [Act.put, List.setIfInBounds_toArray, List.set_cons_zero, List.set_cons_succ, i64_w, i32_w]
        rfl
      refine done_ (by kernel_rfl) ?_
      go_wp2
      go_ret2
      have e0 : putE l0 = 0 := if_pos (List.all_eq_true.2 HKF.out)
      have e1 : putB l0 = [X2, X3, NS.flatMap textP, X5, X7, X9, (l0.take l0.length).flatMap txF].flatten := by
        rw [putB, if_pos (List.all_eq_true.2 HKF.out), layF, HNS.out, ← HX2.out, ← HX3.out, ← HX5.out, ← HX7.out, ← HX9.out, ← HL1.out, ← HL4.out, ← HL6.out, ← HL8.out, List.take_length]
        simp only [List.flatten_cons, List.flatten_nil, List.append_nil, List.append_assoc]
      rw [e0, e1]
      exact ⟨_, rfl, Kd.R_lower HO11.out HLO.out, HR11.out.bel⟩
end Go.Proofs.Ytpnnjefhchppfaa.Op

set_option linter.unusedVariables false
set_option linter.unusedSimpArgs false
namespace Go.Proofs.Ytpnnjefhchppfaa.Op
open Go Go.RowKit Go.Proofs.YtpnnjefhchppfaaW.PrintWords Go.Proofs.YtpnnjefhchppfaaW.PrintLast Go.Proofs.YtpnnjefhchppfaaW.PrintMore Go.Proofs.Ytpnnjefhchppfaa.PA
abbrev St := List Int × Bool
abbrev e0 : ByteArray := ⟨#[]⟩
def colS (g : List Int → List Int × Int × Int) (s : St) : List Int × St := if s.2 = false ∧ (g s.1).2.2 = 0 then ((g s.1).1, s.1.drop (g s.1).2.1.toNat, false) else ([], s.1, true)
def runG (b : List Int) : List Int × Int × Int := ColT.getRuns b 256
def delG (b : List Int) : List Int × Int × Int := (ColT.sums0 (ColT.getRuns b 256).1, (ColT.getRuns b 256).2.1, (ColT.getRuns b 256).2.2)
def gT (most : Int) (b : List Int) : ByteArray × Int × Int :=
  if (LebT.gU 0 0 b).2.2 = 0 then (if (LebT.gU 0 0 b).1 > most then (e0, 0, 5) else if (LebT.gU 0 0 b).1 > (b.length : Int) - (LebT.gU 0 0 b).2.1 then (e0, 0, 3) else (strOfNums ((b.take ((LebT.gU 0 0 b).2.1 + (LebT.gU 0 0 b).1).toNat).drop (LebT.gU 0 0 b).2.1.toNat), (LebT.gU 0 0 b).2.1 + (LebT.gU 0 0 b).1, 0)) else (e0, 0, (LebT.gU 0 0 b).2.2)
def textS (most : Int) (s : St) : ByteArray × St := if s.2 = false ∧ (gT most s.1).2.2 = 0 then ((gT most s.1).1, s.1.drop (gT most s.1).2.1.toNat, false) else (e0, s.1, true)
def nmS : Nat → List ByteArray → St → List ByteArray × St
  | 0, acc, s => (acc, s)
  | n + 1, acc, s => if s.2 = true then (acc, s) else nmS n (acc ++ [(textS 32 s).1]) (textS 32 s).2
def namesS (s : St) : List ByteArray × St :=
  if s.2 = false ∧ (LebT.gU 0 0 s.1).2.2 = 0 ∧ (LebT.gU 0 0 s.1).1 ≤ 256 then nmS (LebT.gU 0 0 s.1).1.toNat [] (s.1.drop (LebT.gU 0 0 s.1).2.1.toNat, false) else ([], s.1, true)
def rowS (ns : List ByteArray) (k w p y : Int) (s : St) : Option (Sop × St) :=
  if w < 0 ∨ w ≥ (ns.length : Int) then none
  else if k = 1 ∨ k = 4 then some (⟨k, ns.getD w.toNat e0, p, y, (textS 1024 s).1⟩, (textS 1024 s).2) else some (⟨k, ns.getD w.toNat e0, p, y, e0⟩, s)
def rowsS (ns : List ByteArray) (ks ws ps ys : List Int) (s : St) : Nat → Option (List Sop × St)
  | 0 => some ([], s)
  | j + 1 => match rowsS ns ks ws ps ys s j with
    | none => none
    | some (l, t) => match rowS ns (ks.getD j 0) (ws.getD j 0) (ps.getD j 0) (ys.getD j 0) t with
      | none => none
      | some (o, u) => some (l ++ [o], u)
structure Cols where
  ks : List Int
  ns : List ByteArray
  ws : List Int
  ps : List Int
  ys : List Int
  st : St
def colsS (b : List Int) : Cols :=
  let k := colS runG (b, false)
  let n := namesS k.2
  let w := colS runG n.2
  let p := colS delG w.2
  let y := colS runG p.2
  ⟨k.1, n.1, w.1, p.1, y.1, y.2⟩
def lensOk (c : Cols) : Prop := c.st.2 = false ∧ c.ws.length = c.ks.length ∧ c.ps.length = c.ks.length ∧ c.ys.length = c.ks.length
instance (c : Cols) : Decidable (lensOk c) := by unfold lensOk; infer_instance
def endS (b : List Int) (l : List Sop) (s : St) : List Sop × Int := if s.2 = false ∧ putE l = 0 ∧ putB l = b then (l, 0) else ([], 4)
def getS (b : List Int) : List Sop × Int :=
  if lensOk (colsS b) then (match rowsS (colsS b).ns (colsS b).ks (colsS b).ws (colsS b).ps (colsS b).ys (colsS b).st (colsS b).ks.length with
    | none => ([], 4)
    | some (l, s) => endS b l s) else ([], 4)
def putR (l : List Sop) : List Int × Int := if 256 < l.length then ([], 5) else (putB l, putE l)
end Go.Proofs.Ytpnnjefhchppfaa.Op

set_option linter.unusedVariables false
set_option linter.unusedSimpArgs false
namespace Go.Proofs.Ytpnnjefhchppfaa.Op
open Go Go.RowKit Go.Proofs.YtpnnjefhchppfaaW.PrintWords Go.Proofs.YtpnnjefhchppfaaW.PrintLast Go.Proofs.YtpnnjefhchppfaaW.PrintMore Go.Proofs.Ytpnnjefhchppfaa.PA
structure Rg (w0 w : World) (g : Nat) (A : Option Addr) (c : Nat) (s : St) : Prop where
  blk : w.heap[g]? = some (.cells #[.slice A s.1.length c, .bool s.2] 58 (0, 0))
  len : s.1.length ≤ c
  row : Kd.C (Kd.int .u8) w0 A s.1.length s.1
  bel : Below w0.heap.size w0 w
  lo : w0.heap.size ≤ g
  byte : ∀ x ∈ s.1, LebT.isByte x
  short : s.1.length ≤ 140737488351232
section
variable {w0 w w' : World} {g c : Nat} {A : Option Addr} {s : St}
theorem Rg.lt (h : Rg w0 w g A c s) : g < w.heap.size := blk_lt h.blk
theorem Rg.c0 (h : Rg w0 w g A c s) : w.cell? ⟨g, 0, none⟩ = some (.slice A s.1.length c) := (blk_cell h.blk 0).trans rfl
theorem Rg.c1 (h : Rg w0 w g A c s) : w.cell? ⟨g, 1, none⟩ = some (.bool s.2) := (blk_cell h.blk 1).trans rfl
theorem Rg.C (h : Rg w0 w g A c s) : Kd.C (Kd.int .u8) w A s.1.length s.1 := Kd.C_below h.row h.bel
theorem Rg.step (h : Rg w0 w g A c s) (hb : Below w.heap.size w w') : Rg w0 w' g A c s := ⟨blk_below h.blk hb, h.len, h.row, h.bel.trans (hb.mono h.bel.size), h.lo, h.byte, h.short⟩
theorem Rg.drawn (h : Rg w0 w g A c s) (hd : Drawn0 w w') : Rg w0 w' g A c s := by
  obtain ⟨n, rfl⟩ := hd.out
  exact h.step (pw_below_drewN (Below.refl _ _) n)
theorem Rg.setBad (h : Rg w0 w g A c s) (e : Bool) : Rg w0 (w.setCell ⟨g, 1, none⟩ (.bool e)) g A c (s.1, e) :=
  ⟨(blk_set h.blk 1 _).trans rfl, h.len, h.row, below_set h.bel h.lo, h.lo, h.byte, h.short⟩
theorem Rg.setB (h : Rg w0 w g A c s) {A' : Option Addr} {c' : Nat} {l' : List Int} (hl : l'.length ≤ c') (hr : Kd.C (Kd.int .u8) w0 A' l'.length l') (hb : ∀ x ∈ l', LebT.isByte x) (hs : l'.length ≤ 140737488351232) : Rg w0 (w.setCell ⟨g, 0, none⟩ (.slice A' l'.length c')) g A' c' (l', s.2) :=
  ⟨(blk_set h.blk 0 _).trans rfl, hl, hr, below_set h.bel h.lo, h.lo, hb, hs⟩
end
theorem cut_of (A : Option Addr) (l : List Int) (c : Nat) (hl : l.length ≤ c) (u : Nat) (hu : u ≤ l.length) : ∃ A', (∀ W : World, (Instr.slice 23 (.slice A l.length c) (some (.int .i64 (u : Int))) none none).run Try.prog W = .ok (.slice A' (l.length - u) (c - u)) W) ∧
    (∀ W, Kd.C (Kd.int .u8) W A l.length l → Kd.C (Kd.int .u8) W A' (l.drop u).length (l.drop u)) ∧ (l.drop u).length ≤ c - u := by
  obtain ⟨i0, hi0, _, hsz, _⟩ := info_parts info5
  obtain ⟨A', h1, h2, h3⟩ := print_drop_of (P := Try.prog) (Value.int .u8) 0 23 5 .i64 Try.underlying23 hi0 hsz A c l (u : Int) (by omega) (by omega) hl
  simp only [Int.toNat_natCast, List.length_drop] at h1 h2 h3
  exact ⟨A', h1, fun W hC => by rw [List.length_drop]; exact Kd.C_of_reads (h1 := fun _ => rfl) (h2 W (Kd.reads_of_C hC)), by rw [List.length_drop]; exact h3⟩
theorem runs_used {b : List Int} (hb : ∀ x ∈ b, LebT.isByte x) (he : (ColT.getRuns b 256).2.2 = 0) : ∃ u : Nat, (ColT.getRuns b 256).2.1 = (u : Int) ∧ u ≤ b.length := by
  obtain ⟨x, u, e, hx⟩ : ∃ x u e, ColT.getRuns b 256 = (x, u, e) := ⟨_, _, _, rfl⟩
  rw [hx] at he ⊢
  obtain rfl : e = 0 := he
  obtain ⟨m, rfl, h1, _, _⟩ := ColT.getRuns_only hb hx
  exact ⟨m, rfl, h1⟩
def ColPost (w0 w : World) (g : Nat) (G : List Int → List Int × Int × Int) (s : St) (e : Ending) (w' : World) : Prop :=
  ∃ (v : Value) (A' : Option Addr) (c' : Nat), e = .returned v ∧ Kd.R (Kd.int .i64) 2 w' w.heap.size (fun k => k ≠ g) v (colS G s).1 ∧ Rg w0 w' g A' c' (colS G s).2 ∧ KeepBut w w' g none
set_option maxHeartbeats 4000000 in
set_option maxRecDepth 100000 in
theorem column_runs (w0 w : World) (g : Nat) (A : Option Addr) (c : Nat) (s : St) (h : Rg w0 w g A c s) : Calls Try.prog 39 #[.pointer (some ⟨g, 0, none⟩), .func (.func 40) #[] #[]] w (ColPost w0 w g runG s) := by
  obtain ⟨n, k, e, hg⟩ : ∃ n k e, runG s.1 = (n, k, e) := ⟨_, _, _, rfl⟩
  have hf : column_GetRuns.f 800000 s.1 256 = some (n, k, e) := by
    rw [ColT.getRuns_f (by omega) h.byte h.short 256]
    exact congrArg some hg
  have hu := runs_used h.byte
  rw [show (ColT.getRuns s.1 256).2.2 = (runG s.1).2.2 from rfl, show (ColT.getRuns s.1 256).2.1 = (runG s.1).2.1 from rfl, hg] at hu
  have HF := Aside0.mk hf
  have H := Aside0.mk h
  have h0 := h.c0
  have hlt := h.lt
  have HLT := Aside0.mk hlt
  have hu22 := Try.underlying23
  clear hf hlt
  go_enter Try.func39, Try.ntmps39
  by_cases hbad : s.2 = true
  · have hc : colS runG s = ([], s.1, true) := if_neg (by rw [hbad]; exact fun hh => absurd hh.1 (by decide))
    have HC := Aside0.mk hc
    have HBD := Aside0.mk hbad
    clear hc hbad hu h
    go_wp2_with (go_at_call 40; refine (column_GetRuns.calls 800000 A c s.1 256 n k e _ H.out.C H.out.len HF.out).mono ?_; rintro e_ w1 ⟨v1, rfl, ho, hb⟩; have H1 := Aside0.mk (H.out.step hb); have HK := Aside0.mk (KeepBut.of_below hb g none); have c1 := H1.out.c1; rw [HBD.out] at c1; have f1 := blk_frozen H1.out.blk 1; have g1 := (H1.out.setBad true).c1; clear ho hb h0)
    go_ret
    exact ⟨_, A, c, rfl, by rw [HC.out]; exact Kd.R_nil _ _ _ _ _, by rw [HC.out]; exact H1.out.setBad true, HK.out.set_ 1 _⟩
  · have hbf : s.2 = false := by simpa using hbad
    clear hbad
    by_cases he : e = 0
    · subst he
      obtain ⟨u, rfl, hul⟩ := hu rfl
      obtain ⟨A', hcut, hC, hcl⟩ := cut_of A s.1 c h.len u hul
      have hc : colS runG s = (n, s.1.drop u, false) := by
        unfold colS
        rw [hg, if_pos ⟨hbf, rfl⟩]
        rfl
      have HC := Aside0.mk hc
      have HBF := Aside0.mk hbf
      have HCC := Aside0.mk hC
      have HCL := Aside0.mk hcl
      clear hc hbf hu hC hcl h hul
      go_wp2_with (go_at_call 40; refine (column_GetRuns.calls 800000 A c s.1 256 n u 0 _ H.out.C H.out.len HF.out).mono ?_; rintro e_ w1 ⟨v1, rfl, ho, hb⟩; have H1 := Aside0.mk (H.out.step hb); have HO := Aside0.mk ho; have HK := Aside0.mk (KeepBut.of_below hb g none); have c1 := H1.out.c1; rw [HBF.out] at c1; have f1 := blk_frozen H1.out.blk 1; have H2 := Aside0.mk (H1.out.setBad false); have g0 := H2.out.c0; have g1 := H2.out.c1; have f0 := blk_frozen H2.out.blk 0; clear ho hb h0)
      go_ret
      have H3 := H2.out.setB (A' := A') (c' := c - u) HCL.out (HCC.out _ H.out.row) (ColT.drop_byte H.out.byte u) (by rw [List.length_drop]; have := H.out.short; omega)
      rw [List.length_drop] at H3
      have hn := HLT.out
      refine ⟨_, A', c - u, rfl, ?_, ?_, (HK.out.set_ 1 _).set_ 0 _⟩
      · rw [HC.out]
        exact Kd.R_far (p := ⟨g, 0, none⟩) (Kd.R_far (p := ⟨g, 1, none⟩) (Kd.R_mono (Kd.R_bound HO.out) (fun k hk => by have := hk.2.1; show k ≠ g; omega)) (fun k hk => hk) _) (fun k hk => hk) _
      · rw [HC.out]
        exact H3
    · have hc : colS runG s = ([], s.1, true) := if_neg (by rw [hg]; exact fun hh => he hh.2)
      have b2 : (e == 0) = false := beq_eq_false_iff_ne.mpr he
      have b3 : (e != 0) = true := bne_iff_ne.mpr he
      have HC := Aside0.mk hc
      have HBF := Aside0.mk hbf
      clear hc hbf hu he h
      go_wp2_with (go_at_call 40; refine (column_GetRuns.calls 800000 A c s.1 256 n k e _ H.out.C H.out.len HF.out).mono ?_; rintro e_ w1 ⟨v1, rfl, ho, hb⟩; have H1 := Aside0.mk (H.out.step hb); have HK := Aside0.mk (KeepBut.of_below hb g none); have c1 := H1.out.c1; rw [HBF.out] at c1; have f1 := blk_frozen H1.out.blk 1; have g1 := (H1.out.setBad true).c1; clear ho hb h0)
      go_ret
      exact ⟨_, A, c, rfl, by rw [HC.out]; exact Kd.R_nil _ _ _ _ _, by rw [HC.out]; exact H1.out.setBad true, HK.out.set_ 1 _⟩
set_option maxHeartbeats 4000000 in
set_option maxRecDepth 100000 in
theorem column_deltas (w0 w : World) (g : Nat) (A : Option Addr) (c : Nat) (s : St) (h : Rg w0 w g A c s) : Calls Try.prog 39 #[.pointer (some ⟨g, 0, none⟩), .func (.func 42) #[] #[]] w (ColPost w0 w g delG s) := by
  obtain ⟨n, k, e, hg⟩ : ∃ n k e, delG s.1 = (n, k, e) := ⟨_, _, _, rfl⟩
  have hf : column_GetDeltas.f 800000 s.1 256 = some (n, k, e) := by
    rw [ColT.getDeltas_f (by omega) h.byte h.short 256]
    exact congrArg some hg
  have hu := runs_used h.byte
  rw [show (ColT.getRuns s.1 256).2.2 = (delG s.1).2.2 from rfl, show (ColT.getRuns s.1 256).2.1 = (delG s.1).2.1 from rfl, hg] at hu
  have HF := Aside0.mk hf
  have H := Aside0.mk h
  have h0 := h.c0
  have hlt := h.lt
  have HLT := Aside0.mk hlt
  have hu22 := Try.underlying23
  clear hf hlt
  go_enter Try.func39, Try.ntmps39
  by_cases hbad : s.2 = true
  · have hc : colS delG s = ([], s.1, true) := if_neg (by rw [hbad]; exact fun hh => absurd hh.1 (by decide))
    have HC := Aside0.mk hc
    have HBD := Aside0.mk hbad
    clear hc hbad hu h
    go_wp2_with (go_at_call 42; refine (column_GetDeltas.calls 800000 A c s.1 256 n k e _ H.out.C H.out.len HF.out).mono ?_; rintro e_ w1 ⟨v1, rfl, ho, hb⟩; have H1 := Aside0.mk (H.out.step hb); have HK := Aside0.mk (KeepBut.of_below hb g none); have c1 := H1.out.c1; rw [HBD.out] at c1; have f1 := blk_frozen H1.out.blk 1; have g1 := (H1.out.setBad true).c1; clear ho hb h0)
    go_ret
    exact ⟨_, A, c, rfl, by rw [HC.out]; exact Kd.R_nil _ _ _ _ _, by rw [HC.out]; exact H1.out.setBad true, HK.out.set_ 1 _⟩
  · have hbf : s.2 = false := by simpa using hbad
    clear hbad
    by_cases he : e = 0
    · subst he
      obtain ⟨u, rfl, hul⟩ := hu rfl
      obtain ⟨A', hcut, hC, hcl⟩ := cut_of A s.1 c h.len u hul
      have hc : colS delG s = (n, s.1.drop u, false) := by
        unfold colS
        rw [hg, if_pos ⟨hbf, rfl⟩]
        rfl
      have HC := Aside0.mk hc
      have HBF := Aside0.mk hbf
      have HCC := Aside0.mk hC
      have HCL := Aside0.mk hcl
      clear hc hbf hu hC hcl h hul
      go_wp2_with (go_at_call 42; refine (column_GetDeltas.calls 800000 A c s.1 256 n u 0 _ H.out.C H.out.len HF.out).mono ?_; rintro e_ w1 ⟨v1, rfl, ho, hb⟩; have H1 := Aside0.mk (H.out.step hb); have HO := Aside0.mk ho; have HK := Aside0.mk (KeepBut.of_below hb g none); have c1 := H1.out.c1; rw [HBF.out] at c1; have f1 := blk_frozen H1.out.blk 1; have H2 := Aside0.mk (H1.out.setBad false); have g0 := H2.out.c0; have g1 := H2.out.c1; have f0 := blk_frozen H2.out.blk 0; clear ho hb h0)
      go_ret
      have H3 := H2.out.setB (A' := A') (c' := c - u) HCL.out (HCC.out _ H.out.row) (ColT.drop_byte H.out.byte u) (by rw [List.length_drop]; have := H.out.short; omega)
      rw [List.length_drop] at H3
      have hn := HLT.out
      refine ⟨_, A', c - u, rfl, ?_, ?_, (HK.out.set_ 1 _).set_ 0 _⟩
      · rw [HC.out]
        exact Kd.R_far (p := ⟨g, 0, none⟩) (Kd.R_far (p := ⟨g, 1, none⟩) (Kd.R_mono (Kd.R_bound HO.out) (fun k hk => by have := hk.2.1; show k ≠ g; omega)) (fun k hk => hk) _) (fun k hk => hk) _
      · rw [HC.out]
        exact H3
    · have hc : colS delG s = ([], s.1, true) := if_neg (by rw [hg]; exact fun hh => he hh.2)
      have b2 : (e == 0) = false := beq_eq_false_iff_ne.mpr he
      have b3 : (e != 0) = true := bne_iff_ne.mpr he
      have HC := Aside0.mk hc
      have HBF := Aside0.mk hbf
      clear hc hbf hu he h
      go_wp2_with (go_at_call 42; refine (column_GetDeltas.calls 800000 A c s.1 256 n k e _ H.out.C H.out.len HF.out).mono ?_; rintro e_ w1 ⟨v1, rfl, ho, hb⟩; have H1 := Aside0.mk (H.out.step hb); have HK := Aside0.mk (KeepBut.of_below hb g none); have c1 := H1.out.c1; rw [HBF.out] at c1; have f1 := blk_frozen H1.out.blk 1; have g1 := (H1.out.setBad true).c1; clear ho hb h0)
      go_ret
      exact ⟨_, A, c, rfl, by rw [HC.out]; exact Kd.R_nil _ _ _ _ _, by rw [HC.out]; exact H1.out.setBad true, HK.out.set_ 1 _⟩
end Go.Proofs.Ytpnnjefhchppfaa.Op

set_option linter.unusedVariables false
set_option linter.unusedSimpArgs false
namespace Go.Proofs.Ytpnnjefhchppfaa.Op
open Go Go.RowKit Go.Proofs.YtpnnjefhchppfaaW.PrintWords Go.Proofs.YtpnnjefhchppfaaW.PrintLast Go.Proofs.YtpnnjefhchppfaaW.PrintMore Go.Proofs.Ytpnnjefhchppfaa.PA
theorem gT_used {b : List Int} (hb : ∀ x ∈ b, LebT.isByte x) {most : Int} (h : (gT most b).2.2 = 0) : ∃ u : Nat, (gT most b).2.1 = (u : Int) ∧ u ≤ b.length := by
  unfold gT at h ⊢
  by_cases h0 : (LebT.gU 0 0 b).2.2 = 0
  · obtain ⟨v, k, e, hv, hk0, hkl, _⟩ := ColT.gU_rng hb h0
    rw [if_pos h0] at h ⊢
    simp only [e] at h ⊢
    by_cases h1 : (v : Int) > most
    · rw [if_pos h1] at h; exact absurd h (by decide)
    · rw [if_neg h1] at h ⊢
      by_cases h2 : (v : Int) > (b.length : Int) - (k : Int)
      · rw [if_pos h2] at h; exact absurd h (by decide)
      · rw [if_neg h2]
        exact ⟨k + v, by push_cast; rfl, by omega⟩
  · rw [if_neg h0] at h
    exact absurd h h0
def TextPost (w0 w : World) (g : Nat) (most : Int) (s : St) (e : Ending) (w' : World) : Prop :=
  ∃ (A' : Option Addr) (c' : Nat), e = .returned (.string (textS most s).1) ∧ Rg w0 w' g A' c' (textS most s).2 ∧ KeepBut w w' g none
set_option maxHeartbeats 4000000 in
set_option maxRecDepth 100000 in
theorem text_calls (w0 w : World) (g : Nat) (A : Option Addr) (c : Nat) (s : St) (most : Int) (hm0 : 0 ≤ most) (hm1 : most ≤ 4096) (h : Rg w0 w g A c s) : Calls Try.prog 43 #[.pointer (some ⟨g, 0, none⟩), .int .i64 most] w (TextPost w0 w g most s) := by
  obtain ⟨n, k, e, hg⟩ : ∃ n k e, gT most s.1 = (n, k, e) := ⟨_, _, _, rfl⟩
  have hf : leb_GetText.f 24 s.1 most = some (n, k, e) := by
    rw [LebP.gText s.1 most hm0 (by omega) h.byte (by have := h.short; omega) (Nat.le_refl _)]
    exact congrArg some hg
  have hu := gT_used (most := most) h.byte
  rw [hg] at hu
  have HF := Aside0.mk hf
  have H := Aside0.mk h
  have h0 := h.c0
  have hu22 := Try.underlying23
  clear hf hm0 hm1
  go_enter Try.func43, Try.ntmps43
  by_cases hbad : s.2 = true
  · have hc : textS most s = (e0, s.1, true) := if_neg (by rw [hbad]; exact fun hh => absurd hh.1 (by decide))
    have HC := Aside0.mk hc
    have HBD := Aside0.mk hbad
    clear hc hbad hu h
    go_wp2_with (go_at_call 60; refine (leb_GetText.calls 24 A c s.1 most n k e _ H.out.C H.out.len HF.out).mono ?_; rintro e_ w1 ⟨rfl, hd⟩; have H1 := Aside0.mk (H.out.drawn hd); have HK : Aside0 (KeepBut w w1 g none) := ⟨by obtain ⟨q, hq⟩ := hd.out; rw [hq]; exact keep_drewN (KeepBut.refl _ _ _) q⟩; have c1 := H1.out.c1; rw [HBD.out] at c1; have f1 := blk_frozen H1.out.blk 1; have g1 := (H1.out.setBad true).c1; clear hd h0)
    go_ret
    exact ⟨A, c, by rw [HC.out]; rfl, by rw [HC.out]; exact H1.out.setBad true, HK.out.set_ 1 _⟩
  · have hbf : s.2 = false := by simpa using hbad
    clear hbad
    by_cases he : e = 0
    · subst he
      obtain ⟨u, rfl, hul⟩ := hu rfl
      obtain ⟨A', hcut, hC, hcl⟩ := cut_of A s.1 c h.len u hul
      have hc : textS most s = (n, s.1.drop u, false) := by
        unfold textS
        rw [hg, if_pos ⟨hbf, rfl⟩]
        rfl
      have HC := Aside0.mk hc
      have HBF := Aside0.mk hbf
      have HCC := Aside0.mk hC
      have HCL := Aside0.mk hcl
      clear hc hbf hu hC hcl h hul
      go_wp2_with (go_at_call 60; refine (leb_GetText.calls 24 A c s.1 most n u 0 _ H.out.C H.out.len HF.out).mono ?_; rintro e_ w1 ⟨rfl, hd⟩; have H1 := Aside0.mk (H.out.drawn hd); have HK : Aside0 (KeepBut w w1 g none) := ⟨by obtain ⟨q, hq⟩ := hd.out; rw [hq]; exact keep_drewN (KeepBut.refl _ _ _) q⟩; have c1 := H1.out.c1; rw [HBF.out] at c1; have f1 := blk_frozen H1.out.blk 1; have H2 := Aside0.mk (H1.out.setBad false); have g0 := H2.out.c0; have g1 := H2.out.c1; have f0 := blk_frozen H2.out.blk 0; clear hd h0)
      go_ret
      have H3 := H2.out.setB (A' := A') (c' := c - u) HCL.out (HCC.out _ H.out.row) (ColT.drop_byte H.out.byte u) (by rw [List.length_drop]; have := H.out.short; omega)
      rw [List.length_drop] at H3
      exact ⟨A', c - u, by rw [HC.out]; rfl, by rw [HC.out]; exact H3, (HK.out.set_ 1 _).set_ 0 _⟩
    · have hc : textS most s = (e0, s.1, true) := if_neg (by rw [hg]; exact fun hh => he hh.2)
      have b2 : (e == 0) = false := beq_eq_false_iff_ne.mpr he
      have b3 : (e != 0) = true := bne_iff_ne.mpr he
      have HC := Aside0.mk hc
      have HBF := Aside0.mk hbf
      clear hc hbf hu he h
      go_wp2_with (go_at_call 60; refine (leb_GetText.calls 24 A c s.1 most n k e _ H.out.C H.out.len HF.out).mono ?_; rintro e_ w1 ⟨rfl, hd⟩; have H1 := Aside0.mk (H.out.drawn hd); have HK : Aside0 (KeepBut w w1 g none) := ⟨by obtain ⟨q, hq⟩ := hd.out; rw [hq]; exact keep_drewN (KeepBut.refl _ _ _) q⟩; have c1 := H1.out.c1; rw [HBF.out] at c1; have f1 := blk_frozen H1.out.blk 1; have g1 := (H1.out.setBad true).c1; clear hd h0)
      go_ret
      exact ⟨A, c, by rw [HC.out]; rfl, by rw [HC.out]; exact H1.out.setBad true, HK.out.set_ 1 _⟩
theorem Rg.grown {w0 w w1 : World} {g c : Nat} {A : Option Addr} {s : St} {r : Option Nat} (h : Rg w0 w g A c s) (hg : w.grownBy w1 r) (hr : some g ≠ r) (hb : Below w0.heap.size w0 w1) : Rg w0 w1 g A c s :=
  ⟨blk_grown h.blk hg hr, h.len, h.row, hb, h.lo, h.byte, h.short⟩
theorem nmS_zero (acc : List ByteArray) (s : St) : nmS 0 acc s = (acc, s) := rfl
theorem nmS_bad (n : Nat) (acc : List ByteArray) (s : St) (h : s.2 = true) : nmS n acc s = (acc, s) := by
  cases n with
  | zero => rfl
  | succ n => exact if_pos h
theorem nmS_next (n : Nat) (acc : List ByteArray) (s : St) (h : s.2 = false) : nmS (n + 1) acc s = nmS n (acc ++ [(textS 32 s).1]) (textS 32 s).2 := if_neg (by rw [h]; decide)
def NamesPost (w0 w : World) (g : Nat) (s : St) (e : Ending) (w' : World) : Prop :=
  ∃ (v : Value) (A' : Option Addr) (c' : Nat), e = .returned v ∧ Kd.R Kd.string 9 w' w.heap.size (fun k => k ≠ g) v (namesS s).1 ∧ Rg w0 w' g A' c' (namesS s).2 ∧ KeepBut w w' g none
set_option maxHeartbeats 4000000 in
set_option maxRecDepth 100000 in
theorem names_calls (w0 w : World) (g : Nat) (A : Option Addr) (c : Nat) (s : St) (h : Rg w0 w g A c s) : Calls Try.prog 41 #[.pointer (some ⟨g, 0, none⟩)] w (NamesPost w0 w g s) := by
  obtain ⟨n, k, e, hg⟩ : ∃ n k e, LebT.gU 0 0 s.1 = (n, k, e) := ⟨_, _, _, rfl⟩
  have hf : leb_GetUint.f 20 s.1 = some (n, k, e) := by
    rw [LebP.getU_f (Nat.le_refl _) h.byte]
    exact congrArg some hg
  have HF := Aside0.mk hf
  have H := Aside0.mk h
  have h0 := h.c0
  have hu22 := Try.underlying23
  clear hf
  go_enter Try.func41, Try.ntmps41
  by_cases hbad : s.2 = true
  · have hc : namesS s = ([], s.1, true) := if_neg (by rw [hbad]; exact fun hh => absurd hh.1 (by decide))
    have HC := Aside0.mk hc
    have HBD := Aside0.mk hbad
    clear hc hbad h
    go_wp2_with (go_at_call 58; refine (leb_GetUint.calls 20 A c s.1 n k e _ H.out.C H.out.len HF.out).mono ?_; rintro e_ w1 ⟨rfl, hd⟩; have H1 := Aside0.mk (H.out.drawn hd); have HK : Aside0 (KeepBut w w1 g none) := ⟨by obtain ⟨q, hq⟩ := hd.out; rw [hq]; exact keep_drewN (KeepBut.refl _ _ _) q⟩; have c1 := H1.out.c1; rw [HBD.out] at c1; have f1 := blk_frozen H1.out.blk 1; have g1 := (H1.out.setBad true).c1; clear hd h0)
    go_ret
    exact ⟨_, A, c, rfl, by rw [HC.out]; exact Kd.R_nil _ _ _ _ _, by rw [HC.out]; exact H1.out.setBad true, HK.out.set_ 1 _⟩
  · have hbf : s.2 = false := by simpa using hbad
    clear hbad
    by_cases he : e = 0
    · subst he
      obtain ⟨m, u, hmu, hm64, hu0, hul, -⟩ := ColT.gU_rng h.byte (show (LebT.gU 0 0 s.1).2.2 = 0 by rw [hg])
      rw [hg] at hmu
      simp only [Prod.mk.injEq] at hmu
      obtain ⟨rfl, rfl, -⟩ := hmu
      by_cases hm : m ≤ 256
      · obtain ⟨A', hcut, hC, hcl⟩ := cut_of A s.1 c h.len u hul
        have hc : namesS s = nmS m [] (s.1.drop u, false) := by
          unfold namesS
          rw [hg, if_pos ⟨hbf, rfl, by show (m : Int) ≤ 256; omega⟩]
          rfl
        have hdm : decide ((256 : Int) < (m : Int)) = false := decide_eq_false (by omega)
        have HC := Aside0.mk hc
        have HBF := Aside0.mk hbf
        have HCC := Aside0.mk hC
        have HCL := Aside0.mk hcl
        have HM := Aside0.mk hm
        clear hc hbf hC hcl h hul hm64 hu0 hm
        go_wp2_with (go_at_call 58; refine (leb_GetUint.calls 20 A c s.1 m u 0 _ H.out.C H.out.len HF.out).mono ?_; rintro e_ w1 ⟨rfl, hd⟩; have H1 := Aside0.mk (H.out.drawn hd); have HK : Aside0 (KeepBut w w1 g none) := ⟨by obtain ⟨q, hq⟩ := hd.out; rw [hq]; exact keep_drewN (KeepBut.refl _ _ _) q⟩; have c1 := H1.out.c1; rw [HBF.out] at c1; have f1 := blk_frozen H1.out.blk 1; have H2 := Aside0.mk (H1.out.setBad false); have g0 := H2.out.c0; have g1 := H2.out.c1; have f0 := blk_frozen H2.out.blk 0; clear hd h0)
        have H3 := Aside0.mk (H2.out.setB (A' := A') (c' := c - u) HCL.out (HCC.out _ H.out.row) (ColT.drop_byte H.out.byte u) (by rw [List.length_drop]; have := H.out.short; omega))
        have hdl := @List.length_drop Int u s.1
        rw [hdl] at H3
        have HK3 := Aside0.mk ((HK.out.set_ 1 (.bool false)).set_ 0 (.slice A' (s.1.length - u) (c - u)))
        clear hdl H2 HK H1 g0 g1 f0 f1 c1 hcut
        go_loopw [3, 6] (fun v3 v6 wr => ∃ (j : Nat) (acc : List ByteArray) (t : St) (A' : Option Addr) (c' : Nat), j ≤ 256 ∧ v3 = .int .u64 j ∧ Aside0 (Kd.R Kd.string 9 wr w.heap.size (fun k => k ≠ g) v6 acc) ∧ Aside0 (Rg w0 wr g A' c' t) ∧ Aside0 (KeepBut w wr g none) ∧ Aside0 (nmS j acc t = namesS s) ∧ Aside0 (acc.length + j ≤ 256)) (fun v3 _ _ => (intOf v3).toNat)
        case atStart => exact ⟨m, [], (s.1.drop u, false), A', c - u, HM.out, rfl, ⟨Kd.R_nil _ _ _ _ _⟩, ⟨H3.out⟩, HK3, ⟨HC.out.symm⟩, ⟨by simpa using HM.out⟩⟩
        case round =>
          clear H3 HK3 HC HM hdm
          obtain ⟨j, acc, t, A1, c1, hj, rfl, HO, HR, HK, HN, HL⟩ := hrel
          have r1 := HR.out.c1
          by_cases hj0 : j = 0
          · subst hj0
            have hd0 : decide ((0 : Int) < ((0 : Nat) : Int)) = false := by decide
            clear H
            go_wp2
            go_ret
            have e1 := HN.out
            rw [nmS_zero] at e1
            exact ⟨_, A1, c1, rfl, by rw [← e1]; exact HO.out, by rw [← e1]; exact HR.out, HK.out⟩
          · have hd1 : decide ((0 : Int) < (j : Int)) = true := decide_eq_true (by omega)
            by_cases hb : t.2 = true
            · rw [hb] at r1
              have HBT := Aside0.mk hb
              clear hb H
              go_wp2
              go_ret
              have e1 := HN.out
              rw [nmS_bad _ _ _ HBT.out] at e1
              exact ⟨_, A1, c1, rfl, by rw [← e1]; exact HO.out, by rw [← e1]; exact HR.out, HK.out⟩
            · have hbf : t.2 = false := by simpa using hb
              rw [hbf] at r1
              have HBT := Aside0.mk hbf
              clear hb hbf
              obtain ⟨q, rfl⟩ : ∃ q, j = q + 1 := ⟨j - 1, by omega⟩
              obtain ⟨A6, c6, e6⟩ := Kd.R_slice HO.out
              subst e6
              have HW := Aside0.mk H.out.bel.size
              clear hj0
              go_wp2_with (first | (go_at_call 43; refine (text_calls w0 _ g A1 c1 t 32 (by decide) (by decide) HR.out).mono ?_; rintro e2 w2 ⟨A2, c2, rfl, hr2, hk2⟩; have HR2 := Aside0.mk hr2; have HK2 := Aside0.mk (HK.out.trans hk2 (.inl rfl)); have HO2 := Aside0.mk (Kd.R_keep HO.out hk2 (fun k hk => hk)); clear hr2 hk2) | ((with_reducible refine gate_builtin (b := .append) (xs := #[.tmp 55, .tmp 58]) rfl ?_); at_builtin; refine Kd.R_append Kd.string (w0 := w2) w.heap.size rfl (.tmp 55) (.tmp 58) 53 9 (.string ⟨#[]⟩) 16 rfl Try.underlying53 info9 rfl (by decide) (by omega) (.slice A6 acc.length c6) acc ((textS 32 t).1) [.string ((textS 32 t).1)] (fun k => k ≠ g) (fun _ => False) rfl rfl ?aP (fun _ hk => hk.elim) ?aF ?aO ?aB ?aS ?aL ?_; (case aP => exact rfl); (case aB => exact Below.refl _ _); (case aF => exact (fun k hk => by have := HR2.out.lt; show k ≠ g; omega)); (case aO => exact HO2.out); (case aS => exact HK2.out.1); (case aL => (have := HL.out; omega)); intro v3 w3 ho hb hg hat; have HO3 := Aside0.mk ho; have HK3 := Aside0.mk (HK2.out.trans (KeepBut.of_grown hg g) (Kd.R_base2 HO2.out)); have HR3 := Aside0.mk (HR2.out.grown hg (fun e => HO2.out.1 g e.symm rfl) (HR2.out.bel.trans (hb.mono HW.out))); clear ho hb hg hat))
              go_roundw
              case rel =>
                refine ⟨q, acc ++ [(textS 32 t).1], (textS 32 t).2, A2, c2, by omega, rfl, HO3, HR3, HK3, ⟨?_⟩, ⟨by have := HL.out; rw [List.length_append, List.length_singleton]; omega⟩⟩
                rw [← nmS_next q acc t HBT.out]
                exact HN.out
              case measure =>
                show (q : Int).toNat < ((q + 1 : Nat) : Int).toNat
                rw [Int.toNat_natCast, Int.toNat_natCast]
                omega
      · have hc : namesS s = ([], s.1, true) := if_neg (by rw [hg]; rintro ⟨_, _, h3⟩; exact hm (by have : (m : Int) ≤ 256 := h3; omega))
        have hdm : decide ((256 : Int) < (m : Int)) = true := decide_eq_true (by omega)
        have HC := Aside0.mk hc
        have HBF := Aside0.mk hbf
        clear hc hbf h hul hm64 hu0 hm
        go_wp2_with (go_at_call 58; refine (leb_GetUint.calls 20 A c s.1 m u 0 _ H.out.C H.out.len HF.out).mono ?_; rintro e_ w1 ⟨rfl, hd⟩; have H1 := Aside0.mk (H.out.drawn hd); have HK : Aside0 (KeepBut w w1 g none) := ⟨by obtain ⟨q, hq⟩ := hd.out; rw [hq]; exact keep_drewN (KeepBut.refl _ _ _) q⟩; have c1 := H1.out.c1; rw [HBF.out] at c1; have f1 := blk_frozen H1.out.blk 1; have g1 := (H1.out.setBad true).c1; clear hd h0)
        go_ret
        exact ⟨_, A, c, rfl, by rw [HC.out]; exact Kd.R_nil _ _ _ _ _, by rw [HC.out]; exact H1.out.setBad true, HK.out.set_ 1 _⟩
    · have hc : namesS s = ([], s.1, true) := if_neg (by rw [hg]; exact fun hh => he hh.2.1)
      have b2 : (e == 0) = false := beq_eq_false_iff_ne.mpr he
      have b3 : (e != 0) = true := bne_iff_ne.mpr he
      have HC := Aside0.mk hc
      have HBF := Aside0.mk hbf
      clear hc hbf he h
      go_wp2_with (go_at_call 58; refine (leb_GetUint.calls 20 A c s.1 n k e _ H.out.C H.out.len HF.out).mono ?_; rintro e_ w1 ⟨rfl, hd⟩; have H1 := Aside0.mk (H.out.drawn hd); have HK : Aside0 (KeepBut w w1 g none) := ⟨by obtain ⟨q, hq⟩ := hd.out; rw [hq]; exact keep_drewN (KeepBut.refl _ _ _) q⟩; have c1 := H1.out.c1; rw [HBF.out] at c1; have f1 := blk_frozen H1.out.blk 1; have g1 := (H1.out.setBad true).c1; clear hd h0)
      go_ret
      exact ⟨_, A, c, rfl, by rw [HC.out]; exact Kd.R_nil _ _ _ _ _, by rw [HC.out]; exact H1.out.setBad true, HK.out.set_ 1 _⟩
end Go.Proofs.Ytpnnjefhchppfaa.Op

