/- Posts beside the reference's letters: what each leaves of the other; calls as records. -/
import Derived.Test.YtnjnljnhpihemaaPoH
import Derived.Test.YtnjnljnhpihemaaPoR
import Derived.Test.YtnjnljnhpihemaaPoG
import Derived.Test.YtnjnljnhpihemaaAr
set_option linter.unusedVariables false
set_option linter.unusedSimpArgs false
namespace Go.Proofs.Ytnjnljnhpihemaa.PA
open Go Go.RowKit Go.Proofs.YtnjnljnhpihemaaW.PrintWords
structure S45 where
  f0 : Int
  f1 : Int
  f2 : Int
  f3 : Int
  f4 : List Int
def k45 : Kd S45 := Kd.iso (Kd.pair (Kd.int .u8) (Kd.pair (Kd.int .i64) (Kd.pair (Kd.int .i64) (Kd.pair (Kd.int .i64) (Kd.slice 5 (Kd.int .u8)))))) (fun x : S45 => (x.f0, x.f1, x.f2, x.f3, x.f4))
end Go.Proofs.Ytnjnljnhpihemaa.PA
namespace Go.Proofs.Ytnjnljnhpihemaa.Po
open Go Go.RowKit Go.Proofs.YtnjnljnhpihemaaW.PrintWords Go.Proofs.YtnjnljnhpihemaaW.PrintLast Go.Proofs.YtnjnljnhpihemaaW.PrintMore Go.Proofs.Ytnjnljnhpihemaa.PA
abbrev Act := S45
abbrev KA : Kd Act := k45
abbrev KL : Kd Lt := k68
abbrev TL : TypeId := 68
theorem KA_open {w : World} {x : Act} {cs : List Value} (h : KA.K w x cs) : ∃ A c, cs = [.int .u8 x.f0, .int .i64 x.f1, .int .i64 x.f2, .int .i64 x.f3, .slice A x.f4.length c] ∧ x.f4.length ≤ c ∧ Kd.C (Kd.int .u8) w A x.f4.length x.f4 := by
  obtain ⟨_, _, rfl, rfl, _, _, rfl, rfl, _, _, rfl, rfl, _, _, rfl, rfl, A, c, rfl, l0, g0⟩ := h
  exact ⟨A, c, rfl, l0, g0⟩
/-- A whole box is written over. -/
theorem store_box {P : Program} {ops : Array Oper} {rest : List Oper} {op : Oper} {a : Go.Act} {w : World} {Q : Exit → Go.Act → World → Prop} (hgd : op.guard = none) (ty : TypeId) (x y : Operand) (ho : op.op = .store ty x y)
    (g : Nat) (cells : Array Value) (hx : a.eval x = .pointer (some ⟨g, 0, none⟩)) (hy : a.eval y = .agg cells) (T : TypeId) (cur : Array Value) (hg : w.heap[g]? = some (.cells cur T (0, 0))) (hs : cells.size = cur.size)
    (hi : (P.info? ty).map (·.size) = some cells.size) (h1 : cells.all (·.oneCell') = true)
    (h : wpList P ops Q rest (a.put op.dst undef) (w.setRow g cells)) : wpList P ops Q (op :: rest) a w := by
  refine Ar.wpList_store_at hgd ty x y ho g 0 cells hx hy T cur hg (by omega) hi h1 ?_
  have e : splice cur.toList 0 cells.toList = cells.toList := by simp [splice, hs]
  rw [e, Array.toArray_toList]
  exact h
/-- A block of cells of a type. -/
def Ty (w : World) (T : TypeId) (k : Nat) : Prop := ∃ cells, w.heap[k]? = some (.cells cells T (0, 0))
section
variable {w0 : World} {gp gm : Nat} {n : Int} {L : List (Int × Int × Value)} {Q : Qt} {S P : Nat → Prop} {w w1 : World} {b : Nat} {v : Value} {R : List Lt}
theorem Ps.typed (h : Ps w0 gp gm n L Q S w) : Ps w0 gp gm n L Q (fun k => S k ∧ k < w.heap.size ∧ (Ty w 23 k ∨ Ty w 5 k)) w :=
  ⟨h.below, h.pb, h.mb, h.g0, h.sm, fun x hx => Kd.R_mono (Kd.R_bound (h.rows x hx)) (fun k hk => ⟨hk.1, hk.2.2.1, by
    obtain ⟨q, hq, hc⟩ := hk.2.2.2
    rcases List.mem_cons.1 hq with rfl | hq
    · exact Or.inl hc
    · have : q ∈ [5] := hq
      rw [List.mem_singleton.1 this] at hc
      exact Or.inr hc⟩), h.nil0, h.apart, h.keys⟩
theorem R_typed (h : Kd.R KL TL w b P v R) : Kd.R KL TL w b (fun k => P k ∧ k < w.heap.size ∧ Ty w TL k) v R :=
  Kd.R_mono (Kd.R_bound h) (fun k hk => ⟨hk.1, hk.2.2.1, by
    obtain ⟨q, hq, hc⟩ := hk.2.2.2
    have : q ∈ [TL] := hq
    rw [List.mem_singleton.1 this] at hc
    exact hc⟩)
theorem Ty.ne {T T' : TypeId} {k : Nat} (h : Ty w T k) (h' : Ty w T' k) : T = T' := by
  obtain ⟨c, hc⟩ := h
  obtain ⟨c', hc'⟩ := h'
  rw [hc] at hc'
  injection hc' with hc'
  injection hc' with _ hc'
theorem Ty.below {w w1 : World} {T : TypeId} {k : Nat} (hb : Below w.heap.size w w1) (hk : k < w.heap.size) (h : Ty w T k) : Ty w1 T k := by
  obtain ⟨c, hc⟩ := h
  exact ⟨c, (hb.block k hk).trans hc⟩
theorem Ps.mono {w0 : World} {gp gm : Nat} {n : Int} {L : List (Int × Int × Value)} {Q : Qt} {S S' : Nat → Prop} {w : World} (h : Ps w0 gp gm n L Q S w) (hS : ∀ k, S k → S' k) : Ps w0 gp gm n L Q S' w :=
  ⟨h.below, h.pb, h.mb, h.g0, h.sm, fun x hx => Kd.R_mono (h.rows x hx) hS, h.nil0, h.apart, h.keys⟩
theorem Ps.keptT (h : Ps w0 gp gm n L Q S w) (hk : Kept w w1 P) (hP : ∀ k, P k → Ty w TL k) (hb : Below w0.heap.size w0 w1) : Ps w0 gp gm n L Q S w1 :=
  ⟨hb, blk_kept h.pb hk (fun hp => absurd (Ty.ne (hP _ hp) ⟨_, h.pb⟩) (by decide)), blk_kept h.mb hk (fun hp => by obtain ⟨c, hc⟩ := hP _ hp; rw [h.mb] at hc; cases hc), h.g0, h.sm,
   fun x hx => Kd.R_mono (Kd.R_step (h.typed.rows x hx) (fun k hk2 hl => hk.2 k hl (fun hp => by
     rcases hk2.2.2 with h2 | h2
     · exact absurd (Ty.ne (hP _ hp) h2) (by decide)
     · exact absurd (Ty.ne (hP _ hp) h2) (by decide)))) (fun k hk => hk.1), h.nil0, h.apart, h.keys⟩
theorem R_keptT (h : Kd.R KL TL w b P v R) (hk : Kept w w1 (fun i => i = gm ∨ S i)) (hm : ∃ es ck, w.heap[gm]? = some (.map es ck)) (hS : ∀ k, S k → Ty w 23 k ∨ Ty w 5 k) : Kd.R KL TL w1 b P v R :=
  Kd.R_mono (Kd.R_kept (R_typed h) hk (fun k hk2 hs => by
    rcases hs with rfl | hs
    · obtain ⟨es, ck, hm⟩ := hm
      obtain ⟨c, hc⟩ := hk2.2.2
      rw [hm] at hc; cases hc
    · rcases hS k hs with h2 | h2
      · exact absurd (Ty.ne hk2.2.2 h2) (by decide)
      · exact absurd (Ty.ne hk2.2.2 h2) (by decide))) (fun k hk => hk.1)
/-- A box beside both is written. -/
theorem Ps.box (h : Ps w0 gp gm n L Q S w) {g : Nat} (hT : Ty w 39 g) (hg : w0.heap.size ≤ g) (cs : Array Value) : Ps w0 gp gm n L Q S (w.setRow g cs) :=
  ⟨below_setRow h.below hg cs, (setRow_other w g gp cs (fun e => absurd (Ty.ne ⟨_, h.pb⟩ (e ▸ hT)) (by decide))).trans h.pb, (setRow_other w g gm cs (fun e => by obtain ⟨c, hc⟩ := hT; rw [← e, h.mb] at hc; cases hc)).trans h.mb, h.g0, h.sm,
   fun x hx => Kd.R_mono (Kd.R_step (h.typed.rows x hx) (fun k hk2 hl => setRow_other w g k cs (fun e => by
     subst e
     rcases hk2.2.2 with h2 | h2
     · exact absurd (Ty.ne hT h2) (by decide)
     · exact absurd (Ty.ne hT h2) (by decide)))) (fun k hk => hk.1), h.nil0, h.apart, h.keys⟩
theorem R_box (h : Kd.R KL TL w b P v R) {g : Nat} (hT : Ty w 39 g) (cs : Array Value) : Kd.R KL TL (w.setRow g cs) b P v R :=
  Kd.R_mono (Kd.R_step (R_typed h) (fun k hk2 hl => setRow_other w g k cs (fun e => by
    subst e
    exact absurd (Ty.ne hT hk2.2.2) (by decide)))) (fun k hk => hk.1)
end
end Go.Proofs.Ytnjnljnhpihemaa.Po
