/- Posts beside other rows: what the caller's own rows and a post leave of one another. -/
import Derived.Test.YtnjnljnhpihemaaPoF
set_option linter.unusedVariables false
set_option linter.unusedSimpArgs false
namespace Go.Proofs.Ytnjnljnhpihemaa.Po
open Go Go.RowKit Go.Proofs.YtnjnljnhpihemaaW.PrintWords Go.Proofs.YtnjnljnhpihemaaW.PrintLast Go.Proofs.YtnjnljnhpihemaaW.PrintMore Go.Proofs.Ytnjnljnhpihemaa.PA
section
variable {w0 : World} {gp gm : Nat} {n : Int} {L : List (Int × Int × Value)} {Q : Int → Int → List (List Int)} {S : Nat → Prop} {w w1 : World}
theorem Ps.bound (h : Ps w0 gp gm n L Q S w) : Ps w0 gp gm n L Q (fun k => S k ∧ k < w.heap.size) w :=
  ⟨h.below, h.pb, h.mb, h.g0, h.sm, fun x hx => Kd.R_mono (Kd.R_bound (h.rows x hx)) (fun k hk => ⟨hk.1, hk.2.2.1⟩), h.nil0, h.apart, h.keys⟩
theorem Ps.grown (h : Ps w0 gp gm n L Q S w) {row : Option Nat} (hg : w.grownBy w1 row) (hS : ∀ k, S k → some k ≠ row) (hm : some gm ≠ row) (hp : some gp ≠ row) (hr : ∀ k, row = some k → w0.heap.size ≤ k) : Ps w0 gp gm n L Q S w1 :=
  ⟨pw_below_grown h.below row h.below.size hg hr, (hg.block gp (blk_lt h.pb) hp).trans h.pb, (hg.block gm (Array.getElem?_eq_some_iff.1 h.mb).1 hm).trans h.mb, h.g0, h.sm, fun x hx => Kd.R_grown (h.rows x hx) hg hS, h.nil0, h.apart, h.keys⟩
end
/-- Letters that are the asker's: their bytes lie in the elder world. -/
abbrev KF (w : World) : Kd (List Int) := Kd.fixed KR w
theorem rows_take {α : Type} {R : α → List Value → Prop} {size : Nat} {w : World} {A : Option Addr} {n : Nat} {ps : List α} (h : ReadsRow R size w A n ps) {m : Nat} (hm : m ≤ n) : ReadsRow R size w A m (ps.take m) := by
  obtain ⟨h1, h2, h3⟩ := h
  refine ⟨by rw [List.length_take]; omega, by omega, fun h0 => ?_⟩
  obtain ⟨ad, e, hc⟩ := h3 (by omega)
  refine ⟨ad, e, fun j p hp => hc j p ?_⟩
  rw [List.getElem?_take] at hp
  split at hp
  · exact hp
  · cases hp
theorem rows_drop {α : Type} {R : α → List Value → Prop} {w : World} {g n c k : Nat} {ps : List α} (h : ReadsRow R 1 w (some ⟨g, 0, none⟩) n ps) (hk : k + 1 ≤ n) (hc : n ≤ c) {A1 : Option Addr} (hA : A1 = if c = k + 1 then some (⟨g, 0, none⟩ : Addr) else (some (⟨g, 0, none⟩ : Addr)).map (·.add ((k + 1) * 1))) : ReadsRow R 1 w A1 (n - (k + 1)) (ps.drop (k + 1)) := by
  obtain ⟨h1, h2, h3⟩ := h
  refine ⟨by rw [List.length_drop]; omega, by omega, fun h0 => ?_⟩
  obtain ⟨ad, e, hcl⟩ := h3 (by omega)
  injection e with e
  subst e
  rw [if_neg (by omega)] at hA
  have hadd : ∀ i, (⟨g, 0, none⟩ : Addr).add i = ⟨g, i, none⟩ := fun i => by unfold Addr.add; split <;> simp_all
  have hadd2 : ∀ i, (⟨g, k + 1, none⟩ : Addr).add i = ⟨g, k + 1 + i, none⟩ := fun i => by unfold Addr.add; split <;> simp_all
  refine ⟨⟨g, k + 1, none⟩, by rw [hA, Option.map_some, hadd, Nat.mul_one], fun j p hp => ?_⟩
  rw [List.getElem?_drop] at hp
  obtain ⟨c', hs, hR, hcell⟩ := hcl (k + 1 + j) p hp
  refine ⟨c', hs, hR, fun i u hu => ?_⟩
  have := hcell i u hu
  rw [hadd] at this
  rw [hadd2, show k + 1 + (j * 1 + i) = (k + 1 + j) * 1 + i by omega]
  exact this
/-- What came in, read as letters of the elder world. -/
theorem rows_in {w W : World} {A : Option Addr} {n : Nat} {q : List (List Int)} (h : Kd.C KR w A n q) (hb : Below w.heap.size w W) : ReadsRow ((KF w).K W) 1 W A n q :=
  ReadsRow.imp_ (h : ReadsRow (KR.K w) 1 w A n q) hb (fun _ _ hp => hp)
theorem slice_take_run {A : Option Addr} {m c k : Nat} (hk : k ≤ c) (W : World) : (Instr.slice 22 (.slice A m c) none (some (.int .i64 (k : Int))) none).run Try.prog W = .ok (.slice A k c) W := by
  have hu := Try.underlying22
  have h1 : (k : Int) ≤ (c : Int) := by omega
  have h0 : (0 : Int) ≤ (k : Int) := by omega
  cases A with
  | none => go_simp
  | some ad => go_simp
theorem slice_drop_run {g m c k : Nat} (hk : k + 1 ≤ m) {A1 : Option Addr} (hA : A1 = if c = k + 1 then some (⟨g, 0, none⟩ : Addr) else (some (⟨g, 0, none⟩ : Addr)).map (·.add ((k + 1) * 1))) (W : World) : (Instr.slice 22 (.slice (some ⟨g, 0, none⟩) m c) (some (.int .i64 ((k : Int) + 1))) none none).run Try.prog W = .ok (.slice A1 (m - (k + 1)) (c - (k + 1))) W := by
  have hu := Try.underlying22
  have h1 : (k : Int) + 1 ≤ (m : Int) := by omega
  have h0 : (0 : Int) ≤ (k : Int) + 1 := by omega
  rw [hA]
  go_simp
/-- The asker's own rows stay where the map alone, and what is new, is written. -/
theorem own_kept {w W W1 : World} {gm : Nat} {base : Nat} {v : Value} {q : List (List Int)} {es : Array MapEntry} {ck : Nat} (h : Kd.R (KF w) 23 W base (fun _ => True) v q) (hm : W.heap[gm]? = some (.map es ck)) (hk : ∀ i, i < W.heap.size → i ≠ gm → W1.heap[i]? = W.heap[i]?) : Kd.R (KF w) 23 W1 base (fun _ => True) v q :=
  Kd.R_mono (Kd.R_step (Kd.R_bound h) (fun k hb hl => hk k hl (fun e => by
    obtain ⟨_, _, _, q, _, cells, hc⟩ := hb
    rw [e, hm] at hc; cases hc))) (fun _ _ => trivial)
def bts (n : Nat) : List (List Int) := (List.range n).map fun (j : Nat) => [((j : Nat) : Int)]
theorem bts_len (n : Nat) : (bts n).length = n := by simp [bts]
theorem bts_succ (n : Nat) : bts (n + 1) = bts n ++ [[(n : Int)]] := by simp [bts, List.range_succ]
theorem bts_get (n i : Nat) (h : i < n) : (bts n)[i]? = some [(i : Int)] := by simp [bts, h]
end Go.Proofs.Ytnjnljnhpihemaa.Po
