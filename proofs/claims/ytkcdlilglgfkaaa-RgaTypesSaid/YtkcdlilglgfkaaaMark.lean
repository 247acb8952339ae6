/- A constant's bytes: the conversion of an own row to its own type marks it; it is read as before. -/
import Derived.Test.YtkcdlilglgfkaaaWMore
import Derived.Laws.IdiomStrings
set_option linter.unusedVariables false
set_option linter.unusedSimpArgs false
namespace Go.Proofs.Ytkcdlilglgfkaaa.PA
open Go Go.RowKit Go.Proofs.YtkcdlilglgfkaaaW.PrintWords
theorem mark_run {P : Program} {W : World} {base n c : Nat} {ok : Nat → Prop} {A : Option Addr} {xs : List Int} (t e : TypeId) (ht : P.underlying t = some (.slice e)) (he : P.underlying e = some (.int .u8))
    (h : Kd.R (Kd.int .u8) e W base ok (.slice A n c) xs) (hn : 0 < n) :
    ∃ W1, (convert t t (.slice A n c)).run P W = .ok (.slice A n c) W1 ∧ Kd.V (Kd.int .u8) e W1 base (fun k => some k = (Value.slice A n c).ownBlock) (.slice A n c) xs ∧ Below base W W1 ∧ W1.heap.size = W.heap.size := by
  obtain ⟨hx, hle, hC⟩ := Kd.R_reads' h
  obtain ⟨inner, ho⟩ := Kd.R_own h
  rcases ho.2 with ⟨h1, h2⟩ | ⟨g, cap, cur, hv, hg, hh, r⟩
  · omega
  · injection hv with ha hb hc
    subst ha
    have hsh : W.shape? g = some (e, cur.size) := by unfold World.shape?; rw [hh]
    have hother : ∀ k, k ≠ g → (W.freeze ⟨g, cur.size, none⟩ 1).heap[k]? = W.heap[k]? := by
      intro k hk
      unfold World.freeze
      rw [if_neg (by decide)]
      simp only [Array.getElem?_modify]
      rw [if_neg (fun e => hk e.symm)]
    have hsize : (W.freeze ⟨g, cur.size, none⟩ 1).heap.size = W.heap.size := by
      unfold World.freeze
      rw [if_neg (by decide)]
      simp
    have hself : ∃ fr, (W.freeze ⟨g, cur.size, none⟩ 1).heap[g]? = some (.cells cur e fr) := by
      unfold World.freeze
      rw [if_neg (by decide)]
      simp only [Array.getElem?_modify, if_true, hh, Option.map_some]
      exact ⟨_, rfl⟩
    refine ⟨W.freeze ⟨g, cur.size, none⟩ 1, ?_, ?_, ?_, hsize⟩
    · simp [convert, run_underlying ht, run_underlying he, markStringish, hsh]
    · rw [hx]
      refine Kd.V_mk (by omega) ?_
      have hcell : ∀ (W' : World), (∃ fr, W'.heap[g]? = some (.cells cur e fr)) → ∀ a : Addr, a.block = g → W'.cell? a = W.cell? a := by
        rintro W' ⟨fr, hfr⟩ a rfl
        simp only [World.cell?, hfr, hh]
      have hC' : ∀ (W' : World), (∃ fr, W'.heap[g]? = some (.cells cur e fr)) → (Kd.int .u8).C W' (some ⟨g, 0, none⟩) xs.length xs := by
        intro W' hfr
        have hr := Kd.reads_of_C (enc := Value.int .u8) (d := (0 : Int)) (h1 := fun _ => rfl) hC
        refine Kd.C_of_reads (h1 := fun _ => rfl) (d := (0 : Int)) ?_
        refine ⟨hr.1, hr.2.1, fun hp => ?_⟩
        obtain ⟨ad, hAd, hc⟩ := hr.2.2 hp
        refine ⟨ad, hAd, fun j hj => ?_⟩
        rw [hcell W' hfr _ ?_]
        · exact hc j hj
        · injection hAd with hAd
          subst hAd
          simp [Addr.add]
          split <;> rfl
      refine fun W' hW' => hC' W' ?_
      obtain ⟨fr, hfr⟩ := hself
      exact ⟨fr, (hW' g (by simp [Value.ownBlock]) (Array.getElem?_eq_some_iff.1 hfr).1).trans hfr⟩
    · exact ⟨rfl, rfl, rfl, by rw [hsize]; exact Nat.le_refl _, fun k hk => hother k (by omega)⟩
end Go.Proofs.Ytkcdlilglgfkaaa.PA
