/- An array of bytes, or of arrays of bytes, as an argument, by value. -/
import Derived.Test.YtkcdlilglgfkaaaRgL
import Derived.Test.YtkcdlilglgfkaaaMine
set_option linter.unusedVariables false
namespace Go.Proofs.Ytkcdlilglgfkaaa.Sha
open Go Go.RowKit Go.Proofs.YtkcdlilglgfkaaaW.PrintWords Go.Proofs.Ytkcdlilglgfkaaa.Ar
def isB (x : Int) : Prop := 0 ≤ x ∧ x < 256
def vInt : Value → Int
  | .int _ x => x
  | _ => 0
theorem hash_of {P : Program} {w : World} {r : Reach} {base n m : Nat} {t e d : TypeId} {v : Value} (h : Value.okWide P w r base t v) (ht : P.underlying t = some (.array m d)) (hn : P.cellsOf t = n) (hc : P.cellTypes P.depth t = some (List.replicate n e)) (he : P.underlying e = some (.int .u8)) :
    ∃ l : List Int, v = .agg (ns .u8 l) ∧ l.length = n ∧ ∀ x ∈ l, isB x := by
  unfold Value.okWide at h
  rw [ht] at h
  obtain ⟨cs, rfl, hs, ts, hts, _, hall⟩ := h
  rw [hc] at hts
  obtain rfl := Option.some.inj hts
  have hv : ∀ (i : Nat) (v : Value), cs[i]? = some v → ∃ x : Int, v = Value.int .u8 x ∧ isB x := fun i v hi => by
    obtain ⟨u, hu, hok⟩ := hall i v hi
    have hue : u = e := by
      have := List.mem_of_getElem? hu
      exact List.eq_of_mem_replicate this
    subst hue
    unfold Cell.okWide at hok
    rw [he] at hok
    simp only [Cell.ok, he] at hok
    cases v <;> simp at hok
    rename_i k x
    obtain ⟨rfl, hb⟩ := hok
    refine ⟨x, rfl, ?_⟩
    simp only [IntKind.has, IntKind.min, IntKind.max, IntKind.signed, IntKind.bits] at hb
    simp at hb
    exact ⟨by omega, by omega⟩
  refine ⟨cs.toList.map vInt, ?_, by rw [List.length_map, Array.length_toList, hs, hn], ?_⟩
  · have : ns .u8 (cs.toList.map vInt) = cs := by
      apply Array.ext'
      rw [ns, List.toList_toArray, List.map_map]
      conv => rhs; rw [← List.map_id cs.toList]
      apply List.map_congr_left
      intro v hmem
      obtain ⟨i, hi⟩ := List.getElem?_of_mem hmem
      obtain ⟨x, rfl, _⟩ := hv i v (by rw [← Array.getElem?_toList]; exact hi)
      rfl
    rw [this]
  · intro x hx
    obtain ⟨v, hmem, rfl⟩ := List.mem_map.1 hx
    obtain ⟨i, hi⟩ := List.getElem?_of_mem hmem
    obtain ⟨x, rfl, hb⟩ := hv i v (by rw [← Array.getElem?_toList]; exact hi)
    exact hb
end Go.Proofs.Ytkcdlilglgfkaaa.Sha
