/- RgaAny: what is left beside the walk: the bytes' ranges. -/
import Derived.Test.YtkcdlilglgfkaaaPAx4
set_option linter.unusedVariables false
namespace Go.Proofs.Ytkcdlilglgfkaaa.Pure
open Go Go.Proofs.Ytkcdlilglgfkaaa.PA
theorem byte_of {x : Int} (h : (Lit.int .u8 x).wf = true) : 0 ≤ x ∧ x < 256 := by
  simp only [Lit.wf, IntKind.min, IntKind.max, IntKind.signed, IntKind.bits, Bool.and_eq_true] at h
  simp at h
  exact ⟨by omega, by omega⟩
theorem puts_ok {a0 : List S46} (q0 : a0.length ≤ maxLen ∧ ∀ y33 ∈ a0, ((Lit.int .u8 y33.f0).wf = true) ∧ ((Lit.int .u8 y33.f1).wf = true) ∧ ((Lit.int .u8 y33.f2).wf = true) ∧ ((Lit.int .u8 y33.f3).wf = true) ∧ (True) ∧ (True) ∧ ((Lit.int .i64 y33.f6).wf = true) ∧ (Lit.int .i64 y33.f7).wf = true) : ∀ x ∈ a0, Rg.PutOk x := fun y hy => by
  obtain ⟨h0, h1, h2, h3, _, _, h6, h7⟩ := q0.2 y hy
  exact ⟨byte_of h0, byte_of h1, byte_of h2, byte_of h3, h6, h7⟩
theorem RgaAny (a0 : List S46) (a1 : List Int) (q0 : a0.length ≤ maxLen ∧ ∀ y33 ∈ a0, ((Lit.int .u8 y33.f0).wf = true) ∧ ((Lit.int .u8 y33.f1).wf = true) ∧ ((Lit.int .u8 y33.f2).wf = true) ∧ ((Lit.int .u8 y33.f3).wf = true) ∧ (True) ∧ (True) ∧ ((Lit.int .i64 y33.f6).wf = true) ∧ (Lit.int .i64 y33.f7).wf = true) (q1 : a1.length ≤ maxLen ∧ ∀ y34 ∈ a1, (Lit.int .u8 y34).wf = true) (b1 : a1.length * 1 ≤ 140737488351232) : PA.stemmalaw11_RgaAny.f a0 a1 = some true := by
  unfold PA.stemmalaw11_RgaAny.f
  exact if_pos ⟨puts_ok q0, fun x hx => byte_of (q1.2 x hx)⟩
end Go.Proofs.Ytkcdlilglgfkaaa.Pure
