/- Manifests, plainly: what is laid, what is read. -/
import Derived.Test.YtonpiacnljcohaaDoorFrS
import Derived.Test.YtonpiacnljcohaaDoorRdr
import Derived.Test.YtonpiacnljcohaaDoorSlC
import Derived.Test.YtonpiacnljcohaaDoorPAx25
set_option linter.unusedVariables false
set_option linter.unusedSimpArgs false
namespace Go.Proofs.YtonpiacnljcohaaDoor.MaT
open Go Go.RowKit Go.Proofs.YtonpiacnljcohaaDoor.PA Go.Proofs.YtonpiacnljcohaaDoorW.PrintWords Go.Proofs.YtonpiacnljcohaaDoor.LebT Go.Proofs.YtonpiacnljcohaaDoor.LebP Go.Proofs.YtonpiacnljcohaaDoor.ColT Go.Proofs.YtonpiacnljcohaaDoor.FrT Go.Proofs.YtonpiacnljcohaaDoor.Rdr
def body (a b : Int) (l : List Int) : List Int := putU a.toNat ++ (putU b.toNat ++ l)
def mput (a b : Int) (l : List Int) : List Int × Int :=
  if a < 1 ∨ a > 999999 ∨ b < 0 ∨ b > 16777216 then ([], 2) else if (l.length : Int) > 524288 then ([], 5) else (sealed 3 (body a b l), 0)
theorem body_bytes {a b : Int} {l : List Int} (hl : ∀ x ∈ l, isByte x) : ∀ x ∈ body a b l, isByte x := by
  intro x hx
  simp only [body, List.mem_append] at hx
  rcases hx with hx | hx | hx
  · exact putU_bytes _ x hx
  · exact putU_bytes _ x hx
  · exact hl x hx
theorem body_len {a b : Int} {l : List Int} (ha : a.toNat < 18446744073709551616) (hb : b.toNat < 18446744073709551616) (hl : l.length ≤ 524288) : (body a b l).length ≤ 524308 := by
  have h1 := putU_len64 ha
  have h2 := putU_len64 hb
  simp only [body, List.length_append]
  omega
theorem wrap_u64 {a : Int} (h0 : 0 ≤ a) (h1 : a < 18446744073709551616) : IntKind.u64.wrap a = a := by rw [IntKind.wrap_u64]; omega
theorem put_j0 (a b : Int) (l : List Int) (hl : ∀ x ∈ l, isByte x) (k : Nat) (hk : 30 ≤ k) (x : Bool) (h : x = false → 1 ≤ a ∧ a ≤ 999999 ∧ 0 ≤ b ∧ b ≤ 16777216) :
    manifest_Put.j0 k x a b l = some (if x = true then ([], 2) else if (l.length : Int) > 524288 then ([], 5) else (sealed 3 (body a b l), 0)) := by
  obtain ⟨k, rfl⟩ : ∃ k', k = k' + 1 := ⟨k - 1, by omega⟩
  rw [manifest_Put.j0]
  cases x with
  | true => rfl
  | false =>
    obtain ⟨h1, h2, h3, h4⟩ := h rfl
    clear h
    simp only [Bool.false_eq_true, if_false]
    by_cases hl2 : (l.length : Int) > 524288
    · rw [if_pos hl2, if_pos hl2]
    rw [if_neg hl2, if_neg hl2, wrap_u64 (by omega) (by omega), wrap_u64 (by omega) (by omega), uint_f (by omega) (by omega) (by omega), Option.bind_some, uint_f (by omega) (by omega) (by omega), Option.bind_some]
    have e : [putU a.toNat, putU b.toNat, l].flatten = body a b l := by simp [body]
    have hlen := body_len (a := a) (b := b) (l := l) (by omega) (by omega) (by omega)
    have hp1 := putU_len64 (n := a.toNat) (by omega)
    have hp2 := putU_len64 (n := b.toNat) (by omega)
    have hc : slices_Concat_byte_byte.f [putU a.toNat, putU b.toNat, l] = some (body a b l) := by
      unfold slices_Concat_byte_byte.f
      rw [← e]
      first
        | rfl
        | (rw [if_pos]; simp; omega)
    rw [hc, Option.bind_some, seal_f 3 _ ⟨by omega, by omega⟩ (body_bytes hl) (by omega), Option.bind_some, sealR, if_neg (by omega), if_neg (by omega)]
theorem put_f (a b : Int) (l : List Int) (hl : ∀ x ∈ l, isByte x) {k : Nat} (hk : 30 ≤ k) : manifest_Put.f k a b l = some (mput a b l) := by
  unfold manifest_Put.f mput
  by_cases h1 : a < 1
  · rw [if_pos h1, put_j0 a b l hl k hk true (by simp), if_pos rfl, if_pos (Or.inl h1)]
  rw [if_neg h1]
  by_cases h2 : a > 999999
  · rw [if_pos h2, put_j0 a b l hl k hk true (by simp), if_pos rfl, if_pos (Or.inr (Or.inl h2))]
  rw [if_neg h2]
  by_cases h3 : b < 0
  · rw [if_pos h3, put_j0 a b l hl k hk true (by simp), if_pos rfl, if_pos (Or.inr (Or.inr (Or.inl h3)))]
  rw [if_neg h3]
  rw [put_j0 a b l hl k hk _ (fun h => by have := of_decide_eq_false h; omega)]
  by_cases h4 : b > 16777216
  · rw [if_pos (decide_eq_true h4), if_pos (Or.inr (Or.inr (Or.inr h4)))]
  · rw [if_neg (by simp; omega), if_neg (show ¬ (a < 1 ∨ a > 999999 ∨ b < 0 ∨ b > 16777216) by omega)]
/-- A manifest that is read. -/
def mget (b : List Int) : Int × Int × List Int × Int :=
  if (opn b).2.2.2 = 0 ∧ (opn b).1 = 3 then
    if (rdU 16777216 (rdU 999999 (opn b).2.1 0).2.1 (rdU 999999 (opn b).2.1 0).2.2).2.2 = 0 ∧ (mput (rdU 999999 (opn b).2.1 0).1 (rdU 16777216 (rdU 999999 (opn b).2.1 0).2.1 (rdU 999999 (opn b).2.1 0).2.2).1 (rdU 16777216 (rdU 999999 (opn b).2.1 0).2.1 (rdU 999999 (opn b).2.1 0).2.2).2.1).2 = 0
        ∧ (mput (rdU 999999 (opn b).2.1 0).1 (rdU 16777216 (rdU 999999 (opn b).2.1 0).2.1 (rdU 999999 (opn b).2.1 0).2.2).1 (rdU 16777216 (rdU 999999 (opn b).2.1 0).2.1 (rdU 999999 (opn b).2.1 0).2.2).2.1).1 = b then
      ((rdU 999999 (opn b).2.1 0).1, (rdU 16777216 (rdU 999999 (opn b).2.1 0).2.1 (rdU 999999 (opn b).2.1 0).2.2).1, (rdU 16777216 (rdU 999999 (opn b).2.1 0).2.1 (rdU 999999 (opn b).2.1 0).2.2).2.1, 0)
    else (0, 0, [], 4)
  else (0, 0, [], 4)
theorem rdU_suffix (most : Int) (l : List Int) (err : Int) : ∃ j, (rdU most l err).2.1 = l.drop j := by
  unfold rdU
  split
  · exact ⟨_, rfl⟩
  · exact ⟨0, rfl⟩
theorem rdU_rng (most : Int) (l : List Int) (hl : ∀ x ∈ l, isByte x) (err : Int) (hm : 0 ≤ most) : 0 ≤ (rdU most l err).1 ∧ (rdU most l err).1 ≤ most := by
  unfold rdU
  split
  · rename_i h
    obtain ⟨v, j, hj, _⟩ := gU_rng hl h.2.1
    exact ⟨by rw [hj]; exact Int.natCast_nonneg v, h.2.2⟩
  · exact ⟨Int.le_refl _, hm⟩
theorem opn_bytes {b : List Int} (hb : ∀ x ∈ b, isByte x) : ∀ x ∈ (opn b).2.1, isByte x := by
  unfold opn
  split
  · intro x hx; cases hx
  split
  · intro x hx; cases hx
  split
  · split
    · intro x hx; cases hx
    split
    · intro x hx; cases hx
    split
    · exact fun x hx => hb x (List.mem_of_mem_take (List.mem_of_mem_drop hx))
    · intro x hx; cases hx
  · intro x hx; cases hx
theorem opn_len2 (b : List Int) : (opn b).2.1.length ≤ b.length := by
  unfold opn
  split
  · simp
  split
  · simp
  split
  · split
    · simp
    split
    · simp
    split
    · simp only [List.length_drop, List.length_take]; omega
    · simp
  · simp
theorem mput_bytes (a b : Int) {l : List Int} (hl : ∀ x ∈ l, isByte x) : ∀ x ∈ (mput a b l).1, isByte x := by
  unfold mput
  split
  · intro x hx; cases hx
  split
  · intro x hx; cases hx
  · intro x hx
    rcases List.mem_append.1 hx with hx | hx
    · exact head_bytes ⟨by omega, by omega⟩ (body_bytes hl) x hx
    · exact le4_bytes _ x hx
end Go.Proofs.YtonpiacnljcohaaDoor.MaT
