/- Frames, plainly: what is laid, what is read; both sides compute it. -/
import Derived.Test.YtonpiacnljcohaaDoorFrT
import Derived.Test.YtonpiacnljcohaaDoorFrO
import Derived.Test.YtonpiacnljcohaaDoorLebW
import Derived.Test.YtonpiacnljcohaaDoorPAx13
import Derived.Test.YtonpiacnljcohaaDoorPAx14
import Derived.Test.YtonpiacnljcohaaDoorPAx17
set_option linter.unusedVariables false
set_option linter.unusedSimpArgs false
namespace Go.Proofs.YtonpiacnljcohaaDoor.FrT
open Go Go.RowKit Go.Proofs.YtonpiacnljcohaaDoor.PA Go.Proofs.YtonpiacnljcohaaDoorW.PrintWords Go.Proofs.YtonpiacnljcohaaDoor.LebT Go.Proofs.YtonpiacnljcohaaDoor.LebP Go.Proofs.YtonpiacnljcohaaDoor.ColT
def le4 (n : Nat) : List Int := [((n % 256 : Nat) : Int), ((n / 256 % 256 : Nat) : Int), ((n / 65536 % 256 : Nat) : Int), ((n / 16777216 % 256 : Nat) : Int)]
theorem le4_len (n : Nat) : (le4 n).length = 4 := rfl
theorem le4_bytes (n : Nat) : ∀ x ∈ le4 n, isByte x := by
  intro x hx
  simp only [le4, List.mem_cons, List.not_mem_nil, or_false] at hx
  unfold isByte
  rcases hx with rfl | rfl | rfl | rfl <;> omega
theorem le4_int (n : Nat) : [((n : Nat) : Int) % 256, ((n : Nat) : Int) / 256 % 256, ((n : Nat) : Int) / 65536 % 256, ((n : Nat) : Int) / 16777216 % 256] = le4 n := by
  simp [le4]
theorem le4_inj {a b : Nat} (ha : a < 4294967296) (hb : b < 4294967296) (h : le4 a = le4 b) : a = b := by
  simp only [le4, List.cons.injEq, and_true] at h
  omega
def head (a : Int) (l : List Int) : List Int := a :: (putU l.length ++ l)
def sealed (a : Int) (l : List Int) : List Int := head a l ++ le4 (crcN (head a l))
theorem head_bytes {a : Int} {l : List Int} (ha : isByte a) (hl : ∀ x ∈ l, isByte x) : ∀ x ∈ head a l, isByte x := by
  intro x hx
  simp only [head, List.mem_cons, List.mem_append] at hx
  rcases hx with rfl | hx | hx
  · exact ha
  · exact putU_bytes _ x hx
  · exact hl x hx
theorem head_len (a : Int) {l : List Int} (h : l.length ≤ 1048576) : (head a l).length ≤ 1048587 := by
  have := putU_len64 (n := l.length) (by omega)
  simp only [head, List.length_cons, List.length_append]
  omega
theorem joined_l0 (ll : List (List Int)) (hs : ll.length ≤ 1000) : ∀ (d k i : Nat) (acc : List Int), i + d = ll.length → d < k → acc.length + ((ll.drop i).flatten).length < 140737488355328 → frame_joined.l0 k acc ll (ll.length : Int) (i : Int) = some (acc ++ (ll.drop i).flatten)
  | d, 0, i, _, _, h, _ => by omega
  | 0, k + 1, i, acc, hi, _, _ => by
    rw [frame_joined.l0, if_neg (by omega), List.drop_of_length_le (by omega)]
    simp
  | d + 1, k + 1, i, acc, hi, hk, hb => by
    have hlt : i < ll.length := by omega
    have hd : ll.drop i = ll[i] :: ll.drop (i + 1) := List.drop_eq_getElem_cons hlt
    have hr : rd_L1 ll (i : Int) = ll[i] := by simp [rd_L1, List.getD_eq_getElem?_getD, hlt]
    rw [hd, List.flatten_cons, List.length_append] at hb
    have ih := joined_l0 ll hs d k (i + 1) (acc ++ ll[i]) (by omega) (by omega) (by rw [List.length_append]; omega)
    rw [frame_joined.l0, if_pos (by omega), if_pos (by omega), if_pos (by omega), hr, if_pos (by omega), show wrap64 ((i : Int) + 1) = ((i + 1 : Nat) : Int) from w64a i 1 (by omega), ih, hd, List.flatten_cons, List.append_assoc]
theorem joined_f (ll : List (List Int)) {k : Nat} (hk : ll.length < k) (hs : ll.length ≤ 1000) (hb : ll.flatten.length < 140737488355328) : frame_joined.f k ll = some ll.flatten := by
  have := joined_l0 ll hs ll.length k 0 [] (by omega) hk (by simpa using hb)
  rw [List.drop_zero, List.nil_append] at this
  exact this
theorem sum_f (l : List Int) (hb : ∀ x ∈ l, isByte x) (hl : l.length ≤ 9223372036854775807) : frame_sum.f l = some (le4 (crcN l)) := by
  unfold frame_sum.f
  rw [crc_f l hb hl, ← le4_int]
  rfl
theorem u64_small {n : Nat} (h : n ≤ 1048576) : IntKind.u64.wrap ((n : Nat) : Int) = (n : Int) := u64_size (by omega)
def sealR (a : Int) (l : List Int) : List Int × Int := if a = 0 then ([], 2) else if (l.length : Int) > 1048576 then ([], 5) else (sealed a l, 0)
theorem seal_f (a : Int) (l : List Int) (ha : isByte a) (hl : ∀ x ∈ l, isByte x) {k : Nat} (hk : 20 ≤ k) : frame_Seal.f k a l = some (sealR a l) := by
  unfold frame_Seal.f sealR
  by_cases h0 : a = 0
  · rw [if_pos h0, if_pos h0]
  rw [if_neg h0, if_neg h0]
  by_cases h1 : (l.length : Int) > 1048576
  · rw [if_pos h1, if_pos h1]
  rw [if_neg h1, if_neg h1]
  have hlen : l.length ≤ 1048576 := by omega
  have hp := putU_len64 (n := l.length) (by omega)
  have hh := head_len a hlen
  rw [u64_small hlen, uint_f (by omega) (by omega) (by omega), Option.bind_some, Int.toNat_natCast]
  have e1 : [[a], putU l.length, l].flatten = head a l := by simp [head]
  rw [joined_f _ (by simp; omega) (by simp) (by rw [e1]; omega), Option.bind_some, e1, sum_f _ (head_bytes ha hl) (by omega), Option.bind_some]
  have e2 : [head a l, le4 (crcN (head a l))].flatten = sealed a l := by simp [sealed]
  rw [joined_f _ (by simp; omega) (by simp) (by rw [e2]; simp only [sealed, List.length_append, le4_len]; omega), Option.bind_some, e2]
theorem summed_f (l : List Int) (hb : ∀ x ∈ l, isByte x) (hl : l.length ≤ 140737488355000) {k : Nat} (hk : 10 * l.length < k) : stemmaref04_summed.f k l = some (l ++ le4 (crcN l)) := by
  unfold stemmaref04_summed.f
  rw [rcrc_f l hb (by omega) hk, Option.bind_some, le4_int]
  simp only [Option.bind_some]
  rw [if_pos (by rw [le4_len]; omega)]
theorem rseal_f (a : Int) (l : List Int) (ha : isByte a) (hl : ∀ x ∈ l, isByte x) {k : Nat} (hk : 11000000 ≤ k) : stemmaref04_Seal.f k a l = some (sealR a l) := by
  unfold stemmaref04_Seal.f sealR
  by_cases h0 : a = 0
  · rw [if_pos h0, if_pos h0]
  rw [if_neg h0, if_neg h0]
  by_cases h1 : (l.length : Int) > 1048576
  · rw [if_pos h1, if_pos h1]
  rw [if_neg h1, if_neg h1]
  have hlen : l.length ≤ 1048576 := by omega
  have hp := putU_len64 (n := l.length) (by omega)
  have hh := head_len a hlen
  simp only [Option.bind_some]
  rw [u64_small hlen, rUint_f (by omega) (by omega) (by omega), Option.bind_some, Int.toNat_natCast]
  rw [if_pos (by simp; omega)]
  rw [if_pos (by simp only [List.length_append, List.length_cons, List.length_nil]; omega)]
  have e1 : [a] ++ putU l.length ++ l = head a l := by simp [head]
  rw [e1, summed_f _ (head_bytes ha hl) (by omega) (by omega)]
  rfl
def opn (b : List Int) : Int × List Int × Int × Int :=
  if b.length = 0 then (0, [], 0, 22) else if rd b 0 = 0 then (0, [], 0, 4) else
  if (gU 0 0 (b.drop 1)).2.2 = 0 then
    if 1048576 < (gU 0 0 (b.drop 1)).1 then (0, [], 0, 5) else
    if (b.length : Int) < 1 + (gU 0 0 (b.drop 1)).2.1 + (gU 0 0 (b.drop 1)).1 + 4 then (0, [], 0, 3) else
    if b.take (1 + (gU 0 0 (b.drop 1)).2.1 + (gU 0 0 (b.drop 1)).1 + 4).toNat = b.take (1 + (gU 0 0 (b.drop 1)).2.1 + (gU 0 0 (b.drop 1)).1).toNat ++ le4 (crcN (b.take (1 + (gU 0 0 (b.drop 1)).2.1 + (gU 0 0 (b.drop 1)).1).toNat)) then
      (rd b 0, (b.take (1 + (gU 0 0 (b.drop 1)).2.1 + (gU 0 0 (b.drop 1)).1).toNat).drop (1 + (gU 0 0 (b.drop 1)).2.1).toNat, 1 + (gU 0 0 (b.drop 1)).2.1 + (gU 0 0 (b.drop 1)).1 + 4, 0)
    else (0, [], 0, 6)
  else (0, [], 0, (gU 0 0 (b.drop 1)).2.2)
theorem take_more (b : List Int) (m : Nat) : b.take (m + 4) = b.take m ++ (b.take (m + 4)).drop m := by
  conv => lhs; rw [← List.take_append_drop m (b.take (m + 4))]
  rw [List.take_take, Nat.min_eq_left (by omega)]
theorem strEq {a b : List Int} (ha : ∀ x ∈ a, isByte x) (hb : ∀ x ∈ b, isByte x) : ((strOfNums a).toList = (strOfNums b).toList) ↔ a = b := ⟨str_eq ha hb, fun h => by rw [h]⟩
theorem open_f (b : List Int) (hb : ∀ x ∈ b, isByte x) (hl : b.length ≤ 140737488351232) : frame_Open.f b = some (opn b) := by
  unfold frame_Open.f opn
  rw [if_pos hl]
  by_cases h0 : b.length = 0
  · rw [if_pos h0, if_pos h0]
  rw [if_neg h0, if_neg h0]
  by_cases h1 : rd b 0 = 0
  · rw [if_pos h1, if_pos h1]
  rw [if_neg h1, if_neg h1]
  have hbd : ∀ x ∈ b.drop 1, isByte x := fun x hx => hb x (List.mem_of_mem_drop hx)
  rw [getU_f (by omega) hbd, Option.bind_some]
  by_cases h2 : (gU 0 0 (b.drop 1)).2.2 = 0
  · obtain ⟨v, k, hg, hv, hk0, hkl, hk10, _, _⟩ := gU_rng hbd h2
    rw [hg]
    simp only [if_true]
    by_cases h3 : (1048576 : Int) < (v : Int)
    · rw [if_pos h3, if_pos h3]
    rw [if_neg h3, if_neg h3, if_pos (by omega)]
    by_cases h4 : (b.length : Int) < 1 + (k : Int) + (v : Int) + 4
    · rw [if_pos h4, if_pos (by omega)]
    rw [if_neg h4, if_neg (by omega)]
    have e1 : (1 + (k : Int) + (v : Int)).toNat = 1 + k + v := by omega
    have e2 : (1 + (k : Int) + (v : Int) + 4).toNat = 1 + k + v + 4 := by omega
    rw [e1, e2, sum_f _ (take_byte hb _) (by rw [List.length_take]; omega), Option.bind_some]
    have ht := take_more b (1 + k + v)
    have hs := strEq (le4_bytes (crcN (b.take (1 + k + v)))) (fun x hx => take_byte hb (1 + k + v + 4) x (List.mem_of_mem_drop hx) : ∀ x ∈ (b.take (1 + k + v + 4)).drop (1 + k + v), isByte x)
    by_cases h5 : b.take (1 + k + v + 4) = b.take (1 + k + v) ++ le4 (crcN (b.take (1 + k + v)))
    · rw [if_pos h5, if_pos]
      rw [hs]
      rw [ht] at h5
      exact (List.append_cancel_left h5).symm
    · rw [if_neg h5, if_neg]
      rw [hs]
      intro h6
      apply h5
      rw [h6]
      exact ht
  · rw [if_neg h2, if_neg h2]
end Go.Proofs.YtonpiacnljcohaaDoor.FrT
