/- The reference's Open; the closed case. -/
import Derived.Test.YtonpiacnljcohaaDoorFrS
import Derived.Test.YtonpiacnljcohaaDoorPAx19
set_option linter.unusedVariables false
set_option linter.unusedSimpArgs false
namespace Go.Proofs.YtonpiacnljcohaaDoor.FrT
open Go Go.RowKit Go.Proofs.YtonpiacnljcohaaDoor.PA Go.Proofs.YtonpiacnljcohaaDoorW.PrintWords Go.Proofs.YtonpiacnljcohaaDoor.LebT Go.Proofs.YtonpiacnljcohaaDoor.LebP Go.Proofs.YtonpiacnljcohaaDoor.ColT
theorem all_drop {b : List Int} (hb : ∀ x ∈ b, isByte x) (k : Nat) : ∀ x ∈ b.drop k, isByte x := fun x hx => hb x (List.mem_of_mem_drop hx)
theorem w64n (n : Nat) (h : n < 4611686018427387904) : wrap64 (n : Int) = (n : Int) := by unfold wrap64; omega
theorem ropen_f (b : List Int) (hb : ∀ x ∈ b, isByte x) (hl : b.length ≤ 140737488351232) {k : Nat} (hk : 11000000 ≤ k) : stemmaref04_Open.f k b = some (opn b) := by
  unfold stemmaref04_Open.f opn
  by_cases h0 : b.length = 0
  · rw [if_pos (by omega), if_pos h0]
  rw [if_neg (by omega), if_neg h0, if_pos (by omega)]
  by_cases h1 : rd b 0 = 0
  · rw [if_pos h1, if_pos h1]
  rw [if_neg h1, if_neg h1, if_pos (by omega)]
  have hbd : ∀ x ∈ b.drop 1, isByte x := all_drop hb 1
  rw [rgetU_f (by omega) hbd, Option.bind_some]
  by_cases h2 : (gU 0 0 (b.drop 1)).2.2 = 0
  · obtain ⟨v, j, hg, hv, hk0, hkl, hk10, _, _⟩ := gU_rng hbd h2
    rw [hg]
    simp only [if_true, gt_iff_lt]
    by_cases h3 : (1048576 : Int) < (v : Int)
    · rw [if_pos h3, if_pos h3]
    rw [if_neg h3, if_neg h3]
    rw [show wrap64 (1 + (j : Int)) = ((1 + j : Nat) : Int) from w64a 1 j (by omega), w64n v (by omega), show wrap64 (((1 + j : Nat) : Int) + (v : Int)) = ((1 + j + v : Nat) : Int) from w64a (1 + j) v (by omega), show wrap64 (((1 + j + v : Nat) : Int) + 4) = ((1 + j + v + 4 : Nat) : Int) from w64a (1 + j + v) 4 (by omega)]
    by_cases h4 : (b.length : Int) < 1 + (j : Int) + (v : Int) + 4
    · rw [if_pos (show (b.length : Int) < ((1 + j + v + 4 : Nat) : Int) by omega), if_pos h4]
    rw [if_neg (show ¬ (b.length : Int) < ((1 + j + v + 4 : Nat) : Int) by omega), if_neg h4]
    have e1 : (1 + (j : Int) + (v : Int)).toNat = 1 + j + v := by omega
    have e2 : (1 + (j : Int) + (v : Int) + 4).toNat = 1 + j + v + 4 := by omega
    have e3 : (1 + (j : Int)).toNat = 1 + j := by omega
    have l1 : (b.take (1 + j + v)).length = 1 + j + v := by rw [List.length_take]; omega
    simp only [Option.bind_some, List.nil_append, List.length_nil, Int.toNat_natCast, e1, e2, e3]
    rw [if_pos (by omega), if_pos (by omega), if_pos (by omega), summed_f _ (take_byte hb _) (by omega) (by omega), Option.bind_some, if_pos (by omega), if_pos (by omega)]
    have hs := strEq (a := b.take (1 + j + v) ++ le4 (crcN (b.take (1 + j + v)))) (b := b.take (1 + j + v + 4)) (by
      intro x hx
      rcases List.mem_append.1 hx with hx | hx
      · exact take_byte hb _ x hx
      · exact le4_bytes _ x hx) (take_byte hb _)
    by_cases h5 : b.take (1 + j + v + 4) = b.take (1 + j + v) ++ le4 (crcN (b.take (1 + j + v)))
    · rw [if_pos h5, if_pos (hs.2 h5.symm), if_pos (by omega), if_pos (by omega), if_pos (by rw [List.length_drop]; omega)]
      rw [show ((1 + j + v + 4 : Nat) : Int) = 1 + (j : Int) + (v : Int) + 4 by omega]
    · rw [if_neg h5, if_neg (fun h => h5 (hs.1 h).symm)]
  · rw [if_neg h2, if_neg h2]
theorem crc_h : crcN [1, 1, 97] = 3710768042 := by simp [crcN, b8, b4, bs]
theorem crc_a : crcN [97] = 3904355907 := by simp [crcN, b8, b4, bs]
theorem sealed_a : sealed 1 [97] = [1, 1, 97, 170, 211, 45, 221] := by
  unfold sealed head
  rw [show ([97] : List Int).length = 1 from rfl, putU_small (by omega)]
  have h := crc_h
  rw [show (1 : Int) :: ([((1 : Nat) : Int)] ++ [97]) = [1, 1, 97] from rfl, h]
  decide +kernel
theorem opn_a : opn [1, 1, 97, 170, 211, 45, 221] = (1, [97], 7, 0) := by
  have hg : gU 0 0 (([1, 1, 97, 170, 211, 45, 221] : List Int).drop 1) = (1, 1, 0) := by decide +kernel
  unfold opn
  rw [hg]
  rw [if_neg (by simp), if_neg (by decide), if_pos rfl, if_neg (by omega), if_neg (by simp)]
  rw [show ((1 : Int) + (1, 1, 0).2.1 + (1, 1, 0).1).toNat = 3 from rfl, show ((1 : Int) + (1, 1, 0).2.1 + (1, 1, 0).1 + 4).toNat = 7 from rfl, show ((1 : Int) + (1, 1, 0).2.1).toNat = 2 from rfl]
  rw [show ([1, 1, 97, 170, 211, 45, 221] : List Int).take 3 = [1, 1, 97] from rfl, crc_h]
  rfl
theorem byte97 : ∀ x ∈ ([97] : List Int), isByte x := by
  intro x hx
  simp at hx
  subst hx
  exact ⟨by omega, by omega⟩
theorem byteA : ∀ x ∈ ([1, 1, 97, 170, 211, 45, 221] : List Int), isByte x := by
  intro x hx
  simp at hx
  unfold isByte
  omega
theorem awake_f {k : Nat} (hk : 11000000 ≤ k) : stemmalaw04_awake.f k = some true := by
  unfold stemmalaw04_awake.f
  rw [seal_f 1 [97] ⟨by omega, by omega⟩ byte97 (by omega), Option.bind_some, sealR, if_neg (by omega), if_neg (by simp), sealed_a, open_f _ byteA (by simp), Option.bind_some, opn_a, crc_f _ byte97 (by simp), crc_a]
  simp only [Option.bind_some]
  have e1 : (([1, 1, 97, 170, 211, 45, 221] : List Int).length : Int) = 7 := rfl
  have e2 : (strOfNums [97]).toList = ([97] : List UInt8) := by decide +kernel
  have e3 : ((3904355907 : Nat) : Int) = 3904355907 := rfl
  simp only [e1, e2, e3, if_true]
theorem wf_bytes {l : List Int} (h : ∀ y ∈ l, (Lit.int .u8 y).wf = true) : ∀ y ∈ l, isByte y := fun y hy => wf_u8 (h y hy)
end Go.Proofs.YtonpiacnljcohaaDoor.FrT
