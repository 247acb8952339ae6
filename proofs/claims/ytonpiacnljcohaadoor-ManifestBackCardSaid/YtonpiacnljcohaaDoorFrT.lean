/- The sum by bits, in natural numbers; both sides compute it. -/
import Derived.Test.YtonpiacnljcohaaDoorFrC
import Derived.Test.YtonpiacnljcohaaDoorLebV
import Derived.Test.YtonpiacnljcohaaDoorPAx16
set_option linter.unusedVariables false
set_option linter.unusedSimpArgs false
namespace Go.Proofs.YtonpiacnljcohaaDoor.FrT
open Go Go.RowKit Go.Proofs.YtonpiacnljcohaaDoor.PA Go.Proofs.YtonpiacnljcohaaDoorW.PrintWords Go.Proofs.YtonpiacnljcohaaDoor.LebT Go.Proofs.YtonpiacnljcohaaDoor.LebP
def bs (n : Nat) : Nat := if n % 2 = 1 then (n / 2) ^^^ 3988292384 else n / 2
def b4 (n : Nat) : Nat := bs (bs (bs (bs n)))
def b8 (n : Nat) : Nat := b4 (b4 n)
def crcN (l : List Int) : Nat := 4294967295 ^^^ l.foldl (fun s x => b8 (s ^^^ x.toNat)) 4294967295
theorem xor_half (a b : Nat) : (a ^^^ b) / 2 = a / 2 ^^^ b / 2 := by
  simpa [Nat.shiftRight_eq_div_pow] using Nat.shiftRight_xor_distrib (a := a) (b := b) (i := 1)
theorem bs_xor (a b : Nat) : bs (a ^^^ b) = bs a ^^^ bs b := by
  unfold bs
  have h := Nat.xor_mod_two_eq_one (a := a) (b := b)
  rw [xor_half]
  by_cases ha : a % 2 = 1 <;> by_cases hb : b % 2 = 1
  · rw [if_neg (by simp [h, ha, hb]), if_pos ha, if_pos hb]
    rw [Nat.xor_assoc (a / 2), Nat.xor_comm 3988292384, Nat.xor_assoc, Nat.xor_self, Nat.xor_zero]
  · rw [if_pos (by simp [h, ha, hb]), if_pos ha, if_neg hb, Nat.xor_assoc, Nat.xor_assoc, Nat.xor_comm (b / 2)]
  · rw [if_pos (by simp [h, ha, hb]), if_neg ha, if_pos hb, Nat.xor_assoc]
  · rw [if_neg (by simp [h, ha, hb]), if_neg ha, if_neg hb]
theorem bs_dbl (m : Nat) : bs (2 * m) = m := by unfold bs; rw [if_neg (by omega)]; omega
theorem split16 (n : Nat) : n = (16 * (n / 16)) ^^^ (n % 16) := by
  apply Nat.eq_of_testBit_eq
  intro j
  have h1 := Nat.testBit_two_pow_mul_add (i := 4) (n / 16) (b := n % 16) (by omega) j
  have h2 := Nat.testBit_two_pow_mul (i := 4) (a := n / 16) (j := j)
  rw [Nat.testBit_xor, show 16 * (n / 16) = 2 ^ 4 * (n / 16) from rfl, h2]
  rw [show 2 ^ 4 * (n / 16) + n % 16 = n by omega] at h1
  rw [h1]
  by_cases hj : j < 4
  · rw [if_pos hj]; simp [show ¬ (4 ≤ j) by omega]
  · rw [if_neg hj]
    have : (n % 16).testBit j = false := Nat.testBit_lt_two_pow (Nat.lt_of_lt_of_le (by omega : n % 16 < 2 ^ 4) (Nat.pow_le_pow_right (by omega) (by omega)))
    rw [this]; simp [show 4 ≤ j by omega]
theorem b4_split (n : Nat) : b4 n = n / 16 ^^^ b4 (n % 16) := by
  conv => lhs; rw [split16 n]
  unfold b4
  rw [bs_xor, bs_xor, bs_xor, bs_xor]
  rw [show 16 * (n / 16) = 2 * (2 * (2 * (2 * (n / 16)))) by omega, bs_dbl, bs_dbl, bs_dbl, bs_dbl]
theorem xor_lt {a b : Nat} (ha : a < 4294967296) (hb : b < 4294967296) : a ^^^ b < 4294967296 := Nat.xor_lt_two_pow (n := 32) ha hb
theorem bs_lt {n : Nat} (h : n < 4294967296) : bs n < 4294967296 := by
  unfold bs; split
  · exact xor_lt (by omega) (by omega)
  · omega
theorem b4_lt {n : Nat} (h : n < 4294967296) : b4 n < 4294967296 := bs_lt (bs_lt (bs_lt (bs_lt h)))
theorem b8_lt {n : Nat} (h : n < 4294967296) : b8 n < 4294967296 := b4_lt (b4_lt h)
theorem qtab_eq : ∀ j : Fin 16, PA.qtab.getD j.val 0 = ((b4 j.val : Nat) : Int) := by decide +kernel
theorem xr_nat {a b : Nat} (ha : a < 4294967296) (hb : b < 4294967296) : Go.bits .xor .u32 (a : Int) (b : Int) = ((a ^^^ b : Nat) : Int) := u32_xor_nat a b ha hb
theorem qs_nat {n : Nat} (h : n < 4294967296) : Fr.qs (n : Int) = ((b4 n : Nat) : Int) := by
  unfold Fr.qs Fr.xr
  rw [Fr.an_range (n : Int) (by omega) (by omega)]
  have h16 : n % 16 < 16 := by omega
  rw [show ((n : Int) % 16).toNat = n % 16 by omega, qtab_eq ⟨n % 16, h16⟩, show (n : Int) / 16 = ((n / 16 : Nat) : Int) by omega, xr_nat (by omega) (b4_lt (by omega)), b4_split n]
theorem stp_nat {s : Nat} {x : Int} (hs : s < 4294967296) (hx : isByte x) : Fr.stp (s : Int) x = ((b8 (s ^^^ x.toNat) : Nat) : Int) := by
  obtain ⟨h0, h1⟩ := hx
  unfold Fr.stp Fr.xr
  rw [show x % 4294967296 = ((x.toNat : Nat) : Int) by omega, xr_nat hs (by omega), qs_nat (xor_lt hs (by omega)), qs_nat (b4_lt (xor_lt hs (by omega)))]
  rfl
def fold (s : Nat) (l : List Int) : Nat := l.foldl (fun s x => b8 (s ^^^ x.toNat)) s
theorem fold_lt (l : List Int) : ∀ (s : Nat), s < 4294967296 → (∀ x ∈ l, isByte x) → fold s l < 4294967296 := by
  induction l with
  | nil => intro s hs _; exact hs
  | cons x r ih =>
    intro s hs hb
    have hx := hb x (by simp)
    exact ih _ (b8_lt (xor_lt hs (by have := hx.2; have := hx.1; omega))) (fun y hy => hb y (by simp [hy]))
theorem fold_nat (l : List Int) : ∀ (s : Nat), s < 4294967296 → (∀ x ∈ l, isByte x) → l.foldl Fr.stp (s : Int) = ((fold s l : Nat) : Int) := by
  induction l with
  | nil => intro s hs _; rfl
  | cons x r ih =>
    intro s hs hb
    have hx := hb x (by simp)
    rw [List.foldl_cons, stp_nat hs hx, ih _ (b8_lt (xor_lt hs (by have := hx.2; have := hx.1; omega))) (fun y hy => hb y (by simp [hy]))]
    rfl
theorem crcN_lt (l : List Int) (hb : ∀ x ∈ l, isByte x) : crcN l < 4294967296 := xor_lt (by omega) (fold_lt l _ (by omega) hb)
theorem crc_nat (l : List Int) (hb : ∀ x ∈ l, isByte x) : Fr.crc l = ((crcN l : Nat) : Int) := by
  unfold Fr.crc
  have h := fold_nat l 4294967295 (by omega) hb
  rw [show ((4294967295 : Nat) : Int) = 4294967295 from rfl] at h
  rw [h]
  have := xr_nat (a := 4294967295) (b := fold 4294967295 l) (by omega) (fold_lt l _ (by omega) hb)
  exact this
theorem crc_f (l : List Int) (hb : ∀ x ∈ l, isByte x) (hl : l.length ≤ 9223372036854775807) : frame_Crc.f l = some ((crcN l : Nat) : Int) := by
  unfold frame_Crc.f
  rw [if_pos hl, crc_nat l hb]
def bsn : Nat → Nat → Nat
  | 0, s => s
  | d + 1, s => bsn d (bs s)
theorem ref_l1 (l : List Int) (i : Int) : ∀ (d k : Nat) (s : Nat), d ≤ 8 → d < k → s < 4294967296 → stemmaref04_Crc.l1 k l (s : Int) i ((8 - d : Nat) : Int) = stemmaref04_Crc.l0 (k - d - 1) l ((bsn d s : Nat) : Int) (wrap64 (i + 1))
  | d, 0, s, _, h, _ => by omega
  | 0, k + 1, s, _, _, _ => by
    rw [stemmaref04_Crc.l1, if_neg (by omega)]
    rfl
  | d + 1, k + 1, s, h8, hk, hs => by
    have ih := ref_l1 l i d k (bs s) (by omega) (by omega) (bs_lt hs)
    rw [stemmaref04_Crc.l1, if_pos (by omega)]
    have e1 : wrap64 (((8 - (d + 1) : Nat) : Int) + 1) = ((8 - d : Nat) : Int) := by unfold wrap64; omega
    rw [e1, Int.tmod_eq_emod_of_nonneg (by omega), Int.tdiv_eq_ediv_of_nonneg (by omega)]
    have e2 : k + 1 - (d + 1) - 1 = k - d - 1 := by omega
    rw [e2, bsn, ← ih]
    by_cases ho : s % 2 = 1
    · rw [if_pos (by omega), show (s : Int) / 2 % 4294967296 = ((s / 2 : Nat) : Int) by omega]
      have := xr_nat (a := s / 2) (b := 3988292384) (by omega) (by omega)
      rw [show ((3988292384 : Nat) : Int) = 3988292384 from rfl] at this
      rw [this, bs, if_pos ho]
    · rw [if_neg (by omega), show (s : Int) / 2 % 4294967296 = ((s / 2 : Nat) : Int) by omega, bs, if_neg ho]
theorem ref_l0 (l : List Int) (hb : ∀ x ∈ l, isByte x) (hl : l.length ≤ 140737488355328) : ∀ (d k i : Nat) (s : Nat), i + d = l.length → 10 * d < k → s < 4294967296 → stemmaref04_Crc.l0 k l (s : Int) (i : Int) = some ((4294967295 ^^^ fold s (l.drop i) : Nat) : Int)
  | d, 0, i, s, _, h, _ => by omega
  | 0, k + 1, i, s, hi, _, hs => by
    rw [stemmaref04_Crc.l0, if_neg (by omega), List.drop_of_length_le (by omega)]
    exact congrArg some (xr_nat (a := 4294967295) (b := s) (by omega) hs)
  | d + 1, k + 1, i, s, hi, hk, hs => by
    have hx := hb _ (rd_mem l i (by omega))
    obtain ⟨x, hxx⟩ : ∃ x, rd l (i : Int) = x := ⟨_, rfl⟩
    have hd := rd_drop l i (by omega)
    rw [hxx] at hx hd
    obtain ⟨h0, h1⟩ := hx
    have hs1 : s ^^^ x.toNat < 4294967296 := xor_lt hs (by omega)
    have h1' := ref_l1 l (i : Int) 8 k (s ^^^ x.toNat) (by omega) (by omega) hs1
    rw [stemmaref04_Crc.l0, if_pos (by omega), if_pos (by omega), hxx, show x % 4294967296 = ((x.toNat : Nat) : Int) by omega, xr_nat hs (by omega)]
    rw [show ((8 - 8 : Nat) : Int) = 0 from rfl] at h1'
    rw [h1', show wrap64 ((i : Int) + 1) = ((i + 1 : Nat) : Int) by unfold wrap64; omega]
    have ih := ref_l0 l hb hl d (k - 8 - 1) (i + 1) (bsn 8 (s ^^^ x.toNat)) (by omega) (by omega) (b8_lt hs1)
    rw [ih, hd]
    rfl
theorem rcrc_f (l : List Int) (hb : ∀ x ∈ l, isByte x) (hl : l.length ≤ 140737488355328) {k : Nat} (hk : 10 * l.length < k) : stemmaref04_Crc.f k l = some ((crcN l : Nat) : Int) :=
  ref_l0 l hb hl l.length k 0 4294967295 (by omega) hk (by omega)
end Go.Proofs.YtonpiacnljcohaaDoor.FrT
