/- frame.Crc: the sum that it computes. -/
import Derived.Test.YtonpiacnljcohaaDoorPAx0
import Derived.LoopTactic
import Derived.Lib.Hide
import Derived.Laws.Bits64
set_option linter.unusedVariables false
set_option linter.unusedSimpArgs false
namespace Go.Proofs.YtonpiacnljcohaaDoor.Fr
open Go Go.RowKit Go.Proofs.YtonpiacnljcohaaDoorW.PrintWords
def xr (a b : Int) : Int := Go.bits .xor .u32 a b
def an (a b : Int) : Int := Go.bits .and .u32 a b
def qs (s : Int) : Int := xr (s / 16) (PA.qtab.getD (an s 15).toNat 0)
def stp (s x : Int) : Int := qs (qs (xr s (x % 4294967296)))
def crc (l : List Int) : Int := xr 4294967295 (l.foldl stp 4294967295)
theorem bits_range (op : BinOp) (a b : Int) : 0 ≤ Go.bits op .u32 a b ∧ Go.bits op .u32 a b < 4294967296 := by
  unfold Go.bits
  cases op <;> simp only [IntKind.wrap_u32] <;> omega
theorem xr_range (a b : Int) : 0 ≤ xr a b ∧ xr a b < 4294967296 := bits_range _ _ _
theorem an_range (s : Int) (h0 : 0 ≤ s) (h1 : s < 4294967296) : an s 15 = s % 16 := by
  have := bits_mask .u32 32 (by decide) (fun n h0 h1 => by rw [IntKind.wrap_u32]; omega) 4 (by decide) s h0 (by omega)
  simpa [an] using this

theorem take_snoc' (l : List Int) (k : Nat) (h : k < l.length) : l.take (k + 1) = l.take k ++ [rd l (k : Int)] := by
  rw [List.take_succ_eq_append_getElem h]
  simp [rd, List.getD_eq_getElem?_getD, h]
theorem Crc_same (l0 : List Int) (A0 : Option Addr) (c0 : Nat) (w : World) (hG : PA.Gl w) (hr0 : Kd.C (Kd.int .u8) w A0 l0.length l0) (hc0 : l0.length ≤ c0) (hl : l0.length ≤ 9223372036854775807) :
    Calls Tryd.prog 15 #[.slice A0 l0.length c0] w fun e w' => e = .returned (.int .u32 (crc l0)) ∧ w = w' := by
  go_enter Tryd.func15, Tryd.ntmps15
  go_wp2
  go_loop [3, 8] (fun s i => ∃ k : Nat, k ≤ l0.length ∧ i = .int .i64 k ∧ s = .int .u32 ((l0.take k).foldl stp 4294967295)) (fun _ i => l0.length - (intOf i).toNat)
  case atStart => exact ⟨0, Nat.zero_le _, rfl, rfl⟩
  case round =>
    obtain ⟨k, hk, rfl, rfl⟩ := hrel
    by_cases hlt : k < l0.length
    · obtain ⟨ad, rfl, hx⟩ := Kd.at_int hr0 (k : Int) (by omega) (by omega)
      obtain ⟨S, hS⟩ : ∃ S, (l0.take k).foldl stp 4294967295 = S := ⟨_, rfl⟩
      obtain ⟨x, hxx⟩ : ∃ x, rd l0 (k : Int) = x := ⟨_, rfl⟩
      have hfold : (l0.take (k + 1)).foldl stp 4294967295 = stp S x := by rw [take_snoc' l0 k hlt, List.foldl_append, hS, hxx]; rfl
      rw [hS]
      rw [hxx, Int.toNat_natCast] at hx
      have HF := Lib.hid hfold
      clear hfold hxx hS
      obtain ⟨S1, hS1⟩ : ∃ S1, Go.bits .xor .u32 S (x % 4294967296) = S1 := ⟨_, rfl⟩
      have r1 : 0 ≤ S1 ∧ S1 < 4294967296 := by rw [← hS1]; exact bits_range _ _ _
      have e1 : Go.bits .and .u32 S1 15 = S1 % 16 := an_range S1 r1.1 r1.2
      obtain ⟨I1, hI1⟩ : ∃ I1, S1 % 16 = I1 := ⟨_, rfl⟩
      rw [hI1] at e1
      have g1 := hG.q I1.toNat (by omega)
      obtain ⟨T1, hT1⟩ : ∃ T1, PA.qtab.getD I1.toNat 0 = T1 := ⟨_, rfl⟩
      rw [hT1] at g1
      obtain ⟨S2, hS2⟩ : ∃ S2, Go.bits .xor .u32 (S1 / 16) T1 = S2 := ⟨_, rfl⟩
      have r2 : 0 ≤ S2 ∧ S2 < 4294967296 := by rw [← hS2]; exact bits_range _ _ _
      have e2 : Go.bits .and .u32 S2 15 = S2 % 16 := an_range S2 r2.1 r2.2
      obtain ⟨I2, hI2⟩ : ∃ I2, S2 % 16 = I2 := ⟨_, rfl⟩
      rw [hI2] at e2
      have g2 := hG.q I2.toNat (by omega)
      obtain ⟨T2, hT2⟩ : ∃ T2, PA.qtab.getD I2.toNat 0 = T2 := ⟨_, rfl⟩
      rw [hT2] at g2
      have i1 : 0 ≤ I1 ∧ I1 < 16 := by omega
      have i2 : 0 ≤ I2 ∧ I2 < 16 := by omega
      have HD := Lib.hid (And.intro hI1 (And.intro hT1 (And.intro hI2 hT2)))
      clear hI1 hT1 hI2 hT2
      obtain ⟨i1a, i1b⟩ := i1
      obtain ⟨i2a, i2b⟩ := i2
      obtain ⟨r1a, r1b⟩ := r1
      obtain ⟨r2a, r2b⟩ := r2
      clear hr0 hG
      go_wp2
      go_round
      case rel =>
        refine ⟨k + 1, by omega, by go_num, ?_⟩
        obtain ⟨hI1, hT1, hI2, hT2⟩ := HD.out
        rw [HF.out]
        congr 1
        simp only [stp, qs, xr, an, hS1, e1, hT1, hS2, e2, hT2]
      case measure => simp [intOf]; omega
    · go_wp2
      go_ret
      exact ⟨by rw [List.take_of_length_le (by omega)]; rfl, rfl⟩
end Go.Proofs.YtonpiacnljcohaaDoor.Fr
namespace Go.Proofs.YtonpiacnljcohaaDoor.PA
open Go.RowKit Go.Proofs.YtonpiacnljcohaaDoorW.PrintWords
def frame_Crc.f (l : List Int) : Option Int := if l.length ≤ 9223372036854775807 then some (Fr.crc l) else none
theorem frame_Crc.calls (A0 : Option Addr) (c0 : Nat) (l0 : List Int) (r : Int) (w : World) (hr0 : Kd.C (Kd.int .u8) w A0 l0.length l0) (hc0 : l0.length ≤ c0) (hG : Gl w) (h : frame_Crc.f l0 = some r) :
    Calls Tryd.prog 15 #[.slice A0 l0.length c0] w fun e w' => e = .returned (.int .u32 r) ∧ Drawn0 w w' := by
  unfold frame_Crc.f at h
  split at h
  · rename_i hc
    obtain rfl := Option.some.inj h
    exact (Fr.Crc_same l0 A0 c0 w hG hr0 hc0 hc).mono fun e w' ⟨he, hw⟩ => ⟨he, hw ▸ Drawn0.refl w⟩
  · cases h
end Go.Proofs.YtonpiacnljcohaaDoor.PA
