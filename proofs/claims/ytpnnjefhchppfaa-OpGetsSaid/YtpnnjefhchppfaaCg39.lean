/- Own texts of this claim. -/
import Derived.Lib.Bytes
import Derived.Test.YtpnnjefhchppfaaCg30
import Derived.Test.YtpnnjefhchppfaaCg31
import Derived.Test.YtpnnjefhchppfaaCg34
import Derived.Test.YtpnnjefhchppfaaCg37
set_option linter.unusedVariables false
set_option linter.unusedSimpArgs false
namespace Go.Proofs.Ytpnnjefhchppfaa.ColT
open Go Go.RowKit Go.Proofs.Ytpnnjefhchppfaa.PA Go.Proofs.YtpnnjefhchppfaaW.PrintWords Go.Proofs.YtpnnjefhchppfaaW.PrintLast Go.Proofs.YtpnnjefhchppfaaW.PrintMore Go.Proofs.Ytpnnjefhchppfaa.LebT Go.Proofs.Ytpnnjefhchppfaa.LebP
def grp (i : Nat) : List Int → Int × Int
  | [] => if i < 10 then (0, 3) else (0, 4)
  | x :: r => if i < 10 then (if x < 128 then (((i + 1 : Nat) : Int), 0) else grp (i + 1) r) else (0, 4)
theorem grp_l0 (b : List Int) (hb : ∀ x ∈ b, isByte x) (d : Nat) : ∀ (k i : Nat), i + d = 10 → i ≤ b.length → d < k → stemmaref02_groups.l0 k b (i : Int) = some (grp i (b.drop i)) := by
  induction d with
  | zero =>
    intro k i hi hl hk
    obtain ⟨k, rfl⟩ : ∃ k', k = k' + 1 := ⟨k - 1, by omega⟩
    rw [stemmaref02_groups.l0, if_neg (by omega)]
    cases b.drop i <;> simp [grp, show ¬ i < 10 by omega]
  | succ d ih =>
    intro k i hi hl hk
    obtain ⟨k, rfl⟩ : ∃ k', k = k' + 1 := ⟨k - 1, by omega⟩
    have h1 : (i : Int) < 10 := by omega
    have h10 : i < 10 := by omega
    rw [stemmaref02_groups.l0, if_pos h1]
    by_cases he : i = b.length
    · rw [if_pos (by omega), List.drop_of_length_le (by omega)]
      simp [grp, h10]
    · have hlt : i < b.length := by omega
      have hd := rd_drop b i hlt
      rw [if_neg (by omega), if_pos (Int.natCast_nonneg _), if_pos (by omega), hd, grp, if_pos h10]
      by_cases hx : rd b (i : Int) < 128
      · rw [if_pos hx, if_pos hx, show wrap64 ((i : Int) + 1) = ((i + 1 : Nat) : Int) from w64a i 1 (by omega)]
      · rw [if_neg hx, if_neg hx, show wrap64 ((i : Int) + 1) = ((i + 1 : Nat) : Int) from w64a i 1 (by omega)]
        exact ih k (i + 1) (by omega) (by omega) (by omega)
theorem grp_f {k : Nat} (hk : 11 ≤ k) {b : List Int} (hb : ∀ x ∈ b, isByte x) : stemmaref02_groups.f k b = some (grp 0 b) := by
  have := grp_l0 b hb 10 k 0 (by omega) (by omega) (by omega)
  simpa [stemmaref02_groups.f] using this
theorem grp_rng (b : List Int) : ∀ i : Nat, (∃ j : Nat, grp i b = (((i + j : Nat) : Int), 0) ∧ 0 < j ∧ j ≤ b.length ∧ i + j ≤ 10) ∨ grp i b = (0, 3) ∨ grp i b = (0, 4) := by
  induction b with
  | nil => intro i; rw [grp]; split <;> simp
  | cons x r ih =>
    intro i
    rw [grp]
    split
    · split
      · exact Or.inl ⟨1, rfl, by omega, by simp, by omega⟩
      · rcases ih (i + 1) with ⟨j, h, h1, h2, h3⟩ | h | h
        · exact Or.inl ⟨j + 1, by rw [h]; congr 2; omega, by omega, by simp; omega, by omega⟩
        · exact Or.inr (Or.inl h)
        · exact Or.inr (Or.inr h)
    · exact Or.inr (Or.inr rfl)
theorem grp_putU (m : Nat) : ∀ (i : Nat) (r : List Int), i + (putU m).length ≤ 10 → grp i (putU m ++ r) = (((i + (putU m).length : Nat) : Int), 0) := by
  induction m using Nat.strongRecOn with
  | _ m ih =>
    intro i r h
    by_cases hs : m < 128
    · rw [putU_small hs] at h ⊢
      simp at h
      simp only [List.cons_append, List.nil_append, grp]
      rw [if_pos (by omega), if_pos (by omega)]
      simp
    · rw [putU_big hs] at h ⊢
      simp only [List.length_cons] at h
      simp only [List.cons_append, grp]
      rw [if_pos (by omega), if_neg (by omega), ih (m / 128) (by omega) (i + 1) r (by omega)]
      simp only [List.length_cons]
      congr 2
      omega
theorem grp_putI (c : Nat) : ∀ (m : Int) (i : Nat) (r : List Int), m.natAbs = c → i + (putI m).length ≤ 10 → grp i (putI m ++ r) = (((i + (putI m).length : Nat) : Int), 0) := by
  induction c using Nat.strongRecOn with
  | _ c ih =>
    intro m i r hc h
    by_cases hs : 63 < m ∨ m < -64
    · rw [putI_big hs] at h ⊢
      simp only [List.length_cons] at h
      simp only [List.cons_append, grp]
      rw [if_pos (by omega), if_neg (by omega), ih (m / 128).natAbs (by omega) (m / 128) (i + 1) r rfl (by omega)]
      simp only [List.length_cons]
      congr 2
      omega
    · rw [putI_small hs] at h ⊢
      simp at h
      simp only [List.cons_append, List.nil_append, grp]
      rw [if_pos (by omega), if_pos (by omega)]
      simp
theorem grp_cut : ∀ (b : List Int) (i n : Nat), (∀ x ∈ b, isByte x) → i ≤ 9 → gU i n b = (0, 0, 3) → grp i b = (0, 3)
  | [], i, n, _, hi, _ => by rw [grp, if_pos (by omega)]
  | x :: r, i, n, hb, hi, h => by
    have hx := hb x (by simp)
    unfold isByte at hx
    rw [gU] at h
    split at h
    · simp at h
    · rename_i hc
      split at h
      · simp at h
      · rename_i h128
        have hi9 : i ≠ 9 := fun e => hc (Or.inl ⟨e, by omega⟩)
        rw [grp, if_pos (by omega), if_neg h128]
        exact grp_cut r (i + 1) _ (fun y hy => hb y (by simp [hy])) (by omega) h
theorem grp_cut' : ∀ (b : List Int) (i n : Nat), (∀ x ∈ b, isByte x) → i ≤ 9 → grp i b = (0, 3) → gU i n b = (0, 0, 3)
  | [], i, n, _, hi, _ => rfl
  | x :: r, i, n, hb, hi, h => by
    have hx := hb x (by simp)
    unfold isByte at hx
    rw [grp, if_pos (by omega)] at h
    split at h
    · rename_i h1
      have := congrArg Prod.snd h
      simp at this
    · rename_i h1
      by_cases hi9 : i = 9
      · subst hi9
        cases r <;> simp [grp] at h
      · rw [gU, if_neg (by omega), if_neg h1]
        exact grp_cut' r (i + 1) _ (fun y hy => hb y (by simp [hy])) (by omega) h
theorem grp_cutI : ∀ (b : List Int) (i n : Nat) (s : Bool), (∀ x ∈ b, isByte x) → i ≤ 9 → grp i b = (0, 3) → gI i n s b = (0, 0, 3)
  | [], i, n, s, _, hi, _ => rfl
  | x :: r, i, n, s, hb, hi, h => by
    have hx := hb x (by simp)
    unfold isByte at hx
    rw [grp, if_pos (by omega)] at h
    split at h
    · rename_i h1
      have := congrArg Prod.snd h
      simp at this
    · rename_i h1
      by_cases hi9 : i = 9
      · subst hi9
        cases r <;> simp [grp] at h
      · rw [gI, if_neg (by omega), if_pos (by omega)]
        exact grp_cutI r (i + 1) _ _ (fun y hy => hb y (by simp [hy])) (by omega) h
theorem grp_cutI' : ∀ (b : List Int) (i n : Nat) (s : Bool), (∀ x ∈ b, isByte x) → i ≤ 9 → gI i n s b = (0, 0, 3) → grp i b = (0, 3)
  | [], i, n, s, _, hi, _ => by rw [grp, if_pos (by omega)]
  | x :: r, i, n, s, hb, hi, h => by
    have hx := hb x (by simp)
    unfold isByte at hx
    rw [gI] at h
    split at h
    · simp at h
    · rename_i hc
      split at h
      · rename_i h128
        by_cases hi9 : i = 9
        · exact absurd ⟨hi9, by omega, by omega⟩ hc
        · rw [grp, if_pos (by omega), if_neg (by omega)]
          exact grp_cutI' r (i + 1) _ _ (fun y hy => hb y (by simp [hy])) (by omega) h
      · split at h
        · simp at h
        · have := congrArg (fun p => p.2.2) h
          simp at this
theorem str_eq {a b : List Int} (ha : ∀ x ∈ a, isByte x) (hb : ∀ x ∈ b, isByte x) (h : (strOfNums a).toList = (strOfNums b).toList) : a = b := by
  rw [Go.Lib.strOfNums_toList, Go.Lib.strOfNums_toList] at h
  unfold Go.Lib.bytesOf at h
  have inv : ∀ l : List Int, (∀ x ∈ l, isByte x) → (l.map fun n => UInt8.ofNat n.toNat).map (fun u => (u.toNat : Int)) = l := by
    intro l hl
    rw [List.map_map]
    conv => rhs; rw [← List.map_id l]
    refine List.map_congr_left (fun x hx => ?_)
    have := hl x hx
    unfold isByte at this
    simp [UInt8.toNat_ofNat']
    omega
  rw [← inv a ha, ← inv b hb, h]
theorem take_byte {b : List Int} (hb : ∀ x ∈ b, isByte x) (k : Nat) : ∀ x ∈ b.take k, isByte x := fun x hx => hb x (List.mem_of_mem_take hx)
def foldU : Nat → List Int → Nat → Nat
  | 0, _, n => n
  | d + 1, b, n => foldU d b ((n * 128) % 18446744073709551616 + (rd b (d : Int)).toNat % 128)
theorem foldU_lt : ∀ (d : Nat) (b : List Int) (n : Nat), n < 18446744073709551616 → foldU d b n < 18446744073709551616
  | 0, _, _, h => h
  | d + 1, b, n, h => foldU_lt d b _ (by omega)
theorem foldU_cons (x : Int) (t : List Int) : ∀ (d n : Nat), foldU (d + 1) (x :: t) n = ((foldU d t n) * 128) % 18446744073709551616 + x.toNat % 128
  | 0, n => by simp [foldU, rd]
  | d + 1, n => by
    have e : rd (x :: t) ((d + 1 : Nat) : Int) = rd t (d : Int) := by simp [rd]
    rw [foldU, foldU_cons x t d, e, foldU]
theorem foldU_put (v : Nat) : ∀ (r : List Int), v < 18446744073709551616 → foldU (putU v).length (putU v ++ r) 0 = v := by
  induction v using Nat.strongRecOn with
  | _ v ih =>
    intro r h
    by_cases hs : v < 128
    · rw [putU_small hs]
      simp [foldU, rd]
      omega
    · rw [putU_big hs]
      simp only [List.length_cons, List.cons_append]
      rw [foldU_cons, ih (v / 128) (by omega) r (by omega)]
      omega
theorem joinU (n : Nat) (y : Int) (hy : isByte y) : Go.bits .or .u64 (IntKind.u64.wrap ((n : Int) * 128)) (IntKind.u64.wrap (Int.tmod y 128)) = (((n * 128) % 18446744073709551616 + y.toNat % 128 : Nat) : Int) := by
  unfold isByte at hy
  have e1 : IntKind.u64.wrap ((n : Int) * 128) = (((n * 128) % 18446744073709551616 : Nat) : Int) := by rw [IntKind.wrap_u64]; omega
  have e2 : IntKind.u64.wrap (Int.tmod y 128) = ((y.toNat % 128 : Nat) : Int) := by
    rw [Int.tmod_eq_emod_of_nonneg hy.1, IntKind.wrap_u64]; omega
  rw [e1, e2, u64_or_nat _ _ (Nat.mod_lt _ (by omega)) (by omega), nat_join 7 _ _ (by omega) (by omega)]
theorem rgetU_l0 (b : List Int) (hb : ∀ x ∈ b, isByte x) (j : Nat) (hj : j ≤ b.length) (hj10 : j ≤ 10) (d : Nat) : ∀ (k n : Nat), d ≤ j → d + 12 ≤ k → n < 18446744073709551616 →
    stemmaref02_GetUint.l0 k b (j : Int) (n : Int) ((d : Int) - 1) = some (if (strOfNums (putU (foldU d b n))).toList = (strOfNums (b.take j)).toList then (((foldU d b n : Nat) : Int), (j : Int), 0) else (0, 0, 4)) := by
  induction d with
  | zero =>
    intro k n hd hk hn
    obtain ⟨k, rfl⟩ : ∃ k', k = k' + 1 := ⟨k - 1, by omega⟩
    have h1 : ¬ (((0 : Nat) : Int) - 1 ≥ 0) := by omega
    have h2 : (j : Int) ≤ (b.length : Int) := by omega
    rw [stemmaref02_GetUint.l0, if_neg h1, rUint_f (by omega) (Int.natCast_nonneg _) (by omega), Int.toNat_natCast]
    simp only [Option.bind_some]
    rw [if_pos (Int.natCast_nonneg _), if_pos h2, Int.toNat_natCast, foldU]
    split <;> rfl
  | succ d ih =>
    intro k n hd hk hn
    obtain ⟨k, rfl⟩ : ∃ k', k = k' + 1 := ⟨k - 1, by omega⟩
    have e : ((d + 1 : Nat) : Int) - 1 = (d : Int) := by omega
    have h1 : (d : Int) ≥ 0 := Int.natCast_nonneg _
    have h2 : (d : Int) < (b.length : Int) := by omega
    rw [e, stemmaref02_GetUint.l0, if_pos h1, if_pos h1, if_pos h2, joinU n _ (hb _ (rd_mem b d (by omega))), show wrap64 ((d : Int) - 1) = (d : Int) - 1 by unfold wrap64; omega]
    rw [ih k _ (by omega) (by omega) (by omega), foldU]
theorem rgetU_f {k : Nat} (hk : 30 ≤ k) {b : List Int} (hb : ∀ x ∈ b, isByte x) : stemmaref02_GetUint.f k b = some (gU 0 0 b) := by
  unfold stemmaref02_GetUint.f
  rw [grp_f (by omega) hb]
  simp only [Option.bind_some]
  rcases grp_rng b 0 with ⟨j, hg, hj0, hjl, hj10⟩ | hg | hg
  · rw [Nat.zero_add] at hg hj10
    have hl := rgetU_l0 b hb j hjl hj10 j k 0 (Nat.le_refl _) (by omega) (by omega)
    rw [hg]
    simp only [if_true]
    rw [show wrap64 ((j : Int) - 1) = (j : Int) - 1 by unfold wrap64; omega, show (0 : Int) = ((0 : Nat) : Int) from rfl, hl]
    congr 1
    by_cases hf : (gU 0 0 b).2.2 = 0
    · obtain ⟨v, c, hv, hv64, hc0, hcl, hc10, hbv, hpl⟩ := gU_rng hb hf
      have hgp := grp_putU v 0 (b.drop c) (by omega)
      rw [← hbv, hg, hpl, Nat.zero_add] at hgp
      have hjc : j = c := by have := congrArg Prod.fst hgp; simp at this; omega
      subst hjc
      have hfv : foldU j b 0 = v := by
        have := foldU_put v (b.drop j) hv64
        rwa [← hbv, hpl] at this
      have htk : b.take j = putU v := by
        have := congrArg (List.take j) hbv
        rw [this, ← hpl, List.take_left]
      rw [hfv, htk, if_pos rfl, hv]
    · rcases gU_errs b 0 0 with h | h | h
      · exact absurd h hf
      · have := grp_cut b 0 0 hb (by omega) h
        rw [this] at hg
        simp at hg
      · rw [if_neg, h]
        intro he
        have h2 := str_eq (putU_bytes _) (take_byte hb j) he
        have h3 : b = putU (foldU j b 0) ++ b.drop j := by rw [h2, List.take_append_drop]
        have h4 := gU_put (foldU j b 0) 0 0 (b.drop j) (by omega) (by omega) (by have := foldU_lt j b 0 (by omega); omega)
        rw [← h3, h] at h4
        simp at h4
  · rw [hg]
    rw [if_neg (by simp), grp_cut' b 0 0 hb (by omega) hg]
  · rw [hg, if_neg (by simp)]
    rcases gU_errs b 0 0 with h | h | h
    · obtain ⟨v, c, hv, hv64, hc0, hcl, hc10, hbv, hpl⟩ := gU_rng hb h
      have hgp := grp_putU v 0 (b.drop c) (by omega)
      rw [← hbv, hg] at hgp
      simp at hgp
    · have := grp_cut b 0 0 hb (by omega) h
      rw [this] at hg
      simp at hg
    · rw [h]
def foldI : Nat → List Int → Int → Int
  | 0, _, n => n
  | d + 1, b, n => foldI d b (wrap64 (n * 128) + (rd b (d : Int)) % 128)
theorem stepI_rng (n y : Int) : -9223372036854775808 ≤ wrap64 (n * 128) + y % 128 ∧ wrap64 (n * 128) + y % 128 < 9223372036854775808 := by unfold wrap64; omega
theorem foldI_rng : ∀ (d : Nat) (b : List Int) (n : Int), (-9223372036854775808 ≤ n ∧ n < 9223372036854775808) → -9223372036854775808 ≤ foldI d b n ∧ foldI d b n < 9223372036854775808
  | 0, _, _, h => h
  | d + 1, b, n, h => foldI_rng d b _ (stepI_rng n _)
theorem foldI_cons (x : Int) (t : List Int) : ∀ (d : Nat) (n : Int), foldI (d + 1) (x :: t) n = wrap64 (foldI d t n * 128) + x % 128
  | 0, n => by simp [foldI, rd]
  | d + 1, n => by
    have e : rd (x :: t) ((d + 1 : Nat) : Int) = rd t (d : Int) := by simp [rd]
    rw [foldI, foldI_cons x t d, e, foldI]
def topI (c : Int) : Int := if c % 128 ≥ 64 then c % 64 - 64 else c % 64
theorem topI_rng (c : Int) : -64 ≤ topI c ∧ topI c < 64 := by unfold topI; split <;> omega
theorem foldI_put (c : Nat) : ∀ (v : Int) (r : List Int), v.natAbs = c → -9223372036854775808 ≤ v → v < 9223372036854775808 → foldI ((putI v).length - 1) (putI v ++ r) (topI (rd (putI v ++ r) (((putI v).length - 1 : Nat) : Int))) = v := by
  induction c using Nat.strongRecOn with
  | _ c ih =>
    intro v r hc h1 h2
    by_cases hs : 63 < v ∨ v < -64
    · have hp := putI_len_pos (v / 128)
      have hi := ih (v / 128).natAbs (by omega) (v / 128) r rfl (by omega) (by omega)
      rw [putI_big hs]
      obtain ⟨m, hm⟩ : ∃ m, (putI (v / 128)).length = m + 1 := ⟨(putI (v / 128)).length - 1, by omega⟩
      rw [hm] at hi
      simp only [List.length_cons, List.cons_append, hm, Nat.add_sub_cancel] at hi ⊢
      have e : rd ((v % 128 + 128) :: (putI (v / 128) ++ r)) ((m + 1 : Nat) : Int) = rd (putI (v / 128) ++ r) (m : Int) := by simp [rd]
      rw [e, foldI_cons, hi]
      unfold wrap64
      omega
    · rw [putI_small hs]
      simp [foldI, rd, topI]
      split <;> omega
theorem joinI (n : Int) (y : Int) (hy : isByte y) : Go.bits .or .i64 (wrap64 (n * 128)) (wrap64 (Int.tmod y 128)) = wrap64 (n * 128) + y % 128 := by
  unfold isByte at hy
  have e2 : wrap64 (Int.tmod y 128) = ((y.toNat % 128 : Nat) : Int) := by
    rw [Int.tmod_eq_emod_of_nonneg hy.1]; unfold wrap64; omega
  have e3 : ((y.toNat % 128 : Nat) : Int) = y % 128 := by omega
  have hm : wrap64 (n * 128) % 2 ^ 7 = 0 := by unfold wrap64; omega
  have hr := stepI_rng n 0
  have h := or_i64 7 (by omega) (y.toNat % 128) (wrap64 (n * 128)) (by omega) hm (by unfold wrap64; omega) (by unfold wrap64; omega)
  rw [e2, ← e3, Int.add_comm, ← h]
  show IntKind.i64.wrap ((BitVec.ofInt 64 _ ||| BitVec.ofInt 64 _).toNat : Int) = IntKind.i64.wrap ((BitVec.ofInt 64 _ ||| BitVec.ofInt 64 _).toNat : Int)
  rw [BitVec.or_comm]
theorem rgetI_l0 (b : List Int) (hb : ∀ x ∈ b, isByte x) (j : Nat) (hj : j ≤ b.length) (hj10 : j ≤ 10) (d : Nat) : ∀ (k : Nat) (n : Int), d ≤ j → d + 12 ≤ k → (-9223372036854775808 ≤ n ∧ n < 9223372036854775808) →
    stemmaref02_GetInt.l0 k b (j : Int) n ((d : Int) - 1) = some (if (strOfNums (putI (foldI d b n))).toList = (strOfNums (b.take j)).toList then (foldI d b n, (j : Int), 0) else (0, 0, 4)) := by
  induction d with
  | zero =>
    intro k n hd hk hn
    obtain ⟨k, rfl⟩ : ∃ k', k = k' + 1 := ⟨k - 1, by omega⟩
    have h1 : ¬ (((0 : Nat) : Int) - 1 ≥ 0) := by omega
    have h2 : (j : Int) ≤ (b.length : Int) := by omega
    rw [stemmaref02_GetInt.l0, if_neg h1, rInt_f (by omega) hn.1 hn.2]
    simp only [Option.bind_some]
    rw [if_pos (Int.natCast_nonneg _), if_pos h2, Int.toNat_natCast, foldI]
    split <;> rfl
  | succ d ih =>
    intro k n hd hk hn
    obtain ⟨k, rfl⟩ : ∃ k', k = k' + 1 := ⟨k - 1, by omega⟩
    have e : ((d + 1 : Nat) : Int) - 1 = (d : Int) := by omega
    have h1 : (d : Int) ≥ 0 := Int.natCast_nonneg _
    have h2 : (d : Int) < (b.length : Int) := by omega
    rw [e, stemmaref02_GetInt.l0, if_pos h1, if_pos h1, if_pos h2, joinI n _ (hb _ (rd_mem b d (by omega))), show wrap64 ((d : Int) - 1) = (d : Int) - 1 by unfold wrap64; omega]
    rw [ih k _ (by omega) (by omega) (stepI_rng _ _), foldI]
theorem rgetI_f {k : Nat} (hk : 30 ≤ k) {b : List Int} (hb : ∀ x ∈ b, isByte x) : stemmaref02_GetInt.f k b = some (gI 0 0 false b) := by
  unfold stemmaref02_GetInt.f
  rw [grp_f (by omega) hb]
  simp only [Option.bind_some]
  rcases grp_rng b 0 with ⟨j, hg, hj0, hjl, hj10⟩ | hg | hg
  · rw [Nat.zero_add] at hg hj10
    obtain ⟨m, rfl⟩ : ∃ m, j = m + 1 := ⟨j - 1, by omega⟩
    have hbt := hb _ (rd_mem b m (by omega))
    unfold isByte at hbt
    have htr := topI_rng (rd b (m : Int))
    have hl := rgetI_l0 b hb (m + 1) hjl hj10 m (k - 1) (topI (rd b (m : Int))) (by omega) (by omega) (by omega)
    rw [hg]
    simp only [if_true]
    have e1 : wrap64 (((m + 1 : Nat) : Int) - 1) = (m : Int) := w64p (m + 1) (by omega) (by omega)
    have h1 : (0 : Int) ≤ (m : Int) := Int.natCast_nonneg _
    have h2 : (m : Int) < (b.length : Int) := by omega
    have key : (if Int.tmod (rd b (m : Int)) 128 ≥ 64 then (stemmaref02_GetInt.j0 k b ((m + 1 : Nat) : Int) (wrap64 ((wrap64 (Int.tmod (rd b (m : Int)) 64)) - 64))) else (stemmaref02_GetInt.j0 k b ((m + 1 : Nat) : Int) (wrap64 (Int.tmod (rd b (m : Int)) 64)))) = stemmaref02_GetInt.j0 k b ((m + 1 : Nat) : Int) (topI (rd b (m : Int))) := by
      rw [Int.tmod_eq_emod_of_nonneg hbt.1, Int.tmod_eq_emod_of_nonneg hbt.1]
      unfold topI
      split
      · congr 1; unfold wrap64; omega
      · congr 1; unfold wrap64; omega
    rw [e1, if_pos h1, if_pos h2, key]
    obtain ⟨k, rfl⟩ : ∃ k', k = k' + 1 := ⟨k - 1, by omega⟩
    rw [Nat.add_sub_cancel] at hl
    rw [stemmaref02_GetInt.j0, show wrap64 (((m + 1 : Nat) : Int) - 2) = (m : Int) - 1 by unfold wrap64; omega, hl]
    congr 1
    by_cases hf : (gI 0 0 false b).2.2 = 0
    · obtain ⟨v, c, hv, hv1, hv2, hc0, hcl, hc10, hbv, hpl⟩ := gI_rng hb hf
      have hgp := grp_putI v.natAbs v 0 (b.drop c) rfl (by omega)
      rw [← hbv, hg, hpl, Nat.zero_add] at hgp
      have hjc : m + 1 = c := by have := congrArg Prod.fst hgp; simp at this; omega
      subst hjc
      have hfv : foldI m b (topI (rd b (m : Int))) = v := by
        have := foldI_put v.natAbs v (b.drop (m + 1)) rfl hv1 hv2
        rwa [← hbv, hpl, Nat.add_sub_cancel] at this
      have htk : b.take (m + 1) = putI v := by
        have := congrArg (List.take (m + 1)) hbv
        rw [this, ← hpl, List.take_left]
      rw [hfv, htk, if_pos rfl, hv]
    · rcases gI_errs b 0 0 false with h | h | h
      · exact absurd h hf
      · have := grp_cutI' b 0 0 false hb (by omega) h
        rw [this] at hg
        simp at hg
      · rw [if_neg, h]
        intro he
        have h2 := str_eq (putI_bytes _ _ rfl) (take_byte hb (m + 1)) he
        have hr := foldI_rng m b (topI (rd b (m : Int))) (by omega)
        have h3 : b = putI (foldI m b (topI (rd b (m : Int)))) ++ b.drop (m + 1) := by rw [h2, List.take_append_drop]
        have h4 := gI_put _ (foldI m b (topI (rd b (m : Int)))) 0 0 false (b.drop (m + 1)) rfl (by omega) (by omega) (by omega) (by simpa using hr.1) (by simpa using hr.2)
        rw [← h3, h] at h4
        simp at h4
  · rw [hg]
    rw [if_neg (by simp), grp_cutI b 0 0 false hb (by omega) hg]
  · rw [hg, if_neg (by simp)]
    rcases gI_errs b 0 0 false with h | h | h
    · obtain ⟨v, c, hv, hv1, hv2, hc0, hcl, hc10, hbv, hpl⟩ := gI_rng hb h
      have hgp := grp_putI v.natAbs v 0 (b.drop c) rfl (by omega)
      rw [← hbv, hg] at hgp
      simp at hgp
    · have := grp_cutI' b 0 0 false hb (by omega) h
      rw [this] at hg
      simp at hg
    · rw [h]
end Go.Proofs.Ytpnnjefhchppfaa.ColT

set_option linter.unusedVariables false
set_option linter.unusedSimpArgs false
namespace Go.Proofs.Ytpnnjefhchppfaa.ColT
open Go Go.RowKit Go.Proofs.Ytpnnjefhchppfaa.PA Go.Proofs.YtpnnjefhchppfaaW.PrintWords Go.Proofs.YtpnnjefhchppfaaW.PrintLast Go.Proofs.YtpnnjefhchppfaaW.PrintMore Go.Proofs.Ytpnnjefhchppfaa.LebT Go.Proofs.Ytpnnjefhchppfaa.LebP
theorem rruns_l1 (x0 : List Int) (x1 x7 x8 x11 x13 v x16 : Int) (many : Nat) (hm : many ≤ 65536) (d : Nat) : ∀ (k i : Nat) (acc : List Int), i + d = many → acc.length + d ≤ 65536 →
    stemmaref03_GetRuns.l1 (k + d + 1) x0 x1 x7 x8 acc x11 (many : Int) x13 v x16 (i : Int) = stemmaref03_GetRuns.l0 k x0 x1 x7 (wrap64 ((wrap64 (x8 + x13)) + x16)) (acc ++ List.replicate d v) (IntKind.u64.wrap (x11 + 1)) := by
  induction d with
  | zero =>
    intro k i acc hi ha
    rw [stemmaref03_GetRuns.l1, if_neg (by omega)]
    simp
  | succ d ih =>
    intro k i acc hi ha
    rw [stemmaref03_GetRuns.l1, if_pos (by omega), if_pos (by omega)]
    rw [show IntKind.u64.wrap ((i : Int) + 1) = ((i + 1 : Nat) : Int) from u64a i (by omega)]
    rw [show k + (d + 1) = k + d + 1 by omega, ih k (i + 1) (acc ++ [v]) (by omega) (by simp; omega)]
    rw [List.append_assoc, List.replicate_succ, List.singleton_append]
theorem rruns_l0 (b : List Int) (hb : ∀ x ∈ b, isByte x) (hbl : b.length ≤ 140737488351232) (most : Nat) (hmost : most ≤ 65536) (N : Nat) (hN : N ≤ 65536) (n : Nat) : ∀ (k : Nat) (acc : List Int) (used i : Nat), i + n = N → acc.length ≤ most → used ≤ b.length → 10 * n + (most - acc.length) + 50 ≤ k →
    stemmaref03_GetRuns.l0 k b (most : Int) (N : Int) (used : Int) acc (i : Int) = some (gR most n acc used (b.drop used)) := by
  induction n with
  | zero =>
    intro k acc used i hn ha hu hk
    obtain ⟨k, rfl⟩ : ∃ k', k = k' + 1 := ⟨k - 1, by omega⟩
    rw [stemmaref03_GetRuns.l0, if_neg (by omega)]
    simp [gR]
  | succ n ih =>
    intro k acc used i hn ha hu hk
    obtain ⟨k, rfl⟩ : ∃ k', k = k' + 3 := ⟨k - 3, by omega⟩
    have hbu := drop_byte hb used
    have hin : (i : Int) < (N : Int) := by omega
    have hu1 : (0 : Int) ≤ (used : Int) := Int.natCast_nonneg _
    have hu2 : (used : Int) ≤ (b.length : Int) := by omega
    rw [stemmaref03_GetRuns.l0, if_pos hin, if_pos hu1, if_pos hu2, Int.toNat_natCast, rgetU_f (by omega) hbu, gR, w64s most acc.length ha (by omega), u64n (most - acc.length) (by omega)]
    simp only [Option.bind_some]
    by_cases hf : (gU 0 0 (b.drop used)).2.2 = 0
    · obtain ⟨v, c, hv, hv64, hc0, hcl, hc10, hbv, hpl⟩ := gU_rng hbu hf
      rw [List.length_drop] at hcl
      simp only [hv, Int.toNat_natCast, if_true, List.drop_drop]
      by_cases hv0 : (v : Int) = 0
      · rw [if_pos hv0, if_pos hv0]
      · rw [if_neg hv0, if_neg hv0]
        by_cases hvm : (v : Int) > ((most - acc.length : Nat) : Int)
        · rw [if_pos hvm, if_pos hvm]
        · rw [if_neg hvm, if_neg hvm]
          rw [w64a used c (by omega)]
          have hbc := drop_byte hb (used + c)
          have hq1 : (0 : Int) ≤ ((used + c : Nat) : Int) := Int.natCast_nonneg _
          have hq2 : ((used + c : Nat) : Int) ≤ (b.length : Int) := by omega
          have hgi : stemmaref02_GetInt.f (k + 2) (b.drop (used + c)) = some (gI 0 0 false (b.drop (used + c))) := rgetI_f (by omega) hbc
          rw [if_pos hq1, if_pos hq2, Int.toNat_natCast]
          rw [hgi]
          simp only [Option.bind_some]
          by_cases hg : (gI 0 0 false (b.drop (used + c))).2.2 = 0
          · obtain ⟨x, j, hx, hx1, hx2, hj0, hjl, hj10, hbx, hpx⟩ := gI_rng hbc hg
            rw [List.length_drop] at hjl
            simp only [hx, if_true, Int.toNat_natCast]
            have hfin : ∀ q : Bool, q = decide (acc.getLast? = some x) → stemmaref03_GetRuns.j1 (k + 2) b (most : Int) (N : Int) (used : Int) acc (i : Int) (v : Int) (c : Int) x (j : Int) q = some (if acc.getLast? = some x then ([], 0, 4) else gR most n (acc ++ List.replicate v x) (used + c + j) (b.drop (used + (c + j)))) := by
              intro q hq
              subst hq
              rw [stemmaref03_GetRuns.j1]
              by_cases hl : acc.getLast? = some x
              · rw [if_pos (by simpa using hl), if_pos hl]
              · rw [if_neg (by simpa using hl), if_neg hl]
                obtain ⟨k2, rfl⟩ : ∃ k2, k = k2 + v := ⟨k - v, by omega⟩
                have h1 := rruns_l1 b (most : Int) (N : Int) (used : Int) (i : Int) (c : Int) x (j : Int) v (by omega) v k2 0 acc (by omega) (by omega)
                rw [show ((0 : Nat) : Int) = 0 from rfl] at h1
                rw [h1]
                clear h1
                rw [w64a used c (by omega), w64a (used + c) j (by omega), u64a i (by omega), ← Nat.add_assoc used c j]
                rw [ih k2 (acc ++ List.replicate v x) (used + c + j) (i + 1) (by omega) (by rw [List.length_append, List.length_replicate]; omega) (by omega) (by rw [List.length_append, List.length_replicate]; omega)]
            by_cases hal : (acc.length : Int) > 0
            · rw [if_pos hal, w64p acc.length (by omega) (by omega), if_pos (by omega), if_pos (by omega)]
              refine hfin _ ?_
              have hal' : acc.length - 1 < acc.length := by omega
              rw [List.getLast?_eq_getElem?, List.getElem?_eq_getElem hal']
              simp [rd, List.getD_eq_getElem?_getD, List.getElem?_eq_getElem hal']
              by_cases h : acc[acc.length - 1] = x <;> simp [h]
            · rw [if_neg hal]
              refine hfin _ ?_
              have : acc = [] := List.eq_nil_of_length_eq_zero (by omega)
              simp [this]
          · rw [if_neg hg, if_neg hg]
    · rw [if_neg hf, if_neg hf]
theorem rgetRuns_f {k : Nat} (hk : 800000 ≤ k) {b : List Int} (hb : ∀ x ∈ b, isByte x) (hbl : b.length ≤ 140737488351232) (most : Int) : stemmaref03_GetRuns.f k b most = some (getRuns b most) := by
  have hmm : 0 ≤ mx 0 (mn most 65536) ∧ mx 0 (mn most 65536) ≤ 65536 := by simp only [mx, mn]; omega
  obtain ⟨m, hm⟩ : ∃ m : Nat, mx 0 (mn most 65536) = (m : Int) := ⟨_, (Int.toNat_of_nonneg hmm.1).symm⟩
  unfold stemmaref03_GetRuns.f stemmaref03_bounded.f getRuns
  simp only [Option.bind_some, hm, Int.toNat_natCast]
  rw [hm] at hmm
  clear hm
  rw [rgetU_f (by omega) hb, u64n m (by omega)]
  simp only [Option.bind_some]
  by_cases hf : (gU 0 0 b).2.2 = 0
  · obtain ⟨v, c, hv, hv64, hc0, hcl, hc10, hbv, hpl⟩ := gU_rng hb hf
    simp only [hv, if_true, Int.toNat_natCast]
    by_cases hvm : (v : Int) > (m : Int)
    · rw [if_pos hvm, if_pos hvm]
    · rw [if_neg hvm, if_neg hvm]
      have := rruns_l0 b hb hbl m (by omega) v (by omega) v k [] c 0 (by omega) (by simp) (by omega) (by simp; omega)
      exact this
  · rw [if_neg hf, if_neg hf]
theorem rdeltas_l0 (x7 : List Int) (u e : Int) (hl : x7.length ≤ 65536) (d : Nat) : ∀ (k i : Nat) (acc : List Int) (last : Int), i + d = x7.length → acc.length = i → d < k →
    stemmaref03_GetDeltas.l0 k x7 u e acc last (i : Int) = some (acc ++ sums last (x7.drop i), u, e) := by
  induction d with
  | zero =>
    intro k i acc last hi ha hk
    obtain ⟨k, rfl⟩ : ∃ k', k = k' + 1 := ⟨k - 1, by omega⟩
    rw [stemmaref03_GetDeltas.l0, if_neg (by omega), List.drop_of_length_le (by omega)]
    simp [sums]
  | succ d ih =>
    intro k i acc last hi ha hk
    obtain ⟨k, rfl⟩ : ∃ k', k = k' + 1 := ⟨k - 1, by omega⟩
    have h1 : (i : Int) < (x7.length : Int) := by omega
    have hd := rd_drop x7 i (by omega)
    rw [stemmaref03_GetDeltas.l0, if_pos h1, if_pos (Int.natCast_nonneg _), if_pos (by omega), show wrap64 ((i : Int) + 1) = ((i + 1 : Nat) : Int) from w64a i 1 (by omega)]
    rw [ih k (i + 1) _ _ (by omega) (by simp [ha]) (by omega), hd, sums, Int.add_comm last]
    simp
theorem gR_vals (most : Nat) : ∀ (n : Nat) (acc : List Int) (used : Nat) (b : List Int), (∀ x ∈ b, isByte x) → (∀ x ∈ acc, -9223372036854775808 ≤ x ∧ x < 9223372036854775808) → ∀ x ∈ (gR most n acc used b).1, -9223372036854775808 ≤ x ∧ x < 9223372036854775808
  | 0, acc, used, b, _, h => h
  | n + 1, acc, used, b, hb, h => by
    rw [gR]
    split
    · split
      · simp
      · split
        · simp
        · split
          · rename_i hg
            obtain ⟨x, j, hx, hx1, hx2, _⟩ := gI_rng (drop_byte hb _) hg
            split
            · simp
            · refine gR_vals most n _ _ _ (drop_byte hb _) (fun y hy => ?_)
              rcases List.mem_append.1 hy with hy | hy
              · exact h y hy
              · have := (List.mem_replicate.1 hy).2
                rw [this, hx]
                exact ⟨hx1, hx2⟩
          · simp
    · simp
theorem getRuns_vals (b : List Int) (hb : ∀ x ∈ b, isByte x) (most : Int) : ∀ x ∈ (getRuns b most).1, -9223372036854775808 ≤ x ∧ x < 9223372036854775808 := by
  unfold getRuns
  split
  · split
    · simp
    · exact gR_vals _ _ _ _ _ (drop_byte hb _) (by simp)
  · simp
theorem sums_sums0 (l : List Int) (h : ∀ x ∈ l, -9223372036854775808 ≤ x ∧ x < 9223372036854775808) : sums 0 l = sums0 l := by
  cases l with
  | nil => rfl
  | cons x r =>
    have hx := h x (by simp)
    rw [sums, sums0, show wrap64 (x + 0) = x by unfold wrap64; omega]
theorem rgetDeltas_f {k : Nat} (hk : 800000 ≤ k) {b : List Int} (hb : ∀ x ∈ b, isByte x) (hbl : b.length ≤ 140737488351232) (most : Int) : stemmaref03_GetDeltas.f k b most = some (sums0 (getRuns b most).1, (getRuns b most).2.1, (getRuns b most).2.2) := by
  unfold stemmaref03_GetDeltas.f
  rw [rgetRuns_f hk hb hbl]
  simp only [Option.bind_some]
  have hl := getRuns_len b most
  have := rdeltas_l0 (getRuns b most).1 (getRuns b most).2.1 (getRuns b most).2.2 hl (getRuns b most).1.length k 0 [] 0 (by omega) rfl (by omega)
  rw [show ((0 : Nat) : Int) = 0 from rfl] at this
  rw [this, List.nil_append, List.drop_zero, sums_sums0 _ (getRuns_vals b hb most)]
end Go.Proofs.Ytpnnjefhchppfaa.ColT

