/- The reference's Uint and GetUint compute what the plain theory says. -/
import Derived.Test.YtonpiacnljcohaaDoorLebV
import Derived.Lib.Bytes
import Derived.Test.YtonpiacnljcohaaDoorPAx36
import Derived.Test.YtonpiacnljcohaaDoorPAx41
set_option linter.unusedVariables false
set_option linter.unusedSimpArgs false
namespace Go.Proofs.YtonpiacnljcohaaDoor.LebP
open Go.RowKit Go.Proofs.YtonpiacnljcohaaDoor.PA Go.Proofs.YtonpiacnljcohaaDoorW.PrintWords Go.Proofs.YtonpiacnljcohaaDoorW.PrintLast Go.Proofs.YtonpiacnljcohaaDoorW.PrintMore Go.Proofs.YtonpiacnljcohaaDoor.LebT
theorem rUint_l0 (d : Nat) : ∀ (k : Nat) (x : Int) (acc : List Int), 0 ≤ x → x < 18446744073709551616 → x.toNat < 128 ^ (d + 1) → d < k → acc.length + d < 140737488355328 → stemmaref02_Uint.l0 k x acc = some (acc ++ putU x.toNat) := by
  induction d with
  | zero =>
    intro k x acc h0 h64 h1 hk ha
    obtain ⟨k, rfl⟩ : ∃ m, k = m + 1 := ⟨k - 1, by omega⟩
    simp only [stemmaref02_Uint.l0]
    rw [if_neg (by omega), if_pos (by omega), putU_small (by omega)]
    congr 3; omega
  | succ d ih =>
    intro k x acc h0 h64 h1 hk ha
    obtain ⟨k, rfl⟩ : ∃ m, k = m + 1 := ⟨k - 1, by omega⟩
    simp only [stemmaref02_Uint.l0]
    have e1 : IntKind.u64.wrap (Int.tdiv x 128) = x / 128 := by
      rw [IntKind.wrap_u64, Int.tdiv_eq_ediv_of_nonneg h0]; omega
    have e2 : Int.tmod x 128 = x % 128 := Int.tmod_eq_emod_of_nonneg h0
    rw [e1, e2]
    by_cases hs : x ≥ 128
    · rw [if_pos hs, if_pos (by omega), ih k (x / 128) _ (by omega) (by omega) (by
        rw [show (x / 128).toNat = x.toNat / 128 by omega, Nat.div_lt_iff_lt_mul (by omega), ← Nat.pow_succ]; exact h1) (by omega) (by simp; omega)]
      rw [putU_big (n := x.toNat) (by omega), List.append_assoc]
      congr 2
      simp only [List.cons_append, List.nil_append]
      congr 1
      · omega
      · congr 1; omega
    · rw [if_neg hs, if_pos (by omega), putU_small (by omega)]
      congr 3; omega
theorem rUint_f {k : Nat} (hk : 10 ≤ k) {a : Int} (h0 : 0 ≤ a) (h1 : a < 18446744073709551616) : stemmaref02_Uint.f k a = some (putU a.toNat) := by
  unfold stemmaref02_Uint.f
  rw [rUint_l0 9 k a [] h0 h1 (by omega) (by omega) (by simp)]
  simp
end Go.Proofs.YtonpiacnljcohaaDoor.LebP
namespace Go.Proofs.YtonpiacnljcohaaDoor.ColT
open Go Go.RowKit Go.Proofs.YtonpiacnljcohaaDoor.PA Go.Proofs.YtonpiacnljcohaaDoorW.PrintWords Go.Proofs.YtonpiacnljcohaaDoorW.PrintLast Go.Proofs.YtonpiacnljcohaaDoorW.PrintMore Go.Proofs.YtonpiacnljcohaaDoor.LebT Go.Proofs.YtonpiacnljcohaaDoor.LebP
theorem gU_rng {b : List Int} (hb : ∀ x ∈ b, isByte x) (h : (gU 0 0 b).2.2 = 0) : ∃ v k : Nat, gU 0 0 b = ((v : Int), (k : Int), 0) ∧ v < 18446744073709551616 ∧ 0 < k ∧ k ≤ b.length ∧ k ≤ 10 ∧ b = putU v ++ b.drop k ∧ (putU v).length = k := by
  obtain ⟨v, k, e, he⟩ : ∃ v k e, gU 0 0 b = (v, k, e) := ⟨_, _, _, rfl⟩
  rw [he] at h
  obtain rfl : e = 0 := h
  obtain ⟨m, j, rfl, rfl, h1, h2, h3, _, h4⟩ := gU_only b 0 0 v k hb (by omega) (by omega) he
  simp only [Nat.zero_add, Nat.pow_zero, Nat.mul_one] at *
  have hl : (putU m).length = j := by rw [h3, List.length_take]; omega
  refine ⟨m, j, he, h4, h1, h2, by rw [← hl]; exact putU_len64 h4, by rw [h3, List.take_append_drop], hl⟩
/-- How many bytes up to the first below 128; an error. -/
def grp (i : Nat) : List Int → Int × Int
  | [] => if i < 10 then (0, 3) else (0, 4)
  | x :: r => if i < 10 then (if x < 128 then (((i + 1 : Nat) : Int), 0) else grp (i + 1) r) else (0, 4)
theorem grp_l0 (b : List Int) (hb : ∀ x ∈ b, isByte x) (d : Nat) : ∀ (k i : Nat), i + d = 10 → i ≤ b.length → d < k → stemmaref02_groups.l0 k b (i : Int) = some (grp i (b.drop i)) := by
  induction d with
  | zero =>
    intro k i hi hl hk
    obtain ⟨k, rfl⟩ : ∃ k', k = k' + 1 := ⟨k - 1, by omega⟩
    rw [stemmaref02_groups.l0, if_neg (by omega)]
    cases b.drop i <;> simp [grp, show ¬ i < 10 by omega]
  | succ d ih =>
    intro k i hi hl hk
    obtain ⟨k, rfl⟩ : ∃ k', k = k' + 1 := ⟨k - 1, by omega⟩
    have h1 : (i : Int) < 10 := by omega
    have h10 : i < 10 := by omega
    rw [stemmaref02_groups.l0, if_pos h1]
    by_cases he : i = b.length
    · rw [if_pos (by omega), List.drop_of_length_le (by omega)]
      simp [grp, h10]
    · have hlt : i < b.length := by omega
      have hd := rd_drop b i hlt
      rw [if_neg (by omega), if_pos (Int.natCast_nonneg _), if_pos (by omega), hd, grp, if_pos h10]
      by_cases hx : rd b (i : Int) < 128
      · rw [if_pos hx, if_pos hx, show wrap64 ((i : Int) + 1) = ((i + 1 : Nat) : Int) from w64a i 1 (by omega)]
      · rw [if_neg hx, if_neg hx, show wrap64 ((i : Int) + 1) = ((i + 1 : Nat) : Int) from w64a i 1 (by omega)]
        exact ih k (i + 1) (by omega) (by omega) (by omega)
theorem grp_f {k : Nat} (hk : 11 ≤ k) {b : List Int} (hb : ∀ x ∈ b, isByte x) : stemmaref02_groups.f k b = some (grp 0 b) := by
  have := grp_l0 b hb 10 k 0 (by omega) (by omega) (by omega)
  simpa [stemmaref02_groups.f] using this
/-- What grp tells. -/
theorem grp_rng (b : List Int) : ∀ i : Nat, (∃ j : Nat, grp i b = (((i + j : Nat) : Int), 0) ∧ 0 < j ∧ j ≤ b.length ∧ i + j ≤ 10) ∨ grp i b = (0, 3) ∨ grp i b = (0, 4) := by
  induction b with
  | nil => intro i; rw [grp]; split <;> simp
  | cons x r ih =>
    intro i
    rw [grp]
    split
    · split
      · exact Or.inl ⟨1, rfl, by omega, by simp, by omega⟩
      · rcases ih (i + 1) with ⟨j, h, h1, h2, h3⟩ | h | h
        · exact Or.inl ⟨j + 1, by rw [h]; congr 2; omega, by omega, by simp; omega, by omega⟩
        · exact Or.inr (Or.inl h)
        · exact Or.inr (Or.inr h)
    · exact Or.inr (Or.inr rfl)
/-- Groups of a laid number. -/
theorem grp_putU (m : Nat) : ∀ (i : Nat) (r : List Int), i + (putU m).length ≤ 10 → grp i (putU m ++ r) = (((i + (putU m).length : Nat) : Int), 0) := by
  induction m using Nat.strongRecOn with
  | _ m ih =>
    intro i r h
    by_cases hs : m < 128
    · rw [putU_small hs] at h ⊢
      simp at h
      simp only [List.cons_append, List.nil_append, grp]
      rw [if_pos (by omega), if_pos (by omega)]
      simp
    · rw [putU_big hs] at h ⊢
      simp only [List.length_cons] at h
      simp only [List.cons_append, grp]
      rw [if_pos (by omega), if_neg (by omega), ih (m / 128) (by omega) (i + 1) r (by omega)]
      simp only [List.length_cons]
      congr 2
      omega
theorem grp_putI (c : Nat) : ∀ (m : Int) (i : Nat) (r : List Int), m.natAbs = c → i + (putI m).length ≤ 10 → grp i (putI m ++ r) = (((i + (putI m).length : Nat) : Int), 0) := by
  induction c using Nat.strongRecOn with
  | _ c ih =>
    intro m i r hc h
    by_cases hs : 63 < m ∨ m < -64
    · rw [putI_big hs] at h ⊢
      simp only [List.length_cons] at h
      simp only [List.cons_append, grp]
      rw [if_pos (by omega), if_neg (by omega), ih (m / 128).natAbs (by omega) (m / 128) (i + 1) r rfl (by omega)]
      simp only [List.length_cons]
      congr 2
      omega
    · rw [putI_small hs] at h ⊢
      simp at h
      simp only [List.cons_append, List.nil_append, grp]
      rw [if_pos (by omega), if_pos (by omega)]
      simp
/-- Where what is taken off is told to be cut, grp tells so, too. -/
theorem grp_cut : ∀ (b : List Int) (i n : Nat), (∀ x ∈ b, isByte x) → i ≤ 9 → gU i n b = (0, 0, 3) → grp i b = (0, 3)
  | [], i, n, _, hi, _ => by rw [grp, if_pos (by omega)]
  | x :: r, i, n, hb, hi, h => by
    have hx := hb x (by simp)
    unfold isByte at hx
    rw [gU] at h
    split at h
    · simp at h
    · rename_i hc
      split at h
      · simp at h
      · rename_i h128
        have hi9 : i ≠ 9 := fun e => hc (Or.inl ⟨e, by omega⟩)
        rw [grp, if_pos (by omega), if_neg h128]
        exact grp_cut r (i + 1) _ (fun y hy => hb y (by simp [hy])) (by omega) h
theorem grp_cut' : ∀ (b : List Int) (i n : Nat), (∀ x ∈ b, isByte x) → i ≤ 9 → grp i b = (0, 3) → gU i n b = (0, 0, 3)
  | [], i, n, _, hi, _ => rfl
  | x :: r, i, n, hb, hi, h => by
    have hx := hb x (by simp)
    unfold isByte at hx
    rw [grp, if_pos (by omega)] at h
    split at h
    · rename_i h1
      have := congrArg Prod.snd h
      simp at this
    · rename_i h1
      by_cases hi9 : i = 9
      · subst hi9
        cases r <;> simp [grp] at h
      · rw [gU, if_neg (by omega), if_neg h1]
        exact grp_cut' r (i + 1) _ (fun y hy => hb y (by simp [hy])) (by omega) h
theorem str_eq {a b : List Int} (ha : ∀ x ∈ a, isByte x) (hb : ∀ x ∈ b, isByte x) (h : (strOfNums a).toList = (strOfNums b).toList) : a = b := by
  rw [Go.Lib.strOfNums_toList, Go.Lib.strOfNums_toList] at h
  unfold Go.Lib.bytesOf at h
  have inv : ∀ l : List Int, (∀ x ∈ l, isByte x) → (l.map fun n => UInt8.ofNat n.toNat).map (fun u => (u.toNat : Int)) = l := by
    intro l hl
    rw [List.map_map]
    conv => rhs; rw [← List.map_id l]
    refine List.map_congr_left (fun x hx => ?_)
    have := hl x hx
    unfold isByte at this
    simp [UInt8.toNat_ofNat']
    omega
  rw [← inv a ha, ← inv b hb, h]
theorem take_byte {b : List Int} (hb : ∀ x ∈ b, isByte x) (k : Nat) : ∀ x ∈ b.take k, isByte x := fun x hx => hb x (List.mem_of_mem_take hx)
/-- The groups put together, the last one first. -/
def foldU : Nat → List Int → Nat → Nat
  | 0, _, n => n
  | d + 1, b, n => foldU d b ((n * 128) % 18446744073709551616 + (rd b (d : Int)).toNat % 128)
theorem foldU_lt : ∀ (d : Nat) (b : List Int) (n : Nat), n < 18446744073709551616 → foldU d b n < 18446744073709551616
  | 0, _, _, h => h
  | d + 1, b, n, h => foldU_lt d b _ (by omega)
theorem foldU_cons (x : Int) (t : List Int) : ∀ (d n : Nat), foldU (d + 1) (x :: t) n = ((foldU d t n) * 128) % 18446744073709551616 + x.toNat % 128
  | 0, n => by simp [foldU, rd]
  | d + 1, n => by
    have e : rd (x :: t) ((d + 1 : Nat) : Int) = rd t (d : Int) := by simp [rd]
    rw [foldU, foldU_cons x t d, e, foldU]
theorem foldU_put (v : Nat) : ∀ (r : List Int), v < 18446744073709551616 → foldU (putU v).length (putU v ++ r) 0 = v := by
  induction v using Nat.strongRecOn with
  | _ v ih =>
    intro r h
    by_cases hs : v < 128
    · rw [putU_small hs]
      simp [foldU, rd]
      omega
    · rw [putU_big hs]
      simp only [List.length_cons, List.cons_append]
      rw [foldU_cons, ih (v / 128) (by omega) r (by omega)]
      omega
theorem joinU (n : Nat) (y : Int) (hy : isByte y) : Go.bits .or .u64 (IntKind.u64.wrap ((n : Int) * 128)) (IntKind.u64.wrap (Int.tmod y 128)) = (((n * 128) % 18446744073709551616 + y.toNat % 128 : Nat) : Int) := by
  unfold isByte at hy
  have e1 : IntKind.u64.wrap ((n : Int) * 128) = (((n * 128) % 18446744073709551616 : Nat) : Int) := by rw [IntKind.wrap_u64]; omega
  have e2 : IntKind.u64.wrap (Int.tmod y 128) = ((y.toNat % 128 : Nat) : Int) := by
    rw [Int.tmod_eq_emod_of_nonneg hy.1, IntKind.wrap_u64]; omega
  rw [e1, e2, u64_or_nat _ _ (Nat.mod_lt _ (by omega)) (by omega), nat_join 7 _ _ (by omega) (by omega)]
theorem rgetU_l0 (b : List Int) (hb : ∀ x ∈ b, isByte x) (j : Nat) (hj : j ≤ b.length) (hj10 : j ≤ 10) (d : Nat) : ∀ (k n : Nat), d ≤ j → d + 12 ≤ k → n < 18446744073709551616 →
    stemmaref02_GetUint.l0 k b (j : Int) (n : Int) ((d : Int) - 1) = some (if (strOfNums (putU (foldU d b n))).toList = (strOfNums (b.take j)).toList then (((foldU d b n : Nat) : Int), (j : Int), 0) else (0, 0, 4)) := by
  induction d with
  | zero =>
    intro k n hd hk hn
    obtain ⟨k, rfl⟩ : ∃ k', k = k' + 1 := ⟨k - 1, by omega⟩
    have h1 : ¬ (((0 : Nat) : Int) - 1 ≥ 0) := by omega
    have h2 : (j : Int) ≤ (b.length : Int) := by omega
    rw [stemmaref02_GetUint.l0, if_neg h1, rUint_f (by omega) (Int.natCast_nonneg _) (by omega), Int.toNat_natCast]
    simp only [Option.bind_some]
    rw [if_pos (Int.natCast_nonneg _), if_pos h2, Int.toNat_natCast, foldU]
    split <;> rfl
  | succ d ih =>
    intro k n hd hk hn
    obtain ⟨k, rfl⟩ : ∃ k', k = k' + 1 := ⟨k - 1, by omega⟩
    have e : ((d + 1 : Nat) : Int) - 1 = (d : Int) := by omega
    have h1 : (d : Int) ≥ 0 := Int.natCast_nonneg _
    have h2 : (d : Int) < (b.length : Int) := by omega
    rw [e, stemmaref02_GetUint.l0, if_pos h1, if_pos h1, if_pos h2, joinU n _ (hb _ (rd_mem b d (by omega))), show wrap64 ((d : Int) - 1) = (d : Int) - 1 by unfold wrap64; omega]
    rw [ih k _ (by omega) (by omega) (by omega), foldU]
theorem rgetU_f {k : Nat} (hk : 30 ≤ k) {b : List Int} (hb : ∀ x ∈ b, isByte x) : stemmaref02_GetUint.f k b = some (gU 0 0 b) := by
  unfold stemmaref02_GetUint.f
  rw [grp_f (by omega) hb]
  simp only [Option.bind_some]
  rcases grp_rng b 0 with ⟨j, hg, hj0, hjl, hj10⟩ | hg | hg
  · rw [Nat.zero_add] at hg hj10
    have hl := rgetU_l0 b hb j hjl hj10 j k 0 (Nat.le_refl _) (by omega) (by omega)
    rw [hg]
    simp only [if_true]
    rw [show wrap64 ((j : Int) - 1) = (j : Int) - 1 by unfold wrap64; omega, show (0 : Int) = ((0 : Nat) : Int) from rfl, hl]
    congr 1
    by_cases hf : (gU 0 0 b).2.2 = 0
    · obtain ⟨v, c, hv, hv64, hc0, hcl, hc10, hbv, hpl⟩ := gU_rng hb hf
      have hgp := grp_putU v 0 (b.drop c) (by omega)
      rw [← hbv, hg, hpl, Nat.zero_add] at hgp
      have hjc : j = c := by have := congrArg Prod.fst hgp; simp at this; omega
      subst hjc
      have hfv : foldU j b 0 = v := by
        have := foldU_put v (b.drop j) hv64
        rwa [← hbv, hpl] at this
      have htk : b.take j = putU v := by
        have := congrArg (List.take j) hbv
        rw [this, ← hpl, List.take_left]
      rw [hfv, htk, if_pos rfl, hv]
    · rcases gU_errs b 0 0 with h | h | h
      · exact absurd h hf
      · have := grp_cut b 0 0 hb (by omega) h
        rw [this] at hg
        simp at hg
      · rw [if_neg, h]
        intro he
        have h2 := str_eq (putU_bytes _) (take_byte hb j) he
        have h3 : b = putU (foldU j b 0) ++ b.drop j := by rw [h2, List.take_append_drop]
        have h4 := gU_put (foldU j b 0) 0 0 (b.drop j) (by omega) (by omega) (by have := foldU_lt j b 0 (by omega); omega)
        rw [← h3, h] at h4
        simp at h4
  · rw [hg]
    rw [if_neg (by simp), grp_cut' b 0 0 hb (by omega) hg]
  · rw [hg, if_neg (by simp)]
    rcases gU_errs b 0 0 with h | h | h
    · obtain ⟨v, c, hv, hv64, hc0, hcl, hc10, hbv, hpl⟩ := gU_rng hb h
      have hgp := grp_putU v 0 (b.drop c) (by omega)
      rw [← hbv, hg] at hgp
      simp at hgp
    · have := grp_cut b 0 0 hb (by omega) h
      rw [this] at hg
      simp at hg
    · rw [h]
end Go.Proofs.YtonpiacnljcohaaDoor.ColT
