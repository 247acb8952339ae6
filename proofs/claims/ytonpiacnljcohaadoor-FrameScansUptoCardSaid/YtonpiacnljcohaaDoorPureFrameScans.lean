/- Any bytes are read as the frames that the document says. -/
import Derived.Test.YtonpiacnljcohaaDoorFrR
import Derived.Test.YtonpiacnljcohaaDoorPAx5
set_option linter.unusedVariables false
set_option linter.unusedSimpArgs false
namespace Go.Proofs.YtonpiacnljcohaaDoor.FrT
open Go Go.RowKit Go.Proofs.YtonpiacnljcohaaDoor.PA Go.Proofs.YtonpiacnljcohaaDoorW.PrintWords Go.Proofs.YtonpiacnljcohaaDoor.LebT Go.Proofs.YtonpiacnljcohaaDoor.LebP Go.Proofs.YtonpiacnljcohaaDoor.ColT
theorem opn_used (b : List Int) (hb : ∀ x ∈ b, isByte x) (h : (opn b).2.2.2 = 0) : ∃ u : Nat, (opn b).2.2.1 = (u : Int) ∧ 0 < u ∧ u ≤ b.length := by
  unfold opn at h ⊢
  by_cases h0 : b.length = 0
  · rw [if_pos h0] at h; simp at h
  rw [if_neg h0] at h ⊢
  by_cases h1 : rd b 0 = 0
  · rw [if_pos h1] at h; simp at h
  rw [if_neg h1] at h ⊢
  by_cases h2 : (gU 0 0 (b.drop 1)).2.2 = 0
  · rw [if_pos h2] at h ⊢
    obtain ⟨v, j, hg, hv, hk0, hkl, hk10, _, _⟩ := gU_rng (all_drop hb 1) h2
    rw [hg] at h ⊢
    simp only at h ⊢
    by_cases h3 : (1048576 : Int) < (v : Int)
    · rw [if_pos h3] at h; simp at h
    rw [if_neg h3] at h ⊢
    by_cases h4 : (b.length : Int) < 1 + (j : Int) + (v : Int) + 4
    · rw [if_pos h4] at h; simp at h
    rw [if_neg h4] at h ⊢
    split at h
    · rename_i h5
      rw [if_pos h5]
      exact ⟨1 + j + v + 4, by simp, by omega, by omega⟩
    · simp at h
  · rw [if_neg h2] at h
    exact absurd h h2
/-- Frame behind frame, from a place on. -/
def scan : Nat → List Int → Nat → List (Int × List Int) × Nat × Int
  | 0, _, i => ([], i, 99)
  | d + 1, b, i =>
    if (opn (b.drop i)).2.2.2 = 0 then
      ((((opn (b.drop i)).1, (opn (b.drop i)).2.1)) :: (scan d b (i + (opn (b.drop i)).2.2.1.toNat)).1, (scan d b (i + (opn (b.drop i)).2.2.1.toNat)).2)
    else if (opn (b.drop i)).2.2.2 = 22 then ([], i, 0) else ([], i, (opn (b.drop i)).2.2.2)
theorem scan_l0 (b : List Int) (hb : ∀ x ∈ b, isByte x) (hl : b.length ≤ 1048576) : ∀ (d k i : Nat) (acc : List S33), b.length < i + d → i ≤ b.length → d ≤ k → acc.length ≤ i →
    frame_Scan.l0 k b acc (i : Int) = some (acc ++ (scan d b i).1.map (fun p => (⟨p.1, p.2⟩ : S33)), ((scan d b i).2.1 : Int), (scan d b i).2.2)
  | 0, k, i, acc, h1, h2, _, _ => by omega
  | d + 1, 0, i, acc, _, _, h, _ => by omega
  | d + 1, k + 1, i, acc, h1, h2, h3, h4 => by
    have hd := all_drop hb i
    rw [frame_Scan.l0, if_pos (by omega), if_pos (by omega), Int.toNat_natCast, open_f _ hd (by rw [List.length_drop]; omega), Option.bind_some, scan]
    by_cases e0 : (opn (b.drop i)).2.2.2 = 0
    · obtain ⟨u, hu, hu0, hul⟩ := opn_used _ hd e0
      rw [List.length_drop] at hul
      rw [if_pos e0, if_pos e0, if_pos (by omega), hu, show wrap64 ((i : Int) + (u : Int)) = ((i + u : Nat) : Int) from w64a i u (by omega), Int.toNat_natCast]
      rw [scan_l0 b hb hl d k (i + u) _ (by omega) (by omega) (by omega) (by simp; omega)]
      simp
    · rw [if_neg e0, if_neg e0]
      by_cases e1 : (opn (b.drop i)).2.2.2 = 22
      · rw [if_pos e1, if_pos e1]; simp
      · rw [if_neg e1, if_neg e1]; simp
theorem rscan_l0 (b : List Int) (hb : ∀ x ∈ b, isByte x) (hl : b.length ≤ 1048576) : ∀ (d k i : Nat) (acc : List S36), b.length < i + d → i ≤ b.length → d + 11000000 ≤ k → acc.length ≤ i →
    stemmaref04_Scan.l0 k b acc (i : Int) = some (acc ++ (scan d b i).1.map (fun p => (⟨p.1, p.2⟩ : S36)), ((scan d b i).2.1 : Int), (scan d b i).2.2)
  | 0, k, i, acc, h1, h2, _, _ => by omega
  | d + 1, 0, i, acc, _, _, h, _ => by omega
  | d + 1, k + 1, i, acc, h1, h2, h3, h4 => by
    have hd := all_drop hb i
    rw [stemmaref04_Scan.l0, if_pos (by omega), if_pos (by omega), Int.toNat_natCast, ropen_f _ hd (by rw [List.length_drop]; omega) (by omega), Option.bind_some, scan]
    by_cases e0 : (opn (b.drop i)).2.2.2 = 0
    · obtain ⟨u, hu, hu0, hul⟩ := opn_used _ hd e0
      rw [List.length_drop] at hul
      rw [if_neg (by rw [e0]; omega), if_pos e0, if_pos e0, if_pos (by omega), hu, show wrap64 ((i : Int) + (u : Int)) = ((i + u : Nat) : Int) from w64a i u (by omega), Int.toNat_natCast]
      rw [rscan_l0 b hb hl d k (i + u) _ (by omega) (by omega) (by omega) (by simp; omega)]
      simp
    · by_cases e1 : (opn (b.drop i)).2.2.2 = 22
      · rw [if_pos e1, if_neg e0, if_pos e1]; simp
      · rw [if_neg e1, if_neg e0, if_neg e0, if_neg e1]; simp
theorem scan_len (b : List Int) (hb : ∀ x ∈ b, isByte x) : ∀ (d i : Nat), (scan d b i).1.length ≤ d
  | 0, i => by simp [scan]
  | d + 1, i => by
    rw [scan]
    split
    · have := scan_len b hb d (i + (opn (b.drop i)).2.2.1.toNat)
      simp only [List.length_cons]; omega
    · split <;> simp
theorem same_l0 (L : List (Int × List Int)) (hL : L.length ≤ 100000000) : ∀ (d k i : Nat), i + d = L.length → d < k → stemmalaw04_same.l0 k (L.map (fun p => (⟨p.1, p.2⟩ : S33))) (L.map (fun p => (⟨p.1, p.2⟩ : S36))) (i : Int) = some true
  | d, 0, i, _, h => by omega
  | 0, k + 1, i, hi, _ => by
    rw [stemmalaw04_same.l0, if_neg (by simp; omega)]
  | d + 1, k + 1, i, hi, hk => by
    have hlt : i < L.length := by omega
    have r1 : rd_T33 (L.map (fun p => (⟨p.1, p.2⟩ : S33))) (i : Int) = ⟨L[i].1, L[i].2⟩ := by simp [rd_T33, List.getD_eq_getElem?_getD, hlt]
    have r2 : rd_T36 (L.map (fun p => (⟨p.1, p.2⟩ : S36))) (i : Int) = ⟨L[i].1, L[i].2⟩ := by simp [rd_T36, List.getD_eq_getElem?_getD, hlt]
    rw [stemmalaw04_same.l0, if_pos (by simp; omega), if_pos (by omega), if_pos (by simp; omega), r1, r2, if_pos rfl, if_pos rfl, show wrap64 ((i : Int) + 1) = ((i + 1 : Nat) : Int) from w64a i 1 (by omega)]
    exact same_l0 L hL d k (i + 1) (by omega) (by omega)
theorem scan_f (b : List Int) (hb : ∀ x ∈ b, isByte x) (hl : b.length ≤ 1048576) {k : Nat} (hk : b.length + 1 ≤ k) : frame_Scan.f k b = some ((scan (b.length + 1) b 0).1.map (fun p => (⟨p.1, p.2⟩ : S33)), ((scan (b.length + 1) b 0).2.1 : Int), (scan (b.length + 1) b 0).2.2) := by
  have := scan_l0 b hb hl (b.length + 1) k 0 [] (by omega) (by omega) hk (by simp)
  rw [List.nil_append] at this
  exact this
end Go.Proofs.YtonpiacnljcohaaDoor.FrT
namespace Go.Proofs.YtonpiacnljcohaaDoor.Pure
open Go Go.RowKit Go.Proofs.YtonpiacnljcohaaDoor.PA Go.Proofs.YtonpiacnljcohaaDoorW.PrintWords Go.Proofs.YtonpiacnljcohaaDoor.LebT Go.Proofs.YtonpiacnljcohaaDoor.LebP Go.Proofs.YtonpiacnljcohaaDoor.FrT
theorem map_ones {α : Type} (l : List α) : (l.map (fun _ => 1)).sum = l.length := by
  induction l with
  | nil => rfl
  | cons x r ih => simp only [List.map_cons, List.sum_cons, List.length_cons, ih]; omega
theorem FrameScans (a0 : (List Int)) (q0 : a0.length ≤ maxLen ∧ ∀ y22 ∈ a0, (Lit.int .u8 y22).wf = true) (b0 : (a0.map (fun y22 => 1)).sum + 1 ≤ 1048576) : ∃ k, PA.stemmalaw04_FrameScans.f k a0 = some true := by
  rw [map_ones] at b0
  have hb := wf_bytes q0.2
  have hl : a0.length ≤ 1048575 := by omega
  clear q0 b0
  refine ⟨13000000, ?_⟩
  unfold stemmalaw04_FrameScans.f stemmaref04_Scan.f stemmalaw04_same.f
  have h2 := rscan_l0 a0 hb (by omega) (a0.length + 1) 13000000 0 [] (by omega) (by omega) (by omega) (by simp)
  rw [show ((0 : Nat) : Int) = 0 from rfl, List.nil_append] at h2
  rw [scan_f a0 hb (by omega) (by omega), Option.bind_some, h2, Option.bind_some]
  have h3 := scan_len a0 hb (a0.length + 1) 0
  simp only
  rw [if_pos (by simp)]
  have h4 := same_l0 (scan (a0.length + 1) a0 0).1 (by omega) (scan (a0.length + 1) a0 0).1.length 13000000 0 (by omega) (by omega)
  rw [show ((0 : Nat) : Int) = 0 from rfl] at h4
  rw [h4]
  simp only [Option.bind_some, if_true]
  rw [awake_f (by omega), Option.bind_some]
end Go.Proofs.YtonpiacnljcohaaDoor.Pure
