/- Own texts of this claim, one behind the other (wip/tools/merge.py). -/
import Derived.Test.YtonpiacnljcohaaDoorMFrB24
import Derived.Test.YtonpiacnljcohaaDoorMFrB27
import Derived.Test.YtonpiacnljcohaaDoorMFrB25
import Derived.Test.YtonpiacnljcohaaDoorMFrB21
import Derived.Test.YtonpiacnljcohaaDoorMFrB26
/- The reference's Open; the closed case. -/
set_option linter.unusedVariables false
set_option linter.unusedSimpArgs false
namespace Go.Proofs.YtonpiacnljcohaaDoor.FrT
open Go Go.RowKit Go.Proofs.YtonpiacnljcohaaDoor.PA Go.Proofs.YtonpiacnljcohaaDoorW.PrintWords Go.Proofs.YtonpiacnljcohaaDoor.LebT Go.Proofs.YtonpiacnljcohaaDoor.LebP Go.Proofs.YtonpiacnljcohaaDoor.ColT
theorem all_drop {b : List Int} (hb : ∀ x ∈ b, isByte x) (k : Nat) : ∀ x ∈ b.drop k, isByte x := fun x hx => hb x (List.mem_of_mem_drop hx)
theorem w64n (n : Nat) (h : n < 4611686018427387904) : wrap64 (n : Int) = (n : Int) := by unfold wrap64; omega
theorem ropen_f (b : List Int) (hb : ∀ x ∈ b, isByte x) (hl : b.length ≤ 140737488351232) {k : Nat} (hk : 11000000 ≤ k) : stemmaref04_Open.f k b = some (opn b) := by
  unfold stemmaref04_Open.f opn
  by_cases h0 : b.length = 0
  · rw [if_pos (by omega), if_pos h0]
  rw [if_neg (by omega), if_neg h0, if_pos (by omega)]
  by_cases h1 : rd b 0 = 0
  · rw [if_pos h1, if_pos h1]
  rw [if_neg h1, if_neg h1, if_pos (by omega)]
  have hbd : ∀ x ∈ b.drop 1, isByte x := all_drop hb 1
  rw [rgetU_f (by omega) hbd, Option.bind_some]
  by_cases h2 : (gU 0 0 (b.drop 1)).2.2 = 0
  · obtain ⟨v, j, hg, hv, hk0, hkl, hk10, _, _⟩ := gU_rng hbd h2
    rw [hg]
    simp only [if_true, gt_iff_lt]
    by_cases h3 : (1048576 : Int) < (v : Int)
    · rw [if_pos h3, if_pos h3]
    rw [if_neg h3, if_neg h3]
    rw [show wrap64 (1 + (j : Int)) = ((1 + j : Nat) : Int) from w64a 1 j (by omega), w64n v (by omega), show wrap64 (((1 + j : Nat) : Int) + (v : Int)) = ((1 + j + v : Nat) : Int) from w64a (1 + j) v (by omega), show wrap64 (((1 + j + v : Nat) : Int) + 4) = ((1 + j + v + 4 : Nat) : Int) from w64a (1 + j + v) 4 (by omega)]
    by_cases h4 : (b.length : Int) < 1 + (j : Int) + (v : Int) + 4
    · rw [if_pos (show (b.length : Int) < ((1 + j + v + 4 : Nat) : Int) by omega), if_pos h4]
    rw [if_neg (show ¬ (b.length : Int) < ((1 + j + v + 4 : Nat) : Int) by omega), if_neg h4]
    have e1 : (1 + (j : Int) + (v : Int)).toNat = 1 + j + v := by omega
    have e2 : (1 + (j : Int) + (v : Int) + 4).toNat = 1 + j + v + 4 := by omega
    have e3 : (1 + (j : Int)).toNat = 1 + j := by omega
    have l1 : (b.take (1 + j + v)).length = 1 + j + v := by rw [List.length_take]; omega
    simp only [Option.bind_some, List.nil_append, List.length_nil, Int.toNat_natCast, e1, e2, e3]
    rw [if_pos (by omega), if_pos (by omega), if_pos (by omega), summed_f _ (take_byte hb _) (by omega) (by omega), Option.bind_some, if_pos (by omega), if_pos (by omega)]
    have hs := strEq (a := b.take (1 + j + v) ++ le4 (crcN (b.take (1 + j + v)))) (b := b.take (1 + j + v + 4)) (by
      intro x hx
      rcases List.mem_append.1 hx with hx | hx
      · exact take_byte hb _ x hx
      · exact le4_bytes _ x hx) (take_byte hb _)
    by_cases h5 : b.take (1 + j + v + 4) = b.take (1 + j + v) ++ le4 (crcN (b.take (1 + j + v)))
    · rw [if_pos h5, if_pos (hs.2 h5.symm), if_pos (by omega), if_pos (by omega), if_pos (by rw [List.length_drop]; omega)]
      rw [show ((1 + j + v + 4 : Nat) : Int) = 1 + (j : Int) + (v : Int) + 4 by omega]
    · rw [if_neg h5, if_neg (fun h => h5 (hs.1 h).symm)]
  · rw [if_neg h2, if_neg h2]
theorem crc_h : crcN [1, 1, 97] = 3710768042 := by simp [crcN, b8, b4, bs]
theorem crc_a : crcN [97] = 3904355907 := by simp [crcN, b8, b4, bs]
theorem sealed_a : sealed 1 [97] = [1, 1, 97, 170, 211, 45, 221] := by
  unfold sealed head
  rw [show ([97] : List Int).length = 1 from rfl, putU_small (by omega)]
  have h := crc_h
  rw [show (1 : Int) :: ([((1 : Nat) : Int)] ++ [97]) = [1, 1, 97] from rfl, h]
  decide +kernel
theorem opn_a : opn [1, 1, 97, 170, 211, 45, 221] = (1, [97], 7, 0) := by
  have hg : gU 0 0 (([1, 1, 97, 170, 211, 45, 221] : List Int).drop 1) = (1, 1, 0) := by decide +kernel
  unfold opn
  rw [hg]
  rw [if_neg (by simp), if_neg (by decide), if_pos rfl, if_neg (by omega), if_neg (by simp)]
  rw [show ((1 : Int) + (1, 1, 0).2.1 + (1, 1, 0).1).toNat = 3 from rfl, show ((1 : Int) + (1, 1, 0).2.1 + (1, 1, 0).1 + 4).toNat = 7 from rfl, show ((1 : Int) + (1, 1, 0).2.1).toNat = 2 from rfl]
  rw [show ([1, 1, 97, 170, 211, 45, 221] : List Int).take 3 = [1, 1, 97] from rfl, crc_h]
  rfl
theorem byte97 : ∀ x ∈ ([97] : List Int), isByte x := by
  intro x hx
  simp at hx
  subst hx
  exact ⟨by omega, by omega⟩
theorem byteA : ∀ x ∈ ([1, 1, 97, 170, 211, 45, 221] : List Int), isByte x := by
  intro x hx
  simp at hx
  unfold isByte
  omega
theorem awake_f {k : Nat} (hk : 11000000 ≤ k) : stemmalaw04_awake.f k = some true := by
  unfold stemmalaw04_awake.f
  rw [seal_f 1 [97] ⟨by omega, by omega⟩ byte97 (by omega), Option.bind_some, sealR, if_neg (by omega), if_neg (by simp), sealed_a, open_f _ byteA (by simp), Option.bind_some, opn_a, crc_f _ byte97 (by simp), crc_a]
  simp only [Option.bind_some]
  have e1 : (([1, 1, 97, 170, 211, 45, 221] : List Int).length : Int) = 7 := rfl
  have e2 : (strOfNums [97]).toList = ([97] : List UInt8) := by decide +kernel
  have e3 : ((3904355907 : Nat) : Int) = 3904355907 := rfl
  simp only [e1, e2, e3, if_true]
theorem wf_bytes {l : List Int} (h : ∀ y ∈ l, (Lit.int .u8 y).wf = true) : ∀ y ∈ l, isByte y := fun y hy => wf_u8 (h y hy)
end Go.Proofs.YtonpiacnljcohaaDoor.FrT

/- Frames behind one another: what is read. -/
set_option linter.unusedVariables false
set_option linter.unusedSimpArgs false
namespace Go.Proofs.YtonpiacnljcohaaDoor.FrT
open Go Go.RowKit Go.Proofs.YtonpiacnljcohaaDoor.PA Go.Proofs.YtonpiacnljcohaaDoorW.PrintWords Go.Proofs.YtonpiacnljcohaaDoor.LebT Go.Proofs.YtonpiacnljcohaaDoor.LebP Go.Proofs.YtonpiacnljcohaaDoor.ColT
theorem opn_used (b : List Int) (hb : ∀ x ∈ b, isByte x) (h : (opn b).2.2.2 = 0) : ∃ u : Nat, (opn b).2.2.1 = (u : Int) ∧ 0 < u ∧ u ≤ b.length := by
  unfold opn at h ⊢
  by_cases h0 : b.length = 0
  · rw [if_pos h0] at h; simp at h
  rw [if_neg h0] at h ⊢
  by_cases h1 : rd b 0 = 0
  · rw [if_pos h1] at h; simp at h
  rw [if_neg h1] at h ⊢
  by_cases h2 : (gU 0 0 (b.drop 1)).2.2 = 0
  · rw [if_pos h2] at h ⊢
    obtain ⟨v, j, hg, hv, hk0, hkl, hk10, _, _⟩ := gU_rng (all_drop hb 1) h2
    rw [hg] at h ⊢
    simp only at h ⊢
    by_cases h3 : (1048576 : Int) < (v : Int)
    · rw [if_pos h3] at h; simp at h
    rw [if_neg h3] at h ⊢
    by_cases h4 : (b.length : Int) < 1 + (j : Int) + (v : Int) + 4
    · rw [if_pos h4] at h; simp at h
    rw [if_neg h4] at h ⊢
    split at h
    · rename_i h5
      rw [if_pos h5]
      exact ⟨1 + j + v + 4, by simp, by omega, by omega⟩
    · simp at h
  · rw [if_neg h2] at h
    exact absurd h h2
/-- Frame behind frame, from a place on. -/
def scan : Nat → List Int → Nat → List (Int × List Int) × Nat × Int
  | 0, _, i => ([], i, 99)
  | d + 1, b, i =>
    if (opn (b.drop i)).2.2.2 = 0 then
      ((((opn (b.drop i)).1, (opn (b.drop i)).2.1)) :: (scan d b (i + (opn (b.drop i)).2.2.1.toNat)).1, (scan d b (i + (opn (b.drop i)).2.2.1.toNat)).2)
    else if (opn (b.drop i)).2.2.2 = 22 then ([], i, 0) else ([], i, (opn (b.drop i)).2.2.2)
theorem scan_l0 (b : List Int) (hb : ∀ x ∈ b, isByte x) (hl : b.length ≤ 100000000) : ∀ (d k i : Nat) (acc : List S33), b.length < i + d → i ≤ b.length → d ≤ k → acc.length ≤ i →
    frame_Scan.l0 k b acc (i : Int) = some (acc ++ (scan d b i).1.map (fun p => (⟨p.1, p.2⟩ : S33)), ((scan d b i).2.1 : Int), (scan d b i).2.2)
  | 0, k, i, acc, h1, h2, _, _ => by omega
  | d + 1, 0, i, acc, _, _, h, _ => by omega
  | d + 1, k + 1, i, acc, h1, h2, h3, h4 => by
    have hd := all_drop hb i
    rw [frame_Scan.l0, if_pos (by omega), if_pos (by omega), Int.toNat_natCast, open_f _ hd (by rw [List.length_drop]; omega), Option.bind_some, scan]
    by_cases e0 : (opn (b.drop i)).2.2.2 = 0
    · obtain ⟨u, hu, hu0, hul⟩ := opn_used _ hd e0
      rw [List.length_drop] at hul
      rw [if_pos e0, if_pos e0, if_pos (by omega), hu, show wrap64 ((i : Int) + (u : Int)) = ((i + u : Nat) : Int) from w64a i u (by omega), Int.toNat_natCast]
      rw [scan_l0 b hb hl d k (i + u) _ (by omega) (by omega) (by omega) (by simp; omega)]
      simp
    · rw [if_neg e0, if_neg e0]
      by_cases e1 : (opn (b.drop i)).2.2.2 = 22
      · rw [if_pos e1, if_pos e1]; simp
      · rw [if_neg e1, if_neg e1]; simp
theorem scan_len (b : List Int) (hb : ∀ x ∈ b, isByte x) : ∀ (d i : Nat), (scan d b i).1.length ≤ d
  | 0, i => by simp [scan]
  | d + 1, i => by
    rw [scan]
    split
    · have := scan_len b hb d (i + (opn (b.drop i)).2.2.1.toNat)
      simp only [List.length_cons]; omega
    · split <;> simp
theorem scan_f (b : List Int) (hb : ∀ x ∈ b, isByte x) (hl : b.length ≤ 100000000) {k : Nat} (hk : b.length + 1 ≤ k) : frame_Scan.f k b = some ((scan (b.length + 1) b 0).1.map (fun p => (⟨p.1, p.2⟩ : S33)), ((scan (b.length + 1) b 0).2.1 : Int), (scan (b.length + 1) b 0).2.2) := by
  have := scan_l0 b hb hl (b.length + 1) k 0 [] (by omega) (by omega) hk (by simp)
  rw [List.nil_append] at this
  exact this
end Go.Proofs.YtonpiacnljcohaaDoor.FrT

/- Frames that are laid behind one another, whole and cut off. -/
set_option linter.unusedVariables false
set_option linter.unusedSimpArgs false
namespace Go.Proofs.YtonpiacnljcohaaDoor.FrT
open Go Go.RowKit Go.Proofs.YtonpiacnljcohaaDoor.PA Go.Proofs.YtonpiacnljcohaaDoorW.PrintWords Go.Proofs.YtonpiacnljcohaaDoor.LebT Go.Proofs.YtonpiacnljcohaaDoor.LebP Go.Proofs.YtonpiacnljcohaaDoor.ColT
theorem rd_head (x : Int) (r : List Int) : rd (x :: r) 0 = x := rfl
theorem opn_sealed (a : Int) (l r : List Int) (ha0 : a ≠ 0) (hl : l.length ≤ 1048576) : opn (sealed a l ++ r) = (a, l, ((sealed a l).length : Int), 0) := by
  have hb : sealed a l ++ r = a :: (putU l.length ++ (l ++ (le4 (crcN (head a l)) ++ r))) := by simp [sealed, head]
  have hp := putU_len64 (n := l.length) (by omega)
  have hpp := putU_len_pos l.length
  have hg : gU 0 0 ((sealed a l ++ r).drop 1) = ((l.length : Int), ((putU l.length).length : Int), 0) := by
    rw [hb, List.drop_one, List.tail_cons]
    have := gU_put l.length 0 0 (l ++ (le4 (crcN (head a l)) ++ r)) (by omega) (by simp) (by simp; omega)
    simpa using this
  have hh : (head a l).length = 1 + (putU l.length).length + l.length := by simp [head]; omega
  have hs : (sealed a l).length = (head a l).length + 4 := by simp [sealed, le4_len]
  unfold opn
  rw [hg]
  have e1 : (1 + ((putU l.length).length : Int) + (l.length : Int)).toNat = (head a l).length := by omega
  have e2 : (1 + ((putU l.length).length : Int) + (l.length : Int) + 4).toNat = (sealed a l).length := by omega
  have e3 : (1 + ((putU l.length).length : Int)).toNat = (a :: putU l.length).length := by simp; omega
  have t1 : (sealed a l ++ r).take (head a l).length = head a l := by
    unfold sealed
    rw [List.append_assoc, List.take_left']
    rfl
  have t2 : (sealed a l ++ r).take (sealed a l).length = sealed a l := List.take_left' rfl
  simp only [e1, e2, e3, t1, t2, if_true]
  rw [if_neg (by rw [List.length_append]; omega), if_neg (by rw [hb, rd_head]; exact ha0), if_neg (by omega), if_neg (by rw [List.length_append]; omega), if_pos (show sealed a l = head a l ++ le4 (crcN (head a l)) from rfl)]
  rw [hb, rd_head]
  have t3 : (head a l).drop (a :: putU l.length).length = l := by
    unfold head
    rw [← List.cons_append, List.drop_left']
    rfl
  rw [t3]
  simp only [Prod.mk.injEq, true_and, and_true]
  omega
theorem gU_cut (m : Nat) : ∀ (i n t : Nat), i + (putU m).length ≤ 10 → t < (putU m).length → gU i n ((putU m).take t) = (0, 0, 3) := by
  induction m using Nat.strongRecOn with
  | _ m ih =>
    intro i n t hi ht
    cases t with
    | zero => rw [List.take_zero]; rfl
    | succ t =>
      by_cases hm : m < 128
      · rw [putU_small hm] at ht; simp at ht
      · rw [putU_big hm] at hi ht ⊢
        simp only [List.length_cons] at hi ht
        have hpos := putU_len_pos (m / 128)
        rw [List.take_succ_cons, gU, if_neg (by omega), if_neg (by omega)]
        exact ih (m / 128) (by omega) (i + 1) _ t (by omega) (by omega)
theorem opn_cut (a : Int) (l : List Int) (ha0 : a ≠ 0) (hl : l.length ≤ 1048576) (j : Nat) (h0 : 0 < j) (hj : j < (sealed a l).length) : opn ((sealed a l).take j) = (0, [], 0, 3) := by
  have hb : sealed a l = a :: (putU l.length ++ (l ++ le4 (crcN (head a l)))) := by simp [sealed, head]
  have hp := putU_len64 (n := l.length) (by omega)
  have hh : (head a l).length = 1 + (putU l.length).length + l.length := by simp [head]; omega
  have hs : (sealed a l).length = (head a l).length + 4 := by simp [sealed, le4_len]
  have hlen : ((sealed a l).take j).length = j := by rw [List.length_take]; omega
  obtain ⟨j', rfl⟩ : ∃ j', j = j' + 1 := ⟨j - 1, by omega⟩
  have hd : ((sealed a l).take (j' + 1)) = a :: ((putU l.length ++ (l ++ le4 (crcN (head a l)))).take j') := by rw [hb, List.take_succ_cons]
  unfold opn
  rw [if_neg (by omega), if_neg (by rw [hd, rd_head]; exact ha0)]
  have hdr : ((sealed a l).take (j' + 1)).drop 1 = (putU l.length ++ (l ++ le4 (crcN (head a l)))).take j' := by rw [hd]; rfl
  rw [hdr]
  by_cases hc : j' < (putU l.length).length
  · rw [List.take_append_of_le_length (by omega), gU_cut l.length 0 0 j' (by omega) hc]
    rfl
  · have hg : gU 0 0 ((putU l.length ++ (l ++ le4 (crcN (head a l)))).take j') = ((l.length : Int), ((putU l.length).length : Int), 0) := by
      rw [List.take_append, List.take_of_length_le (by omega)]
      have := gU_put l.length 0 0 ((l ++ le4 (crcN (head a l))).take (j' - (putU l.length).length)) (by omega) (by simp) (by simp; omega)
      simpa using this
    rw [hg]
    simp only [if_true]
    rw [if_neg (by omega), if_pos (by rw [hlen]; omega)]
def kp (p : S52) : Int × List Int := (mx p.f0 1, p.f1)
def sl (p : S52) : List Int := sealed (mx p.f0 1) p.f1
def Lay (ps : List S52) : List Int := (ps.map sl).flatten
def Good (p : S52) : Prop := isByte p.f0 ∧ (∀ x ∈ p.f1, isByte x) ∧ p.f1.length ≤ 1048576
theorem mx_ne {a : Int} (h : isByte a) : mx a 1 ≠ 0 ∧ isByte (mx a 1) := by
  obtain ⟨h0, h1⟩ := h
  unfold mx isByte
  split <;> omega
theorem sl_len_pos (p : S52) : 0 < (sl p).length := by simp [sl, sealed, le4_len]
theorem sl_bytes {p : S52} (h : Good p) : ∀ x ∈ sl p, isByte x := by
  intro x hx
  rcases List.mem_append.1 hx with hx | hx
  · exact head_bytes (mx_ne h.1).2 h.2.1 x hx
  · exact le4_bytes _ x hx
theorem Lay_bytes {ps : List S52} (h : ∀ p ∈ ps, Good p) : ∀ x ∈ Lay ps, isByte x := by
  intro x hx
  simp only [Lay, List.mem_flatten, List.mem_map] at hx
  obtain ⟨q, ⟨p, hp, rfl⟩, hx⟩ := hx
  exact sl_bytes (h p hp) x hx
theorem Lay_cons (p : S52) (ps : List S52) : Lay (p :: ps) = sl p ++ Lay ps := rfl
theorem Lay_len_le (ps : List S52) : ps.length ≤ (Lay ps).length := by
  induction ps with
  | nil => simp
  | cons p ps ih => have := sl_len_pos p; rw [Lay_cons, List.length_append, List.length_cons]; omega
theorem scan_lay (b : List Int) : ∀ (ps : List S52) (d i : Nat) (r : List Int), (∀ p ∈ ps, Good p) → b.drop i = Lay ps ++ r →
    scan (ps.length + d) b i = (ps.map kp ++ (scan d b (i + (Lay ps).length)).1, (scan d b (i + (Lay ps).length)).2)
  | [], d, i, r, _, _ => by simp [Lay]
  | p :: ps, d, i, r, hg, hb => by
    have hp := hg p (by simp)
    have ho : opn (b.drop i) = (mx p.f0 1, p.f1, ((sl p).length : Int), 0) := by
      rw [hb, Lay_cons, List.append_assoc]
      exact opn_sealed _ _ _ (mx_ne hp.1).1 hp.2.2
    have hb' : b.drop (i + (sl p).length) = Lay ps ++ r := by
      rw [← List.drop_drop, hb, Lay_cons, List.append_assoc, List.drop_left' rfl]
    have ih := scan_lay b ps d (i + (sl p).length) r (fun q hq => hg q (by simp [hq])) hb'
    rw [List.length_cons, show ps.length + 1 + d = (ps.length + d) + 1 by omega, scan, ho]
    simp only [if_true, Int.toNat_natCast]
    rw [ih, Lay_cons, List.length_append, Nat.add_assoc]
    rfl
theorem scan_none (b : List Int) (d : Nat) (h : 0 < d) (i : Nat) (hi : b.drop i = []) : scan d b i = ([], i, 0) := by
  obtain ⟨d, rfl⟩ : ∃ d', d = d' + 1 := ⟨d - 1, by omega⟩
  rw [scan, hi]
  rfl
theorem scan_err (b : List Int) (d : Nat) (h : 0 < d) (i : Nat) (e : Int) (hi : (opn (b.drop i)).2.2.2 = e) (h0 : e ≠ 0) (h1 : e ≠ 22) : scan d b i = ([], i, e) := by
  obtain ⟨d, rfl⟩ : ∃ d', d = d' + 1 := ⟨d - 1, by omega⟩
  rw [scan, hi, if_neg h0, if_neg h1]
/-- What is read of frames that are laid, and of what stands behind them. -/
theorem scan_then (b : List Int) (ps : List S52) (r : List Int) (hg : ∀ p ∈ ps, Good p) (hb : b = Lay ps ++ r) (e : Int)
    (he : (r = [] ∧ e = 0) ∨ ((opn r).2.2.2 = e ∧ e ≠ 0 ∧ e ≠ 22)) : scan (b.length + 1) b 0 = (ps.map kp, (Lay ps).length, e) := by
  have hle := Lay_len_le ps
  have hbl : b.length = (Lay ps).length + r.length := by rw [hb, List.length_append]
  have hd : b.drop (Lay ps).length = r := by rw [hb, List.drop_left' rfl]
  have h1 := scan_lay b ps (b.length + 1 - ps.length) 0 r hg (by rw [List.drop_zero]; exact hb)
  rw [show ps.length + (b.length + 1 - ps.length) = b.length + 1 by omega, Nat.zero_add] at h1
  rw [h1]
  rcases he with ⟨hr, rfl⟩ | ⟨ho, h0, h22⟩
  · rw [scan_none b _ (by omega) _ (by rw [hd, hr])]
    simp
  · rw [scan_err b _ (by omega) _ e (by rw [hd]; exact ho) h0 h22]
    simp
def E (ps : List S52) (i : Nat) : Nat := (Lay (ps.take i)).length
def ends (ps : List S52) : List Int := (List.range ps.length).map fun j => ((E ps (j + 1) : Nat) : Int)
theorem Lay_take_succ (ps : List S52) (i : Nat) (h : i < ps.length) : Lay (ps.take (i + 1)) = Lay (ps.take i) ++ sl ps[i] := by
  rw [List.take_succ_eq_append_getElem h, Lay, Lay, List.map_append, List.flatten_append]
  simp
theorem Lay_split (ps : List S52) (i : Nat) : Lay ps = Lay (ps.take i) ++ Lay (ps.drop i) := by
  conv => lhs; rw [← List.take_append_drop i ps]
  rw [Lay, Lay, Lay, List.map_append, List.flatten_append]
theorem E_le (ps : List S52) (i : Nat) : E ps i ≤ (Lay ps).length := by
  rw [Lay_split ps i, List.length_append]
  exact Nat.le_add_right _ _
theorem E_succ (ps : List S52) (i : Nat) (h : i < ps.length) : E ps (i + 1) = E ps i + (sl ps[i]).length := by
  unfold E
  rw [Lay_take_succ ps i h, List.length_append]
theorem E_all (ps : List S52) : E ps ps.length = (Lay ps).length := by unfold E; rw [List.take_length]
theorem rd52 (ps : List S52) (i : Nat) (h : i < ps.length) : rd_T52 ps (i : Int) = ps[i] := by simp [rd_T52, List.getD_eq_getElem?_getD, h]
theorem laid_l0 (ps : List S52) (hg : ∀ p ∈ ps, Good p) (hL : (Lay ps).length ≤ 100000000) : ∀ (d k i : Nat), i + d = ps.length → d + 20 ≤ k →
    stemmalaw04_laid.l0 k ps (Lay (ps.take i)) ((List.range i).map fun j => ((E ps (j + 1) : Nat) : Int)) (i : Int) = some (Lay ps, ends ps, true)
  | d, 0, i, _, h => by omega
  | 0, k + 1, i, hi, _ => by
    rw [stemmalaw04_laid.l0, if_neg (by omega), List.take_of_length_le (by omega), ends, show i = ps.length by omega]
  | d + 1, k + 1, i, hi, hk => by
    have hlt : i < ps.length := by omega
    have hp := hg ps[i] (List.getElem_mem hlt)
    have hle := Lay_len_le ps
    have hs : sealR (mx ps[i].f0 1) ps[i].f1 = (sl ps[i], 0) := by
      unfold sealR
      rw [if_neg (mx_ne hp.1).1, if_neg (by have := hp.2.2; omega)]
      rfl
    have h1 := E_succ ps i hlt
    have h2 := E_le ps (i + 1)
    have ih := laid_l0 ps hg hL d k (i + 1) (by omega) (by omega)
    rw [stemmalaw04_laid.l0, if_pos (by omega), if_pos (by omega), rd52 ps i hlt, seal_f _ _ (mx_ne hp.1).2 hp.2.1 (by omega), hs]
    simp only [Option.bind_some, if_true]
    have h3 : (Lay (ps.take i)).length = E ps i := rfl
    rw [if_pos (by omega), if_pos (by simp; omega), show wrap64 ((i : Int) + 1) = ((i + 1 : Nat) : Int) from w64a i 1 (by omega)]
    rw [← Lay_take_succ ps i hlt]
    rw [List.range_succ, List.map_append] at ih
    exact ih
theorem laid_f (ps : List S52) (hg : ∀ p ∈ ps, Good p) (hL : (Lay ps).length ≤ 100000000) {k : Nat} (hk : ps.length + 20 ≤ k) : stemmalaw04_laid.f k ps = some (Lay ps, ends ps, true) := by
  exact laid_l0 ps hg hL ps.length k 0 (by omega) hk
theorem whole_l0 (ps : List S52) (n : Nat) (hn : n ≤ ps.length) (hb : ps.length ≤ 100000000) : ∀ (d k i : Nat), i + d = n → d < k →
    stemmalaw04_whole.l0 k ((((ps.take n).map kp)).map (fun p => (⟨p.1, p.2⟩ : S33))) ps (i : Int) = some true
  | d, 0, i, _, h => by omega
  | 0, k + 1, i, hi, _ => by
    rw [stemmalaw04_whole.l0, if_neg (by simp; omega)]
  | d + 1, k + 1, i, hi, hk => by
    have hlt : i < ps.length := by omega
    have hin : i < n := by omega
    have r1 : rd_T33 ((((ps.take n).map kp)).map (fun p => (⟨p.1, p.2⟩ : S33))) (i : Int) = ⟨mx ps[i].f0 1, ps[i].f1⟩ := by simp [rd_T33, List.getD_eq_getElem?_getD, hlt, hin, kp]
    rw [stemmalaw04_whole.l0, if_pos (by simp; omega), if_pos (by omega), if_pos (by omega), r1, rd52 ps i hlt, if_pos rfl, if_pos rfl, show wrap64 ((i : Int) + 1) = ((i + 1 : Nat) : Int) from w64a i 1 (by omega)]
    exact whole_l0 ps n hn hb d k (i + 1) (by omega) (by omega)
theorem whole_f (ps : List S52) (n : Nat) (hn : n ≤ ps.length) (hb : ps.length ≤ 100000000) {k : Nat} (hk : ps.length < k) : stemmalaw04_whole.f k ((((ps.take n).map kp)).map (fun p => (⟨p.1, p.2⟩ : S33))) ps = some true := by
  unfold stemmalaw04_whole.f
  rw [if_neg (by simp; omega)]
  exact whole_l0 ps n hn hb n k 0 (by omega) (by omega)
theorem mem_sum {α : Type} (f : α → Nat) (l : List α) (x : α) (h : x ∈ l) : f x ≤ (l.map f).sum := by
  induction l with
  | nil => cases h
  | cons y r ih =>
    rw [List.map_cons, List.sum_cons]
    rcases List.mem_cons.1 h with rfl | h
    · omega
    · have := ih h; omega
theorem ones {α : Type} (l : List α) : (l.map (fun _ => 1)).sum = l.length := by
  induction l with
  | nil => rfl
  | cons x r ih => simp only [List.map_cons, List.sum_cons, List.length_cons, ih]; omega
theorem Lay_bulk (ps : List S52) (hg : ∀ p ∈ ps, p.f1.length ≤ 1048576) : (Lay ps).length ≤ 8 * (ps.map (fun y47 => (1) + ((y47.f1.map (fun y22 => 1)).sum + 1) + 1)).sum := by
  induction ps with
  | nil => simp [Lay]
  | cons p ps ih =>
    have hp := hg p (by simp)
    have := ih (fun q hq => hg q (by simp [hq]))
    have hh := putU_len64 (n := p.f1.length) (by omega)
    have hl : (sl p).length = 1 + (putU p.f1.length).length + p.f1.length + 4 := by simp [sl, sealed, head, le4_len]; omega
    rw [Lay_cons, List.length_append, List.map_cons, List.sum_cons, ones, hl]
    omega
theorem pieces_good (ps : List S52) (q0 : ps.length ≤ maxLen ∧ ∀ y47 ∈ ps, ((Lit.int .u8 y47.f0).wf = true) ∧ y47.f1.length ≤ maxLen ∧ ∀ y22 ∈ y47.f1, (Lit.int .u8 y22).wf = true)
    (b0 : (ps.map (fun y47 => (1) + ((y47.f1.map (fun y22 => 1)).sum + 1) + 1)).sum + 1 ≤ 1048576) : (∀ p ∈ ps, Good p) ∧ (Lay ps).length ≤ 8388608 := by
  have hlen : ∀ p ∈ ps, p.f1.length ≤ 1048576 := by
    intro p hp
    have := mem_sum (fun y47 : S52 => (1) + ((y47.f1.map (fun y22 => 1)).sum + 1) + 1) ps p hp
    simp only [ones] at this b0
    omega
  refine ⟨fun p hp => ⟨wf_u8 (q0.2 p hp).1, wf_bytes (q0.2 p hp).2.2, hlen p hp⟩, ?_⟩
  have := Lay_bulk ps hlen
  omega
end Go.Proofs.YtonpiacnljcohaaDoor.FrT

/- Frames that are laid are read again; cut off anywhere, those that are whole. -/
set_option linter.unusedVariables false
set_option linter.unusedSimpArgs false
namespace Go.Proofs.YtonpiacnljcohaaDoor.FrT
open Go Go.RowKit Go.Proofs.YtonpiacnljcohaaDoor.PA Go.Proofs.YtonpiacnljcohaaDoorW.PrintWords Go.Proofs.YtonpiacnljcohaaDoor.LebT Go.Proofs.YtonpiacnljcohaaDoor.LebP Go.Proofs.YtonpiacnljcohaaDoor.ColT
/-- Cut off at c: i frames are whole. -/
theorem scan_cut (ps : List S52) (hg : ∀ p ∈ ps, Good p) (c i : Nat) (hi : i ≤ ps.length) (h1 : E ps i ≤ c) (hc : c ≤ (Lay ps).length) (h2 : i = ps.length ∨ (i < ps.length ∧ c < E ps (i + 1))) :
    scan (((Lay ps).take c).length + 1) ((Lay ps).take c) 0 = ((ps.take i).map kp, E ps i, if E ps i = c then 0 else 3) := by
  have hgi : ∀ p ∈ ps.take i, Good p := fun p hp => hg p (List.mem_of_mem_take hp)
  have hEi : E ps i = (Lay (ps.take i)).length := rfl
  refine scan_then _ (ps.take i) ((Lay (ps.drop i)).take (c - E ps i)) hgi ?_ _ ?_
  · conv => lhs; rw [Lay_split ps i]
    rw [List.take_append, List.take_of_length_le (by omega), hEi]
  · by_cases he : E ps i = c
    · exact .inl ⟨by rw [he, Nat.sub_self, List.take_zero], if_pos he⟩
    · rcases h2 with rfl | ⟨hlt, h2⟩
      · have := E_all ps; omega
      · refine .inr ⟨?_, by rw [if_neg he]; omega, by rw [if_neg he]; omega⟩
        have hp := hg ps[i] (List.getElem_mem hlt)
        have hs := E_succ ps i hlt
        rw [List.drop_eq_getElem_cons hlt, Lay_cons, List.take_append_of_le_length (by omega), if_neg he]
        have := opn_cut (mx ps[i].f0 1) ps[i].f1 (mx_ne hp.1).1 hp.2.2 (c - E ps i) (by omega) (by unfold sl at hs; omega)
        unfold sl
        rw [this]
theorem rd_ends (ps : List S52) (i : Nat) (h : i < ps.length) : rd (ends ps) (i : Int) = ((E ps (i + 1) : Nat) : Int) := by
  simp [rd, ends, List.getD_eq_getElem?_getD, h]
theorem ends_len (ps : List S52) : (ends ps).length = ps.length := by simp [ends]
theorem back_fin (ps : List S52) (hg : ∀ p ∈ ps, Good p) (hL : (Lay ps).length ≤ 8388608) (c i : Nat) (hi : i ≤ ps.length) (h1 : E ps i ≤ c) (hc : c ≤ (Lay ps).length) (h2 : i = ps.length ∨ (i < ps.length ∧ c < E ps (i + 1))) (k : Nat) (hk : 11000000 ≤ k) :
    frame_Scan.f k ((Lay ps).take c) = some (((ps.take i).map kp).map (fun p => (⟨p.1, p.2⟩ : S33)), ((E ps i : Nat) : Int), if E ps i = c then 0 else 3) ∧ ((((ps.take i).map kp).map (fun p => (⟨p.1, p.2⟩ : S33))).length = i) ∧
    stemmalaw04_whole.f k (((ps.take i).map kp).map (fun p => (⟨p.1, p.2⟩ : S33))) ps = some true := by
  have hle := Lay_len_le ps
  refine ⟨?_, by simp; omega, whole_f ps i hi (by omega) (by omega)⟩
  rw [scan_f _ (fun x hx => Lay_bytes hg x (List.mem_of_mem_take hx)) (by rw [List.length_take]; omega) (by rw [List.length_take]; omega), scan_cut ps hg c i hi h1 hc h2]
theorem back_l1 (ps : List S52) (hg : ∀ p ∈ ps, Good p) (hL : (Lay ps).length ≤ 8388608) (c : Nat) (hc : c ≤ (Lay ps).length) : ∀ (d k i : Nat), i + d = ps.length → d + 11000001 ≤ k → E ps i ≤ c →
    stemmalaw04_FrameBack.l1 k ps (Lay ps) (ends ps) (c : Int) (i : Int) ((E ps i : Nat) : Int) (i : Int) = some true
  | d, 0, i, _, h, _ => by omega
  | 0, k + 1, i, hi, hk, he => by
    have hle := Lay_len_le ps
    obtain ⟨f1, f2, f3⟩ := back_fin ps hg hL c i (by omega) he hc (.inl (by omega)) k (by omega)
    rw [stemmalaw04_FrameBack.l1, if_neg (by rw [ends_len]; omega), if_pos (by omega), if_pos (by omega), Int.toNat_natCast, f1]
    simp only [Option.bind_some]
    rw [f2, if_pos rfl, f3]
    simp only [Option.bind_some, if_true]
    rw [awake_f (by omega)]
    by_cases h : E ps i = c
    · rw [if_pos h, if_pos (by simp [h]), if_pos rfl]; rfl
    · rw [if_neg h, if_pos (by simp; omega), if_neg (by omega), if_pos rfl]; rfl
  | d + 1, k + 1, i, hi, hk, he => by
    have hle := Lay_len_le ps
    have hlt : i < ps.length := by omega
    rw [stemmalaw04_FrameBack.l1, if_pos (by rw [ends_len]; omega), if_pos (by omega), rd_ends ps i hlt]
    by_cases hn : E ps (i + 1) ≤ c
    · rw [if_pos (by omega), show wrap64 ((i : Int) + 1) = ((i + 1 : Nat) : Int) from w64a i 1 (by omega)]
      exact back_l1 ps hg hL c hc d k (i + 1) (by omega) (by omega) hn
    · obtain ⟨f1, f2, f3⟩ := back_fin ps hg hL c i (by omega) he hc (.inr ⟨hlt, by omega⟩) k (by omega)
      rw [if_neg (by omega), if_pos (by omega), if_pos (by omega), Int.toNat_natCast, f1]
      simp only [Option.bind_some]
      rw [f2, if_pos rfl, f3]
      simp only [Option.bind_some, if_true]
      rw [awake_f (by omega)]
      by_cases h : E ps i = c
      · rw [if_pos h, if_pos (by simp [h]), if_pos rfl]; rfl
      · rw [if_neg h, if_pos (by simp; omega), if_neg (by omega), if_pos rfl]; rfl
end Go.Proofs.YtonpiacnljcohaaDoor.FrT
namespace Go.Proofs.YtonpiacnljcohaaDoor.Pure
open Go Go.RowKit Go.Proofs.YtonpiacnljcohaaDoor.PA Go.Proofs.YtonpiacnljcohaaDoorW.PrintWords Go.Proofs.YtonpiacnljcohaaDoor.LebT Go.Proofs.YtonpiacnljcohaaDoor.LebP Go.Proofs.YtonpiacnljcohaaDoor.FrT
theorem FrameBack (a0 : (List S52)) (a1 : Int) (q0 : a0.length ≤ maxLen ∧ ∀ y47 ∈ a0, ((Lit.int .u8 y47.f0).wf = true) ∧ y47.f1.length ≤ maxLen ∧ ∀ y22 ∈ y47.f1, (Lit.int .u8 y22).wf = true) (b0 : (a0.map (fun y47 => (1) + ((y47.f1.map (fun y22 => 1)).sum + 1) + 1)).sum + 1 ≤ 1048576) (q1 : (Lit.int .u16 a1).wf = true) : ∃ k, PA.stemmalaw04_FrameBack.f k a0 a1 = some true := by
  obtain ⟨hg, hL⟩ := pieces_good a0 q0 b0
  have ha : 0 ≤ a1 ∧ a1 < 65536 := by
    simp [Lit.wf, IntKind.min, IntKind.max, IntKind.signed, IntKind.bits] at q1
    omega
  clear q0 b0 q1
  obtain ⟨n, rfl⟩ : ∃ n : Nat, a1 = (n : Int) := ⟨a1.toNat, by omega⟩
  have hle := Lay_len_le a0
  obtain ⟨K, hK⟩ : ∃ K : Nat, 29999999 ≤ K := ⟨29999999, Nat.le_refl _⟩
  obtain ⟨f1, f2, f3⟩ := back_fin a0 hg hL (Lay a0).length a0.length (Nat.le_refl _) (E_le _ _) (Nat.le_refl _) (.inl rfl) (K + 1) (by omega)
  rw [List.take_length, List.take_length, E_all, if_pos rfl] at f1
  rw [List.take_length] at f2 f3
  refine ⟨K + 1, ?_⟩
  unfold stemmalaw04_FrameBack.f
  rw [laid_f a0 hg (by omega) (by omega)]
  simp only [Option.bind_some, if_true]
  rw [f1]
  simp only [Option.bind_some]
  rw [f2, if_pos (show (a0.length : Int) = (a0.length : Int) from rfl), f3, Option.bind_some, if_pos (show true = true from rfl), if_pos trivial]
  have e1 : wrap64 (((Lay a0).length : Int) + 1) = (((Lay a0).length + 1 : Nat) : Int) := w64a _ 1 (by omega)
  have e2 : Int.tmod (wrap64 (n : Int)) ((((Lay a0).length + 1 : Nat)) : Int) = ((n % ((Lay a0).length + 1) : Nat) : Int) := by
    rw [w64n n (by omega)]
    exact (Int.ofNat_tmod _ _).symm
  have hm : n % ((Lay a0).length + 1) < (Lay a0).length + 1 := Nat.mod_lt _ (by omega)
  rw [stemmalaw04_FrameBack.j1, if_neg (by simp), e1, e2, if_neg (by omega)]
  have := back_l1 a0 hg hL (n % ((Lay a0).length + 1)) (by omega) a0.length K 0 (by omega) (by omega) (by simp [E, Lay])
  simpa [E, Lay] using this
end Go.Proofs.YtonpiacnljcohaaDoor.Pure
