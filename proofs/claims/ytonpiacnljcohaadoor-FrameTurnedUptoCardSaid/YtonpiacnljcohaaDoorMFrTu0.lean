/- Own texts of this claim, one behind the other (wip/tools/mergelist.py). -/
import Derived.Test.YtonpiacnljcohaaDoorFrR
import Derived.Test.YtonpiacnljcohaaDoorPAx20
import Derived.Test.YtonpiacnljcohaaDoorPAx23
import Derived.Test.YtonpiacnljcohaaDoorPAx24
import Derived.Test.YtonpiacnljcohaaDoorPAx0
import Derived.Test.YtonpiacnljcohaaDoorPAx13
import Derived.Test.YtonpiacnljcohaaDoorPAx17
/- Frames behind one another: what is read. -/
set_option linter.unusedVariables false
set_option linter.unusedSimpArgs false
namespace Go.Proofs.YtonpiacnljcohaaDoor.FrT
open Go Go.RowKit Go.Proofs.YtonpiacnljcohaaDoor.PA Go.Proofs.YtonpiacnljcohaaDoorW.PrintWords Go.Proofs.YtonpiacnljcohaaDoor.LebT Go.Proofs.YtonpiacnljcohaaDoor.LebP Go.Proofs.YtonpiacnljcohaaDoor.ColT
theorem opn_used (b : List Int) (hb : ∀ x ∈ b, isByte x) (h : (opn b).2.2.2 = 0) : ∃ u : Nat, (opn b).2.2.1 = (u : Int) ∧ 0 < u ∧ u ≤ b.length := by
  unfold opn at h ⊢
  by_cases h0 : b.length = 0
  · rw [if_pos h0] at h; simp at h
  rw [if_neg h0] at h ⊢
  by_cases h1 : rd b 0 = 0
  · rw [if_pos h1] at h; simp at h
  rw [if_neg h1] at h ⊢
  by_cases h2 : (gU 0 0 (b.drop 1)).2.2 = 0
  · rw [if_pos h2] at h ⊢
    obtain ⟨v, j, hg, hv, hk0, hkl, hk10, _, _⟩ := gU_rng (all_drop hb 1) h2
    rw [hg] at h ⊢
    simp only at h ⊢
    by_cases h3 : (1048576 : Int) < (v : Int)
    · rw [if_pos h3] at h; simp at h
    rw [if_neg h3] at h ⊢
    by_cases h4 : (b.length : Int) < 1 + (j : Int) + (v : Int) + 4
    · rw [if_pos h4] at h; simp at h
    rw [if_neg h4] at h ⊢
    split at h
    · rename_i h5
      rw [if_pos h5]
      exact ⟨1 + j + v + 4, by simp, by omega, by omega⟩
    · simp at h
  · rw [if_neg h2] at h
    exact absurd h h2
/-- Frame behind frame, from a place on. -/
def scan : Nat → List Int → Nat → List (Int × List Int) × Nat × Int
  | 0, _, i => ([], i, 99)
  | d + 1, b, i =>
    if (opn (b.drop i)).2.2.2 = 0 then
      ((((opn (b.drop i)).1, (opn (b.drop i)).2.1)) :: (scan d b (i + (opn (b.drop i)).2.2.1.toNat)).1, (scan d b (i + (opn (b.drop i)).2.2.1.toNat)).2)
    else if (opn (b.drop i)).2.2.2 = 22 then ([], i, 0) else ([], i, (opn (b.drop i)).2.2.2)
theorem scan_l0 (b : List Int) (hb : ∀ x ∈ b, isByte x) (hl : b.length ≤ 100000000) : ∀ (d k i : Nat) (acc : List S33), b.length < i + d → i ≤ b.length → d ≤ k → acc.length ≤ i →
    frame_Scan.l0 k b acc (i : Int) = some (acc ++ (scan d b i).1.map (fun p => (⟨p.1, p.2⟩ : S33)), ((scan d b i).2.1 : Int), (scan d b i).2.2)
  | 0, k, i, acc, h1, h2, _, _ => by omega
  | d + 1, 0, i, acc, _, _, h, _ => by omega
  | d + 1, k + 1, i, acc, h1, h2, h3, h4 => by
    have hd := all_drop hb i
    rw [frame_Scan.l0, if_pos (by omega), if_pos (by omega), Int.toNat_natCast, open_f _ hd (by rw [List.length_drop]; omega), Option.bind_some, scan]
    by_cases e0 : (opn (b.drop i)).2.2.2 = 0
    · obtain ⟨u, hu, hu0, hul⟩ := opn_used _ hd e0
      rw [List.length_drop] at hul
      rw [if_pos e0, if_pos e0, if_pos (by omega), hu, show wrap64 ((i : Int) + (u : Int)) = ((i + u : Nat) : Int) from w64a i u (by omega), Int.toNat_natCast]
      rw [scan_l0 b hb hl d k (i + u) _ (by omega) (by omega) (by omega) (by simp; omega)]
      simp
    · rw [if_neg e0, if_neg e0]
      by_cases e1 : (opn (b.drop i)).2.2.2 = 22
      · rw [if_pos e1, if_pos e1]; simp
      · rw [if_neg e1, if_neg e1]; simp
theorem scan_len (b : List Int) (hb : ∀ x ∈ b, isByte x) : ∀ (d i : Nat), (scan d b i).1.length ≤ d
  | 0, i => by simp [scan]
  | d + 1, i => by
    rw [scan]
    split
    · have := scan_len b hb d (i + (opn (b.drop i)).2.2.1.toNat)
      simp only [List.length_cons]; omega
    · split <;> simp
theorem scan_f (b : List Int) (hb : ∀ x ∈ b, isByte x) (hl : b.length ≤ 100000000) {k : Nat} (hk : b.length + 1 ≤ k) : frame_Scan.f k b = some ((scan (b.length + 1) b 0).1.map (fun p => (⟨p.1, p.2⟩ : S33)), ((scan (b.length + 1) b 0).2.1 : Int), (scan (b.length + 1) b 0).2.2) := by
  have := scan_l0 b hb hl (b.length + 1) k 0 [] (by omega) (by omega) hk (by simp)
  rw [List.nil_append] at this
  exact this
end Go.Proofs.YtonpiacnljcohaaDoor.FrT

/- Frames that are laid behind one another, whole and cut off. -/
set_option linter.unusedVariables false
set_option linter.unusedSimpArgs false
namespace Go.Proofs.YtonpiacnljcohaaDoor.FrT
open Go Go.RowKit Go.Proofs.YtonpiacnljcohaaDoor.PA Go.Proofs.YtonpiacnljcohaaDoorW.PrintWords Go.Proofs.YtonpiacnljcohaaDoor.LebT Go.Proofs.YtonpiacnljcohaaDoor.LebP Go.Proofs.YtonpiacnljcohaaDoor.ColT
theorem rd_head (x : Int) (r : List Int) : rd (x :: r) 0 = x := rfl
theorem opn_sealed (a : Int) (l r : List Int) (ha0 : a ≠ 0) (hl : l.length ≤ 1048576) : opn (sealed a l ++ r) = (a, l, ((sealed a l).length : Int), 0) := by
  have hb : sealed a l ++ r = a :: (putU l.length ++ (l ++ (le4 (crcN (head a l)) ++ r))) := by simp [sealed, head]
  have hp := putU_len64 (n := l.length) (by omega)
  have hpp := putU_len_pos l.length
  have hg : gU 0 0 ((sealed a l ++ r).drop 1) = ((l.length : Int), ((putU l.length).length : Int), 0) := by
    rw [hb, List.drop_one, List.tail_cons]
    have := gU_put l.length 0 0 (l ++ (le4 (crcN (head a l)) ++ r)) (by omega) (by simp) (by simp; omega)
    simpa using this
  have hh : (head a l).length = 1 + (putU l.length).length + l.length := by simp [head]; omega
  have hs : (sealed a l).length = (head a l).length + 4 := by simp [sealed, le4_len]
  unfold opn
  rw [hg]
  have e1 : (1 + ((putU l.length).length : Int) + (l.length : Int)).toNat = (head a l).length := by omega
  have e2 : (1 + ((putU l.length).length : Int) + (l.length : Int) + 4).toNat = (sealed a l).length := by omega
  have e3 : (1 + ((putU l.length).length : Int)).toNat = (a :: putU l.length).length := by simp; omega
  have t1 : (sealed a l ++ r).take (head a l).length = head a l := by
    unfold sealed
    rw [List.append_assoc, List.take_left']
    rfl
  have t2 : (sealed a l ++ r).take (sealed a l).length = sealed a l := List.take_left' rfl
  simp only [e1, e2, e3, t1, t2, if_true]
  rw [if_neg (by rw [List.length_append]; omega), if_neg (by rw [hb, rd_head]; exact ha0), if_neg (by omega), if_neg (by rw [List.length_append]; omega), if_pos (show sealed a l = head a l ++ le4 (crcN (head a l)) from rfl)]
  rw [hb, rd_head]
  have t3 : (head a l).drop (a :: putU l.length).length = l := by
    unfold head
    rw [← List.cons_append, List.drop_left']
    rfl
  rw [t3]
  simp only [Prod.mk.injEq, true_and, and_true]
  omega
theorem gU_cut (m : Nat) : ∀ (i n t : Nat), i + (putU m).length ≤ 10 → t < (putU m).length → gU i n ((putU m).take t) = (0, 0, 3) := by
  induction m using Nat.strongRecOn with
  | _ m ih =>
    intro i n t hi ht
    cases t with
    | zero => rw [List.take_zero]; rfl
    | succ t =>
      by_cases hm : m < 128
      · rw [putU_small hm] at ht; simp at ht
      · rw [putU_big hm] at hi ht ⊢
        simp only [List.length_cons] at hi ht
        have hpos := putU_len_pos (m / 128)
        rw [List.take_succ_cons, gU, if_neg (by omega), if_neg (by omega)]
        exact ih (m / 128) (by omega) (i + 1) _ t (by omega) (by omega)
theorem opn_cut (a : Int) (l : List Int) (ha0 : a ≠ 0) (hl : l.length ≤ 1048576) (j : Nat) (h0 : 0 < j) (hj : j < (sealed a l).length) : opn ((sealed a l).take j) = (0, [], 0, 3) := by
  have hb : sealed a l = a :: (putU l.length ++ (l ++ le4 (crcN (head a l)))) := by simp [sealed, head]
  have hp := putU_len64 (n := l.length) (by omega)
  have hh : (head a l).length = 1 + (putU l.length).length + l.length := by simp [head]; omega
  have hs : (sealed a l).length = (head a l).length + 4 := by simp [sealed, le4_len]
  have hlen : ((sealed a l).take j).length = j := by rw [List.length_take]; omega
  obtain ⟨j', rfl⟩ : ∃ j', j = j' + 1 := ⟨j - 1, by omega⟩
  have hd : ((sealed a l).take (j' + 1)) = a :: ((putU l.length ++ (l ++ le4 (crcN (head a l)))).take j') := by rw [hb, List.take_succ_cons]
  unfold opn
  rw [if_neg (by omega), if_neg (by rw [hd, rd_head]; exact ha0)]
  have hdr : ((sealed a l).take (j' + 1)).drop 1 = (putU l.length ++ (l ++ le4 (crcN (head a l)))).take j' := by rw [hd]; rfl
  rw [hdr]
  by_cases hc : j' < (putU l.length).length
  · rw [List.take_append_of_le_length (by omega), gU_cut l.length 0 0 j' (by omega) hc]
    rfl
  · have hg : gU 0 0 ((putU l.length ++ (l ++ le4 (crcN (head a l)))).take j') = ((l.length : Int), ((putU l.length).length : Int), 0) := by
      rw [List.take_append, List.take_of_length_le (by omega)]
      have := gU_put l.length 0 0 ((l ++ le4 (crcN (head a l))).take (j' - (putU l.length).length)) (by omega) (by simp) (by simp; omega)
      simpa using this
    rw [hg]
    simp only [if_true]
    rw [if_neg (by omega), if_pos (by rw [hlen]; omega)]
def kp (p : S52) : Int × List Int := (mx p.f0 1, p.f1)
def sl (p : S52) : List Int := sealed (mx p.f0 1) p.f1
def Lay (ps : List S52) : List Int := (ps.map sl).flatten
def Good (p : S52) : Prop := isByte p.f0 ∧ (∀ x ∈ p.f1, isByte x) ∧ p.f1.length ≤ 1048576
theorem mx_ne {a : Int} (h : isByte a) : mx a 1 ≠ 0 ∧ isByte (mx a 1) := by
  obtain ⟨h0, h1⟩ := h
  unfold mx isByte
  split <;> omega
theorem sl_len_pos (p : S52) : 0 < (sl p).length := by simp [sl, sealed, le4_len]
theorem sl_bytes {p : S52} (h : Good p) : ∀ x ∈ sl p, isByte x := by
  intro x hx
  rcases List.mem_append.1 hx with hx | hx
  · exact head_bytes (mx_ne h.1).2 h.2.1 x hx
  · exact le4_bytes _ x hx
theorem Lay_bytes {ps : List S52} (h : ∀ p ∈ ps, Good p) : ∀ x ∈ Lay ps, isByte x := by
  intro x hx
  simp only [Lay, List.mem_flatten, List.mem_map] at hx
  obtain ⟨q, ⟨p, hp, rfl⟩, hx⟩ := hx
  exact sl_bytes (h p hp) x hx
theorem Lay_cons (p : S52) (ps : List S52) : Lay (p :: ps) = sl p ++ Lay ps := rfl
theorem Lay_len_le (ps : List S52) : ps.length ≤ (Lay ps).length := by
  induction ps with
  | nil => simp
  | cons p ps ih => have := sl_len_pos p; rw [Lay_cons, List.length_append, List.length_cons]; omega
theorem scan_lay (b : List Int) : ∀ (ps : List S52) (d i : Nat) (r : List Int), (∀ p ∈ ps, Good p) → b.drop i = Lay ps ++ r →
    scan (ps.length + d) b i = (ps.map kp ++ (scan d b (i + (Lay ps).length)).1, (scan d b (i + (Lay ps).length)).2)
  | [], d, i, r, _, _ => by simp [Lay]
  | p :: ps, d, i, r, hg, hb => by
    have hp := hg p (by simp)
    have ho : opn (b.drop i) = (mx p.f0 1, p.f1, ((sl p).length : Int), 0) := by
      rw [hb, Lay_cons, List.append_assoc]
      exact opn_sealed _ _ _ (mx_ne hp.1).1 hp.2.2
    have hb' : b.drop (i + (sl p).length) = Lay ps ++ r := by
      rw [← List.drop_drop, hb, Lay_cons, List.append_assoc, List.drop_left' rfl]
    have ih := scan_lay b ps d (i + (sl p).length) r (fun q hq => hg q (by simp [hq])) hb'
    rw [List.length_cons, show ps.length + 1 + d = (ps.length + d) + 1 by omega, scan, ho]
    simp only [if_true, Int.toNat_natCast]
    rw [ih, Lay_cons, List.length_append, Nat.add_assoc]
    rfl
theorem scan_none (b : List Int) (d : Nat) (h : 0 < d) (i : Nat) (hi : b.drop i = []) : scan d b i = ([], i, 0) := by
  obtain ⟨d, rfl⟩ : ∃ d', d = d' + 1 := ⟨d - 1, by omega⟩
  rw [scan, hi]
  rfl
theorem scan_err (b : List Int) (d : Nat) (h : 0 < d) (i : Nat) (e : Int) (hi : (opn (b.drop i)).2.2.2 = e) (h0 : e ≠ 0) (h1 : e ≠ 22) : scan d b i = ([], i, e) := by
  obtain ⟨d, rfl⟩ : ∃ d', d = d' + 1 := ⟨d - 1, by omega⟩
  rw [scan, hi, if_neg h0, if_neg h1]
/-- What is read of frames that are laid, and of what stands behind them. -/
theorem scan_then (b : List Int) (ps : List S52) (r : List Int) (hg : ∀ p ∈ ps, Good p) (hb : b = Lay ps ++ r) (e : Int)
    (he : (r = [] ∧ e = 0) ∨ ((opn r).2.2.2 = e ∧ e ≠ 0 ∧ e ≠ 22)) : scan (b.length + 1) b 0 = (ps.map kp, (Lay ps).length, e) := by
  have hle := Lay_len_le ps
  have hbl : b.length = (Lay ps).length + r.length := by rw [hb, List.length_append]
  have hd : b.drop (Lay ps).length = r := by rw [hb, List.drop_left' rfl]
  have h1 := scan_lay b ps (b.length + 1 - ps.length) 0 r hg (by rw [List.drop_zero]; exact hb)
  rw [show ps.length + (b.length + 1 - ps.length) = b.length + 1 by omega, Nat.zero_add] at h1
  rw [h1]
  rcases he with ⟨hr, rfl⟩ | ⟨ho, h0, h22⟩
  · rw [scan_none b _ (by omega) _ (by rw [hd, hr])]
    simp
  · rw [scan_err b _ (by omega) _ e (by rw [hd]; exact ho) h0 h22]
    simp
def E (ps : List S52) (i : Nat) : Nat := (Lay (ps.take i)).length
def ends (ps : List S52) : List Int := (List.range ps.length).map fun j => ((E ps (j + 1) : Nat) : Int)
theorem Lay_take_succ (ps : List S52) (i : Nat) (h : i < ps.length) : Lay (ps.take (i + 1)) = Lay (ps.take i) ++ sl ps[i] := by
  rw [List.take_succ_eq_append_getElem h, Lay, Lay, List.map_append, List.flatten_append]
  simp
theorem Lay_split (ps : List S52) (i : Nat) : Lay ps = Lay (ps.take i) ++ Lay (ps.drop i) := by
  conv => lhs; rw [← List.take_append_drop i ps]
  rw [Lay, Lay, Lay, List.map_append, List.flatten_append]
theorem E_le (ps : List S52) (i : Nat) : E ps i ≤ (Lay ps).length := by
  rw [Lay_split ps i, List.length_append]
  exact Nat.le_add_right _ _
theorem E_succ (ps : List S52) (i : Nat) (h : i < ps.length) : E ps (i + 1) = E ps i + (sl ps[i]).length := by
  unfold E
  rw [Lay_take_succ ps i h, List.length_append]
theorem E_all (ps : List S52) : E ps ps.length = (Lay ps).length := by unfold E; rw [List.take_length]
theorem rd52 (ps : List S52) (i : Nat) (h : i < ps.length) : rd_T52 ps (i : Int) = ps[i] := by simp [rd_T52, List.getD_eq_getElem?_getD, h]
theorem laid_l0 (ps : List S52) (hg : ∀ p ∈ ps, Good p) (hL : (Lay ps).length ≤ 100000000) : ∀ (d k i : Nat), i + d = ps.length → d + 20 ≤ k →
    stemmalaw04_laid.l0 k ps (Lay (ps.take i)) ((List.range i).map fun j => ((E ps (j + 1) : Nat) : Int)) (i : Int) = some (Lay ps, ends ps, true)
  | d, 0, i, _, h => by omega
  | 0, k + 1, i, hi, _ => by
    rw [stemmalaw04_laid.l0, if_neg (by omega), List.take_of_length_le (by omega), ends, show i = ps.length by omega]
  | d + 1, k + 1, i, hi, hk => by
    have hlt : i < ps.length := by omega
    have hp := hg ps[i] (List.getElem_mem hlt)
    have hle := Lay_len_le ps
    have hs : sealR (mx ps[i].f0 1) ps[i].f1 = (sl ps[i], 0) := by
      unfold sealR
      rw [if_neg (mx_ne hp.1).1, if_neg (by have := hp.2.2; omega)]
      rfl
    have h1 := E_succ ps i hlt
    have h2 := E_le ps (i + 1)
    have ih := laid_l0 ps hg hL d k (i + 1) (by omega) (by omega)
    rw [stemmalaw04_laid.l0, if_pos (by omega), if_pos (by omega), rd52 ps i hlt, seal_f _ _ (mx_ne hp.1).2 hp.2.1 (by omega), hs]
    simp only [Option.bind_some, if_true]
    have h3 : (Lay (ps.take i)).length = E ps i := rfl
    rw [if_pos (by omega), if_pos (by simp; omega), show wrap64 ((i : Int) + 1) = ((i + 1 : Nat) : Int) from w64a i 1 (by omega)]
    rw [← Lay_take_succ ps i hlt]
    rw [List.range_succ, List.map_append] at ih
    exact ih
theorem laid_f (ps : List S52) (hg : ∀ p ∈ ps, Good p) (hL : (Lay ps).length ≤ 100000000) {k : Nat} (hk : ps.length + 20 ≤ k) : stemmalaw04_laid.f k ps = some (Lay ps, ends ps, true) := by
  exact laid_l0 ps hg hL ps.length k 0 (by omega) hk
theorem whole_l0 (ps : List S52) (n : Nat) (hn : n ≤ ps.length) (hb : ps.length ≤ 100000000) : ∀ (d k i : Nat), i + d = n → d < k →
    stemmalaw04_whole.l0 k ((((ps.take n).map kp)).map (fun p => (⟨p.1, p.2⟩ : S33))) ps (i : Int) = some true
  | d, 0, i, _, h => by omega
  | 0, k + 1, i, hi, _ => by
    rw [stemmalaw04_whole.l0, if_neg (by simp; omega)]
  | d + 1, k + 1, i, hi, hk => by
    have hlt : i < ps.length := by omega
    have hin : i < n := by omega
    have r1 : rd_T33 ((((ps.take n).map kp)).map (fun p => (⟨p.1, p.2⟩ : S33))) (i : Int) = ⟨mx ps[i].f0 1, ps[i].f1⟩ := by simp [rd_T33, List.getD_eq_getElem?_getD, hlt, hin, kp]
    rw [stemmalaw04_whole.l0, if_pos (by simp; omega), if_pos (by omega), if_pos (by omega), r1, rd52 ps i hlt, if_pos rfl, if_pos rfl, show wrap64 ((i : Int) + 1) = ((i + 1 : Nat) : Int) from w64a i 1 (by omega)]
    exact whole_l0 ps n hn hb d k (i + 1) (by omega) (by omega)
theorem whole_f (ps : List S52) (n : Nat) (hn : n ≤ ps.length) (hb : ps.length ≤ 100000000) {k : Nat} (hk : ps.length < k) : stemmalaw04_whole.f k ((((ps.take n).map kp)).map (fun p => (⟨p.1, p.2⟩ : S33))) ps = some true := by
  unfold stemmalaw04_whole.f
  rw [if_neg (by simp; omega)]
  exact whole_l0 ps n hn hb n k 0 (by omega) (by omega)
theorem mem_sum {α : Type} (f : α → Nat) (l : List α) (x : α) (h : x ∈ l) : f x ≤ (l.map f).sum := by
  induction l with
  | nil => cases h
  | cons y r ih =>
    rw [List.map_cons, List.sum_cons]
    rcases List.mem_cons.1 h with rfl | h
    · omega
    · have := ih h; omega
theorem ones {α : Type} (l : List α) : (l.map (fun _ => 1)).sum = l.length := by
  induction l with
  | nil => rfl
  | cons x r ih => simp only [List.map_cons, List.sum_cons, List.length_cons, ih]; omega
theorem Lay_bulk (ps : List S52) (hg : ∀ p ∈ ps, p.f1.length ≤ 1048576) : (Lay ps).length ≤ 8 * (ps.map (fun y47 => (1) + ((y47.f1.map (fun y22 => 1)).sum + 1) + 1)).sum := by
  induction ps with
  | nil => simp [Lay]
  | cons p ps ih =>
    have hp := hg p (by simp)
    have := ih (fun q hq => hg q (by simp [hq]))
    have hh := putU_len64 (n := p.f1.length) (by omega)
    have hl : (sl p).length = 1 + (putU p.f1.length).length + p.f1.length + 4 := by simp [sl, sealed, head, le4_len]; omega
    rw [Lay_cons, List.length_append, List.map_cons, List.sum_cons, ones, hl]
    omega
theorem pieces_good (ps : List S52) (q0 : ps.length ≤ maxLen ∧ ∀ y47 ∈ ps, ((Lit.int .u8 y47.f0).wf = true) ∧ y47.f1.length ≤ maxLen ∧ ∀ y22 ∈ y47.f1, (Lit.int .u8 y22).wf = true)
    (b0 : (ps.map (fun y47 => (1) + ((y47.f1.map (fun y22 => 1)).sum + 1) + 1)).sum + 1 ≤ 1048576) : (∀ p ∈ ps, Good p) ∧ (Lay ps).length ≤ 8388608 := by
  have hlen : ∀ p ∈ ps, p.f1.length ≤ 1048576 := by
    intro p hp
    have := mem_sum (fun y47 : S52 => (1) + ((y47.f1.map (fun y22 => 1)).sum + 1) + 1) ps p hp
    simp only [ones] at this b0
    omega
  refine ⟨fun p hp => ⟨wf_u8 (q0.2 p hp).1, wf_bytes (q0.2 p hp).2.2, hlen p hp⟩, ?_⟩
  have := Lay_bulk ps hlen
  omega
end Go.Proofs.YtonpiacnljcohaaDoor.FrT

-- Written by a program of this session (wip/tools/myprint.py), out of the translation's print. Lean checks it.
namespace Go.Proofs.YtonpiacnljcohaaDoor.PA
open Go.RowKit Go.Proofs.YtonpiacnljcohaaDoorW.PrintWords Go.Proofs.YtonpiacnljcohaaDoorW.PrintLast Go.Proofs.YtonpiacnljcohaaDoorW.PrintMore
attribute [local go_sem] max2_int min2_int max_two min_two max_three min_three max_four min_four   -- for this text's walks alone
set_option linter.unusedVariables false
set_option linter.unusedSimpArgs false
set_option linter.unnecessarySimpa false

/-! ### stemmalaw04_FrameTurned: function 7 -/
mutual
def stemmalaw04_FrameTurned.j0 : Nat → List (S52) → List Int → Bool → List Int → Int → Int → Bool → Int → List Int → Int → Int → Option (Bool)
  | 0, _, _, _, _, _, _, _, _, _, _, _ => none
  | k + 1, x0, x7, x9, x10, x11, x12, x45, x356000, x356001, x357000, x357001 => if x45 = true then (if x9 = true then (if ((x11 != 0) == (x11 == 5)) = true then ((stemmalaw04_awake.f k).bind fun t368 => (some t368)) else (some false)) else (if (true == true) = true then ((stemmalaw04_awake.f k).bind fun t369 => (some t369)) else (some false))) else (if (wrap64 ((wrap64 ((x10.length : Int) - (x356001.length : Int))) - 4)) < 2 then (some false) else (if (wrap64 ((x356001.length : Int) + 5)) = 0 then (none) else (if (Int.tmod (wrap64 (x357000)) (wrap64 ((x356001.length : Int) + 5))) > 0 then (stemmalaw04_FrameTurned.j1 k x0 x7 x10 x12 (wrap64 ((wrap64 ((wrap64 ((wrap64 ((x10.length : Int) - (x356001.length : Int))) - 4)) + (Int.tmod (wrap64 (x357000)) (wrap64 ((x356001.length : Int) + 5))))) - 1))) else (stemmalaw04_FrameTurned.j1 k x0 x7 x10 x12 (Int.tmod (wrap64 (x357000)) (wrap64 ((x356001.length : Int) + 5)))))))
def stemmalaw04_FrameTurned.j1 : Nat → List (S52) → List Int → List Int → Int → Int → Option (Bool)
  | 0, _, _, _, _, _ => none
  | k + 1, x0, x7, x10, x12, x14 => if 0 ≤ x14 then (if x14 < (x10.length : Int) then ((some (x10.set (x14 : Int).toNat (Go.bits .xor .u8 (rd x10 x14) x12) : List Int)).bind fun y371 => ((some (([] : List Int) : List Int)).bind fun y372 => (if y372.length + x7.length < 140737488355328 then ((some (y372 ++ x7 : List Int)).bind fun y375 => (if y375.length + y371.length < 140737488355328 then ((frame_Scan.f k (y375 ++ y371)).bind fun bt381 => (if (bt381.1.length : Int) = (x0.length : Int) then ((stemmalaw04_whole.f k bt381.1 x0).bind fun t386 => (if t386 = true then (if bt381.2.1 = (x7.length : Int) then (if bt381.2.2 = 6 then ((stemmalaw04_awake.f k).bind fun t387 => (some t387)) else (if x14 = 0 then (if 0 < (x10.length : Int) then (if (rd y371 0) = 0 then (if bt381.2.2 = 4 then ((stemmalaw04_awake.f k).bind fun t389 => (some t389)) else (some false)) else (some false)) else (none)) else (some false))) else (some false)) else (some false))) else (some false))) else (none))) else (none)))) else (none)) else (none)
end
def stemmalaw04_FrameTurned.f (k : Nat) (l0 : List (S52)) (a1_0 : Int) (l1_1 : List Int) (a2_0 : Int) (a2_1 : Int) : Option (Bool) := (stemmalaw04_laid.f k l0).bind fun bt357 => ((frame_Seal.f k (mx a1_0 1) l1_1).bind fun bt364 => (if bt357.2.2 = true then (if bt364.2 = 0 then (stemmalaw04_FrameTurned.j0 k l0 bt357.1 bt357.2.2 bt364.1 bt364.2 ((a2_1) % 256) (((a2_1) % 256) == 0) a1_0 l1_1 a2_0 a2_1) else (stemmalaw04_FrameTurned.j0 k l0 bt357.1 bt357.2.2 bt364.1 bt364.2 ((a2_1) % 256) true a1_0 l1_1 a2_0 a2_1)) else (stemmalaw04_FrameTurned.j0 k l0 bt357.1 bt357.2.2 bt364.1 bt364.2 ((a2_1) % 256) true a1_0 l1_1 a2_0 a2_1)))
theorem stemmalaw04_FrameTurned.mono_l : ∀ k, (∀ y0 y1 y2 y3 y4 y5 y6 y7 y8 y9 y10, LeO (stemmalaw04_FrameTurned.j0 k y0 y1 y2 y3 y4 y5 y6 y7 y8 y9 y10) (stemmalaw04_FrameTurned.j0 (k + 1) y0 y1 y2 y3 y4 y5 y6 y7 y8 y9 y10)) ∧ (∀ y0 y1 y2 y3 y4, LeO (stemmalaw04_FrameTurned.j1 k y0 y1 y2 y3 y4) (stemmalaw04_FrameTurned.j1 (k + 1) y0 y1 y2 y3 y4))
  | 0 => ⟨fun _ _ _ _ _ _ _ _ _ _ _ r h => by simp [stemmalaw04_FrameTurned.j0] at h, fun _ _ _ _ _ r h => by simp [stemmalaw04_FrameTurned.j1] at h⟩
  | k + 1 => by
    obtain ⟨ih0, ih1⟩ := stemmalaw04_FrameTurned.mono_l k
    refine ⟨?_, ?_⟩
    · intro y0 y1 y2 y3 y4 y5 y6 y7 y8 y9 y10
      unfold stemmalaw04_FrameTurned.j0
      repeat' first
      | (with_reducible exact ih0 _ _ _ _ _ _ _ _ _ _ _)
      | (with_reducible exact ih1 _ _ _ _ _)
      | (with_reducible exact frame_Scan.mono _ _)
      | (with_reducible exact frame_Seal.mono _ _ _)
      | (with_reducible exact stemmalaw04_awake.mono _)
      | (with_reducible exact stemmalaw04_laid.mono _ _)
      | (with_reducible exact stemmalaw04_whole.mono _ _ _)
      | (with_reducible exact LeO.refl _)
      | (with_reducible exact LeO.none _)
      | (with_reducible refine LeO.ite ?_ ?_)
      | (with_reducible refine LeO.bind ?_ (fun _ => ?_))
      | exact ih0 _ _ _ _ _ _ _ _ _ _ _
      | exact ih1 _ _ _ _ _
      | exact frame_Scan.mono _ _
      | exact frame_Seal.mono _ _ _
      | exact stemmalaw04_awake.mono _
      | exact stemmalaw04_laid.mono _ _
      | exact stemmalaw04_whole.mono _ _ _
      | exact LeO.none _
      | refine LeO.ite ?_ ?_
      | refine LeO.bind ?_ (fun _ => ?_)
    · intro y0 y1 y2 y3 y4
      unfold stemmalaw04_FrameTurned.j1
      repeat' first
      | (with_reducible exact ih0 _ _ _ _ _ _ _ _ _ _ _)
      | (with_reducible exact ih1 _ _ _ _ _)
      | (with_reducible exact frame_Scan.mono _ _)
      | (with_reducible exact frame_Seal.mono _ _ _)
      | (with_reducible exact stemmalaw04_awake.mono _)
      | (with_reducible exact stemmalaw04_laid.mono _ _)
      | (with_reducible exact stemmalaw04_whole.mono _ _ _)
      | (with_reducible exact LeO.refl _)
      | (with_reducible exact LeO.none _)
      | (with_reducible refine LeO.ite ?_ ?_)
      | (with_reducible refine LeO.bind ?_ (fun _ => ?_))
      | exact ih0 _ _ _ _ _ _ _ _ _ _ _
      | exact ih1 _ _ _ _ _
      | exact frame_Scan.mono _ _
      | exact frame_Seal.mono _ _ _
      | exact stemmalaw04_awake.mono _
      | exact stemmalaw04_laid.mono _ _
      | exact stemmalaw04_whole.mono _ _ _
      | exact LeO.none _
      | refine LeO.ite ?_ ?_
      | refine LeO.bind ?_ (fun _ => ?_)
theorem stemmalaw04_FrameTurned.mono : ∀ a0 a1 a2 a3 a4 k, LeO (stemmalaw04_FrameTurned.f k a0 a1 a2 a3 a4) (stemmalaw04_FrameTurned.f (k + 1) a0 a1 a2 a3 a4) := by
  intro a0 a1 a2 a3 a4 k
  obtain ⟨ih0, ih1⟩ := stemmalaw04_FrameTurned.mono_l k
  unfold stemmalaw04_FrameTurned.f
  repeat' first
      | (with_reducible exact ih0 _ _ _ _ _ _ _ _ _ _ _)
      | (with_reducible exact ih1 _ _ _ _ _)
      | (with_reducible exact frame_Scan.mono _ _)
      | (with_reducible exact frame_Seal.mono _ _ _)
      | (with_reducible exact stemmalaw04_awake.mono _)
      | (with_reducible exact stemmalaw04_laid.mono _ _)
      | (with_reducible exact stemmalaw04_whole.mono _ _ _)
      | (with_reducible exact LeO.refl _)
      | (with_reducible exact LeO.none _)
      | (with_reducible refine LeO.ite ?_ ?_)
      | (with_reducible refine LeO.bind ?_ (fun _ => ?_))
      | exact ih0 _ _ _ _ _ _ _ _ _ _ _
      | exact ih1 _ _ _ _ _
      | exact frame_Scan.mono _ _
      | exact frame_Seal.mono _ _ _
      | exact stemmalaw04_awake.mono _
      | exact stemmalaw04_laid.mono _ _
      | exact stemmalaw04_whole.mono _ _ _
      | exact LeO.none _
      | refine LeO.ite ?_ ?_
      | refine LeO.bind ?_ (fun _ => ?_)
set_option maxHeartbeats 8000000 in
set_option maxRecDepth 100000 in
theorem stemmalaw04_FrameTurned.calls (k : Nat) (A0 : Option Addr) (c0 : Nat) (l0 : List (S52)) (a1_0 : Int) (A1_1 : Option Addr) (c1_1 : Nat) (l1_1 : List Int) (a2_0 : Int) (a2_1 : Int) (r : Bool) (w : World) (hr0 : Kd.C k52 w A0 l0.length l0) (hc0 : l0.length ≤ c0) (hr1_1 : Kd.C (Kd.int .u8) w A1_1 l1_1.length l1_1) (hc1_1 : l1_1.length ≤ c1_1) (hr_ : Aside0 (r = true)) (hG_ : Gl w) (h : stemmalaw04_FrameTurned.f k l0 a1_0 l1_1 a2_0 a2_1 = some r) :
    Calls Tryd.prog 7 #[.slice A0 l0.length c0, .agg #[.int .u8 a1_0, .slice A1_1 l1_1.length c1_1], .agg #[.int .u16 a2_0, .int .u16 a2_1]] w fun e w' => e = .returned (.bool r) ∧ Below w.heap.size w w' := by
  have hu52 := Tryd.underlying52
  have hu55 := Tryd.underlying55
  have HG := Aside0.mk hG_
  clear hG_
  have HR0 := Aside0.mk hr0
  have HC0 := Aside0.mk hc0
  clear hr0 hc0
  have HR1_1 := Aside0.mk hr1_1
  have HC1_1 := Aside0.mk hc1_1
  clear hr1_1 hc1_1
  have HB := Aside0.mk (Below.refl w.heap.size w)
  have H : ((stemmalaw04_laid.f k l0).bind fun bt357 => ((frame_Seal.f k (mx a1_0 1) l1_1).bind fun bt364 => (if bt357.2.2 = true then (if bt364.2 = 0 then (stemmalaw04_FrameTurned.j0 k l0 bt357.1 bt357.2.2 bt364.1 bt364.2 ((a2_1) % 256) (((a2_1) % 256) == 0) a1_0 l1_1 a2_0 a2_1) else (stemmalaw04_FrameTurned.j0 k l0 bt357.1 bt357.2.2 bt364.1 bt364.2 ((a2_1) % 256) true a1_0 l1_1 a2_0 a2_1)) else (stemmalaw04_FrameTurned.j0 k l0 bt357.1 bt357.2.2 bt364.1 bt364.2 ((a2_1) % 256) true a1_0 l1_1 a2_0 a2_1)))) = some r := h
  clear h
  replace H := Option.bind_eq_some_iff.mp H
  obtain ⟨⟨t357, t358, t359⟩, A40, H⟩ := H
  replace H : ((frame_Seal.f k (mx a1_0 1) l1_1).bind fun bt364 => (if t359 = true then (if bt364.2 = 0 then (stemmalaw04_FrameTurned.j0 k l0 t357 t359 bt364.1 bt364.2 ((a2_1) % 256) (((a2_1) % 256) == 0) a1_0 l1_1 a2_0 a2_1) else (stemmalaw04_FrameTurned.j0 k l0 t357 t359 bt364.1 bt364.2 ((a2_1) % 256) true a1_0 l1_1 a2_0 a2_1)) else (stemmalaw04_FrameTurned.j0 k l0 t357 t359 bt364.1 bt364.2 ((a2_1) % 256) true a1_0 l1_1 a2_0 a2_1))) = some r := H
  have A4 := Aside0.mk A40
  clear A40
  obtain ⟨ji5, hji5⟩ : ∃ j_ : Int, (mx a1_0 1) = j_ := ⟨_, rfl⟩
  replace H : ((frame_Seal.f k (ji5) l1_1).bind fun bt364 => (if t359 = true then (if bt364.2 = 0 then (stemmalaw04_FrameTurned.j0 k l0 t357 t359 bt364.1 bt364.2 ((a2_1) % 256) (((a2_1) % 256) == 0) a1_0 l1_1 a2_0 a2_1) else (stemmalaw04_FrameTurned.j0 k l0 t357 t359 bt364.1 bt364.2 ((a2_1) % 256) true a1_0 l1_1 a2_0 a2_1)) else (stemmalaw04_FrameTurned.j0 k l0 t357 t359 bt364.1 bt364.2 ((a2_1) % 256) true a1_0 l1_1 a2_0 a2_1))) = some r := by first | (rw [hji5] at H; exact H) | (simp only [hji5] at H ⊢; exact H)
  (try rw [hji5] at A4)
  (try (have hji5l : 1 ≤ ji5 := by (rw [← hji5]; unfold mx; (repeat' split) <;> omega)))
  (try (have hji5m : 0 ≤ ji5 := by omega))
  have hji5_ : (if a1_0 < 1 then 1 else a1_0) = ji5 := hji5
  replace H := Option.bind_eq_some_iff.mp H
  obtain ⟨⟨t364, t367⟩, A60, H⟩ := H
  replace H : (if t359 = true then (if t367 = 0 then (stemmalaw04_FrameTurned.j0 k l0 t357 t359 t364 t367 ((a2_1) % 256) (((a2_1) % 256) == 0) a1_0 l1_1 a2_0 a2_1) else (stemmalaw04_FrameTurned.j0 k l0 t357 t359 t364 t367 ((a2_1) % 256) true a1_0 l1_1 a2_0 a2_1)) else (stemmalaw04_FrameTurned.j0 k l0 t357 t359 t364 t367 ((a2_1) % 256) true a1_0 l1_1 a2_0 a2_1)) = some r := H
  have A6 := Aside0.mk A60
  clear A60
  have HC7 := Aside0.mk H
  clear H
  go_enter Tryd.func7, Tryd.ntmps7
  go_upto_region 4 with (first | ((with_reducible refine gate_dst (N := 4) rfl ?_); (try (refine gate_guard (by rfl) ?_; dsimp only)); refine box_event ?hg (N := 4) ?hd (cs := #[.int .u8 a1_0, .slice A1_1 l1_1.length c1_1]) (t := 52) ?hr ?_; (case hd => rfl); (case hg => rfl); (case hr => first | (go_simp; done) | (go_simp; rfl)); intro gb355 hg w8 hbox hb; have n0_ := Aside0.mk (below_step (by repeat (first | (with_reducible first | exact HB.out | apply below_alloc | apply pw_below_drewN | apply below_drew1) | exact HB.out)) hb); have n1_ := Aside0.mk (hbox); have n2_ := Aside0.mk ((by rw [hg]; exact (below_size (by repeat (first | (with_reducible first | exact HB.out | apply below_alloc | apply pw_below_drewN | apply below_drew1) | exact HB.out))) : w.heap.size ≤ gb355)); have n3_ := Aside0.mk ((by rw [hg]; exact (below_size (by repeat (first | (with_reducible first | exact HB.out | apply below_alloc | apply pw_below_drewN | apply below_drew1) | exact HB.out))) : w.heap.size ≤ gb355)); clear HB; have HB := n0_; have BK355 := n1_; have GW355 := n2_; have GE355 := n3_; clear n0_ n1_ n2_ n3_; clear hb hbox hg) | ((with_reducible refine gate_dst (N := 5) rfl ?_); (try (refine gate_guard (by rfl) ?_; dsimp only)); refine box_event ?hg (N := 5) ?hd (cs := #[.int .u16 a2_0, .int .u16 a2_1]) (t := 55) ?hr ?_; (case hd => rfl); (case hg => rfl); (case hr => first | (go_simp; done) | (go_simp; rfl)); intro gb356 hg w9 hbox hb; have n0_ := Aside0.mk (blk_below (g := gb355) (o := .cells #[.int .u8 a1_0, .slice A1_1 l1_1.length c1_1] 52 (0, 0)) (by (with_reducible repeat (first | refine blk_drewN ?_ _ | refine blk_drew ?_ | refine blk_alloc ?_ _)); exact BK355.out) hb); have n1_ := Aside0.mk (below_step (by repeat (first | (with_reducible first | exact HB.out | apply below_alloc | apply pw_below_drewN | apply below_drew1 | refine below_set ?_ GE355.out) | exact HB.out)) hb); have n2_ := Aside0.mk (hbox); have n3_ := Aside0.mk ((by rw [hg]; exact (below_size (by repeat (first | (with_reducible first | exact HB.out | apply below_alloc | apply pw_below_drewN | apply below_drew1 | refine below_set ?_ GE355.out) | exact HB.out))) : w.heap.size ≤ gb356)); have n4_ := Aside0.mk ((by rw [hg]; exact (below_size (by repeat (first | (with_reducible first | exact HB.out | apply below_alloc | apply pw_below_drewN | apply below_drew1 | refine below_set ?_ GE355.out) | exact HB.out))) : w.heap.size ≤ gb356)); have n5_ := Aside0.mk ((by rw [hg]; exact Nat.ne_of_lt (blk_lt (g := gb355) (o := .cells #[.int .u8 a1_0, .slice A1_1 l1_1.length c1_1] 52 (0, 0)) (by (with_reducible repeat (first | refine blk_drewN ?_ _ | refine blk_drew ?_ | refine blk_alloc ?_ _)); exact BK355.out)) : gb355 ≠ gb356)); have n6_ := Aside0.mk ((by rw [hg]; exact Nat.ne_of_gt (blk_lt (g := gb355) (o := .cells #[.int .u8 a1_0, .slice A1_1 l1_1.length c1_1] 52 (0, 0)) (by (with_reducible repeat (first | refine blk_drewN ?_ _ | refine blk_drew ?_ | refine blk_alloc ?_ _)); exact BK355.out)) : gb356 ≠ gb355)); clear BK355; clear HB; have BK355 := n0_; have HB := n1_; have BK356 := n2_; have GW356 := n3_; have GE356 := n4_; have NB355_356 := n5_; have NB356_355 := n6_; clear n0_ n1_ n2_ n3_ n4_ n5_ n6_; clear hb hbox hg) | ((with_reducible refine gate_callee (f := 23) rfl ?_); refine goesL_ (some 20) rfl rfl Tryd.func23 (by kernel_rfl) rfl #[.slice A0 l0.length c0] rfl (by (try simp only [List.map_toArray, List.map_cons, List.map_nil]); first | done | rfl | (simp only [List.length_drop, List.length_take]; rfl)) ?_; (with_reducible refine (stemmalaw04_laid.calls k _ _ l0 t357 t358 t359 _ ?side1 ?side2 ?side3 A4.out).mono ?_); (case side1 => repeat (first | exact (Kd.C_below HR0.out HB.out) | (with_reducible refine Kd.C_alloc ?_ _) | (with_reducible refine Kd.C_drewN ?_ _) | (with_reducible refine Kd.C_drew ?_))); (case side2 => exact HC0.out); (case side3 => first | exact HG.out | exact Gl.below HG.out (by repeat (first | (with_reducible first | exact HB.out | apply below_alloc | apply pw_below_drewN | apply below_drew1 | refine below_set ?_ GE355.out | refine below_set ?_ GE356.out) | exact HB.out))); rintro e w10 ⟨v360, v362, rfl, ho0, ho1, hb⟩; refine ⟨_, rfl, ?_⟩; have n0_ := Aside0.mk (Kd.R_lower ho0 (below_size (by repeat (first | (with_reducible first | exact HB.out | apply below_alloc | apply pw_below_drewN | apply below_drew1 | refine below_set ?_ GE355.out | refine below_set ?_ GE356.out) | exact HB.out)))); have n1_ := Aside0.mk (Kd.R_lower ho1 (below_size (by repeat (first | (with_reducible first | exact HB.out | apply below_alloc | apply pw_below_drewN | apply below_drew1 | refine below_set ?_ GE355.out | refine below_set ?_ GE356.out) | exact HB.out)))); have n2_ := Aside0.mk (blk_below (g := gb355) (o := .cells #[.int .u8 a1_0, .slice A1_1 l1_1.length c1_1] 52 (0, 0)) (by (with_reducible repeat (first | refine blk_drewN ?_ _ | refine blk_drew ?_ | refine blk_alloc ?_ _)); exact BK355.out) hb); have n3_ := Aside0.mk (blk_below (g := gb356) (o := .cells #[.int .u16 a2_0, .int .u16 a2_1] 55 (0, 0)) (by (with_reducible repeat (first | refine blk_drewN ?_ _ | refine blk_drew ?_ | refine blk_alloc ?_ _)); exact BK356.out) hb); have n4_ := Aside0.mk (below_step (by repeat (first | (with_reducible first | exact HB.out | apply below_alloc | apply pw_below_drewN | apply below_drew1 | refine below_set ?_ GE355.out | refine below_set ?_ GE356.out) | exact HB.out)) hb); clear BK355; clear BK356; clear HB; have HO361 := n0_; have HO363 := n1_; have BK355 := n2_; have BK356 := n3_; have HB := n4_; clear n0_ n1_ n2_ n3_ n4_; (try clear hb); (try clear hb2); (try clear hk); (try clear hi); (try clear ho0); (try clear ho1); have hnb11 := NB355_356.out; have hnc11 := NB356_355.out; have hcz12_0 : w10.cell? ⟨gb355, 0, none⟩ = some (.int .u8 a1_0) := (blk_cell BK355.out 0).trans rfl; have hcz12_1 : w10.cell? ⟨gb355, 1, none⟩ = some (.slice A1_1 l1_1.length c1_1) := (blk_cell BK355.out 1).trans rfl; have hfz12_0 := blk_frozen BK355.out 0; have hfz12_1 := blk_frozen BK355.out 1) | ((with_reducible refine gate_callee (f := 13) rfl ?_); refine goesL_ (some 30) rfl rfl Tryd.func13 (by kernel_rfl) rfl #[.int .u8 ji5, .slice A1_1 l1_1.length c1_1] rfl (by (try simp only [List.map_toArray, List.map_cons, List.map_nil]); first | done | (simp only [hji5]; rfl) | rfl | (simp only [List.length_drop, List.length_take]; rfl)) ?_; (with_reducible refine (frame_Seal.calls k ji5 (fun k_ => k_ < w.heap.size) _ _ l1_1 t364 t367 _ ?side1 ?side2 A6.out).mono ?_); (case side1 => exact Kd.V_mk HC1_1.out (Kd.F_below (Kd.C_F (Kd.heap_int .u8) HR1_1.out) (by repeat (first | (with_reducible first | exact HB.out | apply below_alloc | apply pw_below_drewN | apply below_drew1 | refine below_set ?_ GE355.out | refine below_set ?_ GE356.out) | exact HB.out)))); (case side2 => first | exact HG.out | exact Gl.below HG.out (by repeat (first | (with_reducible first | exact HB.out | apply below_alloc | apply pw_below_drewN | apply below_drew1 | refine below_set ?_ GE355.out | refine below_set ?_ GE356.out) | exact HB.out))); rintro e w13 ⟨v365, rfl, ho0, hb⟩; refine ⟨_, rfl, ?_⟩; have n0_ := Aside0.mk (Kd.R_elder' (by (with_reducible repeat (first | apply Kd.R_alloc | apply Kd.R_drewN | apply Kd.R_drew)); exact HO361.out) (Kd.R_base ho0) hb); have n1_ := Aside0.mk (Kd.R_below (by (with_reducible repeat (first | apply Kd.R_alloc | apply Kd.R_drewN | apply Kd.R_drew)); exact HO363.out) hb); have n2_ := Aside0.mk (Kd.R_lower (Kd.R_new' (Kd.R_mono (ok' := fun k_ => True) ho0 (fun _ hk_ => trivial)) (Kd.R_lt (by (with_reducible repeat (first | apply Kd.R_alloc | apply Kd.R_drewN | apply Kd.R_drew)); exact HO361.out))) (below_size (by repeat (first | (with_reducible first | exact HB.out | apply below_alloc | apply pw_below_drewN | apply below_drew1 | refine below_set ?_ GE355.out | refine below_set ?_ GE356.out) | exact HB.out)))); have n3_ := Aside0.mk (blk_below (g := gb355) (o := .cells #[.int .u8 a1_0, .slice A1_1 l1_1.length c1_1] 52 (0, 0)) (by (with_reducible repeat (first | refine blk_drewN ?_ _ | refine blk_drew ?_ | refine blk_alloc ?_ _)); exact BK355.out) hb); have n4_ := Aside0.mk (blk_below (g := gb356) (o := .cells #[.int .u16 a2_0, .int .u16 a2_1] 55 (0, 0)) (by (with_reducible repeat (first | refine blk_drewN ?_ _ | refine blk_drew ?_ | refine blk_alloc ?_ _)); exact BK356.out) hb); have n5_ := Aside0.mk (below_step (by repeat (first | (with_reducible first | exact HB.out | apply below_alloc | apply pw_below_drewN | apply below_drew1 | refine below_set ?_ GE355.out | refine below_set ?_ GE356.out) | exact HB.out)) hb); clear HO361; clear HO363; clear BK355; clear BK356; clear HB; have HO361 := n0_; have HO363 := n1_; have HO366 := n2_; have BK355 := n3_; have BK356 := n4_; have HB := n5_; clear n0_ n1_ n2_ n3_ n4_ n5_; (try clear hb); (try clear hb2); (try clear hk); (try clear hi); (try clear ho0); have hcz14_0 : w13.cell? ⟨gb356, 0, none⟩ = some (.int .u16 a2_0) := (blk_cell BK356.out 0).trans rfl; have hcz14_1 : w13.cell? ⟨gb356, 1, none⟩ = some (.int .u16 a2_1) := (blk_cell BK356.out 1).trans rfl; have hfz14_0 := blk_frozen BK356.out 0; have hfz14_1 := blk_frozen BK356.out 1))
  (try simp only [Act.put, List.setIfInBounds_toArray, List.set_cons_zero, List.set_cons_succ])
  go_cut [45] (fun v45 wc => ∃ (kq : Nat) (x45_6 : Bool), v45 = .bool x45_6 ∧ Aside0 (stemmalaw04_FrameTurned.j0 kq l0 t357 t359 t364 t367 ((a2_1) % 256) x45_6 a1_0 l1_1 a2_0 a2_1 = some r) ∧ Aside0 (kq ≤ k) ∧ Aside0 (Kd.R (Kd.int .u8) 5 wc w.heap.size (fun k_ => some k_ ≠ (v365 : Value).ownBlock) v360 t357) ∧ Aside0 (Kd.R (Kd.int .u8) 5 wc w.heap.size (fun k_ => some k_ ≠ (v360 : Value).ownBlock) v365 t364) ∧ Aside0 (wc.heap[gb355]? = some (.cells #[.int .u8 a1_0, (.slice A1_1 l1_1.length c1_1)] 52 (0, 0))) ∧ Aside0 (wc.heap[gb356]? = some (.cells #[.int .u16 a2_0, .int .u16 a2_1] 55 (0, 0))) ∧ Aside0 (Below w.heap.size w wc))
  case first =>
    have H := HC7.out
    clear HC7
    by_cases c15 : t359 = true
    · subst c15
      have H1 : (if t367 = 0 then (stemmalaw04_FrameTurned.j0 k l0 t357 true t364 t367 ((a2_1) % 256) (((a2_1) % 256) == 0) a1_0 l1_1 a2_0 a2_1) else (stemmalaw04_FrameTurned.j0 k l0 t357 true t364 t367 ((a2_1) % 256) true a1_0 l1_1 a2_0 a2_1)) = some r := by rw [if_pos rfl] at H; exact H
      clear H
      have H := H1
      clear H1
      by_cases c16 : t367 = 0
      · rw [if_pos c16] at H
        have c16b0 : (t367 == 0) = true := beq_iff_eq.mpr c16
        have c16b1 : (t367 != 0) = false := bne_eq_false_iff_eq.mpr c16
        clear c16
        (first | rw [c16b0] | (simp only [i64_w, i32_w]; rw [c16b0]) | skip)
        have H' := Aside0.mk H
        clear H
        go_wp2
        go_meet
        case rel => exact ⟨_, ((((a2_1) % 256) == 0)), (by first | rfl | (simp; done) | (simp [*]; done)), H', ⟨by first | omega | exact Nat.le_refl _⟩, ⟨by (with_reducible repeat (first | apply Kd.R_alloc | apply Kd.R_drewN | apply Kd.R_drew)); exact Kd.R_mono HO361.out (fun _ hk => hk.2)⟩, ⟨by (with_reducible repeat (first | apply Kd.R_alloc | apply Kd.R_drewN | apply Kd.R_drew)); exact Kd.R_mono HO366.out (fun _ hk => hk.2)⟩, ⟨by (with_reducible repeat (first | refine blk_drewN ?_ _ | refine blk_drew ?_ | refine blk_alloc ?_ _)); exact BK355.out⟩, ⟨by (with_reducible repeat (first | refine blk_drewN ?_ _ | refine blk_drew ?_ | refine blk_alloc ?_ _)); exact BK356.out⟩, ⟨by repeat (first | (with_reducible first | exact HB.out | apply below_alloc | apply pw_below_drewN | apply below_drew1 | refine below_set ?_ GE355.out | refine below_set ?_ GE356.out) | exact HB.out)⟩⟩
      · rw [if_neg c16] at H
        have c16b0 : (t367 == 0) = false := beq_eq_false_iff_ne.mpr c16
        have c16b1 : (t367 != 0) = true := bne_iff_ne.mpr c16
        (first | rw [c16b0] | (simp only [i64_w, i32_w]; rw [c16b0]) | skip)
        have H' := Aside0.mk H
        clear H
        go_wp2
        go_meet
        case rel => exact ⟨_, (true), (by first | rfl | (simp; done) | (simp [*]; done)), H', ⟨by first | omega | exact Nat.le_refl _⟩, ⟨by (with_reducible repeat (first | apply Kd.R_alloc | apply Kd.R_drewN | apply Kd.R_drew)); exact Kd.R_mono HO361.out (fun _ hk => hk.2)⟩, ⟨by (with_reducible repeat (first | apply Kd.R_alloc | apply Kd.R_drewN | apply Kd.R_drew)); exact Kd.R_mono HO366.out (fun _ hk => hk.2)⟩, ⟨by (with_reducible repeat (first | refine blk_drewN ?_ _ | refine blk_drew ?_ | refine blk_alloc ?_ _)); exact BK355.out⟩, ⟨by (with_reducible repeat (first | refine blk_drewN ?_ _ | refine blk_drew ?_ | refine blk_alloc ?_ _)); exact BK356.out⟩, ⟨by repeat (first | (with_reducible first | exact HB.out | apply below_alloc | apply pw_below_drewN | apply below_drew1 | refine below_set ?_ GE355.out | refine below_set ?_ GE356.out) | exact HB.out)⟩⟩
    · replace c15 := Bool.eq_false_iff.mpr c15
      subst c15
      have H1 : (stemmalaw04_FrameTurned.j0 k l0 t357 false t364 t367 ((a2_1) % 256) true a1_0 l1_1 a2_0 a2_1) = some r := by rw [if_neg (show ¬ (false = true) by decide)] at H; exact H
      clear H
      have H := H1
      clear H1
      have H' := Aside0.mk H
      clear H
      go_wp2
      go_meet
      case rel => exact ⟨_, (true), (by first | rfl | (simp; done) | (simp [*]; done)), H', ⟨by first | omega | exact Nat.le_refl _⟩, ⟨by (with_reducible repeat (first | apply Kd.R_alloc | apply Kd.R_drewN | apply Kd.R_drew)); exact Kd.R_mono HO361.out (fun _ hk => hk.2)⟩, ⟨by (with_reducible repeat (first | apply Kd.R_alloc | apply Kd.R_drewN | apply Kd.R_drew)); exact Kd.R_mono HO366.out (fun _ hk => hk.2)⟩, ⟨by (with_reducible repeat (first | refine blk_drewN ?_ _ | refine blk_drew ?_ | refine blk_alloc ?_ _)); exact BK355.out⟩, ⟨by (with_reducible repeat (first | refine blk_drewN ?_ _ | refine blk_drew ?_ | refine blk_alloc ?_ _)); exact BK356.out⟩, ⟨by repeat (first | (with_reducible first | exact HB.out | apply below_alloc | apply pw_below_drewN | apply below_drew1 | refine below_set ?_ GE355.out | refine below_set ?_ GE356.out) | exact HB.out)⟩⟩
  case rest =>
    clear HC7
    try clear c1
    try clear c2
    try clear p2
    try clear c7
    try clear c11
    try clear c13
    try clear c15
    try clear c16
    try clear c16b0
    try clear c16b1
    try clear hcz12_0
    try clear hcz12_1
    try clear hcz14_0
    try clear hcz14_1
    try clear hfz12_0
    try clear hfz12_1
    try clear hfz14_0
    try clear hfz14_1
    obtain ⟨kq, x45_6, rfl, HA, HJ6, HO_7, HO_10, BK355, BK356, HB⟩ := hcut
    cases kq with
    | zero => exact absurd HA.out (by simp [stemmalaw04_FrameTurned.j0])
    | succ kj6 =>
      have H := HA.out
      clear HA
      simp only [stemmalaw04_FrameTurned.j0] at H
      by_cases c17 : x45_6 = true
      · subst c17
        have H1 : (if t359 = true then (if ((t367 != 0) == (t367 == 5)) = true then ((stemmalaw04_awake.f kj6).bind fun t368 => (some t368)) else (some false)) else (if (true == true) = true then ((stemmalaw04_awake.f kj6).bind fun t369 => (some t369)) else (some false))) = some r := by rw [if_pos rfl] at H; exact H
        clear H
        have H := H1
        clear H1
        by_cases c18 : t359 = true
        · subst c18
          have H1 : (if ((t367 != 0) == (t367 == 5)) = true then ((stemmalaw04_awake.f kj6).bind fun t368 => (some t368)) else (some false)) = some r := by rw [if_pos rfl] at H; exact H
          clear H
          have H := H1
          clear H1
          by_cases c19 : ((t367 != 0) == (t367 == 5)) = true
          · rw [if_pos c19] at H
            have c19b0 : ((t367 != 0) == (t367 == 5)) = true := c19
            (try (have c19b1 : decide ((t367 != 0) = (t367 == 5)) = true := by simpa using c19))
            (try (have c19b2 : ((t367 != 0) == (t367 == 5)) = true := by simpa using c19))
            clear c19
            replace H := Option.bind_eq_some_iff.mp H
            obtain ⟨t368, A200, H⟩ := H
            replace H : (some t368) = some r := H
            have A20 := Aside0.mk A200
            clear A200
            obtain rfl := Option.some.inj H
            go_wp2_with (first | (go_at_call 17; (with_reducible refine (stemmalaw04_awake.calls kj6  t368 _ ?side1 A20.out).mono ?_); (case side1 => first | exact HG.out | exact Gl.below HG.out (by repeat (first | (with_reducible first | exact HB.out | apply below_alloc | apply pw_below_drewN | apply below_drew1 | refine below_set ?_ GE355.out | refine below_set ?_ GE356.out) | exact HB.out))); rintro e w21 ⟨rfl, hb⟩; have n0_ := Aside0.mk (Kd.R_below (by (with_reducible repeat (first | apply Kd.R_alloc | apply Kd.R_drewN | apply Kd.R_drew)); exact HO_7.out) hb); have n1_ := Aside0.mk (Kd.R_below (by (with_reducible repeat (first | apply Kd.R_alloc | apply Kd.R_drewN | apply Kd.R_drew)); exact HO_10.out) hb); have n2_ := Aside0.mk (blk_below (g := gb355) (o := .cells #[.int .u8 a1_0, .slice A1_1 l1_1.length c1_1] 52 (0, 0)) (by (with_reducible repeat (first | refine blk_drewN ?_ _ | refine blk_drew ?_ | refine blk_alloc ?_ _)); exact BK355.out) hb); have n3_ := Aside0.mk (blk_below (g := gb356) (o := .cells #[.int .u16 a2_0, .int .u16 a2_1] 55 (0, 0)) (by (with_reducible repeat (first | refine blk_drewN ?_ _ | refine blk_drew ?_ | refine blk_alloc ?_ _)); exact BK356.out) hb); have n4_ := Aside0.mk (below_step (by repeat (first | (with_reducible first | exact HB.out | apply below_alloc | apply pw_below_drewN | apply below_drew1 | refine below_set ?_ GE355.out | refine below_set ?_ GE356.out) | exact HB.out)) hb); clear HO_7; clear HO_10; clear BK355; clear BK356; clear HB; have HO_7 := n0_; have HO_10 := n1_; have BK355 := n2_; have BK356 := n3_; have HB := n4_; clear n0_ n1_ n2_ n3_ n4_; (try clear hb); (try clear hb2); (try clear hk); (try clear hi)))
            go_ret
            exact ⟨by first | rfl | (simp [errW_none, errW_some] <;> rfl) | (simp only [← hji5]; first | rfl | (simp [errW_none, errW_some] <;> rfl)) | (simp [*, errW_none, errW_some] <;> rfl), by repeat (first | (with_reducible first | exact HB.out | apply below_alloc | apply pw_below_drewN | apply below_drew1 | refine below_set ?_ GE355.out | refine below_set ?_ GE356.out) | exact HB.out)⟩
          · rw [if_neg c19] at H
            have c19b0 : ((t367 != 0) == (t367 == 5)) = false := by simpa using c19
            (try (have c19b1 : decide ((t367 != 0) = (t367 == 5)) = false := by simpa using c19))
            (try (have c19b2 : ((t367 != 0) == (t367 == 5)) = false := by simpa using c19))
            (try (have c19b3 : ¬ ((t367 != 0) = (t367 == 5)) := by simpa using c19))
            clear c19
            exact absurd ((Option.some.inj H).trans hr_.out) (by decide)
        · replace c18 := Bool.eq_false_iff.mpr c18
          subst c18
          have H1 : (if (true == true) = true then ((stemmalaw04_awake.f kj6).bind fun t369 => (some t369)) else (some false)) = some r := by rw [if_neg (show ¬ (false = true) by decide)] at H; exact H
          clear H
          have H := H1
          clear H1
          by_cases c22 : (true == true) = true
          · rw [if_pos c22] at H
            have c22b0 : (true == true) = true := c22
            (try (have c22b1 : decide (true = true) = true := by simpa using c22))
            (try (have c22b2 : (true == true) = true := by simpa using c22))
            clear c22
            replace H := Option.bind_eq_some_iff.mp H
            obtain ⟨t369, A230, H⟩ := H
            replace H : (some t369) = some r := H
            have A23 := Aside0.mk A230
            clear A230
            obtain rfl := Option.some.inj H
            go_wp2_with (first | (go_at_call 17; (with_reducible refine (stemmalaw04_awake.calls kj6  t369 _ ?side1 A23.out).mono ?_); (case side1 => first | exact HG.out | exact Gl.below HG.out (by repeat (first | (with_reducible first | exact HB.out | apply below_alloc | apply pw_below_drewN | apply below_drew1 | refine below_set ?_ GE355.out | refine below_set ?_ GE356.out) | exact HB.out))); rintro e w24 ⟨rfl, hb⟩; have n0_ := Aside0.mk (Kd.R_below (by (with_reducible repeat (first | apply Kd.R_alloc | apply Kd.R_drewN | apply Kd.R_drew)); exact HO_7.out) hb); have n1_ := Aside0.mk (Kd.R_below (by (with_reducible repeat (first | apply Kd.R_alloc | apply Kd.R_drewN | apply Kd.R_drew)); exact HO_10.out) hb); have n2_ := Aside0.mk (blk_below (g := gb355) (o := .cells #[.int .u8 a1_0, .slice A1_1 l1_1.length c1_1] 52 (0, 0)) (by (with_reducible repeat (first | refine blk_drewN ?_ _ | refine blk_drew ?_ | refine blk_alloc ?_ _)); exact BK355.out) hb); have n3_ := Aside0.mk (blk_below (g := gb356) (o := .cells #[.int .u16 a2_0, .int .u16 a2_1] 55 (0, 0)) (by (with_reducible repeat (first | refine blk_drewN ?_ _ | refine blk_drew ?_ | refine blk_alloc ?_ _)); exact BK356.out) hb); have n4_ := Aside0.mk (below_step (by repeat (first | (with_reducible first | exact HB.out | apply below_alloc | apply pw_below_drewN | apply below_drew1 | refine below_set ?_ GE355.out | refine below_set ?_ GE356.out) | exact HB.out)) hb); clear HO_7; clear HO_10; clear BK355; clear BK356; clear HB; have HO_7 := n0_; have HO_10 := n1_; have BK355 := n2_; have BK356 := n3_; have HB := n4_; clear n0_ n1_ n2_ n3_ n4_; (try clear hb); (try clear hb2); (try clear hk); (try clear hi)))
            go_ret
            exact ⟨by first | rfl | (simp [errW_none, errW_some] <;> rfl) | (simp only [← hji5]; first | rfl | (simp [errW_none, errW_some] <;> rfl)) | (simp [*, errW_none, errW_some] <;> rfl), by repeat (first | (with_reducible first | exact HB.out | apply below_alloc | apply pw_below_drewN | apply below_drew1 | refine below_set ?_ GE355.out | refine below_set ?_ GE356.out) | exact HB.out)⟩
          · rw [if_neg c22] at H
            have c22b0 : (true == true) = false := by simpa using c22
            (try (have c22b1 : decide (true = true) = false := by simpa using c22))
            (try (have c22b2 : (true == true) = false := by simpa using c22))
            (try (have c22b3 : ¬ (true = true) := by simpa using c22))
            clear c22
            exact absurd ((Option.some.inj H).trans hr_.out) (by decide)
      · replace c17 := Bool.eq_false_iff.mpr c17
        subst c17
        have H1 : (if (wrap64 ((wrap64 ((t364.length : Int) - (l1_1.length : Int))) - 4)) < 2 then (some false) else (if (wrap64 ((l1_1.length : Int) + 5)) = 0 then (none) else (if (Int.tmod (wrap64 (a2_0)) (wrap64 ((l1_1.length : Int) + 5))) > 0 then (stemmalaw04_FrameTurned.j1 kj6 l0 t357 t364 ((a2_1) % 256) (wrap64 ((wrap64 ((wrap64 ((wrap64 ((t364.length : Int) - (l1_1.length : Int))) - 4)) + (Int.tmod (wrap64 (a2_0)) (wrap64 ((l1_1.length : Int) + 5))))) - 1))) else (stemmalaw04_FrameTurned.j1 kj6 l0 t357 t364 ((a2_1) % 256) (Int.tmod (wrap64 (a2_0)) (wrap64 ((l1_1.length : Int) + 5))))))) = some r := by rw [if_neg (show ¬ (false = true) by decide)] at H; exact H
        clear H
        have H := H1
        clear H1
        by_cases c25 : (wrap64 ((wrap64 ((t364.length : Int) - (l1_1.length : Int))) - 4)) < 2
        · rw [if_pos c25] at H
          have c25b0 : decide ((wrap64 ((wrap64 ((t364.length : Int) - (l1_1.length : Int))) - 4)) < 2) = true := decide_eq_true c25
          clear c25
          exact absurd ((Option.some.inj H).trans hr_.out) (by decide)
        · rw [if_neg c25] at H
          have c25b0 : decide ((wrap64 ((wrap64 ((t364.length : Int) - (l1_1.length : Int))) - 4)) < 2) = false := decide_eq_false c25
          clear c25
          by_cases c26 : (wrap64 ((l1_1.length : Int) + 5)) = 0
          · rw [if_pos c26] at H
            exact absurd H (by simp)
          · rw [if_neg c26] at H
            have c26b0 : ((wrap64 ((l1_1.length : Int) + 5)) == 0) = false := beq_eq_false_iff_ne.mpr c26
            have c26b1 : ((wrap64 ((l1_1.length : Int) + 5)) != 0) = true := bne_iff_ne.mpr c26
            have HC27 := Aside0.mk H
            clear H
            obtain ⟨Ao28, co28, eo28⟩ := Kd.R_slice HO_10.out
            subst eo28
            have hnb29 := NB355_356.out
            have hnc29 := NB356_355.out
            have hcz30_0 : wc.cell? ⟨gb355, 0, none⟩ = some (.int .u8 a1_0) := (blk_cell BK355.out 0).trans rfl
            have hcz30_1 : wc.cell? ⟨gb355, 1, none⟩ = some (.slice A1_1 l1_1.length c1_1) := (blk_cell BK355.out 1).trans rfl
            have hfz30_0 := blk_frozen BK355.out 0
            have hfz30_1 := blk_frozen BK355.out 1
            have hcz31_0 : wc.cell? ⟨gb356, 0, none⟩ = some (.int .u16 a2_0) := (blk_cell BK356.out 0).trans rfl
            have hcz31_1 : wc.cell? ⟨gb356, 1, none⟩ = some (.int .u16 a2_1) := (blk_cell BK356.out 1).trans rfl
            have hfz31_0 := blk_frozen BK356.out 0
            have hfz31_1 := blk_frozen BK356.out 1
            go_upto_if 80 with (fail)
            go_cut [14] (fun v14 wc => ∃ (kq : Nat) (x14_26 : Int), v14 = .int .i64 x14_26 ∧ Aside0 (stemmalaw04_FrameTurned.j1 kq l0 t357 t364 ((a2_1) % 256) x14_26 = some r) ∧ Aside0 (kq ≤ kj6) ∧ Aside0 (Kd.R (Kd.int .u8) 5 wc w.heap.size (fun k_ => some k_ ≠ ((.slice Ao28 t364.length co28) : Value).ownBlock) v360 t357) ∧ Aside0 (Kd.R (Kd.int .u8) 5 wc w.heap.size (fun k_ => some k_ ≠ (v360 : Value).ownBlock) (.slice Ao28 t364.length co28) t364) ∧ Aside0 (wc.heap[gb355]? = some (.cells #[.int .u8 a1_0, (.slice A1_1 l1_1.length c1_1)] 52 (0, 0))) ∧ Aside0 (wc.heap[gb356]? = some (.cells #[.int .u16 a2_0, .int .u16 a2_1] 55 (0, 0))) ∧ Aside0 (Below w.heap.size w wc))
            case first =>
              have H := HC27.out
              clear HC27
              by_cases c32 : (Int.tmod (wrap64 (a2_0)) (wrap64 ((l1_1.length : Int) + 5))) > 0
              · rw [if_pos c32] at H
                have c32b0 : decide (0 < (Int.tmod (wrap64 (a2_0)) (wrap64 ((l1_1.length : Int) + 5)))) = true := decide_eq_true c32
                clear c32
                (first | rw [c32b0] | (simp only [i64_w, i32_w]; rw [c32b0]) | skip)
                have H' := Aside0.mk H
                clear H
                go_wp2
                go_meet
                case rel => exact ⟨_, (wrap64 ((wrap64 ((wrap64 ((wrap64 ((t364.length : Int) - (l1_1.length : Int))) - 4)) + (Int.tmod (wrap64 (a2_0)) (wrap64 ((l1_1.length : Int) + 5))))) - 1)), (by first | rfl | (simp; done) | (simp [*]; done)), H', ⟨by have := HJ6.out; first | omega | exact Nat.le_refl _⟩, ⟨by (with_reducible repeat (first | apply Kd.R_alloc | apply Kd.R_drewN | apply Kd.R_drew)); exact HO_7.out⟩, ⟨by (with_reducible repeat (first | apply Kd.R_alloc | apply Kd.R_drewN | apply Kd.R_drew)); exact HO_10.out⟩, ⟨by (with_reducible repeat (first | refine blk_drewN ?_ _ | refine blk_drew ?_ | refine blk_alloc ?_ _)); exact BK355.out⟩, ⟨by (with_reducible repeat (first | refine blk_drewN ?_ _ | refine blk_drew ?_ | refine blk_alloc ?_ _)); exact BK356.out⟩, ⟨by repeat (first | (with_reducible first | exact HB.out | apply below_alloc | apply pw_below_drewN | apply below_drew1 | refine below_set ?_ GE355.out | refine below_set ?_ GE356.out) | exact HB.out)⟩⟩
              · rw [if_neg c32] at H
                have c32b0 : decide (0 < (Int.tmod (wrap64 (a2_0)) (wrap64 ((l1_1.length : Int) + 5)))) = false := decide_eq_false c32
                clear c32
                (first | rw [c32b0] | (simp only [i64_w, i32_w]; rw [c32b0]) | skip)
                have H' := Aside0.mk H
                clear H
                go_wp2
                go_meet
                case rel => exact ⟨_, (Int.tmod (wrap64 (a2_0)) (wrap64 ((l1_1.length : Int) + 5))), (by first | rfl | (simp; done) | (simp [*]; done)), H', ⟨by have := HJ6.out; first | omega | exact Nat.le_refl _⟩, ⟨by (with_reducible repeat (first | apply Kd.R_alloc | apply Kd.R_drewN | apply Kd.R_drew)); exact HO_7.out⟩, ⟨by (with_reducible repeat (first | apply Kd.R_alloc | apply Kd.R_drewN | apply Kd.R_drew)); exact HO_10.out⟩, ⟨by (with_reducible repeat (first | refine blk_drewN ?_ _ | refine blk_drew ?_ | refine blk_alloc ?_ _)); exact BK355.out⟩, ⟨by (with_reducible repeat (first | refine blk_drewN ?_ _ | refine blk_drew ?_ | refine blk_alloc ?_ _)); exact BK356.out⟩, ⟨by repeat (first | (with_reducible first | exact HB.out | apply below_alloc | apply pw_below_drewN | apply below_drew1 | refine below_set ?_ GE355.out | refine below_set ?_ GE356.out) | exact HB.out)⟩⟩
            case rest =>
              clear HC27
              try clear c1
              try clear c2
              try clear p2
              try clear c3
              try clear p6
              try clear c7
              try clear c11
              try clear c13
              try clear c15
              try clear c16
              try clear c16b0
              try clear c16b1
              try clear c17
              try clear c18
              try clear c19
              try clear c19b0
              try clear c19b1
              try clear c19b2
              try clear c22
              try clear c22b0
              try clear c22b1
              try clear c22b2
              try clear c23
              try clear c25
              try clear c25b0
              try clear c26
              try clear c26b0
              try clear c26b1
              try clear c29
              try clear c32
              try clear c32b0
              try clear hcz12_0
              try clear hcz12_1
              try clear hcz14_0
              try clear hcz14_1
              try clear hcz30_0
              try clear hcz30_1
              try clear hcz31_0
              try clear hcz31_1
              try clear hfz12_0
              try clear hfz12_1
              try clear hfz14_0
              try clear hfz14_1
              try clear hfz30_0
              try clear hfz30_1
              try clear hfz31_0
              try clear hfz31_1
              try clear p2
              obtain ⟨kq, x14_26, rfl, HA, HJ26, HO_7, HO_10, BK355, BK356, HB⟩ := hcut
              cases kq with
              | zero => exact absurd HA.out (by simp [stemmalaw04_FrameTurned.j1])
              | succ kj26 =>
                have H := HA.out
                clear HA
                simp only [stemmalaw04_FrameTurned.j1] at H
                by_cases c33 : 0 ≤ x14_26
                · rw [if_pos c33] at H
                  have c33b0 : decide (0 ≤ x14_26) = true := decide_eq_true c33
                  clear c33
                  by_cases c34 : x14_26 < (t364.length : Int)
                  · rw [if_pos c34] at H
                    have c34b0 : decide (x14_26 < (t364.length : Int)) = true := decide_eq_true c34
                    clear c34
                    obtain ⟨y371, hy371⟩ : ∃ y_ : List Int, y_ = (t364.set (x14_26 : Int).toNat (Go.bits .xor .u8 (rd t364 x14_26) ((a2_1) % 256))) := ⟨_, rfl⟩
                    replace H : ((some (([] : List Int) : List Int)).bind fun y372 => (if y372.length + t357.length < 140737488355328 then ((some (y372 ++ t357 : List Int)).bind fun y375 => (if y375.length + y371.length < 140737488355328 then ((frame_Scan.f kj26 (y375 ++ y371)).bind fun bt381 => (if (bt381.1.length : Int) = (l0.length : Int) then ((stemmalaw04_whole.f kj26 bt381.1 l0).bind fun t386 => (if t386 = true then (if bt381.2.1 = (t357.length : Int) then (if bt381.2.2 = 6 then ((stemmalaw04_awake.f kj26).bind fun t387 => (some t387)) else (if x14_26 = 0 then (if 0 < (t364.length : Int) then (if (rd y371 0) = 0 then (if bt381.2.2 = 4 then ((stemmalaw04_awake.f kj26).bind fun t389 => (some t389)) else (some false)) else (some false)) else (none)) else (some false))) else (some false)) else (some false))) else (some false))) else (none))) else (none))) = some r := by first | (rw [hy371]; with_reducible exact H) | (have H2_ := (Option.bind_some _ _).symm.trans H; rw [hy371]; with_reducible exact H2_) | (have H2_ := (Option.bind_some _ _).symm.trans H; with_reducible exact H2_) | with_reducible exact H | (rw [hy371]; exact H) | exact H
                    have Ny371 := Aside0.mk hy371
                    clear hy371
                    obtain ⟨y372, hy372⟩ : ∃ y_ : List Int, y_ = (([] : List Int)) := ⟨_, rfl⟩
                    replace H : (if y372.length + t357.length < 140737488355328 then ((some (y372 ++ t357 : List Int)).bind fun y375 => (if y375.length + y371.length < 140737488355328 then ((frame_Scan.f kj26 (y375 ++ y371)).bind fun bt381 => (if (bt381.1.length : Int) = (l0.length : Int) then ((stemmalaw04_whole.f kj26 bt381.1 l0).bind fun t386 => (if t386 = true then (if bt381.2.1 = (t357.length : Int) then (if bt381.2.2 = 6 then ((stemmalaw04_awake.f kj26).bind fun t387 => (some t387)) else (if x14_26 = 0 then (if 0 < (t364.length : Int) then (if (rd y371 0) = 0 then (if bt381.2.2 = 4 then ((stemmalaw04_awake.f kj26).bind fun t389 => (some t389)) else (some false)) else (some false)) else (none)) else (some false))) else (some false)) else (some false))) else (some false))) else (none))) else (none)) = some r := by first | (rw [hy372]; with_reducible exact H) | (have H2_ := (Option.bind_some _ _).symm.trans H; rw [hy372]; with_reducible exact H2_) | (have H2_ := (Option.bind_some _ _).symm.trans H; with_reducible exact H2_) | with_reducible exact H | (rw [hy372]; exact H) | exact H
                    have Ny372 := Aside0.mk hy372
                    clear hy372
                    by_cases c36 : y372.length + t357.length < 140737488355328
                    · rw [if_pos c36] at H
                      have LMc36 := Aside0.mk c36
                      clear c36
                      obtain ⟨y375, hy375⟩ : ∃ y_ : List Int, y_ = (y372 ++ t357) := ⟨_, rfl⟩
                      replace H : (if y375.length + y371.length < 140737488355328 then ((frame_Scan.f kj26 (y375 ++ y371)).bind fun bt381 => (if (bt381.1.length : Int) = (l0.length : Int) then ((stemmalaw04_whole.f kj26 bt381.1 l0).bind fun t386 => (if t386 = true then (if bt381.2.1 = (t357.length : Int) then (if bt381.2.2 = 6 then ((stemmalaw04_awake.f kj26).bind fun t387 => (some t387)) else (if x14_26 = 0 then (if 0 < (t364.length : Int) then (if (rd y371 0) = 0 then (if bt381.2.2 = 4 then ((stemmalaw04_awake.f kj26).bind fun t389 => (some t389)) else (some false)) else (some false)) else (none)) else (some false))) else (some false)) else (some false))) else (some false))) else (none)) = some r := by first | (rw [hy375]; with_reducible exact H) | (have H2_ := (Option.bind_some _ _).symm.trans H; rw [hy375]; with_reducible exact H2_) | (have H2_ := (Option.bind_some _ _).symm.trans H; with_reducible exact H2_) | with_reducible exact H | (rw [hy375]; exact H) | exact H
                      have Ny375 := Aside0.mk hy375
                      clear hy375
                      by_cases c37 : y375.length + y371.length < 140737488355328
                      · rw [if_pos c37] at H
                        have LMc37 := Aside0.mk c37
                        clear c37
                        obtain ⟨y378, hy378⟩ : ∃ y_ : List Int, y_ = (y375 ++ y371) := ⟨_, rfl⟩
                        replace H : ((frame_Scan.f kj26 y378).bind fun bt381 => (if (bt381.1.length : Int) = (l0.length : Int) then ((stemmalaw04_whole.f kj26 bt381.1 l0).bind fun t386 => (if t386 = true then (if bt381.2.1 = (t357.length : Int) then (if bt381.2.2 = 6 then ((stemmalaw04_awake.f kj26).bind fun t387 => (some t387)) else (if x14_26 = 0 then (if 0 < (t364.length : Int) then (if (rd y371 0) = 0 then (if bt381.2.2 = 4 then ((stemmalaw04_awake.f kj26).bind fun t389 => (some t389)) else (some false)) else (some false)) else (none)) else (some false))) else (some false)) else (some false))) else (some false))) = some r := by first | (rw [hy378]; with_reducible exact H) | (have H2_ := (Option.bind_some _ _).symm.trans H; rw [hy378]; with_reducible exact H2_) | (have H2_ := (Option.bind_some _ _).symm.trans H; with_reducible exact H2_) | with_reducible exact H | (rw [hy378]; exact H) | exact H
                        have Ny378 := Aside0.mk hy378
                        clear hy378
                        replace H := Option.bind_eq_some_iff.mp H
                        obtain ⟨⟨t381, t382, t383⟩, A380, H⟩ := H
                        replace H : (if (t381.length : Int) = (l0.length : Int) then ((stemmalaw04_whole.f kj26 t381 l0).bind fun t386 => (if t386 = true then (if t382 = (t357.length : Int) then (if t383 = 6 then ((stemmalaw04_awake.f kj26).bind fun t387 => (some t387)) else (if x14_26 = 0 then (if 0 < (t364.length : Int) then (if (rd y371 0) = 0 then (if t383 = 4 then ((stemmalaw04_awake.f kj26).bind fun t389 => (some t389)) else (some false)) else (some false)) else (none)) else (some false))) else (some false)) else (some false))) else (some false)) = some r := H
                        have A38 := Aside0.mk A380
                        clear A380
                        by_cases c39 : (t381.length : Int) = (l0.length : Int)
                        · rw [if_pos c39] at H
                          have c39b0 : ((t381.length : Int) == (l0.length : Int)) = true := beq_iff_eq.mpr c39
                          have c39b1 : ((t381.length : Int) != (l0.length : Int)) = false := bne_eq_false_iff_eq.mpr c39
                          have c39b2 : (t381.length == l0.length) = true := by first | simpa using c39 | (simp at c39 ⊢; omega)
                          clear c39
                          replace H := Option.bind_eq_some_iff.mp H
                          obtain ⟨t386, A400, H⟩ := H
                          replace H : (if t386 = true then (if t382 = (t357.length : Int) then (if t383 = 6 then ((stemmalaw04_awake.f kj26).bind fun t387 => (some t387)) else (if x14_26 = 0 then (if 0 < (t364.length : Int) then (if (rd y371 0) = 0 then (if t383 = 4 then ((stemmalaw04_awake.f kj26).bind fun t389 => (some t389)) else (some false)) else (some false)) else (none)) else (some false))) else (some false)) else (some false)) = some r := H
                          have A40 := Aside0.mk A400
                          clear A400
                          by_cases c41 : t386 = true
                          · subst c41
                            have H1 : (if t382 = (t357.length : Int) then (if t383 = 6 then ((stemmalaw04_awake.f kj26).bind fun t387 => (some t387)) else (if x14_26 = 0 then (if 0 < (t364.length : Int) then (if (rd y371 0) = 0 then (if t383 = 4 then ((stemmalaw04_awake.f kj26).bind fun t389 => (some t389)) else (some false)) else (some false)) else (none)) else (some false))) else (some false)) = some r := by rw [if_pos rfl] at H; exact H
                            clear H
                            have H := H1
                            clear H1
                            by_cases c42 : t382 = (t357.length : Int)
                            · rw [if_pos c42] at H
                              have c42b0 : (t382 == (t357.length : Int)) = true := beq_iff_eq.mpr c42
                              have c42b1 : (t382 != (t357.length : Int)) = false := bne_eq_false_iff_eq.mpr c42
                              clear c42
                              by_cases c43 : t383 = 6
                              · rw [if_pos c43] at H
                                have c43b0 : (t383 == 6) = true := beq_iff_eq.mpr c43
                                have c43b1 : (t383 != 6) = false := bne_eq_false_iff_eq.mpr c43
                                clear c43
                                replace H := Option.bind_eq_some_iff.mp H
                                obtain ⟨t387, A440, H⟩ := H
                                replace H : (some t387) = some r := H
                                have A44 := Aside0.mk A440
                                clear A440
                                obtain rfl := Option.some.inj H
                                have p370 : 0 ≤ (x14_26 : Int) := of_decide_eq_true (by first | (with_reducible assumption) | assumption)
                                have q370 : x14_26 < (t364.length : Int) := of_decide_eq_true (by first | (with_reducible assumption) | assumption)
                                obtain ⟨ad370, e370, hx370_0⟩ := Kd.at_int (Kd.R_reads' HO_10.out).2.2 x14_26 p370 q370
                                cases e370
                                replace p370 := eq_true p370
                                replace q370 := eq_true q370
                                have p35 : 0 ≤ (x14_26 : Int) := of_decide_eq_true (by first | (with_reducible assumption) | assumption)
                                have q35 : (x14_26 : Int) < ((t364.length : Int) : Int) := of_decide_eq_true (by first | (with_reducible assumption) | assumption)
                                obtain ⟨go35, co35, eo35, gb35, gl35, cl35, HG35⟩ := Kd.R_form HO_10.out (by omega)
                                (first | cases eo35 | (injection eo35 with ea_ en_ ec_; (first | subst ea_ | (injection ea_ with ea_; subst ea_)); subst ec_; clear en_))
                                have GB35 := Aside0.mk gb35
                                have GG35 := Aside0.mk HG35
                                clear gb35 gl35 HG35
                                (first | simp only [add_plain] at hx370_0 | skip)
                                obtain ⟨hx35_0, hf35_0⟩ := Kd.R_celln 0 HO_10.out (x14_26 : Int) p35 q35
                                replace p35 := eq_true p35
                                replace q35 := eq_true q35
                                have HP45 := Kd.R_putg HO_10.out (x14_26 : Int) (Go.bits .xor .u8 (rd t364 x14_26) ((a2_1) % 256))
                                go_wp2_with (first | ((with_reducible refine gate_store (t := 5) (p := 93) rfl ?_); refine store_event (t := 5) (p := 93) (v := ?vo_w46) (w1 := (wc.setCell ⟨go35, (x14_26 : Int).toNat, none⟩ (.int .u8 (Go.bits .xor .u8 (rd t364 x14_26) ((a2_1) % 256))))) ?hg ?ho ?hn ?hr ?_; (case ho => rfl); (case hg => rfl); (case hn => rfl); (case hr => first | (go_simp; done) | (go_simp; rfl)); intro w46 hw; have hg : wc.grownBy w46 (some go35) := (by rw [hw]; exact HP45.2); have hp_ : Kd.R (Kd.int .u8) 5 w46 w.heap.size (fun k_ => some k_ ≠ (v360 : Value).ownBlock) (.slice (some ⟨go35, 0, none⟩) t364.length co28) y371 := (by rw [hw, Ny371.out]; exact HP45.1); clear HP45; have n0_ := Aside0.mk (Kd.R_after (v := (.slice (some ⟨go35, 0, none⟩) t364.length co28)) (v1 := (.slice (some ⟨go35, 0, none⟩) t364.length co28)) (ok := (fun _ => True)) (by (with_reducible repeat (first | apply Kd.R_alloc | apply Kd.R_drewN | apply Kd.R_drew)); exact Kd.R_mono HO_7.out (fun _ hk => ⟨trivial, hk⟩)) hg (.inl rfl)); have n1_ := Aside0.mk (hp_); have n2_ := Aside0.mk (blk_grown (g := gb355) (o := .cells #[.int .u8 a1_0, .slice A1_1 l1_1.length c1_1] 52 (0, 0)) (by (with_reducible repeat (first | refine blk_drewN ?_ _ | refine blk_drew ?_ | refine blk_alloc ?_ _)); exact BK355.out) hg (Kd.R_ne HO_10.out BK355.out (by decide))); have n3_ := Aside0.mk (blk_grown (g := gb356) (o := .cells #[.int .u16 a2_0, .int .u16 a2_1] 55 (0, 0)) (by (with_reducible repeat (first | refine blk_drewN ?_ _ | refine blk_drew ?_ | refine blk_alloc ?_ _)); exact BK356.out) hg (Kd.R_ne HO_10.out BK356.out (by decide))); have n4_ := Aside0.mk ((by rw [hw]; exact below_set (HB.out) GB35.out : Below w.heap.size w w46)); clear HO_7; clear HO_10; clear BK355; clear BK356; clear HB; have HO_7 := n0_; have HO_10 := n1_; have BK355 := n2_; have BK356 := n3_; have HB := n4_; clear n0_ n1_ n2_ n3_ n4_; clear hg hw hp_) | ((with_reducible refine gate_dst (N := 95) rfl ?_); (try (refine gate_guard (by rfl) ?_; dsimp only)); refine Kd.R_lit (Kd.int .u8) _ 5 ?hg (N := 95) ?hd (xs := ([] : List Int)) (inner := []) (ok := fun _ => True) (okp := fun _ => True) ?hr ?hp (fun _ hk => hk) trivial (Below.refl _ _) (Nat.le_refl _) (by simp) ?_; (case hd => rfl); (case hg => rfl); (case hr => first | (go_simp; done) | (go_simp; rfl)); (case hp => exact (Reps.none _ _)); intro v373 w47 ho48 hb hg_ hnew_; clear hg_ hnew_; (first | rw [← Ny372.out] at ho48 | (simp only [Int.reduceToNat] at ho48; rw [← Ny372.out] at ho48)); have n0_ := Aside0.mk (Kd.R_elder' (by (with_reducible repeat (first | apply Kd.R_alloc | apply Kd.R_drewN | apply Kd.R_drew)); exact HO_7.out) (Kd.R_base ho48) hb); have n1_ := Aside0.mk (Kd.R_elder' (by (with_reducible repeat (first | apply Kd.R_alloc | apply Kd.R_drewN | apply Kd.R_drew)); exact HO_10.out) (Kd.R_base ho48) hb); have n2_ := Aside0.mk (Kd.R_lower (Kd.R_new' (Kd.R_new' ho48 (Kd.R_lt (by (with_reducible repeat (first | apply Kd.R_alloc | apply Kd.R_drewN | apply Kd.R_drew)); exact HO_7.out))) (Kd.R_lt (by (with_reducible repeat (first | apply Kd.R_alloc | apply Kd.R_drewN | apply Kd.R_drew)); exact HO_10.out))) (below_size (by repeat (first | (with_reducible first | exact HB.out | apply below_alloc | apply pw_below_drewN | apply below_drew1 | refine below_set ?_ GE355.out | refine below_set ?_ GE356.out) | exact HB.out)))); have n3_ := Aside0.mk (blk_below (g := gb355) (o := .cells #[.int .u8 a1_0, .slice A1_1 l1_1.length c1_1] 52 (0, 0)) (by (with_reducible repeat (first | refine blk_drewN ?_ _ | refine blk_drew ?_ | refine blk_alloc ?_ _)); exact BK355.out) hb); have n4_ := Aside0.mk (blk_below (g := gb356) (o := .cells #[.int .u16 a2_0, .int .u16 a2_1] 55 (0, 0)) (by (with_reducible repeat (first | refine blk_drewN ?_ _ | refine blk_drew ?_ | refine blk_alloc ?_ _)); exact BK356.out) hb); have n5_ := Aside0.mk (below_step (by repeat (first | (with_reducible first | exact HB.out | apply below_alloc | apply pw_below_drewN | apply below_drew1 | refine below_set ?_ GE355.out | refine below_set ?_ GE356.out) | exact HB.out)) hb); clear HO_7; clear HO_10; clear BK355; clear BK356; clear HB; have HO_7 := n0_; have HO_10 := n1_; have HO374 := n2_; have BK355 := n3_; have BK356 := n4_; have HB := n5_; clear n0_ n1_ n2_ n3_ n4_ n5_; clear hb ho48; obtain ⟨Ao50, co50, eo50⟩ := Kd.R_slice HO_7.out; subst eo50) | ((with_reducible refine gate_builtin (b := .append) (xs := #[.tmp 95, .tmp 96]) rfl ?_); (try (refine gate_guard (by rfl) ?_; dsimp only)); at_builtin; refine Kd.R_append_rows (Kd.int .u8) (w0 := w) w.heap.size rfl (.tmp 95) (.tmp 96) 22 5 (.int .u8 0) 1 rfl Tryd.underlying22 info5 rfl (by decide) (by omega) v373 y372 t357 _ _ _ (fun k_ => some k_ ≠ (.slice Ao50 t357.length co50 : Value).ownBlock ∧ some k_ ≠ (.slice (some ⟨go35, 0, none⟩) t364.length co28 : Value).ownBlock) (fun _ => False) rfl rfl ?aO ?aR (fun _ _ h => h) (fun _ h => h.elim) ?aF ?aB ?aS ?aL ?_; (case aR => repeat (first | exact (Kd.R_reads' HO_7.out).2.2 | (with_reducible refine Kd.C_alloc ?_ _) | (with_reducible refine Kd.C_drewN ?_ _) | (with_reducible refine Kd.C_drew ?_))); (case aB => exact (by repeat (first | (with_reducible first | exact HB.out | apply below_alloc | apply pw_below_drewN | apply below_drew1 | refine below_set ?_ GE355.out | refine below_set ?_ GE356.out) | exact HB.out))); (case aF => exact (fun k_ hk => ⟨Kd.fresh' (Kd.R_lt (by (with_reducible repeat (first | apply Kd.R_alloc | apply Kd.R_drewN | apply Kd.R_drew)); exact HO_7.out)) k_ hk, Kd.fresh' (Kd.R_lt (by (with_reducible repeat (first | apply Kd.R_alloc | apply Kd.R_drewN | apply Kd.R_drew)); exact HO_10.out)) k_ hk⟩)); (case aO => exact (by (with_reducible repeat (first | apply Kd.R_alloc | apply Kd.R_drewN | apply Kd.R_drew)); exact Kd.R_mono HO374.out (fun _ hk => ⟨hk.1.2, hk.2⟩))); (case aS => exact (below_size (by repeat (first | (with_reducible first | exact HB.out | apply below_alloc | apply pw_below_drewN | apply below_drew1 | refine below_set ?_ GE355.out | refine below_set ?_ GE356.out) | exact HB.out)))); (case aL => have := LMc36.out; omega); intro v376 w49 ho hb hg hat; rw [← Ny375.out] at ho; have n0_ := Aside0.mk (Kd.R_after (ok := (fun k_ => some k_ ≠ (.slice (some ⟨go35, 0, none⟩) t364.length co28 : Value).ownBlock)) (by (with_reducible repeat (first | apply Kd.R_alloc | apply Kd.R_drewN | apply Kd.R_drew)); exact Kd.R_mono HO_7.out (fun _ hk => ⟨hk.1.2, hk.2⟩)) hg hat); have n1_ := Aside0.mk (Kd.R_after (ok := (fun k_ => some k_ ≠ (.slice Ao50 t357.length co50 : Value).ownBlock)) (by (with_reducible repeat (first | apply Kd.R_alloc | apply Kd.R_drewN | apply Kd.R_drew)); exact HO_10.out) hg hat); have n2_ := Aside0.mk (blk_grown (g := gb355) (o := .cells #[.int .u8 a1_0, .slice A1_1 l1_1.length c1_1] 52 (0, 0)) (by (with_reducible repeat (first | refine blk_drewN ?_ _ | refine blk_drew ?_ | refine blk_alloc ?_ _)); exact BK355.out) hg (Kd.R_ne HO374.out BK355.out (by decide))); have n3_ := Aside0.mk (blk_grown (g := gb356) (o := .cells #[.int .u16 a2_0, .int .u16 a2_1] 55 (0, 0)) (by (with_reducible repeat (first | refine blk_drewN ?_ _ | refine blk_drew ?_ | refine blk_alloc ?_ _)); exact BK356.out) hg (Kd.R_ne HO374.out BK356.out (by decide))); have n4_ := Aside0.mk (hb); have n5_ := Aside0.mk (ho); clear HO_7; clear HO_10; clear BK355; clear BK356; clear HB; clear HO374; have HO_7 := n0_; have HO_10 := n1_; have BK355 := n2_; have BK356 := n3_; have HB := n4_; have HO377 := n5_; clear n0_ n1_ n2_ n3_ n4_ n5_; clear ho hb hg hat) | ((with_reducible refine gate_builtin (b := .append) (xs := #[.tmp 97, .tmp 98]) rfl ?_); (try (refine gate_guard (by rfl) ?_; dsimp only)); at_builtin; refine Kd.R_append_rows (Kd.int .u8) (w0 := w) w.heap.size rfl (.tmp 97) (.tmp 98) 22 5 (.int .u8 0) 1 rfl Tryd.underlying22 info5 rfl (by decide) (by omega) v376 y375 y371 _ _ _ (fun k_ => some k_ ≠ (.slice Ao50 t357.length co50 : Value).ownBlock ∧ some k_ ≠ (.slice (some ⟨go35, 0, none⟩) t364.length co28 : Value).ownBlock) (fun _ => False) rfl rfl ?aO ?aR (fun _ _ h => h) (fun _ h => h.elim) ?aF ?aB ?aS ?aL ?_; (case aR => rw [show t364.length = y371.length from (Kd.R_reads' HO_10.out).1]; repeat (first | exact (Kd.R_reads' HO_10.out).2.2 | (with_reducible refine Kd.C_alloc ?_ _) | (with_reducible refine Kd.C_drewN ?_ _) | (with_reducible refine Kd.C_drew ?_))); (case aB => exact (by repeat (first | (with_reducible first | exact HB.out | apply below_alloc | apply pw_below_drewN | apply below_drew1 | refine below_set ?_ GE355.out | refine below_set ?_ GE356.out) | exact HB.out))); (case aF => exact (fun k_ hk => ⟨Kd.fresh' (Kd.R_lt (by (with_reducible repeat (first | apply Kd.R_alloc | apply Kd.R_drewN | apply Kd.R_drew)); exact HO_7.out)) k_ hk, Kd.fresh' (Kd.R_lt (by (with_reducible repeat (first | apply Kd.R_alloc | apply Kd.R_drewN | apply Kd.R_drew)); exact HO_10.out)) k_ hk⟩)); (case aO => exact (by (with_reducible repeat (first | apply Kd.R_alloc | apply Kd.R_drewN | apply Kd.R_drew)); exact HO377.out)); (case aS => exact (below_size (by repeat (first | (with_reducible first | exact HB.out | apply below_alloc | apply pw_below_drewN | apply below_drew1 | refine below_set ?_ GE355.out | refine below_set ?_ GE356.out) | exact HB.out)))); (case aL => have := LMc37.out; have hlx_ := (Kd.R_reads' HO_10.out).1; omega); intro v379 w51 ho hb hg hat; rw [← Ny378.out] at ho; have n0_ := Aside0.mk (Kd.R_after (ok := (fun k_ => some k_ ≠ (.slice (some ⟨go35, 0, none⟩) t364.length co28 : Value).ownBlock)) (by (with_reducible repeat (first | apply Kd.R_alloc | apply Kd.R_drewN | apply Kd.R_drew)); exact HO_7.out) hg hat); have n1_ := Aside0.mk (Kd.R_after (ok := (fun k_ => some k_ ≠ (.slice Ao50 t357.length co50 : Value).ownBlock)) (by (with_reducible repeat (first | apply Kd.R_alloc | apply Kd.R_drewN | apply Kd.R_drew)); exact HO_10.out) hg hat); have n2_ := Aside0.mk (blk_grown (g := gb355) (o := .cells #[.int .u8 a1_0, .slice A1_1 l1_1.length c1_1] 52 (0, 0)) (by (with_reducible repeat (first | refine blk_drewN ?_ _ | refine blk_drew ?_ | refine blk_alloc ?_ _)); exact BK355.out) hg (Kd.R_ne HO377.out BK355.out (by decide))); have n3_ := Aside0.mk (blk_grown (g := gb356) (o := .cells #[.int .u16 a2_0, .int .u16 a2_1] 55 (0, 0)) (by (with_reducible repeat (first | refine blk_drewN ?_ _ | refine blk_drew ?_ | refine blk_alloc ?_ _)); exact BK356.out) hg (Kd.R_ne HO377.out BK356.out (by decide))); have n4_ := Aside0.mk (hb); have n5_ := Aside0.mk (ho); clear HO_7; clear HO_10; clear BK355; clear BK356; clear HB; clear HO377; have HO_7 := n0_; have HO_10 := n1_; have BK355 := n2_; have BK356 := n3_; have HB := n4_; have HO380 := n5_; clear n0_ n1_ n2_ n3_ n4_ n5_; clear ho hb hg hat; obtain ⟨Ao52, co52, eo52⟩ := Kd.R_slice HO380.out; subst eo52) | ((with_reducible refine gate_callee (f := 20) rfl ?_); refine goesL_ (some 100) rfl rfl Tryd.func20 (by kernel_rfl) rfl #[.slice Ao52 y378.length co52] rfl (by (try simp only [List.map_toArray, List.map_cons, List.map_nil]); first | done | rfl | (simp only [List.length_drop, List.length_take]; rfl)) ?_; (with_reducible refine (frame_Scan.calls kj26 _ _ y378 t381 t382 t383 _ ?side1 ?side2 ?side3 A38.out).mono ?_); (case side1 => repeat (first | exact (Kd.R_reads' HO380.out).2.2 | (with_reducible refine Kd.C_alloc ?_ _) | (with_reducible refine Kd.C_drewN ?_ _) | (with_reducible refine Kd.C_drew ?_))); (case side2 => exact (Kd.R_reads' HO380.out).2.1); (case side3 => first | exact HG.out | exact Gl.below HG.out (by repeat (first | (with_reducible first | exact HB.out | apply below_alloc | apply pw_below_drewN | apply below_drew1 | refine below_set ?_ GE355.out | refine below_set ?_ GE356.out) | exact HB.out))); rintro e w53 ⟨v384, rfl, ho0, hb⟩; refine ⟨_, rfl, ?_⟩; have n0_ := Aside0.mk (Kd.R_below (by (with_reducible repeat (first | apply Kd.R_alloc | apply Kd.R_drewN | apply Kd.R_drew)); exact HO_7.out) hb); have n1_ := Aside0.mk (Kd.R_below (by (with_reducible repeat (first | apply Kd.R_alloc | apply Kd.R_drewN | apply Kd.R_drew)); exact HO_10.out) hb); have n2_ := Aside0.mk (Kd.R_below (by (with_reducible repeat (first | apply Kd.R_alloc | apply Kd.R_drewN | apply Kd.R_drew)); exact HO380.out) hb); have n3_ := Aside0.mk (Kd.S_lower (Kd.S_new' (Kd.S_new' (Kd.S_new' ho0 (Kd.R_lt (by (with_reducible repeat (first | apply Kd.R_alloc | apply Kd.R_drewN | apply Kd.R_drew)); exact HO_7.out))) (Kd.R_lt (by (with_reducible repeat (first | apply Kd.R_alloc | apply Kd.R_drewN | apply Kd.R_drew)); exact HO_10.out))) (Kd.R_lt (by (with_reducible repeat (first | apply Kd.R_alloc | apply Kd.R_drewN | apply Kd.R_drew)); exact HO380.out))) (below_size (by repeat (first | (with_reducible first | exact HB.out | apply below_alloc | apply pw_below_drewN | apply below_drew1 | refine below_set ?_ GE355.out | refine below_set ?_ GE356.out) | exact HB.out)))); have n4_ := Aside0.mk (blk_below (g := gb355) (o := .cells #[.int .u8 a1_0, .slice A1_1 l1_1.length c1_1] 52 (0, 0)) (by (with_reducible repeat (first | refine blk_drewN ?_ _ | refine blk_drew ?_ | refine blk_alloc ?_ _)); exact BK355.out) hb); have n5_ := Aside0.mk (blk_below (g := gb356) (o := .cells #[.int .u16 a2_0, .int .u16 a2_1] 55 (0, 0)) (by (with_reducible repeat (first | refine blk_drewN ?_ _ | refine blk_drew ?_ | refine blk_alloc ?_ _)); exact BK356.out) hb); have n6_ := Aside0.mk (below_step (by repeat (first | (with_reducible first | exact HB.out | apply below_alloc | apply pw_below_drewN | apply below_drew1 | refine below_set ?_ GE355.out | refine below_set ?_ GE356.out) | exact HB.out)) hb); clear HO_7; clear HO_10; clear HO380; clear BK355; clear BK356; clear HB; have HO_7 := n0_; have HO_10 := n1_; have HO380 := n2_; have HO385 := n3_; have BK355 := n4_; have BK356 := n5_; have HB := n6_; clear n0_ n1_ n2_ n3_ n4_ n5_ n6_; (try clear hb); (try clear hb2); (try clear hk); (try clear hi); (try clear ho0); obtain ⟨Ao54, co54, eo54⟩ := Kd.S_slice HO385.out; subst eo54) | (go_at_call 24; (with_reducible refine (stemmalaw04_whole.calls kj26 _ _ t381 _ _ l0 true _ ?side1 ?side2 ?side3 ?side4 A40.out).mono ?_); (case side1 => repeat (first | exact (Kd.S_reads' HO385.out).2.2 | (with_reducible refine Kd.C_alloc ?_ _) | (with_reducible refine Kd.C_drewN ?_ _) | (with_reducible refine Kd.C_drew ?_))); (case side2 => exact (Kd.S_reads' HO385.out).2.1); (case side3 => repeat (first | exact (Kd.C_below HR0.out HB.out) | (with_reducible refine Kd.C_alloc ?_ _) | (with_reducible refine Kd.C_drewN ?_ _) | (with_reducible refine Kd.C_drew ?_))); (case side4 => exact HC0.out); rintro e w55 ⟨rfl, hb⟩; have n0_ := Aside0.mk (Kd.R_below (by (with_reducible repeat (first | apply Kd.R_alloc | apply Kd.R_drewN | apply Kd.R_drew)); exact HO_7.out) hb); have n1_ := Aside0.mk (Kd.R_below (by (with_reducible repeat (first | apply Kd.R_alloc | apply Kd.R_drewN | apply Kd.R_drew)); exact HO_10.out) hb); have n2_ := Aside0.mk (Kd.R_below (by (with_reducible repeat (first | apply Kd.R_alloc | apply Kd.R_drewN | apply Kd.R_drew)); exact HO380.out) hb); have n3_ := Aside0.mk (Kd.S_below (by (with_reducible repeat (first | apply Kd.S_alloc | apply Kd.S_drewN | apply Kd.S_drew)); exact HO385.out) hb); have n4_ := Aside0.mk (blk_below (g := gb355) (o := .cells #[.int .u8 a1_0, .slice A1_1 l1_1.length c1_1] 52 (0, 0)) (by (with_reducible repeat (first | refine blk_drewN ?_ _ | refine blk_drew ?_ | refine blk_alloc ?_ _)); exact BK355.out) hb); have n5_ := Aside0.mk (blk_below (g := gb356) (o := .cells #[.int .u16 a2_0, .int .u16 a2_1] 55 (0, 0)) (by (with_reducible repeat (first | refine blk_drewN ?_ _ | refine blk_drew ?_ | refine blk_alloc ?_ _)); exact BK356.out) hb); have n6_ := Aside0.mk (below_step (by repeat (first | (with_reducible first | exact HB.out | apply below_alloc | apply pw_below_drewN | apply below_drew1 | refine below_set ?_ GE355.out | refine below_set ?_ GE356.out) | exact HB.out)) hb); clear HO_7; clear HO_10; clear HO380; clear HO385; clear BK355; clear BK356; clear HB; have HO_7 := n0_; have HO_10 := n1_; have HO380 := n2_; have HO385 := n3_; have BK355 := n4_; have BK356 := n5_; have HB := n6_; clear n0_ n1_ n2_ n3_ n4_ n5_ n6_; (try clear hb); (try clear hb2); (try clear hk); (try clear hi)) | (go_at_call 17; (with_reducible refine (stemmalaw04_awake.calls kj26  t387 _ ?side1 A44.out).mono ?_); (case side1 => first | exact HG.out | exact Gl.below HG.out (by repeat (first | (with_reducible first | exact HB.out | apply below_alloc | apply pw_below_drewN | apply below_drew1 | refine below_set ?_ GE355.out | refine below_set ?_ GE356.out) | exact HB.out))); rintro e w56 ⟨rfl, hb⟩; have n0_ := Aside0.mk (Kd.R_below (by (with_reducible repeat (first | apply Kd.R_alloc | apply Kd.R_drewN | apply Kd.R_drew)); exact HO_7.out) hb); have n1_ := Aside0.mk (Kd.R_below (by (with_reducible repeat (first | apply Kd.R_alloc | apply Kd.R_drewN | apply Kd.R_drew)); exact HO_10.out) hb); have n2_ := Aside0.mk (Kd.R_below (by (with_reducible repeat (first | apply Kd.R_alloc | apply Kd.R_drewN | apply Kd.R_drew)); exact HO380.out) hb); have n3_ := Aside0.mk (Kd.S_below (by (with_reducible repeat (first | apply Kd.S_alloc | apply Kd.S_drewN | apply Kd.S_drew)); exact HO385.out) hb); have n4_ := Aside0.mk (blk_below (g := gb355) (o := .cells #[.int .u8 a1_0, .slice A1_1 l1_1.length c1_1] 52 (0, 0)) (by (with_reducible repeat (first | refine blk_drewN ?_ _ | refine blk_drew ?_ | refine blk_alloc ?_ _)); exact BK355.out) hb); have n5_ := Aside0.mk (blk_below (g := gb356) (o := .cells #[.int .u16 a2_0, .int .u16 a2_1] 55 (0, 0)) (by (with_reducible repeat (first | refine blk_drewN ?_ _ | refine blk_drew ?_ | refine blk_alloc ?_ _)); exact BK356.out) hb); have n6_ := Aside0.mk (below_step (by repeat (first | (with_reducible first | exact HB.out | apply below_alloc | apply pw_below_drewN | apply below_drew1 | refine below_set ?_ GE355.out | refine below_set ?_ GE356.out) | exact HB.out)) hb); clear HO_7; clear HO_10; clear HO380; clear HO385; clear BK355; clear BK356; clear HB; have HO_7 := n0_; have HO_10 := n1_; have HO380 := n2_; have HO385 := n3_; have BK355 := n4_; have BK356 := n5_; have HB := n6_; clear n0_ n1_ n2_ n3_ n4_ n5_ n6_; (try clear hb); (try clear hb2); (try clear hk); (try clear hi)))
                                go_ret
                                exact ⟨by first | rfl | (simp [errW_none, errW_some] <;> rfl) | (simp only [← hji5]; first | rfl | (simp [errW_none, errW_some] <;> rfl)) | (simp [*, errW_none, errW_some] <;> rfl), by repeat (first | (with_reducible first | exact HB.out | apply below_alloc | apply pw_below_drewN | apply below_drew1 | refine below_set ?_ GE355.out | refine below_set ?_ GE356.out) | exact HB.out)⟩
                              · rw [if_neg c43] at H
                                have c43b0 : (t383 == 6) = false := beq_eq_false_iff_ne.mpr c43
                                have c43b1 : (t383 != 6) = true := bne_iff_ne.mpr c43
                                by_cases c57 : x14_26 = 0
                                · rw [if_pos c57] at H
                                  have c57b0 : (x14_26 == 0) = true := beq_iff_eq.mpr c57
                                  have c57b1 : (x14_26 != 0) = false := bne_eq_false_iff_eq.mpr c57
                                  clear c57
                                  by_cases c58 : 0 < (t364.length : Int)
                                  · rw [if_pos c58] at H
                                    have c58b0 : decide (0 < (t364.length : Int)) = true := decide_eq_true c58
                                    have c58b1 : decide (0 < t364.length) = true := decide_eq_true (by omega)
                                    clear c58
                                    by_cases c59 : (rd y371 0) = 0
                                    · rw [if_pos c59] at H
                                      have c59b0 : ((rd y371 0) == 0) = true := beq_iff_eq.mpr c59
                                      have c59b1 : ((rd y371 0) != 0) = false := bne_eq_false_iff_eq.mpr c59
                                      clear c59
                                      by_cases c60 : t383 = 4
                                      · rw [if_pos c60] at H
                                        have c60b0 : (t383 == 4) = true := beq_iff_eq.mpr c60
                                        have c60b1 : (t383 != 4) = false := bne_eq_false_iff_eq.mpr c60
                                        clear c60
                                        replace H := Option.bind_eq_some_iff.mp H
                                        obtain ⟨t389, A610, H⟩ := H
                                        replace H : (some t389) = some r := H
                                        have A61 := Aside0.mk A610
                                        clear A610
                                        obtain rfl := Option.some.inj H
                                        have p370 : 0 ≤ (x14_26 : Int) := of_decide_eq_true (by first | (with_reducible assumption) | assumption)
                                        have q370 : x14_26 < (t364.length : Int) := of_decide_eq_true (by first | (with_reducible assumption) | assumption)
                                        obtain ⟨ad370, e370, hx370_0⟩ := Kd.at_int (Kd.R_reads' HO_10.out).2.2 x14_26 p370 q370
                                        cases e370
                                        replace p370 := eq_true p370
                                        replace q370 := eq_true q370
                                        have p35 : 0 ≤ (x14_26 : Int) := of_decide_eq_true (by first | (with_reducible assumption) | assumption)
                                        have q35 : (x14_26 : Int) < ((t364.length : Int) : Int) := of_decide_eq_true (by first | (with_reducible assumption) | assumption)
                                        obtain ⟨go35, co35, eo35, gb35, gl35, cl35, HG35⟩ := Kd.R_form HO_10.out (by omega)
                                        (first | cases eo35 | (injection eo35 with ea_ en_ ec_; (first | subst ea_ | (injection ea_ with ea_; subst ea_)); subst ec_; clear en_))
                                        have GB35 := Aside0.mk gb35
                                        have GG35 := Aside0.mk HG35
                                        clear gb35 gl35 HG35
                                        (first | simp only [add_plain] at hx370_0 | skip)
                                        obtain ⟨hx35_0, hf35_0⟩ := Kd.R_celln 0 HO_10.out (x14_26 : Int) p35 q35
                                        replace p35 := eq_true p35
                                        replace q35 := eq_true q35
                                        have HP62 := Kd.R_putg HO_10.out (x14_26 : Int) (Go.bits .xor .u8 (rd t364 x14_26) ((a2_1) % 256))
                                        go_wp2_with (first | ((with_reducible refine gate_store (t := 5) (p := 93) rfl ?_); refine store_event (t := 5) (p := 93) (v := ?vo_w63) (w1 := (wc.setCell ⟨go35, (x14_26 : Int).toNat, none⟩ (.int .u8 (Go.bits .xor .u8 (rd t364 x14_26) ((a2_1) % 256))))) ?hg ?ho ?hn ?hr ?_; (case ho => rfl); (case hg => rfl); (case hn => rfl); (case hr => first | (go_simp; done) | (go_simp; rfl)); intro w63 hw; have hg : wc.grownBy w63 (some go35) := (by rw [hw]; exact HP62.2); have hp_ : Kd.R (Kd.int .u8) 5 w63 w.heap.size (fun k_ => some k_ ≠ (v360 : Value).ownBlock) (.slice (some ⟨go35, 0, none⟩) t364.length co28) y371 := (by rw [hw, Ny371.out]; exact HP62.1); clear HP62; have n0_ := Aside0.mk (Kd.R_after (v := (.slice (some ⟨go35, 0, none⟩) t364.length co28)) (v1 := (.slice (some ⟨go35, 0, none⟩) t364.length co28)) (ok := (fun _ => True)) (by (with_reducible repeat (first | apply Kd.R_alloc | apply Kd.R_drewN | apply Kd.R_drew)); exact Kd.R_mono HO_7.out (fun _ hk => ⟨trivial, hk⟩)) hg (.inl rfl)); have n1_ := Aside0.mk (hp_); have n2_ := Aside0.mk (blk_grown (g := gb355) (o := .cells #[.int .u8 a1_0, .slice A1_1 l1_1.length c1_1] 52 (0, 0)) (by (with_reducible repeat (first | refine blk_drewN ?_ _ | refine blk_drew ?_ | refine blk_alloc ?_ _)); exact BK355.out) hg (Kd.R_ne HO_10.out BK355.out (by decide))); have n3_ := Aside0.mk (blk_grown (g := gb356) (o := .cells #[.int .u16 a2_0, .int .u16 a2_1] 55 (0, 0)) (by (with_reducible repeat (first | refine blk_drewN ?_ _ | refine blk_drew ?_ | refine blk_alloc ?_ _)); exact BK356.out) hg (Kd.R_ne HO_10.out BK356.out (by decide))); have n4_ := Aside0.mk ((by rw [hw]; exact below_set (HB.out) GB35.out : Below w.heap.size w w63)); clear HO_7; clear HO_10; clear BK355; clear BK356; clear HB; have HO_7 := n0_; have HO_10 := n1_; have BK355 := n2_; have BK356 := n3_; have HB := n4_; clear n0_ n1_ n2_ n3_ n4_; clear hg hw hp_) | ((with_reducible refine gate_dst (N := 95) rfl ?_); (try (refine gate_guard (by rfl) ?_; dsimp only)); refine Kd.R_lit (Kd.int .u8) _ 5 ?hg (N := 95) ?hd (xs := ([] : List Int)) (inner := []) (ok := fun _ => True) (okp := fun _ => True) ?hr ?hp (fun _ hk => hk) trivial (Below.refl _ _) (Nat.le_refl _) (by simp) ?_; (case hd => rfl); (case hg => rfl); (case hr => first | (go_simp; done) | (go_simp; rfl)); (case hp => exact (Reps.none _ _)); intro v373 w64 ho65 hb hg_ hnew_; clear hg_ hnew_; (first | rw [← Ny372.out] at ho65 | (simp only [Int.reduceToNat] at ho65; rw [← Ny372.out] at ho65)); have n0_ := Aside0.mk (Kd.R_elder' (by (with_reducible repeat (first | apply Kd.R_alloc | apply Kd.R_drewN | apply Kd.R_drew)); exact HO_7.out) (Kd.R_base ho65) hb); have n1_ := Aside0.mk (Kd.R_elder' (by (with_reducible repeat (first | apply Kd.R_alloc | apply Kd.R_drewN | apply Kd.R_drew)); exact HO_10.out) (Kd.R_base ho65) hb); have n2_ := Aside0.mk (Kd.R_lower (Kd.R_new' (Kd.R_new' ho65 (Kd.R_lt (by (with_reducible repeat (first | apply Kd.R_alloc | apply Kd.R_drewN | apply Kd.R_drew)); exact HO_7.out))) (Kd.R_lt (by (with_reducible repeat (first | apply Kd.R_alloc | apply Kd.R_drewN | apply Kd.R_drew)); exact HO_10.out))) (below_size (by repeat (first | (with_reducible first | exact HB.out | apply below_alloc | apply pw_below_drewN | apply below_drew1 | refine below_set ?_ GE355.out | refine below_set ?_ GE356.out) | exact HB.out)))); have n3_ := Aside0.mk (blk_below (g := gb355) (o := .cells #[.int .u8 a1_0, .slice A1_1 l1_1.length c1_1] 52 (0, 0)) (by (with_reducible repeat (first | refine blk_drewN ?_ _ | refine blk_drew ?_ | refine blk_alloc ?_ _)); exact BK355.out) hb); have n4_ := Aside0.mk (blk_below (g := gb356) (o := .cells #[.int .u16 a2_0, .int .u16 a2_1] 55 (0, 0)) (by (with_reducible repeat (first | refine blk_drewN ?_ _ | refine blk_drew ?_ | refine blk_alloc ?_ _)); exact BK356.out) hb); have n5_ := Aside0.mk (below_step (by repeat (first | (with_reducible first | exact HB.out | apply below_alloc | apply pw_below_drewN | apply below_drew1 | refine below_set ?_ GE355.out | refine below_set ?_ GE356.out) | exact HB.out)) hb); clear HO_7; clear HO_10; clear BK355; clear BK356; clear HB; have HO_7 := n0_; have HO_10 := n1_; have HO374 := n2_; have BK355 := n3_; have BK356 := n4_; have HB := n5_; clear n0_ n1_ n2_ n3_ n4_ n5_; clear hb ho65; obtain ⟨Ao67, co67, eo67⟩ := Kd.R_slice HO_7.out; subst eo67) | ((with_reducible refine gate_builtin (b := .append) (xs := #[.tmp 95, .tmp 96]) rfl ?_); (try (refine gate_guard (by rfl) ?_; dsimp only)); at_builtin; refine Kd.R_append_rows (Kd.int .u8) (w0 := w) w.heap.size rfl (.tmp 95) (.tmp 96) 22 5 (.int .u8 0) 1 rfl Tryd.underlying22 info5 rfl (by decide) (by omega) v373 y372 t357 _ _ _ (fun k_ => some k_ ≠ (.slice Ao67 t357.length co67 : Value).ownBlock ∧ some k_ ≠ (.slice (some ⟨go35, 0, none⟩) t364.length co28 : Value).ownBlock) (fun _ => False) rfl rfl ?aO ?aR (fun _ _ h => h) (fun _ h => h.elim) ?aF ?aB ?aS ?aL ?_; (case aR => repeat (first | exact (Kd.R_reads' HO_7.out).2.2 | (with_reducible refine Kd.C_alloc ?_ _) | (with_reducible refine Kd.C_drewN ?_ _) | (with_reducible refine Kd.C_drew ?_))); (case aB => exact (by repeat (first | (with_reducible first | exact HB.out | apply below_alloc | apply pw_below_drewN | apply below_drew1 | refine below_set ?_ GE355.out | refine below_set ?_ GE356.out) | exact HB.out))); (case aF => exact (fun k_ hk => ⟨Kd.fresh' (Kd.R_lt (by (with_reducible repeat (first | apply Kd.R_alloc | apply Kd.R_drewN | apply Kd.R_drew)); exact HO_7.out)) k_ hk, Kd.fresh' (Kd.R_lt (by (with_reducible repeat (first | apply Kd.R_alloc | apply Kd.R_drewN | apply Kd.R_drew)); exact HO_10.out)) k_ hk⟩)); (case aO => exact (by (with_reducible repeat (first | apply Kd.R_alloc | apply Kd.R_drewN | apply Kd.R_drew)); exact Kd.R_mono HO374.out (fun _ hk => ⟨hk.1.2, hk.2⟩))); (case aS => exact (below_size (by repeat (first | (with_reducible first | exact HB.out | apply below_alloc | apply pw_below_drewN | apply below_drew1 | refine below_set ?_ GE355.out | refine below_set ?_ GE356.out) | exact HB.out)))); (case aL => have := LMc36.out; omega); intro v376 w66 ho hb hg hat; rw [← Ny375.out] at ho; have n0_ := Aside0.mk (Kd.R_after (ok := (fun k_ => some k_ ≠ (.slice (some ⟨go35, 0, none⟩) t364.length co28 : Value).ownBlock)) (by (with_reducible repeat (first | apply Kd.R_alloc | apply Kd.R_drewN | apply Kd.R_drew)); exact Kd.R_mono HO_7.out (fun _ hk => ⟨hk.1.2, hk.2⟩)) hg hat); have n1_ := Aside0.mk (Kd.R_after (ok := (fun k_ => some k_ ≠ (.slice Ao67 t357.length co67 : Value).ownBlock)) (by (with_reducible repeat (first | apply Kd.R_alloc | apply Kd.R_drewN | apply Kd.R_drew)); exact HO_10.out) hg hat); have n2_ := Aside0.mk (blk_grown (g := gb355) (o := .cells #[.int .u8 a1_0, .slice A1_1 l1_1.length c1_1] 52 (0, 0)) (by (with_reducible repeat (first | refine blk_drewN ?_ _ | refine blk_drew ?_ | refine blk_alloc ?_ _)); exact BK355.out) hg (Kd.R_ne HO374.out BK355.out (by decide))); have n3_ := Aside0.mk (blk_grown (g := gb356) (o := .cells #[.int .u16 a2_0, .int .u16 a2_1] 55 (0, 0)) (by (with_reducible repeat (first | refine blk_drewN ?_ _ | refine blk_drew ?_ | refine blk_alloc ?_ _)); exact BK356.out) hg (Kd.R_ne HO374.out BK356.out (by decide))); have n4_ := Aside0.mk (hb); have n5_ := Aside0.mk (ho); clear HO_7; clear HO_10; clear BK355; clear BK356; clear HB; clear HO374; have HO_7 := n0_; have HO_10 := n1_; have BK355 := n2_; have BK356 := n3_; have HB := n4_; have HO377 := n5_; clear n0_ n1_ n2_ n3_ n4_ n5_; clear ho hb hg hat) | ((with_reducible refine gate_builtin (b := .append) (xs := #[.tmp 97, .tmp 98]) rfl ?_); (try (refine gate_guard (by rfl) ?_; dsimp only)); at_builtin; refine Kd.R_append_rows (Kd.int .u8) (w0 := w) w.heap.size rfl (.tmp 97) (.tmp 98) 22 5 (.int .u8 0) 1 rfl Tryd.underlying22 info5 rfl (by decide) (by omega) v376 y375 y371 _ _ _ (fun k_ => some k_ ≠ (.slice Ao67 t357.length co67 : Value).ownBlock ∧ some k_ ≠ (.slice (some ⟨go35, 0, none⟩) t364.length co28 : Value).ownBlock) (fun _ => False) rfl rfl ?aO ?aR (fun _ _ h => h) (fun _ h => h.elim) ?aF ?aB ?aS ?aL ?_; (case aR => rw [show t364.length = y371.length from (Kd.R_reads' HO_10.out).1]; repeat (first | exact (Kd.R_reads' HO_10.out).2.2 | (with_reducible refine Kd.C_alloc ?_ _) | (with_reducible refine Kd.C_drewN ?_ _) | (with_reducible refine Kd.C_drew ?_))); (case aB => exact (by repeat (first | (with_reducible first | exact HB.out | apply below_alloc | apply pw_below_drewN | apply below_drew1 | refine below_set ?_ GE355.out | refine below_set ?_ GE356.out) | exact HB.out))); (case aF => exact (fun k_ hk => ⟨Kd.fresh' (Kd.R_lt (by (with_reducible repeat (first | apply Kd.R_alloc | apply Kd.R_drewN | apply Kd.R_drew)); exact HO_7.out)) k_ hk, Kd.fresh' (Kd.R_lt (by (with_reducible repeat (first | apply Kd.R_alloc | apply Kd.R_drewN | apply Kd.R_drew)); exact HO_10.out)) k_ hk⟩)); (case aO => exact (by (with_reducible repeat (first | apply Kd.R_alloc | apply Kd.R_drewN | apply Kd.R_drew)); exact HO377.out)); (case aS => exact (below_size (by repeat (first | (with_reducible first | exact HB.out | apply below_alloc | apply pw_below_drewN | apply below_drew1 | refine below_set ?_ GE355.out | refine below_set ?_ GE356.out) | exact HB.out)))); (case aL => have := LMc37.out; have hlx_ := (Kd.R_reads' HO_10.out).1; omega); intro v379 w68 ho hb hg hat; rw [← Ny378.out] at ho; have n0_ := Aside0.mk (Kd.R_after (ok := (fun k_ => some k_ ≠ (.slice (some ⟨go35, 0, none⟩) t364.length co28 : Value).ownBlock)) (by (with_reducible repeat (first | apply Kd.R_alloc | apply Kd.R_drewN | apply Kd.R_drew)); exact HO_7.out) hg hat); have n1_ := Aside0.mk (Kd.R_after (ok := (fun k_ => some k_ ≠ (.slice Ao67 t357.length co67 : Value).ownBlock)) (by (with_reducible repeat (first | apply Kd.R_alloc | apply Kd.R_drewN | apply Kd.R_drew)); exact HO_10.out) hg hat); have n2_ := Aside0.mk (blk_grown (g := gb355) (o := .cells #[.int .u8 a1_0, .slice A1_1 l1_1.length c1_1] 52 (0, 0)) (by (with_reducible repeat (first | refine blk_drewN ?_ _ | refine blk_drew ?_ | refine blk_alloc ?_ _)); exact BK355.out) hg (Kd.R_ne HO377.out BK355.out (by decide))); have n3_ := Aside0.mk (blk_grown (g := gb356) (o := .cells #[.int .u16 a2_0, .int .u16 a2_1] 55 (0, 0)) (by (with_reducible repeat (first | refine blk_drewN ?_ _ | refine blk_drew ?_ | refine blk_alloc ?_ _)); exact BK356.out) hg (Kd.R_ne HO377.out BK356.out (by decide))); have n4_ := Aside0.mk (hb); have n5_ := Aside0.mk (ho); clear HO_7; clear HO_10; clear BK355; clear BK356; clear HB; clear HO377; have HO_7 := n0_; have HO_10 := n1_; have BK355 := n2_; have BK356 := n3_; have HB := n4_; have HO380 := n5_; clear n0_ n1_ n2_ n3_ n4_ n5_; clear ho hb hg hat; obtain ⟨Ao69, co69, eo69⟩ := Kd.R_slice HO380.out; subst eo69) | ((with_reducible refine gate_callee (f := 20) rfl ?_); refine goesL_ (some 100) rfl rfl Tryd.func20 (by kernel_rfl) rfl #[.slice Ao69 y378.length co69] rfl (by (try simp only [List.map_toArray, List.map_cons, List.map_nil]); first | done | rfl | (simp only [List.length_drop, List.length_take]; rfl)) ?_; (with_reducible refine (frame_Scan.calls kj26 _ _ y378 t381 t382 t383 _ ?side1 ?side2 ?side3 A38.out).mono ?_); (case side1 => repeat (first | exact (Kd.R_reads' HO380.out).2.2 | (with_reducible refine Kd.C_alloc ?_ _) | (with_reducible refine Kd.C_drewN ?_ _) | (with_reducible refine Kd.C_drew ?_))); (case side2 => exact (Kd.R_reads' HO380.out).2.1); (case side3 => first | exact HG.out | exact Gl.below HG.out (by repeat (first | (with_reducible first | exact HB.out | apply below_alloc | apply pw_below_drewN | apply below_drew1 | refine below_set ?_ GE355.out | refine below_set ?_ GE356.out) | exact HB.out))); rintro e w70 ⟨v384, rfl, ho0, hb⟩; refine ⟨_, rfl, ?_⟩; have n0_ := Aside0.mk (Kd.R_below (by (with_reducible repeat (first | apply Kd.R_alloc | apply Kd.R_drewN | apply Kd.R_drew)); exact HO_7.out) hb); have n1_ := Aside0.mk (Kd.R_below (by (with_reducible repeat (first | apply Kd.R_alloc | apply Kd.R_drewN | apply Kd.R_drew)); exact HO_10.out) hb); have n2_ := Aside0.mk (Kd.R_below (by (with_reducible repeat (first | apply Kd.R_alloc | apply Kd.R_drewN | apply Kd.R_drew)); exact HO380.out) hb); have n3_ := Aside0.mk (Kd.S_lower (Kd.S_new' (Kd.S_new' (Kd.S_new' ho0 (Kd.R_lt (by (with_reducible repeat (first | apply Kd.R_alloc | apply Kd.R_drewN | apply Kd.R_drew)); exact HO_7.out))) (Kd.R_lt (by (with_reducible repeat (first | apply Kd.R_alloc | apply Kd.R_drewN | apply Kd.R_drew)); exact HO_10.out))) (Kd.R_lt (by (with_reducible repeat (first | apply Kd.R_alloc | apply Kd.R_drewN | apply Kd.R_drew)); exact HO380.out))) (below_size (by repeat (first | (with_reducible first | exact HB.out | apply below_alloc | apply pw_below_drewN | apply below_drew1 | refine below_set ?_ GE355.out | refine below_set ?_ GE356.out) | exact HB.out)))); have n4_ := Aside0.mk (blk_below (g := gb355) (o := .cells #[.int .u8 a1_0, .slice A1_1 l1_1.length c1_1] 52 (0, 0)) (by (with_reducible repeat (first | refine blk_drewN ?_ _ | refine blk_drew ?_ | refine blk_alloc ?_ _)); exact BK355.out) hb); have n5_ := Aside0.mk (blk_below (g := gb356) (o := .cells #[.int .u16 a2_0, .int .u16 a2_1] 55 (0, 0)) (by (with_reducible repeat (first | refine blk_drewN ?_ _ | refine blk_drew ?_ | refine blk_alloc ?_ _)); exact BK356.out) hb); have n6_ := Aside0.mk (below_step (by repeat (first | (with_reducible first | exact HB.out | apply below_alloc | apply pw_below_drewN | apply below_drew1 | refine below_set ?_ GE355.out | refine below_set ?_ GE356.out) | exact HB.out)) hb); clear HO_7; clear HO_10; clear HO380; clear BK355; clear BK356; clear HB; have HO_7 := n0_; have HO_10 := n1_; have HO380 := n2_; have HO385 := n3_; have BK355 := n4_; have BK356 := n5_; have HB := n6_; clear n0_ n1_ n2_ n3_ n4_ n5_ n6_; (try clear hb); (try clear hb2); (try clear hk); (try clear hi); (try clear ho0); obtain ⟨Ao71, co71, eo71⟩ := Kd.S_slice HO385.out; subst eo71) | (go_at_call 24; (with_reducible refine (stemmalaw04_whole.calls kj26 _ _ t381 _ _ l0 true _ ?side1 ?side2 ?side3 ?side4 A40.out).mono ?_); (case side1 => repeat (first | exact (Kd.S_reads' HO385.out).2.2 | (with_reducible refine Kd.C_alloc ?_ _) | (with_reducible refine Kd.C_drewN ?_ _) | (with_reducible refine Kd.C_drew ?_))); (case side2 => exact (Kd.S_reads' HO385.out).2.1); (case side3 => repeat (first | exact (Kd.C_below HR0.out HB.out) | (with_reducible refine Kd.C_alloc ?_ _) | (with_reducible refine Kd.C_drewN ?_ _) | (with_reducible refine Kd.C_drew ?_))); (case side4 => exact HC0.out); rintro e w72 ⟨rfl, hb⟩; have n0_ := Aside0.mk (Kd.R_below (by (with_reducible repeat (first | apply Kd.R_alloc | apply Kd.R_drewN | apply Kd.R_drew)); exact HO_7.out) hb); have n1_ := Aside0.mk (Kd.R_below (by (with_reducible repeat (first | apply Kd.R_alloc | apply Kd.R_drewN | apply Kd.R_drew)); exact HO_10.out) hb); have n2_ := Aside0.mk (Kd.R_below (by (with_reducible repeat (first | apply Kd.R_alloc | apply Kd.R_drewN | apply Kd.R_drew)); exact HO380.out) hb); have n3_ := Aside0.mk (Kd.S_below (by (with_reducible repeat (first | apply Kd.S_alloc | apply Kd.S_drewN | apply Kd.S_drew)); exact HO385.out) hb); have n4_ := Aside0.mk (blk_below (g := gb355) (o := .cells #[.int .u8 a1_0, .slice A1_1 l1_1.length c1_1] 52 (0, 0)) (by (with_reducible repeat (first | refine blk_drewN ?_ _ | refine blk_drew ?_ | refine blk_alloc ?_ _)); exact BK355.out) hb); have n5_ := Aside0.mk (blk_below (g := gb356) (o := .cells #[.int .u16 a2_0, .int .u16 a2_1] 55 (0, 0)) (by (with_reducible repeat (first | refine blk_drewN ?_ _ | refine blk_drew ?_ | refine blk_alloc ?_ _)); exact BK356.out) hb); have n6_ := Aside0.mk (below_step (by repeat (first | (with_reducible first | exact HB.out | apply below_alloc | apply pw_below_drewN | apply below_drew1 | refine below_set ?_ GE355.out | refine below_set ?_ GE356.out) | exact HB.out)) hb); clear HO_7; clear HO_10; clear HO380; clear HO385; clear BK355; clear BK356; clear HB; have HO_7 := n0_; have HO_10 := n1_; have HO380 := n2_; have HO385 := n3_; have BK355 := n4_; have BK356 := n5_; have HB := n6_; clear n0_ n1_ n2_ n3_ n4_ n5_ n6_; (try clear hb); (try clear hb2); (try clear hk); (try clear hi); have p388 : 0 ≤ (0 : Int) := (by omega); have q388 : 0 < (y371.length : Int) := (by have h_ : (0 : Int) < ((t364.length : Int) : Int) := of_decide_eq_true (by first | (with_reducible assumption) | assumption); first | (have e_ := (Kd.R_reads' HO_10.out).1; omega) | simpa only [Ny371.out, List.length_set] using h_); have ql388 : ((0 : Int) < ((t364.length : Int) : Int)) = True := eq_true (of_decide_eq_true (by first | (with_reducible assumption) | assumption)); (try have qn388 : (0 < t364.length) = True := eq_true (by have h_ : (0 : Int) < ((t364.length : Int) : Int) := of_decide_eq_true (by first | (with_reducible assumption) | assumption); omega)); obtain ⟨ad388, e388, hx388_0⟩ := Kd.at_int (Kd.R_reads' HO_10.out).2.2 0 p388 q388; obtain rfl : (⟨go35, 0, none⟩ : Addr) = ad388 := (by injection e388); (first | simp only [add_plain] at hx388_0 | simp only [add_at] at hx388_0 | simp only [Addr.add, Nat.zero_add] at hx388_0 | skip); have qi388 : (0 < y371.length) = True := eq_true (by omega); (try rw [show ((0 : Int)).toNat = 0 from rfl] at hx388_0); (try rw [Addr.add_zero'] at hx388_0); replace p388 := eq_true p388; replace q388 := eq_true q388) | (go_at_call 17; (with_reducible refine (stemmalaw04_awake.calls kj26  t389 _ ?side1 A61.out).mono ?_); (case side1 => first | exact HG.out | exact Gl.below HG.out (by repeat (first | (with_reducible first | exact HB.out | apply below_alloc | apply pw_below_drewN | apply below_drew1 | refine below_set ?_ GE355.out | refine below_set ?_ GE356.out) | exact HB.out))); rintro e w73 ⟨rfl, hb⟩; have n0_ := Aside0.mk (Kd.R_below (by (with_reducible repeat (first | apply Kd.R_alloc | apply Kd.R_drewN | apply Kd.R_drew)); exact HO_7.out) hb); have n1_ := Aside0.mk (Kd.R_below (by (with_reducible repeat (first | apply Kd.R_alloc | apply Kd.R_drewN | apply Kd.R_drew)); exact HO_10.out) hb); have n2_ := Aside0.mk (Kd.R_below (by (with_reducible repeat (first | apply Kd.R_alloc | apply Kd.R_drewN | apply Kd.R_drew)); exact HO380.out) hb); have n3_ := Aside0.mk (Kd.S_below (by (with_reducible repeat (first | apply Kd.S_alloc | apply Kd.S_drewN | apply Kd.S_drew)); exact HO385.out) hb); have n4_ := Aside0.mk (blk_below (g := gb355) (o := .cells #[.int .u8 a1_0, .slice A1_1 l1_1.length c1_1] 52 (0, 0)) (by (with_reducible repeat (first | refine blk_drewN ?_ _ | refine blk_drew ?_ | refine blk_alloc ?_ _)); exact BK355.out) hb); have n5_ := Aside0.mk (blk_below (g := gb356) (o := .cells #[.int .u16 a2_0, .int .u16 a2_1] 55 (0, 0)) (by (with_reducible repeat (first | refine blk_drewN ?_ _ | refine blk_drew ?_ | refine blk_alloc ?_ _)); exact BK356.out) hb); have n6_ := Aside0.mk (below_step (by repeat (first | (with_reducible first | exact HB.out | apply below_alloc | apply pw_below_drewN | apply below_drew1 | refine below_set ?_ GE355.out | refine below_set ?_ GE356.out) | exact HB.out)) hb); clear HO_7; clear HO_10; clear HO380; clear HO385; clear BK355; clear BK356; clear HB; have HO_7 := n0_; have HO_10 := n1_; have HO380 := n2_; have HO385 := n3_; have BK355 := n4_; have BK356 := n5_; have HB := n6_; clear n0_ n1_ n2_ n3_ n4_ n5_ n6_; (try clear hb); (try clear hb2); (try clear hk); (try clear hi)))
                                        go_ret
                                        exact ⟨by first | rfl | (simp [errW_none, errW_some] <;> rfl) | (simp only [← hji5]; first | rfl | (simp [errW_none, errW_some] <;> rfl)) | (simp [*, errW_none, errW_some] <;> rfl), by repeat (first | (with_reducible first | exact HB.out | apply below_alloc | apply pw_below_drewN | apply below_drew1 | refine below_set ?_ GE355.out | refine below_set ?_ GE356.out) | exact HB.out)⟩
                                      · rw [if_neg c60] at H
                                        have c60b0 : (t383 == 4) = false := beq_eq_false_iff_ne.mpr c60
                                        have c60b1 : (t383 != 4) = true := bne_iff_ne.mpr c60
                                        exact absurd ((Option.some.inj H).trans hr_.out) (by decide)
                                    · rw [if_neg c59] at H
                                      have c59b0 : ((rd y371 0) == 0) = false := beq_eq_false_iff_ne.mpr c59
                                      have c59b1 : ((rd y371 0) != 0) = true := bne_iff_ne.mpr c59
                                      exact absurd ((Option.some.inj H).trans hr_.out) (by decide)
                                  · rw [if_neg c58] at H
                                    exact absurd H (by simp)
                                · rw [if_neg c57] at H
                                  have c57b0 : (x14_26 == 0) = false := beq_eq_false_iff_ne.mpr c57
                                  have c57b1 : (x14_26 != 0) = true := bne_iff_ne.mpr c57
                                  exact absurd ((Option.some.inj H).trans hr_.out) (by decide)
                            · rw [if_neg c42] at H
                              have c42b0 : (t382 == (t357.length : Int)) = false := beq_eq_false_iff_ne.mpr c42
                              have c42b1 : (t382 != (t357.length : Int)) = true := bne_iff_ne.mpr c42
                              exact absurd ((Option.some.inj H).trans hr_.out) (by decide)
                          · replace c41 := Bool.eq_false_iff.mpr c41
                            subst c41
                            have H1 : (some false) = some r := by rw [if_neg (show ¬ (false = true) by decide)] at H; exact H
                            clear H
                            have H := H1
                            clear H1
                            exact absurd ((Option.some.inj H).trans hr_.out) (by decide)
                        · rw [if_neg c39] at H
                          have c39b0 : ((t381.length : Int) == (l0.length : Int)) = false := beq_eq_false_iff_ne.mpr c39
                          have c39b1 : ((t381.length : Int) != (l0.length : Int)) = true := bne_iff_ne.mpr c39
                          have c39b2 : (t381.length == l0.length) = false := by first | simpa using c39 | (simp at c39 ⊢; omega)
                          exact absurd ((Option.some.inj H).trans hr_.out) (by decide)
                      · rw [if_neg c37] at H
                        exact absurd H (by simp)
                    · rw [if_neg c36] at H
                      exact absurd H (by simp)
                  · rw [if_neg c34] at H
                    exact absurd H (by simp)
                · rw [if_neg c33] at H
                  exact absurd H (by simp)

end Go.Proofs.YtonpiacnljcohaaDoor.PA

/- A frame of which one byte was changed is none. -/
set_option linter.unusedVariables false
set_option linter.unusedSimpArgs false
namespace Go.Proofs.YtonpiacnljcohaaDoor.FrT
open Go Go.RowKit Go.Proofs.YtonpiacnljcohaaDoor.PA Go.Proofs.YtonpiacnljcohaaDoorW.PrintWords Go.Proofs.YtonpiacnljcohaaDoor.LebT Go.Proofs.YtonpiacnljcohaaDoor.LebP Go.Proofs.YtonpiacnljcohaaDoor.ColT
theorem xor_cancel {x y p : Nat} (h : x ^^^ p = y ^^^ p) : x = y := by
  have := congrArg (· ^^^ p) h
  simpa [Nat.xor_assoc] using this
theorem xor_cancel' {x y p : Nat} (h : p ^^^ x = p ^^^ y) : x = y := xor_cancel (p := p) (by rw [Nat.xor_comm x, Nat.xor_comm y]; exact h)
theorem high_not {a b : Nat} (ha : a < 4294967296) (hb : b < 4294967296) (h : a / 2 ^^^ 3988292384 = b / 2) : False := by
  have h1 : (a / 2 ^^^ 3988292384).testBit 31 = true := by
    rw [Nat.testBit_xor, Nat.testBit_lt_two_pow (show a / 2 < 2 ^ 31 by omega)]
    decide
  rw [h, Nat.testBit_lt_two_pow (show b / 2 < 2 ^ 31 by omega)] at h1
  cases h1
theorem bs_inj {a b : Nat} (ha : a < 4294967296) (hb : b < 4294967296) (h : bs a = bs b) : a = b := by
  unfold bs at h
  by_cases h1 : a % 2 = 1 <;> by_cases h2 : b % 2 = 1
  · rw [if_pos h1, if_pos h2] at h
    have := xor_cancel h
    omega
  · rw [if_pos h1, if_neg h2] at h
    exact (high_not ha hb h).elim
  · rw [if_neg h1, if_pos h2] at h
    exact (high_not hb ha h.symm).elim
  · rw [if_neg h1, if_neg h2] at h
    omega
theorem b4_inj {a b : Nat} (ha : a < 4294967296) (hb : b < 4294967296) (h : b4 a = b4 b) : a = b :=
  bs_inj ha hb (bs_inj (bs_lt ha) (bs_lt hb) (bs_inj (bs_lt (bs_lt ha)) (bs_lt (bs_lt hb)) (bs_inj (bs_lt (bs_lt (bs_lt ha))) (bs_lt (bs_lt (bs_lt hb))) h)))
theorem b8_inj {a b : Nat} (ha : a < 4294967296) (hb : b < 4294967296) (h : b8 a = b8 b) : a = b := b4_inj ha hb (b4_inj (b4_lt ha) (b4_lt hb) h)
theorem byte_nat {x : Int} (h : isByte x) : x.toNat < 4294967296 := by obtain ⟨h0, h1⟩ := h; omega
theorem fold_inj (l : List Int) (hl : ∀ x ∈ l, isByte x) : ∀ (a b : Nat), a < 4294967296 → b < 4294967296 → fold a l = fold b l → a = b := by
  induction l with
  | nil => intro a b _ _ h; exact h
  | cons x r ih =>
    intro a b ha hb h
    have hx := byte_nat (hl x (by simp))
    have h1 := ih (fun y hy => hl y (by simp [hy])) (b8 (a ^^^ x.toNat)) (b8 (b ^^^ x.toNat)) (b8_lt (xor_lt ha hx)) (b8_lt (xor_lt hb hx)) h
    exact xor_cancel (b8_inj (xor_lt ha hx) (xor_lt hb hx) h1)
theorem fold_append (p q : List Int) (s : Nat) : fold s (p ++ q) = fold (fold s p) q := by unfold fold; rw [List.foldl_append]
theorem crc_set (l : List Int) (hl : ∀ x ∈ l, isByte x) (i : Nat) (hi : i < l.length) (y : Int) (hy : isByte y) (h : crcN (l.set i y) = crcN l) : y = l[i] := by
  have hx := hl l[i] (List.getElem_mem hi)
  have e1 : l = l.take i ++ l[i] :: l.drop (i + 1) := by rw [← List.drop_eq_getElem_cons hi, List.take_append_drop]
  have e2 : l.set i y = l.take i ++ y :: l.drop (i + 1) := List.set_eq_take_append_cons_drop.trans (by rw [if_pos hi])
  have h2 : fold 4294967295 (l.set i y) = fold 4294967295 l := xor_cancel' (p := 4294967295) h
  rw [e2] at h2
  conv at h2 => rhs; rw [e1]
  rw [fold_append, fold_append] at h2
  have hS := fold_lt (l.take i) 4294967295 (by omega) (fun x hx => hl x (List.mem_of_mem_take hx))
  have hd : ∀ x ∈ l.drop (i + 1), isByte x := fun x hx => hl x (List.mem_of_mem_drop hx)
  have h3 := fold_inj (l.drop (i + 1)) hd (b8 (fold 4294967295 (l.take i) ^^^ y.toNat)) (b8 (fold 4294967295 (l.take i) ^^^ l[i].toNat)) (b8_lt (xor_lt hS (byte_nat hy))) (b8_lt (xor_lt hS (byte_nat hx))) h2
  have h4 := xor_cancel' (b8_inj (xor_lt hS (byte_nat hy)) (xor_lt hS (byte_nat hx)) h3)
  have := hy.1
  have := hx.1
  omega
theorem set_bytes {l : List Int} (hl : ∀ x ∈ l, isByte x) (i : Nat) {y : Int} (hy : isByte y) : ∀ x ∈ l.set i y, isByte x := by
  intro x hx
  rcases List.mem_or_eq_of_mem_set hx with h | rfl
  · exact hl x h
  · exact hy
/-- One byte turned: the sum tells it, or the kind is none. -/
theorem opn_turned (a : Int) (l : List Int) (ha : isByte a) (ha0 : a ≠ 0) (hb : ∀ x ∈ l, isByte x) (hl : l.length ≤ 1048576) (i : Nat) (hi : i < (sealed a l).length) (hi2 : i = 0 ∨ 1 + (putU l.length).length ≤ i) (y : Int) (hy : isByte y) (hne : y ≠ (sealed a l)[i]) :
    (opn ((sealed a l).set i y)).2.2.2 = 6 ∨ (i = 0 ∧ y = 0 ∧ (opn ((sealed a l).set i y)).2.2.2 = 4) := by
  have hs : sealed a l = a :: (putU l.length ++ (l ++ le4 (crcN (head a l)))) := by simp [sealed, head]
  have hp := putU_len64 (n := l.length) (by omega)
  have hh : (head a l).length = 1 + (putU l.length).length + l.length := by simp [head]; omega
  have hsl : (sealed a l).length = (head a l).length + 4 := by simp [sealed, le4_len]
  have hhb := head_bytes ha hb
  obtain ⟨b, hbd⟩ : ∃ b, (sealed a l).set i y = b := ⟨_, rfl⟩
  have hblen : b.length = (head a l).length + 4 := by rw [← hbd, List.length_set, hsl]
  have hr0 : rd b 0 = if i = 0 then y else a := by
    rw [← hbd, hs]
    cases i with
    | zero => rfl
    | succ i => rfl
  have hdr : ∃ r, b.drop 1 = putU l.length ++ r := by
    rw [← hbd, hs]
    rcases hi2 with rfl | h
    · exact ⟨_, rfl⟩
    · obtain ⟨j, rfl⟩ : ∃ j, i = j + 1 := ⟨i - 1, by omega⟩
      refine ⟨(l ++ le4 (crcN (head a l))).set (j - (putU l.length).length) y, ?_⟩
      rw [List.set_cons_succ, List.drop_one, List.tail_cons, List.set_append_right _ _ (by omega)]
  obtain ⟨r, hr⟩ := hdr
  have hg : gU 0 0 (b.drop 1) = ((l.length : Int), ((putU l.length).length : Int), 0) := by
    rw [hr]
    have := gU_put l.length 0 0 r (by omega) (by simp) (by simp; omega)
    simpa using this
  rw [hbd]
  unfold opn
  rw [hg]
  have e1 : (1 + ((putU l.length).length : Int) + (l.length : Int)).toNat = (head a l).length := by omega
  have e2 : (1 + ((putU l.length).length : Int) + (l.length : Int) + 4).toNat = b.length := by omega
  simp only [e1, e2, if_true]
  rw [if_neg (by omega), hr0]
  by_cases hk : (if i = 0 then y else a) = 0
  · rw [if_pos hk]
    right
    by_cases h0 : i = 0
    · rw [if_pos h0] at hk
      exact ⟨h0, hk, rfl⟩
    · rw [if_neg h0] at hk
      exact absurd hk ha0
  · left
    rw [if_neg hk, if_neg (by omega), if_neg (by omega), if_neg]
    intro hc
    rw [List.take_length] at hc
    have hdrop : b.drop (head a l).length = le4 (crcN (b.take (head a l).length)) := by
      conv => lhs; rw [hc]
      rw [List.drop_left' (by rw [List.length_take]; omega)]
    by_cases hlt : i < (head a l).length
    · have t1 : b.take (head a l).length = (head a l).set i y := by
        rw [← hbd, sealed, List.set_append_left _ _ hlt, List.take_left' (by rw [List.length_set])]
      have t2 : b.drop (head a l).length = le4 (crcN (head a l)) := by
        rw [← hbd, sealed, List.set_append_left _ _ hlt, List.drop_left' (by rw [List.length_set])]
      rw [t1, t2] at hdrop
      have := crc_set (head a l) hhb i hlt y hy (le4_inj (crcN_lt _ hhb) (crcN_lt _ (set_bytes hhb i hy)) hdrop).symm
      apply hne
      rw [this]
      simp only [sealed]
      rw [List.getElem_append_left hlt]
    · have t1 : b.take (head a l).length = head a l := by
        rw [← hbd, sealed, List.set_append_right _ _ (by omega), List.take_left' rfl]
      have t2 : b.drop (head a l).length = (le4 (crcN (head a l))).set (i - (head a l).length) y := by
        rw [← hbd, sealed, List.set_append_right _ _ (by omega), List.drop_left' rfl]
      rw [t1, t2] at hdrop
      apply hne
      have hi4 : i - (head a l).length < (le4 (crcN (head a l))).length := by rw [le4_len]; omega
      have h5 : ((le4 (crcN (head a l))).set (i - (head a l).length) y)[i - (head a l).length]'(by rw [List.length_set]; exact hi4) = (le4 (crcN (head a l)))[i - (head a l).length] := by
        congr 1
      rw [List.getElem_set_self] at h5
      rw [h5]
      simp only [sealed]
      rw [List.getElem_append_right (by omega)]
theorem xor_byte {x z : Int} (hx : isByte x) (hz : isByte z) (h0 : z ≠ 0) : isByte (Go.bits .xor .u8 x z) ∧ Go.bits .xor .u8 x z ≠ x := by
  obtain ⟨x0, x1⟩ := hx
  obtain ⟨z0, z1⟩ := hz
  rw [u8_xor x z x0 x1 z0 z1]
  have h1 : x.toNat ^^^ z.toNat < 256 := Nat.xor_lt_two_pow (n := 8) (by omega) (by omega)
  refine ⟨⟨by omega, by omega⟩, fun h => h0 ?_⟩
  have h2 : x.toNat ^^^ z.toNat = x.toNat ^^^ 0 := by rw [Nat.xor_zero]; omega
  have := xor_cancel' h2
  omega
end Go.Proofs.YtonpiacnljcohaaDoor.FrT
namespace Go.Proofs.YtonpiacnljcohaaDoor.FrT
open Go Go.RowKit Go.Proofs.YtonpiacnljcohaaDoor.PA Go.Proofs.YtonpiacnljcohaaDoorW.PrintWords Go.Proofs.YtonpiacnljcohaaDoor.LebT Go.Proofs.YtonpiacnljcohaaDoor.LebP Go.Proofs.YtonpiacnljcohaaDoor.ColT
theorem w64s (a b : Nat) (h1 : b ≤ a) (h2 : a < 4611686018427387904) : wrap64 ((a : Int) - (b : Int)) = ((a - b : Nat) : Int) := by unfold wrap64; omega
theorem turned_j1 (ps : List S52) (hg : ∀ p ∈ ps, Good p) (hL : (Lay ps).length ≤ 8388608) (a : Int) (l : List Int) (ha : isByte a) (ha0 : a ≠ 0) (hb : ∀ x ∈ l, isByte x) (hl : l.length ≤ 1048576) (z : Int) (hz : isByte z) (hz0 : z ≠ 0)
    (i : Nat) (hi : i < (sealed a l).length) (hi2 : i = 0 ∨ 1 + (putU l.length).length ≤ i) (k : Nat) (hk : 12000000 ≤ k) :
    stemmalaw04_FrameTurned.j1 k ps (Lay ps) (sealed a l) z (i : Int) = some true := by
  obtain ⟨k, rfl⟩ : ∃ k', k = k' + 1 := ⟨k - 1, by omega⟩
  have hle := Lay_len_le ps
  have hh := head_len a hl
  have hsl : (sealed a l).length = (head a l).length + 4 := by simp [sealed, le4_len]
  have hsb : ∀ x ∈ sealed a l, isByte x := by
    intro x hx
    rcases List.mem_append.1 hx with hx | hx
    · exact head_bytes ha hb x hx
    · exact le4_bytes _ x hx
  have hrd : rd (sealed a l) (i : Int) = (sealed a l)[i] := by simp [rd, List.getD_eq_getElem?_getD, hi]
  have hx := hsb _ (List.getElem_mem hi)
  obtain ⟨hy, hne⟩ := xor_byte hx hz hz0
  obtain ⟨y, hyy⟩ : ∃ y, Go.bits .xor .u8 (sealed a l)[i] z = y := ⟨_, rfl⟩
  rw [hyy] at hy hne
  have ho := opn_turned a l ha ha0 hb hl i hi hi2 y hy hne
  have hlen : ((sealed a l).set i y).length = (sealed a l).length := List.length_set
  have hbb : ∀ x ∈ Lay ps ++ (sealed a l).set i y, isByte x := by
    intro x hx
    rcases List.mem_append.1 hx with hx | hx
    · exact Lay_bytes hg x hx
    · exact set_bytes hsb i hy x hx
  rw [stemmalaw04_FrameTurned.j1, if_pos (by omega), if_pos (by omega), hrd, hyy, Int.toNat_natCast]
  simp only [Option.bind_some, List.nil_append, List.length_nil]
  rw [if_pos (by omega), if_pos (by omega), scan_f _ hbb (by rw [List.length_append]; omega) (by rw [List.length_append]; omega)]
  have hw := whole_f ps ps.length (Nat.le_refl _) (by omega) (k := k) (by omega)
  rw [List.take_length] at hw
  rcases ho with h6 | ⟨h0, hy0, h4⟩
  · rw [scan_then _ ps _ hg rfl 6 (.inr ⟨h6, by omega, by omega⟩), Option.bind_some]
    simp only [List.length_map]
    rw [if_pos trivial, hw, Option.bind_some]
    simp only [if_true]
    rw [awake_f (by omega), Option.bind_some]
  · rw [scan_then _ ps _ hg rfl 4 (.inr ⟨h4, by omega, by omega⟩), Option.bind_some]
    simp only [List.length_map]
    rw [if_pos trivial, hw, Option.bind_some]
    have hrd0 : rd ((sealed a l).set i y) 0 = 0 := by
      subst h0
      cases hsq : sealed a l with
      | nil => rw [hsq] at hi; simp at hi
      | cons u t => exact hy0
    rw [if_pos rfl, if_pos trivial, if_neg (by omega), if_pos (by omega), if_pos (by omega), hrd0, if_pos rfl, if_pos trivial, awake_f (by omega), Option.bind_some]
end Go.Proofs.YtonpiacnljcohaaDoor.FrT
namespace Go.Proofs.YtonpiacnljcohaaDoor.Pure
open Go Go.RowKit Go.Proofs.YtonpiacnljcohaaDoor.PA Go.Proofs.YtonpiacnljcohaaDoorW.PrintWords Go.Proofs.YtonpiacnljcohaaDoor.LebT Go.Proofs.YtonpiacnljcohaaDoor.LebP Go.Proofs.YtonpiacnljcohaaDoor.FrT
theorem FrameTurned (a0 : (List S52)) (a1 : S52) (a2 : (Int × Int)) (q0 : a0.length ≤ maxLen ∧ ∀ y47 ∈ a0, ((Lit.int .u8 y47.f0).wf = true) ∧ y47.f1.length ≤ maxLen ∧ ∀ y22 ∈ y47.f1, (Lit.int .u8 y22).wf = true) (b0 : (a0.map (fun y47 => (1) + ((y47.f1.map (fun y22 => 1)).sum + 1) + 1)).sum + 1 ≤ 1048576) (q1 : ((Lit.int .u8 a1.f0).wf = true) ∧ a1.f1.length ≤ maxLen ∧ ∀ y22 ∈ a1.f1, (Lit.int .u8 y22).wf = true) (b1 : (1) + ((a1.f1.map (fun y22 => 1)).sum + 1) + 1 ≤ 1048576) (q2 : ((Lit.int .u16 a2.1).wf = true) ∧ (Lit.int .u16 a2.2).wf = true) (b2 : (1) + (1) + 1 ≤ 1048576) : ∃ k, PA.stemmalaw04_FrameTurned.f k a0 a1.f0 a1.f1 a2.1 a2.2 = some true := by
  obtain ⟨hg, hL⟩ := pieces_good a0 q0 b0
  have hp1 : FrT.Good a1 := ⟨wf_u8 q1.1, wf_bytes q1.2.2, by rw [ones] at b1; omega⟩
  obtain ⟨p, l⟩ := a1
  obtain ⟨t0, t1⟩ := a2
  obtain ⟨hpb, hlb, hll⟩ := hp1
  have ht : (0 ≤ t0 ∧ t0 < 65536) ∧ 0 ≤ t1 ∧ t1 < 65536 := by
    obtain ⟨h1, h2⟩ := q2
    simp [Lit.wf, IntKind.min, IntKind.max, IntKind.signed, IntKind.bits] at h1 h2
    omega
  clear q0 b0 q1 b1 q2 b2
  simp only at hpb hlb hll ⊢
  obtain ⟨ha0, ha⟩ := mx_ne hpb
  obtain ⟨n, rfl⟩ : ∃ n : Nat, t0 = (n : Int) := ⟨t0.toNat, by omega⟩
  have hle := Lay_len_le a0
  have hh := head_len (mx p 1) hll
  have hsl : (sealed (mx p 1) l).length = (head (mx p 1) l).length + 4 := by simp [sealed, le4_len]
  have hhl : (head (mx p 1) l).length = 1 + (putU l.length).length + l.length := by simp [head]; omega
  have hpp := putU_len_pos l.length
  obtain ⟨K, hK⟩ : ∃ K : Nat, 29999999 ≤ K := ⟨29999999, Nat.le_refl _⟩
  refine ⟨K + 1, ?_⟩
  have hs : sealR (mx p 1) l = (sealed (mx p 1) l, 0) := by unfold sealR; rw [if_neg ha0, if_neg (by omega)]
  unfold stemmalaw04_FrameTurned.f
  rw [laid_f a0 hg (by omega) (by omega), Option.bind_some, seal_f _ _ ha hlb (by omega), Option.bind_some, hs, if_pos rfl, if_pos rfl, stemmalaw04_FrameTurned.j0]
  by_cases hz : t1 % 256 = 0
  · rw [if_pos (by simp [hz]), if_pos rfl, if_pos (show (((0 : Int) != 0) == ((0 : Int) == 5)) = true by decide), awake_f (by omega), Option.bind_some]
  · have hzb : isByte (t1 % 256) := ⟨by omega, by omega⟩
    have hm : n % (l.length + 5) < l.length + 5 := Nat.mod_lt _ (by omega)
    obtain ⟨m, hmm⟩ : ∃ m, n % (l.length + 5) = m := ⟨_, rfl⟩
    rw [hmm] at hm
    have E1 : Aside0 (wrap64 (wrap64 (((sealed (mx p 1) l).length : Int) - (l.length : Int)) - 4) = ((1 + (putU l.length).length : Nat) : Int)) := ⟨by
      rw [w64s _ _ (by omega) (by omega)]
      have h4 := w64s ((sealed (mx p 1) l).length - l.length) 4 (by omega) (by omega)
      rw [show ((4 : Nat) : Int) = 4 from rfl] at h4
      rw [h4]
      clear h4
      congr 1
      omega⟩
    have E2 : Aside0 (wrap64 ((l.length : Int) + 5) = ((l.length + 5 : Nat) : Int)) := ⟨w64a _ 5 (by omega)⟩
    have E3 : Aside0 (Int.tmod (wrap64 (n : Int)) ((l.length + 5 : Nat) : Int) = (m : Int)) := ⟨by
      rw [w64n n (by omega), ← hmm]
      exact (Int.ofNat_tmod _ _).symm⟩
    clear hmm
    rw [if_neg (by simp [hz])]
    simp only
    rw [E1.out, E2.out, E3.out, if_neg (by omega), if_neg (by omega)]
    by_cases h0 : m = 0
    · subst h0
      rw [if_neg (by omega)]
      have := turned_j1 a0 hg hL (mx p 1) l ha ha0 hlb hll (t1 % 256) hzb hz 0 (by omega) (.inl rfl) K (by omega)
      exact this
    · rw [if_pos (by omega)]
      have E4 : Aside0 (wrap64 (wrap64 (((1 + (putU l.length).length : Nat) : Int) + (m : Int)) - 1) = (((putU l.length).length + m : Nat) : Int)) := ⟨by
        have := putU_len64 (n := l.length) (by omega)
        rw [w64a (1 + (putU l.length).length) m (by omega)]
        have h1 := w64s (1 + (putU l.length).length + m) 1 (by omega) (by omega)
        rw [show ((1 : Nat) : Int) = 1 from rfl] at h1
        rw [h1]
        clear h1
        congr 1
        omega⟩
      rw [E4.out]
      exact turned_j1 a0 hg hL (mx p 1) l ha ha0 hlb hll (t1 % 256) hzb hz ((putU l.length).length + m) (by omega) (.inr (by omega)) K (by omega)
end Go.Proofs.YtonpiacnljcohaaDoor.Pure
