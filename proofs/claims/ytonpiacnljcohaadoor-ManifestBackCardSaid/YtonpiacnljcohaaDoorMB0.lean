/- Own texts of this claim, one behind the other (wip/tools/mergelist.py). -/
import Derived.Test.YtonpiacnljcohaaDoorFrS
import Derived.Test.YtonpiacnljcohaaDoorRdr
import Derived.Test.YtonpiacnljcohaaDoorSlC
import Derived.Test.YtonpiacnljcohaaDoorPAx25
import Derived.Test.YtonpiacnljcohaaDoorPAx0
import Derived.Test.YtonpiacnljcohaaDoorFrO
import Derived.RegionTactic
import Derived.BigRegion
import Derived.Test.YtonpiacnljcohaaDoorPAx14
import Derived.Test.YtonpiacnljcohaaDoorPAx36
import Derived.Test.YtonpiacnljcohaaDoorPAx9000
import Derived.Deep.MidRow
/- Manifests, plainly: what is laid, what is read. -/
set_option linter.unusedVariables false
set_option linter.unusedSimpArgs false
namespace Go.Proofs.YtonpiacnljcohaaDoor.MaT
open Go Go.RowKit Go.Proofs.YtonpiacnljcohaaDoor.PA Go.Proofs.YtonpiacnljcohaaDoorW.PrintWords Go.Proofs.YtonpiacnljcohaaDoor.LebT Go.Proofs.YtonpiacnljcohaaDoor.LebP Go.Proofs.YtonpiacnljcohaaDoor.ColT Go.Proofs.YtonpiacnljcohaaDoor.FrT Go.Proofs.YtonpiacnljcohaaDoor.Rdr
def body (a b : Int) (l : List Int) : List Int := putU a.toNat ++ (putU b.toNat ++ l)
def mput (a b : Int) (l : List Int) : List Int × Int :=
  if a < 1 ∨ a > 999999 ∨ b < 0 ∨ b > 16777216 then ([], 2) else if (l.length : Int) > 524288 then ([], 5) else (sealed 3 (body a b l), 0)
theorem body_bytes {a b : Int} {l : List Int} (hl : ∀ x ∈ l, isByte x) : ∀ x ∈ body a b l, isByte x := by
  intro x hx
  simp only [body, List.mem_append] at hx
  rcases hx with hx | hx | hx
  · exact putU_bytes _ x hx
  · exact putU_bytes _ x hx
  · exact hl x hx
theorem body_len {a b : Int} {l : List Int} (ha : a.toNat < 18446744073709551616) (hb : b.toNat < 18446744073709551616) (hl : l.length ≤ 524288) : (body a b l).length ≤ 524308 := by
  have h1 := putU_len64 ha
  have h2 := putU_len64 hb
  simp only [body, List.length_append]
  omega
theorem wrap_u64 {a : Int} (h0 : 0 ≤ a) (h1 : a < 18446744073709551616) : IntKind.u64.wrap a = a := by rw [IntKind.wrap_u64]; omega
theorem put_j0 (a b : Int) (l : List Int) (hl : ∀ x ∈ l, isByte x) (k : Nat) (hk : 30 ≤ k) (x : Bool) (h : x = false → 1 ≤ a ∧ a ≤ 999999 ∧ 0 ≤ b ∧ b ≤ 16777216) :
    manifest_Put.j0 k x a b l = some (if x = true then ([], 2) else if (l.length : Int) > 524288 then ([], 5) else (sealed 3 (body a b l), 0)) := by
  obtain ⟨k, rfl⟩ : ∃ k', k = k' + 1 := ⟨k - 1, by omega⟩
  rw [manifest_Put.j0]
  cases x with
  | true => rfl
  | false =>
    obtain ⟨h1, h2, h3, h4⟩ := h rfl
    clear h
    simp only [Bool.false_eq_true, if_false]
    by_cases hl2 : (l.length : Int) > 524288
    · rw [if_pos hl2, if_pos hl2]
    rw [if_neg hl2, if_neg hl2, wrap_u64 (by omega) (by omega), wrap_u64 (by omega) (by omega), uint_f (by omega) (by omega) (by omega), Option.bind_some, uint_f (by omega) (by omega) (by omega), Option.bind_some]
    have e : [putU a.toNat, putU b.toNat, l].flatten = body a b l := by simp [body]
    have hlen := body_len (a := a) (b := b) (l := l) (by omega) (by omega) (by omega)
    have hp1 := putU_len64 (n := a.toNat) (by omega)
    have hp2 := putU_len64 (n := b.toNat) (by omega)
    have hc : slices_Concat_byte_byte.f [putU a.toNat, putU b.toNat, l] = some (body a b l) := by
      unfold slices_Concat_byte_byte.f
      rw [← e]
      first
        | rfl
        | (rw [if_pos]; simp; omega)
    rw [hc, Option.bind_some, seal_f 3 _ ⟨by omega, by omega⟩ (body_bytes hl) (by omega), Option.bind_some, sealR, if_neg (by omega), if_neg (by omega)]
theorem put_f (a b : Int) (l : List Int) (hl : ∀ x ∈ l, isByte x) {k : Nat} (hk : 30 ≤ k) : manifest_Put.f k a b l = some (mput a b l) := by
  unfold manifest_Put.f mput
  by_cases h1 : a < 1
  · rw [if_pos h1, put_j0 a b l hl k hk true (by simp), if_pos rfl, if_pos (Or.inl h1)]
  rw [if_neg h1]
  by_cases h2 : a > 999999
  · rw [if_pos h2, put_j0 a b l hl k hk true (by simp), if_pos rfl, if_pos (Or.inr (Or.inl h2))]
  rw [if_neg h2]
  by_cases h3 : b < 0
  · rw [if_pos h3, put_j0 a b l hl k hk true (by simp), if_pos rfl, if_pos (Or.inr (Or.inr (Or.inl h3)))]
  rw [if_neg h3]
  rw [put_j0 a b l hl k hk _ (fun h => by have := of_decide_eq_false h; omega)]
  by_cases h4 : b > 16777216
  · rw [if_pos (decide_eq_true h4), if_pos (Or.inr (Or.inr (Or.inr h4)))]
  · rw [if_neg (by simp; omega), if_neg (show ¬ (a < 1 ∨ a > 999999 ∨ b < 0 ∨ b > 16777216) by omega)]
/-- A manifest that is read. -/
def mget (b : List Int) : Int × Int × List Int × Int :=
  if (opn b).2.2.2 = 0 ∧ (opn b).1 = 3 then
    if (rdU 16777216 (rdU 999999 (opn b).2.1 0).2.1 (rdU 999999 (opn b).2.1 0).2.2).2.2 = 0 ∧ (mput (rdU 999999 (opn b).2.1 0).1 (rdU 16777216 (rdU 999999 (opn b).2.1 0).2.1 (rdU 999999 (opn b).2.1 0).2.2).1 (rdU 16777216 (rdU 999999 (opn b).2.1 0).2.1 (rdU 999999 (opn b).2.1 0).2.2).2.1).2 = 0
        ∧ (mput (rdU 999999 (opn b).2.1 0).1 (rdU 16777216 (rdU 999999 (opn b).2.1 0).2.1 (rdU 999999 (opn b).2.1 0).2.2).1 (rdU 16777216 (rdU 999999 (opn b).2.1 0).2.1 (rdU 999999 (opn b).2.1 0).2.2).2.1).1 = b then
      ((rdU 999999 (opn b).2.1 0).1, (rdU 16777216 (rdU 999999 (opn b).2.1 0).2.1 (rdU 999999 (opn b).2.1 0).2.2).1, (rdU 16777216 (rdU 999999 (opn b).2.1 0).2.1 (rdU 999999 (opn b).2.1 0).2.2).2.1, 0)
    else (0, 0, [], 4)
  else (0, 0, [], 4)
theorem rdU_suffix (most : Int) (l : List Int) (err : Int) : ∃ j, (rdU most l err).2.1 = l.drop j := by
  unfold rdU
  split
  · exact ⟨_, rfl⟩
  · exact ⟨0, rfl⟩
theorem rdU_rng (most : Int) (l : List Int) (hl : ∀ x ∈ l, isByte x) (err : Int) (hm : 0 ≤ most) : 0 ≤ (rdU most l err).1 ∧ (rdU most l err).1 ≤ most := by
  unfold rdU
  split
  · rename_i h
    obtain ⟨v, j, hj, _⟩ := gU_rng hl h.2.1
    exact ⟨by rw [hj]; exact Int.natCast_nonneg v, h.2.2⟩
  · exact ⟨Int.le_refl _, hm⟩
theorem opn_bytes {b : List Int} (hb : ∀ x ∈ b, isByte x) : ∀ x ∈ (opn b).2.1, isByte x := by
  unfold opn
  split
  · intro x hx; cases hx
  split
  · intro x hx; cases hx
  split
  · split
    · intro x hx; cases hx
    split
    · intro x hx; cases hx
    split
    · exact fun x hx => hb x (List.mem_of_mem_take (List.mem_of_mem_drop hx))
    · intro x hx; cases hx
  · intro x hx; cases hx
theorem opn_len2 (b : List Int) : (opn b).2.1.length ≤ b.length := by
  unfold opn
  split
  · simp
  split
  · simp
  split
  · split
    · simp
    split
    · simp
    split
    · simp only [List.length_drop, List.length_take]; omega
    · simp
  · simp
theorem mput_bytes (a b : Int) {l : List Int} (hl : ∀ x ∈ l, isByte x) : ∀ x ∈ (mput a b l).1, isByte x := by
  unfold mput
  split
  · intro x hx; cases hx
  split
  · intro x hx; cases hx
  · intro x hx
    rcases List.mem_append.1 hx with hx | hx
    · exact head_bytes ⟨by omega, by omega⟩ (body_bytes hl) x hx
    · exact le4_bytes _ x hx
end Go.Proofs.YtonpiacnljcohaaDoor.MaT

-- Written by a program of this session (wip/tools/myprint.py), out of the translation's print. Lean checks it.
namespace Go.Proofs.YtonpiacnljcohaaDoor.PA
open Go.RowKit Go.Proofs.YtonpiacnljcohaaDoorW.PrintWords Go.Proofs.YtonpiacnljcohaaDoorW.PrintLast Go.Proofs.YtonpiacnljcohaaDoorW.PrintMore
attribute [local go_sem] max2_int min2_int max_two min_two max_three min_three max_four min_four   -- for this text's walks alone
set_option linter.unusedVariables false
set_option linter.unusedSimpArgs false

/-! ### bytes_Equal: function 48 -/
def bytes_Equal.f (l0 : List Int) (l1 : List Int) : Option (Bool) := some ((strOfNums l0).toList == (strOfNums l1).toList)
set_option maxHeartbeats 8000000 in
set_option maxRecDepth 100000 in
theorem bytes_Equal.calls (A0 : Option Addr) (c0 : Nat) (l0 : List Int) (A1 : Option Addr) (c1 : Nat) (l1 : List Int) (r : Bool) (w : World) (hr0 : Kd.C (Kd.int .u8) w A0 l0.length l0) (hc0 : l0.length ≤ c0) (hr1 : Kd.C (Kd.int .u8) w A1 l1.length l1) (hc1 : l1.length ≤ c1) (h : bytes_Equal.f l0 l1 = some r) :
    Calls Tryd.prog 48 #[.slice A0 l0.length c0, .slice A1 l1.length c1] w fun e w' => e = .returned (.bool r) ∧ Drawn0 w w' := by
  have HR0 := Aside0.mk hr0
  have HC0 := Aside0.mk hc0
  clear hr0 hc0
  have HR1 := Aside0.mk hr1
  have HC1 := Aside0.mk hc1
  clear hr1 hc1
  have H : (some ((strOfNums l0).toList == (strOfNums l1).toList)) = some r := h
  clear h
  obtain rfl := Option.some.inj H
  have hcv3 := Kd.C_string (P := Tryd.prog) (A := A0) (c := c0) Tryd.underlying22 Tryd.underlying5 Tryd.underlying9 HR0.out
  have hcd3 := fun m_ : Nat => Kd.C_string (P := Tryd.prog) (A := A0) (c := c0) Tryd.underlying22 Tryd.underlying5 Tryd.underlying9 (Kd.C_drewN HR0.out m_)
  have hcv4 := Kd.C_string (P := Tryd.prog) (A := A1) (c := c1) Tryd.underlying22 Tryd.underlying5 Tryd.underlying9 HR1.out
  have hcd4 := fun m_ : Nat => Kd.C_string (P := Tryd.prog) (A := A1) (c := c1) Tryd.underlying22 Tryd.underlying5 Tryd.underlying9 (Kd.C_drewN HR1.out m_)
  go_enter Tryd.func48, Tryd.ntmps48
  go_wp2
  go_ret
  exact ⟨by first | rfl | (simp; done) | (simp [*]; done), by repeat (first | exact Drawn0.refl _ | apply Drawn0.step)⟩

end Go.Proofs.YtonpiacnljcohaaDoor.PA

/- manifest.Get: what is read. -/
set_option linter.unusedVariables false
set_option linter.unusedSimpArgs false
namespace Go.Proofs.YtonpiacnljcohaaDoor.MaT
open Go Go.RowKit Go.Proofs.YtonpiacnljcohaaDoor.PA Go.Proofs.YtonpiacnljcohaaDoorW.PrintWords Go.Proofs.YtonpiacnljcohaaDoorW.PrintLast Go.Proofs.YtonpiacnljcohaaDoor.LebT Go.Proofs.YtonpiacnljcohaaDoor.LebP Go.Proofs.YtonpiacnljcohaaDoor.ColT Go.Proofs.YtonpiacnljcohaaDoor.FrT Go.Proofs.YtonpiacnljcohaaDoor.Rdr
def GetPost (w : World) (r1 r2 : Int) (r3 : List Int) (r4 : Int) (e : Ending) (w' : World) : Prop :=
  ∃ v0_ : Value, e = .returned (.tuple #[.agg #[.int .i64 r1, .int .i64 r2, v0_], .int .i64 r4]) ∧ Kd.R (Kd.int .u8) 5 w' w.heap.size (fun _ => True) v0_ r3 ∧ Below w.heap.size w w'
theorem get_some {w W : World} {b : List Int} {v1 v2 : Int} {l2 : List Int} (v : Value) (e : Ending) (hm : mget b = (v1, v2, l2, 0)) (he : e = .returned (.tuple #[.agg #[.int .i64 v1, .int .i64 v2, v], .int .i64 0])) (hR : Kd.R (Kd.int .u8) 5 W w.heap.size (fun _ => True) v l2) (hB : Below w.heap.size w W) :
    GetPost w (mget b).1 (mget b).2.1 (mget b).2.2.1 (mget b).2.2.2 e W := by
  rw [hm]
  exact ⟨_, he, hR, hB⟩
theorem get_none {w W : World} {b : List Int} (v : Value) (e : Ending) (hm : mget b = (0, 0, [], 4)) (he : e = .returned (.tuple #[.agg #[.int .i64 0, .int .i64 0, .slice none 0 0], .int .i64 4])) (hB : Below w.heap.size w W) :
    GetPost w (mget b).1 (mget b).2.1 (mget b).2.2.1 (mget b).2.2.2 e W := by
  rw [hm]
  exact ⟨_, he, Kd.R_nil _ _ _ _ _, hB⟩
/-- Open, in any later world: its row is told by its footprint. -/
theorem open_calls (A0 : Option Addr) (c0 : Nat) (b : List Int) (hb : ∀ x ∈ b, isByte x) (hl : b.length ≤ 140737488351232) (w W : World) (hr : Kd.C (Kd.int .u8) w A0 b.length b) (hc : b.length ≤ c0) (hG : Gl w) (hB : Below w.heap.size w W) :
    Calls Tryd.prog 18 #[.slice A0 b.length c0] W fun e w' => ∃ A c, e = .returned (.tuple #[.agg #[.int .u8 (opn b).1, .slice A (opn b).2.1.length c], .int .i64 (opn b).2.2.1, .int .i64 (opn b).2.2.2]) ∧ (opn b).2.1.length ≤ c ∧ Kd.F (Kd.int .u8) w' (fun k => W.heap.size ≤ k ∧ k < w'.heap.size) A (opn b).2.1.length (opn b).2.1 ∧ Below W.heap.size W w' := by
  refine (frame_Open.calls A0 c0 b (opn b).1 (opn b).2.1 (opn b).2.2.1 (opn b).2.2.2 W (Kd.C_below hr hB) hc (hG.below hB) (open_f b hb hl)).mono ?_
  rintro e w' ⟨v, rfl, hR, hb2⟩
  obtain ⟨A, c, rfl, hlc, _⟩ := Kd.R_reads hR
  exact ⟨A, c, rfl, hlc, Kd.F_mono (Kd.V_F (base := 0) (Kd.R_V (Kd.R_bound hR))) (fun k h => ⟨h.2.1, h.2.2.1⟩), hb2⟩
theorem kept60 (w w2 : World) (h : Below (w.alloc (.cells #[.int .i64 0, .int .i64 0, .slice none 0 0] 60)).heap.size (w.alloc (.cells #[.int .i64 0, .int .i64 0, .slice none 0 0] 60)) w2) :
    w.heap.size < w2.heap.size ∧ (w.heap.size = w2.heap.size) = False ∧ (w2.heap.size = w.heap.size) = False ∧ w2.cell? ⟨w.heap.size, 0, none⟩ = some (.int .i64 0) ∧ w2.cell? ⟨w.heap.size, 1, none⟩ = some (.int .i64 0) ∧ w2.cell? ⟨w.heap.size, 2, none⟩ = some (.slice none 0 0) ∧
      w2.frozen? ⟨w.heap.size, 0, none⟩ = false ∧ w2.frozen? ⟨w.heap.size, 1, none⟩ = false ∧ w2.frozen? ⟨w.heap.size, 2, none⟩ = false := by
  have hb := blk_below (blk_new w _) h
  have hlt := blk_lt hb
  exact ⟨hlt, eq_false (by omega), eq_false (by omega), (blk_cell hb 0).trans rfl, (blk_cell hb 1).trans rfl, (blk_cell hb 2).trans rfl, blk_frozen hb 0, blk_frozen hb 1, blk_frozen hb 2⟩
/-- What stands while the reader reads. -/
structure In (w : World) (n2 gr : Nat) (A2 : Option Addr) (c2 : Nat) (o2 : List Int) (w' : World) : Prop where
  lt : w.heap.size < n2
  lt2 : n2 < gr
  blk2 : w'.heap[w.heap.size]? = some (.cells #[.int .i64 0, .int .i64 0, .slice none 0 0] 60 (0, 0))
  blk4 : w'.heap[n2]? = some (.cells #[.int .u8 3, .slice A2 o2.length c2] 33 (0, 0))
  row : Kd.F (Kd.int .u8) w' (fun k => w.heap.size < k ∧ k < n2) A2 o2.length o2
  bel : Below w.heap.size w w'
section
variable {w W W' : World} {n2 gr c2 : Nat} {A2 : Option Addr} {o2 : List Int}
theorem In.only (h : In w n2 gr A2 c2 o2 W) (ho : Only gr W W') : In w n2 gr A2 c2 o2 W' := by
  have h1 := h.lt
  have h2 := h.lt2
  exact ⟨h1, h2, (ho.block _ (by omega)).trans h.blk2, (ho.block _ (by omega)).trans h.blk4, Kd.F_step h.row (fun k hk _ => ho.block k (by omega)), h.bel.trans (ho.below (by omega))⟩
theorem In.far {n8 : Nat} (h : In w n2 gr A2 c2 o2 W) (hg : gr < n8) (i : Nat) (v : Value) : In w n2 gr A2 c2 o2 (W.setCell ⟨n8, i, none⟩ v) := by
  have h1 := h.lt
  have h2 := h.lt2
  exact ⟨h1, h2, blk_far h.blk2 (show w.heap.size ≠ n8 by omega) v, blk_far h.blk4 (show n2 ≠ n8 by omega) v, Kd.F_far h.row (fun k hk => show k ≠ n8 by omega) v, h.bel.setCell (show w.heap.size ≤ n8 by omega) v⟩
theorem In.below (h : In w n2 gr A2 c2 o2 W) (hb : Below W.heap.size W W') : In w n2 gr A2 c2 o2 W' :=
  ⟨h.lt, h.lt2, blk_below h.blk2 hb, blk_below h.blk4 hb, Kd.F_below h.row hb, h.bel.trans (hb.mono h.bel.size)⟩
end
theorem kept2 {w W : World} {n2 gr c2 : Nat} {A2 : Option Addr} {o2 : List Int} (h : In w n2 gr A2 c2 o2 W) : W.cell? ⟨w.heap.size, 0, none⟩ = some (.int .i64 0) ∧ W.cell? ⟨w.heap.size, 1, none⟩ = some (.int .i64 0) ∧ W.cell? ⟨w.heap.size, 2, none⟩ = some (.slice none 0 0) ∧
      W.frozen? ⟨w.heap.size, 0, none⟩ = false ∧ W.frozen? ⟨w.heap.size, 1, none⟩ = false ∧ W.frozen? ⟨w.heap.size, 2, none⟩ = false :=
  ⟨(blk_cell h.blk2 0).trans rfl, (blk_cell h.blk2 1).trans rfl, (blk_cell h.blk2 2).trans rfl, blk_frozen h.blk2 0, blk_frozen h.blk2 1, blk_frozen h.blk2 2⟩
theorem kept8 {W : World} {n8 : Nat} {v1 v2 : Int} {v : Value} (h : W.heap[n8]? = some (.cells #[.int .i64 v1, .int .i64 v2, v] 60 (0, 0))) : W.cell? ⟨n8, 0, none⟩ = some (.int .i64 v1) ∧ W.cell? ⟨n8, 1, none⟩ = some (.int .i64 v2) ∧ W.cell? ⟨n8, 2, none⟩ = some v :=
  ⟨(blk_cell h 0).trans rfl, (blk_cell h 1).trans rfl, (blk_cell h 2).trans rfl⟩
theorem In.begin {w w2 w4 : World} {gr c2 : Nat} {A2 : Option Addr} {o2 : List Int} (hB : Below (w.alloc (.cells #[.int .i64 0, .int .i64 0, .slice none 0 0] 60)).heap.size (w.alloc (.cells #[.int .i64 0, .int .i64 0, .slice none 0 0] 60)) w2)
    (hF : Kd.F (Kd.int .u8) w2 (fun k => (w.alloc (.cells #[.int .i64 0, .int .i64 0, .slice none 0 0] 60)).heap.size ≤ k ∧ k < w2.heap.size) A2 o2.length o2) (hg : (w2.alloc (.cells #[.int .u8 3, .slice A2 o2.length c2] 33)).heap.size ≤ gr)
    (hB4 : Below (w2.alloc (.cells #[.int .u8 3, .slice A2 o2.length c2] 33)).heap.size (w2.alloc (.cells #[.int .u8 3, .slice A2 o2.length c2] 33)) w4) : In w w2.heap.size gr A2 c2 o2 w4 := by
  have bk := blk_below (blk_new w _) hB
  have hlt := blk_lt bk
  simp at hg
  have hb2 : Below w.heap.size w w2 := (below_alloc (Below.refl _ _) _).trans (hB.mono (by simp))
  refine ⟨hlt, by omega, blk_below (blk_alloc bk _) hB4, blk_below (blk_new w2 _) hB4, Kd.F_below (Kd.F_mono (Kd.F_alloc hF _) (fun k h => ⟨by have := h.1; simp at this; omega, h.2⟩)) hB4, (hb2.alloc (by omega) _).trans (hB4.mono (by simp; omega))⟩
set_option maxHeartbeats 4000000 in
set_option maxRecDepth 100000 in
theorem Get_calls (A0 : Option Addr) (c0 : Nat) (b : List Int) (hb : ∀ x ∈ b, isByte x) (hl : b.length ≤ 140737488351232) (w : World) (hr : Kd.C (Kd.int .u8) w A0 b.length b) (hc : b.length ≤ c0) (hG : Gl w) :
    Calls Tryd.prog 28 #[.slice A0 b.length c0] w (GetPost w (mget b).1 (mget b).2.1 (mget b).2.2.1 (mget b).2.2.2) := by
  have HOp := Aside0.mk (fun W hB => open_calls A0 c0 b hb hl w W hr hc hG hB)
  obtain ⟨o1, ho1⟩ : ∃ o, (opn b).1 = o := ⟨_, rfl⟩
  obtain ⟨o2, ho2⟩ : ∃ o, (opn b).2.1 = o := ⟨_, rfl⟩
  obtain ⟨o3, ho3⟩ : ∃ o, (opn b).2.2.1 = o := ⟨_, rfl⟩
  obtain ⟨o4, ho4⟩ : ∃ o, (opn b).2.2.2 = o := ⟨_, rfl⟩
  rw [ho1, ho2, ho3, ho4] at HOp
  have HO1 := Aside0.mk ho1
  have HO2 := Aside0.mk ho2
  have HO4 := Aside0.mk ho4
  have HRw := Aside0.mk hr
  have HBb := Aside0.mk hb
  have HLb := Aside0.mk hl
  have HGw := Aside0.mk hG
  have hu60 := Tryd.underlying60
  have hu33 := Tryd.underlying33
  clear hb hl hr hG ho1 ho2 ho3 ho4
  by_cases d1 : o4 = 0
  · subst d1
    by_cases d2 : o1 = 3
    · subst d2
      have HL2 := Aside0.mk (show o2.length < 140737488355328 by have := opn_len2 b; rw [HO2.out] at this; have := HLb.out; omega)
      have HB2 := Aside0.mk (show ∀ x ∈ o2, isByte x by rw [← HO2.out]; exact opn_bytes HBb.out)
      obtain ⟨v1, hv1⟩ : ∃ x, (rdU 999999 o2 0).1 = x := ⟨_, rfl⟩
      obtain ⟨l1, hl1⟩ : ∃ x, (rdU 999999 o2 0).2.1 = x := ⟨_, rfl⟩
      obtain ⟨e1, he1⟩ : ∃ x, (rdU 999999 o2 0).2.2 = x := ⟨_, rfl⟩
      obtain ⟨v2, hv2⟩ : ∃ x, (rdU 16777216 l1 e1).1 = x := ⟨_, rfl⟩
      obtain ⟨l2, hl2⟩ : ∃ x, (rdU 16777216 l1 e1).2.1 = x := ⟨_, rfl⟩
      obtain ⟨e2, he2⟩ : ∃ x, (rdU 16777216 l1 e1).2.2 = x := ⟨_, rfl⟩
      have hb1 : ∀ x ∈ l1, isByte x := by
        obtain ⟨j, hj⟩ := rdU_suffix 999999 o2 0
        rw [← hl1, hj]
        exact fun x hx => HB2.out x (List.mem_of_mem_drop hx)
      have r1 := rdU_rng 999999 o2 HB2.out 0 (by omega)
      have r2 := rdU_rng 16777216 l1 hb1 e1 (by omega)
      rw [hv1] at r1
      rw [hv2] at r2
      have hw1 : wrap64 v1 = v1 := by unfold wrap64; omega
      have hw2 : wrap64 v2 = v2 := by unfold wrap64; omega
      have R1 := Aside0.mk r1
      have R2 := Aside0.mk r2
      clear r1 r2
      have HU1 := Aside0.mk (fun (W : World) (g c : Nat) (P : Nat → Prop) (A : Option Addr) (h : Rd W g P A c o2 0) => (Uint_calls W g c P A o2 0 999999 HB2.out h).mono (R' := fun e w' => ∃ A' c', e = .returned (.int .u64 v1) ∧ Only g W w' ∧ Rd w' g P A' c' l1 e1) (by
        rintro e w' ⟨A', c', rfl, hO, hR⟩
        rw [hv1]; rw [hl1, he1] at hR
        exact ⟨A', c', rfl, hO, hR⟩))
      have HU2 := Aside0.mk (fun (W : World) (g c : Nat) (P : Nat → Prop) (A : Option Addr) (h : Rd W g P A c l1 e1) => (Uint_calls W g c P A l1 e1 16777216 hb1 h).mono (R' := fun e w' => ∃ A' c', e = .returned (.int .u64 v2) ∧ Only g W w' ∧ Rd w' g P A' c' l2 e2) (by
        rintro e w' ⟨A', c', rfl, hO, hR⟩
        rw [hv2]; rw [hl2, he2] at hR
        exact ⟨A', c', rfl, hO, hR⟩))
      obtain ⟨j, hj⟩ : ∃ j, l2 = o2.drop j := by
        obtain ⟨j1, h1⟩ := rdU_suffix 999999 o2 0
        obtain ⟨j2, h2⟩ := rdU_suffix 16777216 l1 e1
        rw [hl1] at h1; rw [hl2] at h2
        exact ⟨j1 + j2, by rw [h2, h1, List.drop_drop]⟩
      have hll : l2.length ≤ o2.length := by rw [hj, List.length_drop]; omega
      have hdr : o2.drop (o2.length - l2.length) = l2 := by
        rw [hj, List.length_drop]
        by_cases hjl : j ≤ o2.length
        · rw [show o2.length - (o2.length - j) = j by omega]
        · rw [List.drop_of_length_le (by omega), List.drop_of_length_le (by omega)]
      obtain ⟨u, hu⟩ : ∃ u, o2.length - l2.length = u := ⟨_, rfl⟩
      rw [hu] at hdr
      have HSub := Aside0.mk (show wrap64 ((o2.length : Int) - (l2.length : Int)) = (u : Int) by have := HL2.out; unfold wrap64; omega)
      have HU := Aside0.mk (show u ≤ o2.length by omega)
      have HLu := Aside0.mk (show o2.length - u = l2.length by omega)
      have HLL := Aside0.mk hll
      have HDR := Aside0.mk hdr
      clear hj j hll hdr hu
      have HX := Aside0.mk (And.intro hv1 (And.intro hl1 (And.intro he1 (And.intro hv2 (And.intro hl2 he2)))))
      have HB1 := Aside0.mk hb1
      have hb2l : ∀ x ∈ l2, isByte x := by
        obtain ⟨j2, h2⟩ := rdU_suffix 16777216 l1 e1
        rw [hl2] at h2
        rw [h2]
        exact fun x hx => hb1 x (List.mem_of_mem_drop hx)
      obtain ⟨p1, hp1⟩ : ∃ x, (mput v1 v2 l2).1 = x := ⟨_, rfl⟩
      obtain ⟨p2, hp2⟩ : ∃ x, (mput v1 v2 l2).2 = x := ⟨_, rfl⟩
      have hpf : manifest_Put.f 30 v1 v2 l2 = some (p1, p2) := by rw [put_f v1 v2 l2 hb2l (Nat.le_refl _), ← hp1, ← hp2]
      have hp1b : ∀ x ∈ p1, isByte x := by rw [← hp1]; exact mput_bytes v1 v2 hb2l
      have hmg : mget b = if e2 = 0 ∧ p2 = 0 ∧ p1 = b then (v1, v2, l2, 0) else (0, 0, [], 4) := by
        unfold mget
        rw [if_pos ⟨HO4.out, HO1.out⟩, HO2.out, hl1, he1, hv1, hv2, hl2, he2, hp1, hp2]
      have HMG := Aside0.mk hmg
      have HEq := Aside0.mk (fun (h : (strOfNums p1).toList = (strOfNums b).toList) => str_eq hp1b HBb.out h)
      have HPC := Aside0.mk (fun (W : World) (A : Option Addr) (c base : Nat) (hR : Kd.R (Kd.int .u8) 5 W base (fun _ => True) (.slice A l2.length c) l2) (hB : Below w.heap.size w W) =>
        (manifest_Put.calls 30 v1 v2 (fun _ => True) A c l2 p1 p2 W (Kd.R_V hR) (HGw.out.below hB) hpf).mono (R' := fun e w' => ∃ A' c', e = .returned (.tuple #[.slice A' p1.length c', .int .i64 p2]) ∧ p1.length ≤ c' ∧ Kd.C (Kd.int .u8) w' A' p1.length p1 ∧ Below W.heap.size W w') (by
          rintro e w' ⟨v, rfl, hR', hB'⟩
          obtain ⟨A', c', rfl, hl', hC'⟩ := Kd.R_reads hR'
          exact ⟨A', c', rfl, hl', hC', hB'⟩))
      have HEC := Aside0.mk (fun (W : World) (A : Option Addr) (c : Nat) (hC : Kd.C (Kd.int .u8) W A p1.length p1) (hc' : p1.length ≤ c) (hB : Below w.heap.size w W) =>
        bytes_Equal.calls A c p1 A0 c0 b _ W hC hc' (Kd.C_below HRw.out hB) hc rfl)
      clear hp1 hp2 hpf hp1b hmg hb2l
      clear hv1 hl1 he1 hv2 hl2 he2 hb1
      go_enter Tryd.func28, Tryd.ntmps28
      go_wp2_with (first | ((with_reducible refine gate_callee (f := 18) rfl ?_); refine goesL_ (some 13) rfl rfl Tryd.func18 (by kernel_rfl) rfl #[.slice A0 b.length c0] rfl (by (try simp only [List.map_toArray, List.map_cons, List.map_nil]); first | done | rfl) ?_; (with_reducible refine (HOp.out _ (below_alloc (Below.refl _ _) _)).mono ?_); rintro e_ w2 ⟨A2, c2, rfl, hlc, hF, hB⟩; refine ⟨_, rfl, ?_⟩; have HF := Aside0.mk hF; have HC2 := Aside0.mk hlc; have HB := Aside0.mk hB; obtain ⟨hlt2, ne2, ne2', c20, c21, c22, f20, f21, f22⟩ := kept60 w w2 hB; clear hF hB hlc) | ((with_reducible refine gate_callee (f := 43) rfl ?_); refine goesL_ (some 27) rfl rfl Tryd.func43 (by kernel_rfl) rfl #[.slice A2 o2.length c2] rfl (by (try simp only [List.map_toArray, List.map_cons, List.map_nil]); first | done | rfl) ?_; (with_reducible refine (Read_calls _ _ _ _ (Kd.F_now (Kd.F_alloc HF.out _)) HC2.out HL2.out).mono ?_); rintro e_ w4 ⟨gr, P, A4, c4, rfl, hge, hP, hRd, hB4⟩; refine ⟨_, rfl, ?_⟩; have HRd := Aside0.mk hRd; have HIn := Aside0.mk (In.begin HB.out HF.out hge hB4); have HP := Aside0.mk hP; clear hRd hB4 hge hP HF) | (go_at_call 44; (with_reducible refine (HU1.out _ _ _ _ _ HRd.out).mono ?_); rintro e_ w5 ⟨A5, c5, rfl, hO5, hR5⟩; have HIn5 := Aside0.mk (HIn.out.only hO5); have HRd5 := Aside0.mk hR5; clear hO5 hR5 HIn HRd) | (go_at_call 44; (with_reducible refine (HU2.out _ _ _ _ _ HRd5.out).mono ?_); rintro e_ w6 ⟨A6, c6, rfl, hO6, hR6⟩; have HIn6 := Aside0.mk (HIn5.out.only hO6); have HRd6 := Aside0.mk hR6; clear hO6 hR6 HIn5 HRd5))
      obtain ⟨A8, hcut8, hC8, hc8⟩ := cut_of c2 A2 o2 HC2.out u HU.out
      have HCut := Aside0.mk hcut8
      have H7 := Aside0.mk (HIn6.out.below (below_drew (below_alloc (Below.refl _ _) (.cells #[.int .i64 v1, .int .i64 v2, .slice none 0 0] 60))))
      have HR7 := Aside0.mk (HRd6.out.bound.below (below_drew (below_alloc (Below.refl _ _) (.cells #[.int .i64 v1, .int .i64 v2, .slice none 0 0] 60))))
      have HK7 := Aside0.mk (blk_drew (blk_new w6 (.cells #[.int .i64 v1, .int .i64 v2, .slice none 0 0] 60)))
      have HG8 := Aside0.mk (show gr < w6.heap.size from HRd6.out.lt)
      refine start_ (n := 12) (S := fun w' => In w w2.heap.size gr A2 c2 o2 w' ∧ Rd w' gr (fun k => P k ∧ k < w6.heap.size) A6 c6 l2 e2) (ds := []) #[false, false, false, false, false, false, false, false, false, false, false, false] (by kernel_rfl) rfl rfl ⟨H7.out, HR7.out⟩ (fun hHeld => ?_)
      generalize hn8 : w6.heap.size = n8 at HK7 HG8 hHeld ⊢
      generalize (w6.alloc (.cells #[.int .i64 v1, .int .i64 v2, .slice none 0 0] 60)).drew = w7 at HK7 hHeld ⊢
      clear H7 HR7 HIn6 HRd6
      refine pure_ (i := 0) (N := some 35) (v := ?_) (a' := ?_) #[true, false, false, false, false, false, false, false, false, false, false, false] rfl rfl (by kernel_rfl) (fun _ _ _ h => h) (Or.inl ⟨by rfl, ?_⟩) ?_ ?_
      rotate_left
      · intro w'
        go_simp
        with_reducible rfl
      rotate_left
      · simp only [Act.put, List.setIfInBounds_toArray, List.set_cons_zero, List.set_cons_succ, i64_w, i32_w]
        rfl
      refine pure_ (i := 2) (N := some 37) (v := ?_) (a' := ?_) #[true, false, true, false, false, false, false, false, false, false, false, false] rfl rfl (by kernel_rfl) (fun _ _ _ h => h) (Or.inl ⟨by rfl, ?_⟩) ?_ ?_
      rotate_left
      · intro w'
        go_simp
        with_reducible rfl
      rotate_left
      · simp only [Act.put, List.setIfInBounds_toArray, List.set_cons_zero, List.set_cons_succ, i64_w, i32_w]
        rfl
      refine pure_ (i := 5) (N := some 40) (v := ?_) (a' := ?_) #[true, false, true, false, false, true, false, false, false, false, false, false] rfl rfl (by kernel_rfl) (fun _ _ _ h => h) (Or.inl ⟨by rfl, ?_⟩) ?_ ?_
      rotate_left
      · intro w'
        go_simp
        with_reducible rfl
      rotate_left
      · simp only [Act.put, List.setIfInBounds_toArray, List.set_cons_zero, List.set_cons_succ, i64_w, i32_w]
        rfl
      refine take_ (i := 1) (N := some 36) (v := ?_) (a' := ?_) #[true, true, true, false, false, true, false, false, false, false, false, false] rfl rfl (by kernel_rfl) (fun _ _ _ h => h) (Or.inl ⟨by rfl, ?_⟩) hHeld ?_ ?_
      rotate_left
      · rintro w' d0_
        have hc_ := (blk_cell d0_.1.blk4 1).trans rfl
        go_simp
        with_reducible rfl
      rotate_left
      · simp only [Act.put, List.setIfInBounds_toArray, List.set_cons_zero, List.set_cons_succ, i64_w, i32_w]
        rfl
      refine take_ (i := 3) (N := some 38) (v := ?_) (a' := ?_) #[true, true, true, true, false, true, false, false, false, false, false, false] rfl rfl (by kernel_rfl) (fun _ _ _ h => h) (Or.inl ⟨by rfl, ?_⟩) hHeld ?_ ?_
      rotate_left
      · rintro w' d0_
        have hc_ := (blk_cell d0_.1.blk4 1).trans rfl
        go_simp
        with_reducible rfl
      rotate_left
      · simp only [Act.put, List.setIfInBounds_toArray, List.set_cons_zero, List.set_cons_succ, i64_w, i32_w]
        rfl
      refine pure_ (i := 4) (N := some 39) (v := ?_) (a' := ?_) #[true, true, true, true, true, true, false, false, false, false, false, false] rfl rfl (by kernel_rfl) (fun _ _ _ h => h) (Or.inl ⟨by rfl, ?_⟩) ?_ ?_
      rotate_left
      · intro w'
        go_simp
        with_reducible rfl
      rotate_left
      · simp only [Act.put, List.setIfInBounds_toArray, List.set_cons_zero, List.set_cons_succ, i64_w, i32_w]
        rfl
      refine one_ (i := 6) (N := some 41) #[true, true, true, true, true, true, true, false, false, false, false, false] rfl rfl (by kernel_rfl) (by decide) (fun K hK => ?_)
      refine goes_ Tryd.func46 (by kernel_rfl) rfl #[.pointer (some ⟨gr, 0, none⟩)] (by rfl) rfl rfl (by (try simp only [List.map_toArray, List.map_cons, List.map_nil]); first | done | rfl) ?_
      refine (Left_calls w7 gr c6 _ A6 l2 e2 hHeld.2).mono ?_
      rintro e w8 ⟨rfl, rfl⟩
      refine ⟨_, rfl, ?_⟩
      refine hK.out _ _ hHeld (fun hHeld => ?_)
      clear hK K
      refine norm_ (a' := ?_) ?_ ?_
      rotate_left
      · show Act.put _ (some 41) _ = _
        simp only [Act.put, List.setIfInBounds_toArray, List.set_cons_zero, List.set_cons_succ, i64_w, i32_w]
        rfl
      refine pure_ (i := 7) (N := some 42) (v := ?_) (a' := ?_) #[true, true, true, true, true, true, true, true, false, false, false, false] rfl rfl (by kernel_rfl) (fun _ _ _ h => h) (Or.inl ⟨by rfl, ?_⟩) ?_ ?_
      rotate_left
      · intro w'
        have hs_ := HSub.out
        have hs2_ := (i64_w _).trans HSub.out
        go_simp
        with_reducible rfl
      rotate_left
      · simp only [Act.put, List.setIfInBounds_toArray, List.set_cons_zero, List.set_cons_succ, i64_w, i32_w]
        rfl
      refine pure_ (i := 8) (N := some 43) (v := ?_) (a' := ?_) #[true, true, true, true, true, true, true, true, true, false, false, false] rfl rfl (by kernel_rfl) (fun _ _ _ h => h) (Or.inl ⟨by rfl, ?_⟩) ?_ ?_
      rotate_left
      · intro w'
        have hs_ := HCut.out
        go_simp
        with_reducible rfl
      rotate_left
      · simp only [Act.put, List.setIfInBounds_toArray, List.set_cons_zero, List.set_cons_succ, i64_w, i32_w]
        rfl
      refine one_ (i := 9) (N := some 44) #[true, true, true, true, true, true, true, true, true, true, false, false] rfl rfl (by kernel_rfl) (by decide) (fun K hK => ?_)
      rw [HLu.out]
      have hC9 : Kd.C (Kd.int .u8) w8 A8 l2.length l2 := by have := hC8 w8 (Kd.F_now hHeld.1.row); rwa [HDR.out] at this
      have hc9 : l2.length ≤ c2 - u := by rw [HDR.out] at hc8; exact hc8
      refine goes_ Tryd.func45 (by kernel_rfl) rfl #[.slice A8 l2.length (c2 - u)] (by rfl) rfl rfl (by (try simp only [List.map_toArray, List.map_cons, List.map_nil]); first | done | rfl) ?_
      refine (slices_Clone_byte_byte.calls A8 (c2 - u) l2 l2 w8 hC9 hc9 (by unfold slices_Clone_byte_byte.f; rw [if_pos (by have := HL2.out; have := HLL.out; omega)])).mono ?_
      rintro e w9 ⟨v9, rfl, ho9, hb9⟩
      refine ⟨_, rfl, ?_⟩
      have HO9 := Aside0.mk (Kd.R_lower ho9 hHeld.1.bel.size)
      have HK9 := Aside0.mk (blk_below HK7.out hb9)
      have HI9 := Aside0.mk (hHeld.1.below hb9)
      have HR9 := Aside0.mk (hHeld.2.below hb9)
      clear ho9 hb9 hC9 hc9 hC8 hc8 HK7 hHeld
      refine hK.out _ _ ⟨HI9.out, HR9.out⟩ (fun hHeld => ?_)
      clear hK K
      obtain ⟨A9, c9, rfl⟩ := Kd.R_slice HO9.out
      refine norm_ (a' := ?_) ?_ ?_
      rotate_left
      · show Act.put _ (some 44) _ = _
        simp only [Act.put, List.setIfInBounds_toArray, List.set_cons_zero, List.set_cons_succ, i64_w, i32_w]
        rfl
      refine pure_ (i := 10) (N := some 45) (v := ?_) (a' := ?_) #[true, true, true, true, true, true, true, true, true, true, true, false] rfl rfl (by kernel_rfl) (fun _ _ _ h => h) (Or.inl ⟨by rfl, ?_⟩) ?_ ?_
      rotate_left
      · intro w'
        go_simp
        with_reducible rfl
      rotate_left
      · simp only [Act.put, List.setIfInBounds_toArray, List.set_cons_zero, List.set_cons_succ, i64_w, i32_w]
        rfl
      refine one_ (i := 11) (N := none) #[true, true, true, true, true, true, true, true, true, true, true, true] rfl rfl (by kernel_rfl) (by decide) (fun K hK => ?_)
      have h80 : w9.cell? ⟨n8, 2, none⟩ = some (.slice none 0 0) := (blk_cell HK9.out 2).trans rfl
      have f80 := blk_frozen HK9.out 2
      refine skip_ (by rfl) rfl (w1 := w9.setCell ⟨n8, 2, none⟩ (.slice A9 l2.length c9)) (by go_simp; try rfl) ?_
      have HI10 := Aside0.mk (HI9.out.far HG8.out 2 (.slice A9 l2.length c9))
      have HR10 := Aside0.mk (HR9.out.far (by have := HG8.out; omega) (fun k hk => Nat.ne_of_lt hk.2) 2 (.slice A9 l2.length c9))
      have HO10 := Aside0.mk (Kd.R_mono (ok' := fun _ => True) (Kd.R_far (p := ⟨n8, 2, none⟩) (Kd.R_types HO9.out HK9.out (by decide)) (fun _ hk => hk.2) (.slice A9 l2.length c9)) (fun _ _ => trivial))
      have HK10 := Aside0.mk (show (w9.setCell ⟨n8, 2, none⟩ (.slice A9 l2.length c9)).heap[n8]? = some (.cells #[.int .i64 v1, .int .i64 v2, .slice A9 l2.length c9] 60 (0, 0)) from blk_put HK9.out 2 _ rfl)
      clear HO9 HK9 HI9 HR9 h80 f80 hHeld
      refine hK.out _ _ ⟨HI10.out, HR10.out⟩ (fun hHeld => ?_)
      clear hK K
      generalize (w9.setCell ⟨n8, 2, none⟩ (.slice A9 l2.length c9)) = w10 at HO10 HK10 HI10 HR10 ⊢
      clear hHeld
      refine done_ (by kernel_rfl) ?_
      obtain ⟨h80, h81, h82⟩ := kept8 HK10.out
      have n28 : (w.heap.size = n8) = False := eq_false (by have := HI10.out.lt; have := HI10.out.lt2; have := HG8.out; omega)
      have n82 : (n8 = w.heap.size) = False := eq_false (by have := HI10.out.lt; have := HI10.out.lt2; have := HG8.out; omega)
      by_cases d3 : e2 = 0
      · by_cases d4 : p2 = 0
        · by_cases d5 : p1 = b
          · have b3 : ((strOfNums p1).toList == (strOfNums b).toList) = true := by rw [d5]; exact beq_self_eq_true _
            have HM := Aside0.mk (show mget b = (v1, v2, l2, 0) by rw [HMG.out, if_pos ⟨d3, d4, d5⟩])
            have b1 : (e2 != 0) = false := by simp [d3]
            have b2 : (p2 != 0) = false := by simp [d4]
            clear d3 d4 d5
            go_wp2_with (first | ((with_reducible refine gate_callee (f := 25) rfl ?_); refine goesL_ (some 48) rfl rfl Tryd.func25 (by kernel_rfl) rfl #[.agg #[.int .i64 v1, .int .i64 v2, .slice A9 l2.length c9]] rfl (by (try simp only [List.map_toArray, List.map_cons, List.map_nil]); first | done | rfl) ?_; (refine (HPC.out w10 A9 c9 w.heap.size HO10.out HI10.out.bel).mono ?_); rintro e_ w11 ⟨A11, c11, rfl, hc11, hC11, hb11⟩; refine ⟨_, rfl, ?_⟩; have HI11 := Aside0.mk (HI10.out.below hb11); have HR11 := Aside0.mk (HR10.out.below hb11); have HK11 := Aside0.mk (blk_below HK10.out hb11); have HO11 := Aside0.mk (Kd.R_below HO10.out hb11); have HC11 := Aside0.mk hC11; have HL11 := Aside0.mk hc11; clear h80 h81 h82; obtain ⟨h80, h81, h82⟩ := kept8 HK11.out; obtain ⟨c20, c21, c22, f20, f21, f22⟩ := kept2 HI11.out; clear hC11 hc11 hb11 HI10 HR10 HK10 HO10) | (go_at_call 47; (with_reducible refine (Err_calls _ _ _ _ _ _ _ HR11.out).mono ?_); rintro e_ w12 ⟨rfl, hw12⟩; subst hw12) | (go_at_call 48; (with_reducible refine (HEC.out _ A11 c11 HC11.out HL11.out HI11.out.bel).mono ?_); rintro e_ w13 ⟨rfl, hd13⟩; have hb13 := hd13.below; have HI13 := Aside0.mk (HI11.out.below hb13); have HK13 := Aside0.mk (blk_below HK11.out hb13); have HO13 := Aside0.mk (Kd.R_below HO11.out hb13); clear h80 h81 h82 c20 c21 c22 f20 f21 f22; obtain ⟨h80, h81, h82⟩ := kept8 HK13.out; obtain ⟨c20, c21, c22, f20, f21, f22⟩ := kept2 HI13.out; clear hd13 hb13 HI11 HK11 HO11 HR11))
            refine bodyPost_ret (results_ct rfl _ _ w.heap.size 60 #[.int .i64 v1, .int .i64 v2, .slice A9 l2.length c9] (0, 0) _ rfl (blk_put (blk_put (blk_put HI13.out.blk2 0 _ rfl) 1 _ rfl) 2 _ rfl) Tryd.underlying60 rfl (by kernel_rfl)) rfl ?_
            refine get_some _ _ HM.out rfl ?_ (((HI13.out.bel.setCell (Nat.le_refl _) _).setCell (Nat.le_refl _) _).setCell (Nat.le_refl _) _)
            exact Kd.R_mono (Kd.R_far (p := ⟨w.heap.size, 2, none⟩) (Kd.R_far (p := ⟨w.heap.size, 1, none⟩) (Kd.R_far (p := ⟨w.heap.size, 0, none⟩) (Kd.R_types HO13.out HI13.out.blk2 (by decide)) (fun _ hk => hk.2) _) (fun _ hk => hk.2) _) (fun _ hk => hk.2) _) (fun _ _ => trivial)
          · have b3 : ((strOfNums p1).toList == (strOfNums b).toList) = false := beq_eq_false_iff_ne.mpr (fun h => d5 (HEq.out h))
            have HM := Aside0.mk (show mget b = (0, 0, [], 4) by rw [HMG.out, if_neg (fun h => d5 h.2.2)])
            have b1 : (e2 != 0) = false := by simp [d3]
            have b2 : (p2 != 0) = false := by simp [d4]
            clear d3 d4 d5
            go_wp2_with (first | ((with_reducible refine gate_callee (f := 25) rfl ?_); refine goesL_ (some 48) rfl rfl Tryd.func25 (by kernel_rfl) rfl #[.agg #[.int .i64 v1, .int .i64 v2, .slice A9 l2.length c9]] rfl (by (try simp only [List.map_toArray, List.map_cons, List.map_nil]); first | done | rfl) ?_; (refine (HPC.out w10 A9 c9 w.heap.size HO10.out HI10.out.bel).mono ?_); rintro e_ w11 ⟨A11, c11, rfl, hc11, hC11, hb11⟩; refine ⟨_, rfl, ?_⟩; have HI11 := Aside0.mk (HI10.out.below hb11); have HR11 := Aside0.mk (HR10.out.below hb11); have HK11 := Aside0.mk (blk_below HK10.out hb11); have HO11 := Aside0.mk (Kd.R_below HO10.out hb11); have HC11 := Aside0.mk hC11; have HL11 := Aside0.mk hc11; clear h80 h81 h82; obtain ⟨h80, h81, h82⟩ := kept8 HK11.out; obtain ⟨c20, c21, c22, f20, f21, f22⟩ := kept2 HI11.out; clear hC11 hc11 hb11 HI10 HR10 HK10 HO10) | (go_at_call 47; (with_reducible refine (Err_calls _ _ _ _ _ _ _ HR11.out).mono ?_); rintro e_ w12 ⟨rfl, hw12⟩; subst hw12) | (go_at_call 48; (with_reducible refine (HEC.out _ A11 c11 HC11.out HL11.out HI11.out.bel).mono ?_); rintro e_ w13 ⟨rfl, hd13⟩; have hb13 := hd13.below; have HI13 := Aside0.mk (HI11.out.below hb13); have HK13 := Aside0.mk (blk_below HK11.out hb13); have HO13 := Aside0.mk (Kd.R_below HO11.out hb13); clear h80 h81 h82 c20 c21 c22 f20 f21 f22; obtain ⟨h80, h81, h82⟩ := kept8 HK13.out; obtain ⟨c20, c21, c22, f20, f21, f22⟩ := kept2 HI13.out; clear hd13 hb13 HI11 HK11 HO11 HR11))
            refine bodyPost_ret (results_ct rfl _ _ w.heap.size 60 #[.int .i64 0, .int .i64 0, .slice none 0 0] (0, 0) _ rfl (blk_put (blk_put (blk_put HI13.out.blk2 0 _ rfl) 1 _ rfl) 2 _ rfl) Tryd.underlying60 rfl (by kernel_rfl)) rfl ?_
            refine get_none .nilIface _ HM.out rfl ?_
            exact ((HI13.out.bel.setCell (Nat.le_refl _) _).setCell (Nat.le_refl _) _).setCell (Nat.le_refl _) _
        · have HM := Aside0.mk (show mget b = (0, 0, [], 4) by rw [HMG.out, if_neg (fun h => d4 h.2.1)])
          have b1 : (e2 != 0) = false := by simp [d3]
          have b2 : (p2 != 0) = true := by simp [d4]
          clear d3 d4
          go_wp2_with (first | ((with_reducible refine gate_callee (f := 25) rfl ?_); refine goesL_ (some 48) rfl rfl Tryd.func25 (by kernel_rfl) rfl #[.agg #[.int .i64 v1, .int .i64 v2, .slice A9 l2.length c9]] rfl (by (try simp only [List.map_toArray, List.map_cons, List.map_nil]); first | done | rfl) ?_; (refine (HPC.out w10 A9 c9 w.heap.size HO10.out HI10.out.bel).mono ?_); rintro e_ w11 ⟨A11, c11, rfl, hc11, hC11, hb11⟩; refine ⟨_, rfl, ?_⟩; have HI11 := Aside0.mk (HI10.out.below hb11); have HR11 := Aside0.mk (HR10.out.below hb11); have HK11 := Aside0.mk (blk_below HK10.out hb11); have HO11 := Aside0.mk (Kd.R_below HO10.out hb11); have HC11 := Aside0.mk hC11; have HL11 := Aside0.mk hc11; clear h80 h81 h82; obtain ⟨h80, h81, h82⟩ := kept8 HK11.out; obtain ⟨c20, c21, c22, f20, f21, f22⟩ := kept2 HI11.out; clear hC11 hc11 hb11 HI10 HR10 HK10 HO10) | (go_at_call 47; (with_reducible refine (Err_calls _ _ _ _ _ _ _ HR11.out).mono ?_); rintro e_ w12 ⟨rfl, hw12⟩; subst hw12))
          refine bodyPost_ret (results_ct rfl _ _ w.heap.size 60 #[.int .i64 0, .int .i64 0, .slice none 0 0] (0, 0) _ rfl (blk_put (blk_put (blk_put HI11.out.blk2 0 _ rfl) 1 _ rfl) 2 _ rfl) Tryd.underlying60 rfl (by kernel_rfl)) rfl ?_
          refine get_none .nilIface _ HM.out rfl ?_
          exact ((HI11.out.bel.setCell (Nat.le_refl _) _).setCell (Nat.le_refl _) _).setCell (Nat.le_refl _) _
      · have HM := Aside0.mk (show mget b = (0, 0, [], 4) by rw [HMG.out, if_neg (fun h => d3 h.1)])
        have b1 : (e2 != 0) = true := by simp [d3]
        clear d3
        go_wp2_with (first | ((with_reducible refine gate_callee (f := 25) rfl ?_); refine goesL_ (some 48) rfl rfl Tryd.func25 (by kernel_rfl) rfl #[.agg #[.int .i64 v1, .int .i64 v2, .slice A9 l2.length c9]] rfl (by (try simp only [List.map_toArray, List.map_cons, List.map_nil]); first | done | rfl) ?_; (refine (HPC.out w10 A9 c9 w.heap.size HO10.out HI10.out.bel).mono ?_); rintro e_ w11 ⟨A11, c11, rfl, hc11, hC11, hb11⟩; refine ⟨_, rfl, ?_⟩; have HI11 := Aside0.mk (HI10.out.below hb11); have HR11 := Aside0.mk (HR10.out.below hb11); have HK11 := Aside0.mk (blk_below HK10.out hb11); have HO11 := Aside0.mk (Kd.R_below HO10.out hb11); have HC11 := Aside0.mk hC11; have HL11 := Aside0.mk hc11; clear h80 h81 h82; obtain ⟨h80, h81, h82⟩ := kept8 HK11.out; obtain ⟨c20, c21, c22, f20, f21, f22⟩ := kept2 HI11.out; clear hC11 hc11 hb11 HI10 HR10 HK10 HO10) | (go_at_call 47; (with_reducible refine (Err_calls _ _ _ _ _ _ _ HR11.out).mono ?_); rintro e_ w12 ⟨rfl, hw12⟩; subst hw12))
        refine bodyPost_ret (results_ct rfl _ _ w.heap.size 60 #[.int .i64 0, .int .i64 0, .slice none 0 0] (0, 0) _ rfl (blk_put (blk_put (blk_put HI11.out.blk2 0 _ rfl) 1 _ rfl) 2 _ rfl) Tryd.underlying60 rfl (by kernel_rfl)) rfl ?_
        refine get_none .nilIface _ HM.out rfl ?_
        exact ((HI11.out.bel.setCell (Nat.le_refl _) _).setCell (Nat.le_refl _) _).setCell (Nat.le_refl _) _
    · have b1 : (o1 == 3) = false := beq_eq_false_iff_ne.mpr d2
      have b2 : (o1 != 3) = true := bne_iff_ne.mpr d2
      have HM := Aside0.mk (show mget b = (0, 0, [], 4) by unfold mget; rw [if_neg]; rw [HO4.out, HO1.out]; exact fun h => d2 h.2)
      clear d2
      go_enter Tryd.func28, Tryd.ntmps28
      go_wp2_with (first | ((with_reducible refine gate_callee (f := 18) rfl ?_); refine goesL_ (some 13) rfl rfl Tryd.func18 (by kernel_rfl) rfl #[.slice A0 b.length c0] rfl (by (try simp only [List.map_toArray, List.map_cons, List.map_nil]); first | done | rfl) ?_; (with_reducible refine (HOp.out _ (below_alloc (Below.refl _ _) _)).mono ?_); rintro e_ w2 ⟨A2, c2, rfl, hlc, hF, hB⟩; refine ⟨_, rfl, ?_⟩; have HF := Aside0.mk hF; have HC2 := Aside0.mk hlc; have HB := Aside0.mk hB; obtain ⟨hlt2, ne2, ne2', c20, c21, c22, f20, f21, f22⟩ := kept60 w w2 hB; clear hF hB hlc))
      have hb2 : Below w.heap.size w w2 := (below_alloc (Below.refl _ _) _).trans (HB.out.mono (by simp))
      have bk := blk_below (blk_new w _) HB.out
      refine bodyPost_ret (results_ct rfl _ _ w.heap.size 60 #[.int .i64 0, .int .i64 0, .slice none 0 0] (0, 0) _ rfl (blk_alloc (blk_put (blk_put (blk_put bk 0 _ rfl) 1 _ rfl) 2 _ rfl) _) Tryd.underlying60 rfl (by kernel_rfl)) rfl ?_
      refine get_none .nilIface _ HM.out rfl ?_
      exact (((hb2.setCell (Nat.le_refl _) _).setCell (Nat.le_refl _) _).setCell (Nat.le_refl _) _).alloc (by simp [World.setCell]; omega) _
  · have b1 : (o4 == 0) = false := beq_eq_false_iff_ne.mpr d1
    have b2 : (o4 != 0) = true := bne_iff_ne.mpr d1
    have HM := Aside0.mk (show mget b = (0, 0, [], 4) by unfold mget; rw [if_neg]; rw [HO4.out]; exact fun h => d1 h.1)
    clear d1
    go_enter Tryd.func28, Tryd.ntmps28
    go_wp2_with (first | ((with_reducible refine gate_callee (f := 18) rfl ?_); refine goesL_ (some 13) rfl rfl Tryd.func18 (by kernel_rfl) rfl #[.slice A0 b.length c0] rfl (by (try simp only [List.map_toArray, List.map_cons, List.map_nil]); first | done | rfl) ?_; (with_reducible refine (HOp.out _ (below_alloc (Below.refl _ _) _)).mono ?_); rintro e_ w2 ⟨A2, c2, rfl, hlc, hF, hB⟩; refine ⟨_, rfl, ?_⟩; have HF := Aside0.mk hF; have HC2 := Aside0.mk hlc; have HB := Aside0.mk hB; obtain ⟨hlt2, ne2, ne2', c20, c21, c22, f20, f21, f22⟩ := kept60 w w2 hB; clear hF hB hlc))
    have hb2 : Below w.heap.size w w2 := (below_alloc (Below.refl _ _) _).trans (HB.out.mono (by simp))
    have bk := blk_below (blk_new w _) HB.out
    refine bodyPost_ret (results_ct rfl _ _ w.heap.size 60 #[.int .i64 0, .int .i64 0, .slice none 0 0] (0, 0) _ rfl (blk_alloc (blk_put (blk_put (blk_put bk 0 _ rfl) 1 _ rfl) 2 _ rfl) _) Tryd.underlying60 rfl (by kernel_rfl)) rfl ?_
    refine get_none .nilIface _ HM.out rfl ?_
    exact (((hb2.setCell (Nat.le_refl _) _).setCell (Nat.le_refl _) _).setCell (Nat.le_refl _) _).alloc (by simp [World.setCell]; omega) _
end Go.Proofs.YtonpiacnljcohaaDoor.MaT
namespace Go.Proofs.YtonpiacnljcohaaDoor.PA
open Go Go.RowKit Go.Proofs.YtonpiacnljcohaaDoorW.PrintWords Go.Proofs.YtonpiacnljcohaaDoor.LebT Go.Proofs.YtonpiacnljcohaaDoor.MaT
def bytesB (b : List Int) : Bool := b.all fun x => decide (0 ≤ x) && decide (x < 256)
theorem bytesB_iff (b : List Int) : bytesB b = true ↔ ∀ x ∈ b, isByte x := by simp [bytesB, List.all_eq_true, isByte]
def manifest_Get.f (b : List Int) : Option (Int × Int × List Int × Int) := if b.length ≤ 140737488351232 ∧ bytesB b = true then some (mget b) else none
theorem manifest_Get.calls (A0 : Option Addr) (c0 : Nat) (l0 : List Int) (r1 r2 : Int) (r3 : List Int) (r4 : Int) (w : World) (hr0 : Kd.C (Kd.int .u8) w A0 l0.length l0) (hc0 : l0.length ≤ c0) (hG : Gl w) (h : manifest_Get.f l0 = some (r1, r2, r3, r4)) :
    Calls Tryd.prog 28 #[.slice A0 l0.length c0] w fun e w' => ∃ v0_ : Value, e = .returned (.tuple #[.agg #[.int .i64 r1, .int .i64 r2, v0_], .int .i64 r4]) ∧ Kd.R (Kd.int .u8) 5 w' w.heap.size (fun _ => True) v0_ r3 ∧ Below w.heap.size w w' := by
  unfold manifest_Get.f at h
  split at h
  · rename_i hl
    have hm := Option.some.inj h
    have hc := Get_calls A0 c0 l0 ((bytesB_iff l0).1 hl.2) hl.1 w hr0 hc0 hG
    rw [hm] at hc
    exact hc
  · cases h
end Go.Proofs.YtonpiacnljcohaaDoor.PA

-- Written by a program of this session (wip/tools/myprint.py), out of the translation's print. Lean checks it.
namespace Go.Proofs.YtonpiacnljcohaaDoor.PA
open Go.RowKit Go.Proofs.YtonpiacnljcohaaDoorW.PrintWords Go.Proofs.YtonpiacnljcohaaDoorW.PrintLast Go.Proofs.YtonpiacnljcohaaDoorW.PrintMore
attribute [local go_sem] max2_int min2_int max_two min_two max_three min_three max_four min_four   -- for this text's walks alone
set_option linter.unusedVariables false
set_option linter.unusedSimpArgs false

/-! ### stemmaref19_Put: function 26 -/
def stemmaref19_Put.j0 : Nat → Bool → Int → Int → List Int → Option (List Int × Int)
  | 0, _, _, _, _ => none
  | k + 1, x5, x433000, x433001, x433002 => if x5 = true then (some (([] : List Int), 2)) else (if (x433002.length : Int) > 524288 then (some (([] : List Int), 5)) else ((stemmaref02_Uint.f k (IntKind.u64.wrap (x433000))).bind fun t433 => ((stemmaref02_Uint.f k (IntKind.u64.wrap (x433001))).bind fun t436 => (if t433.length + t436.length < 140737488355328 then ((some (t433 ++ t436 : List Int)).bind fun y439 => (if y439.length + x433002.length < 140737488355328 then ((stemmaref04_Seal.f k 3 (y439 ++ x433002)).bind fun bt445 => (some (bt445.1, bt445.2))) else (none))) else (none)))))
def stemmaref19_Put.f (k : Nat) (a0_0 : Int) (a0_1 : Int) (l0_2 : List Int) : Option (List Int × Int) := if a0_0 < 1 then (stemmaref19_Put.j0 k true a0_0 a0_1 l0_2) else (if a0_0 > 999999 then (stemmaref19_Put.j0 k true a0_0 a0_1 l0_2) else (if a0_1 < 0 then (stemmaref19_Put.j0 k true a0_0 a0_1 l0_2) else (stemmaref19_Put.j0 k (decide (a0_1 > 16777216)) a0_0 a0_1 l0_2)))
theorem stemmaref19_Put.mono_l : ∀ k, (∀ y0 y1 y2 y3, LeO (stemmaref19_Put.j0 k y0 y1 y2 y3) (stemmaref19_Put.j0 (k + 1) y0 y1 y2 y3))
  | 0 => fun _ _ _ _ r h => by simp [stemmaref19_Put.j0] at h
  | k + 1 => by
    have ih0 := stemmaref19_Put.mono_l k
    · intro y0 y1 y2 y3
      unfold stemmaref19_Put.j0
      repeat' first
      | (with_reducible exact ih0 _ _ _ _)
      | (with_reducible exact stemmaref02_Uint.mono _ _)
      | (with_reducible exact stemmaref04_Seal.mono _ _ _)
      | (with_reducible exact LeO.refl _)
      | (with_reducible exact LeO.none _)
      | (with_reducible refine LeO.ite ?_ ?_)
      | (with_reducible refine LeO.bind ?_ (fun _ => ?_))
      | exact ih0 _ _ _ _
      | exact stemmaref02_Uint.mono _ _
      | exact stemmaref04_Seal.mono _ _ _
      | exact LeO.none _
      | refine LeO.ite ?_ ?_
      | refine LeO.bind ?_ (fun _ => ?_)
theorem stemmaref19_Put.mono : ∀ a0 a1 a2 k, LeO (stemmaref19_Put.f k a0 a1 a2) (stemmaref19_Put.f (k + 1) a0 a1 a2) := by
  intro a0 a1 a2 k
  have ih0 := stemmaref19_Put.mono_l k
  unfold stemmaref19_Put.f
  repeat' first
      | (with_reducible exact ih0 _ _ _ _)
      | (with_reducible exact stemmaref02_Uint.mono _ _)
      | (with_reducible exact stemmaref04_Seal.mono _ _ _)
      | (with_reducible exact LeO.refl _)
      | (with_reducible exact LeO.none _)
      | (with_reducible refine LeO.ite ?_ ?_)
      | (with_reducible refine LeO.bind ?_ (fun _ => ?_))
      | exact ih0 _ _ _ _
      | exact stemmaref02_Uint.mono _ _
      | exact stemmaref04_Seal.mono _ _ _
      | exact LeO.none _
      | refine LeO.ite ?_ ?_
      | refine LeO.bind ?_ (fun _ => ?_)
def stemmaref19_Put.T5 : Bool × List (List Nat × List Nat) := (true, [([], []), ([0], [0]), ([1], [1]), ([2], [2]), ([], []), ([4], [4]), ([5], [5]), ([6, 3], [6]), ([3, 7, 7], [3, 7]), ([8, 8, 0, 1, 2, 3, 4, 5, 6, 7, 8], [8])])
def stemmaref19_Put.B5 : List Nat := [0, 1, 3, 7, 0, 16, 48, 127, 255, 511]
theorem stemmaref19_Put.tab5 : rtab .any (opsOf Tryd.f26 5) = stemmaref19_Put.T5 := by kernel_rfl
theorem stemmaref19_Put.bits5 : waitsOk stemmaref19_Put.T5.2 stemmaref19_Put.B5 = true := by kernel_rfl
set_option maxHeartbeats 8000000 in
set_option maxRecDepth 100000 in
theorem stemmaref19_Put.calls (k : Nat) (a0_0 : Int) (a0_1 : Int) (A0_2 : Option Addr) (c0_2 : Nat) (l0_2 : List Int) (r1 : List Int) (r2 : Int) (w : World) (hr0_2 : Kd.C (Kd.int .u8) w A0_2 l0_2.length l0_2) (hc0_2 : l0_2.length ≤ c0_2) (h : stemmaref19_Put.f k a0_0 a0_1 l0_2 = some (r1, r2)) :
    Calls Tryd.prog 26 #[.agg #[.int .i64 a0_0, .int .i64 a0_1, .slice A0_2 l0_2.length c0_2]] w fun e w' => ∃ v0_ : Value, e = .returned (.tuple #[v0_, .int .i64 r2]) ∧ Kd.R (Kd.int .u8) 5 w' w.heap.size (fun _ => True) v0_ r1 ∧ Below w.heap.size w w' := by
  have hu62 := Tryd.underlying62
  have HR0_2 := Aside0.mk hr0_2
  have HC0_2 := Aside0.mk hc0_2
  clear hr0_2 hc0_2
  have HB := Aside0.mk (Below.refl w.heap.size w)
  have H : (if a0_0 < 1 then (stemmaref19_Put.j0 k true a0_0 a0_1 l0_2) else (if a0_0 > 999999 then (stemmaref19_Put.j0 k true a0_0 a0_1 l0_2) else (if a0_1 < 0 then (stemmaref19_Put.j0 k true a0_0 a0_1 l0_2) else (stemmaref19_Put.j0 k (decide (a0_1 > 16777216)) a0_0 a0_1 l0_2)))) = some (r1, r2) := h
  clear h
  have HC2 := Aside0.mk H
  clear H
  go_enter Tryd.func26, Tryd.ntmps26
  go_upto_region 1 with (first | ((with_reducible refine gate_dst (N := 1) rfl ?_); refine box_event ?hg (N := 1) ?hd (cs := #[.int .i64 a0_0, .int .i64 a0_1, .slice A0_2 l0_2.length c0_2]) (t := 62) ?hr ?_; (case hd => rfl); (case hg => rfl); (case hr => first | (go_simp; done) | (go_simp; rfl)); intro gb432 hg w3 hbox hb; have n0_ := Aside0.mk (below_step (by repeat (first | (with_reducible first | exact HB.out | apply below_alloc | apply pw_below_drewN | apply below_drew1) | exact HB.out)) hb); have n1_ := Aside0.mk (hbox); have n2_ := Aside0.mk ((by rw [hg]; exact (below_size (by repeat (first | (with_reducible first | exact HB.out | apply below_alloc | apply pw_below_drewN | apply below_drew1) | exact HB.out))) : w.heap.size ≤ gb432)); have n3_ := Aside0.mk ((by rw [hg]; exact (below_size (by repeat (first | (with_reducible first | exact HB.out | apply below_alloc | apply pw_below_drewN | apply below_drew1) | exact HB.out))) : w.heap.size ≤ gb432)); clear HB; have HB := n0_; have BK432 := n1_; have GW432 := n2_; have GE432 := n3_; clear n0_ n1_ n2_ n3_; clear hb hbox hg))
  (try simp only [Act.put, List.setIfInBounds_toArray, List.set_cons_zero, List.set_cons_succ])
  go_cut [5] (fun v5 wc => ∃ (kq : Nat) (x5_1 : Bool), v5 = .bool x5_1 ∧ Aside0 (stemmaref19_Put.j0 kq x5_1 a0_0 a0_1 l0_2 = some (r1, r2)) ∧ Aside0 (kq ≤ k) ∧ Aside0 (wc.heap[gb432]? = some (.cells #[.int .i64 a0_0, .int .i64 a0_1, (.slice A0_2 l0_2.length c0_2)] 62 (0, 0))) ∧ Aside0 (Below w.heap.size w wc))
  case first =>
    have H := HC2.out
    clear HC2
    by_cases c4 : a0_0 < 1
    · rw [if_pos c4] at H
      have c4b0 : decide (a0_0 < 1) = true := decide_eq_true c4
      clear c4
      (first | rw [c4b0] | (simp only [i64_w, i32_w]; rw [c4b0]) | skip)
      have H' := Aside0.mk H
      clear H
      have hcz5_0 : w3.cell? ⟨gb432, 0, none⟩ = some (.int .i64 a0_0) := (blk_cell BK432.out 0).trans rfl
      have hcz5_1 : w3.cell? ⟨gb432, 1, none⟩ = some (.int .i64 a0_1) := (blk_cell BK432.out 1).trans rfl
      have hcz5_2 : w3.cell? ⟨gb432, 2, none⟩ = some (.slice A0_2 l0_2.length c0_2) := (blk_cell BK432.out 2).trans rfl
      have hfz5_0 := blk_frozen BK432.out 0
      have hfz5_1 := blk_frozen BK432.out 1
      have hfz5_2 := blk_frozen BK432.out 2
      go_wp2
      go_meet
      case rel => exact ⟨_, (true), (by first | rfl | (simp; done) | (simp [*]; done)), H', ⟨by first | omega | exact Nat.le_refl _⟩, ⟨by (with_reducible repeat (first | refine blk_drewN ?_ _ | refine blk_drew ?_ | refine blk_alloc ?_ _)); exact BK432.out⟩, ⟨by repeat (first | (with_reducible first | exact HB.out | apply below_alloc | apply pw_below_drewN | apply below_drew1 | refine below_set ?_ GE432.out) | exact HB.out)⟩⟩
    · rw [if_neg c4] at H
      have c4b0 : decide (a0_0 < 1) = false := decide_eq_false c4
      clear c4
      (first | rw [c4b0] | (simp only [i64_w, i32_w]; rw [c4b0]) | skip)
      by_cases c6 : a0_0 > 999999
      · rw [if_pos c6] at H
        have c6b0 : decide (999999 < a0_0) = true := decide_eq_true c6
        clear c6
        have H' := Aside0.mk H
        clear H
        have hcz7_0 : w3.cell? ⟨gb432, 0, none⟩ = some (.int .i64 a0_0) := (blk_cell BK432.out 0).trans rfl
        have hcz7_1 : w3.cell? ⟨gb432, 1, none⟩ = some (.int .i64 a0_1) := (blk_cell BK432.out 1).trans rfl
        have hcz7_2 : w3.cell? ⟨gb432, 2, none⟩ = some (.slice A0_2 l0_2.length c0_2) := (blk_cell BK432.out 2).trans rfl
        have hfz7_0 := blk_frozen BK432.out 0
        have hfz7_1 := blk_frozen BK432.out 1
        have hfz7_2 := blk_frozen BK432.out 2
        go_wp2
        go_meet
        case rel => exact ⟨_, (true), (by first | rfl | (simp; done) | (simp [*]; done)), H', ⟨by first | omega | exact Nat.le_refl _⟩, ⟨by (with_reducible repeat (first | refine blk_drewN ?_ _ | refine blk_drew ?_ | refine blk_alloc ?_ _)); exact BK432.out⟩, ⟨by repeat (first | (with_reducible first | exact HB.out | apply below_alloc | apply pw_below_drewN | apply below_drew1 | refine below_set ?_ GE432.out) | exact HB.out)⟩⟩
      · rw [if_neg c6] at H
        have c6b0 : decide (999999 < a0_0) = false := decide_eq_false c6
        clear c6
        by_cases c8 : a0_1 < 0
        · rw [if_pos c8] at H
          have c8b0 : decide (a0_1 < 0) = true := decide_eq_true c8
          clear c8
          have H' := Aside0.mk H
          clear H
          have hcz9_0 : w3.cell? ⟨gb432, 0, none⟩ = some (.int .i64 a0_0) := (blk_cell BK432.out 0).trans rfl
          have hcz9_1 : w3.cell? ⟨gb432, 1, none⟩ = some (.int .i64 a0_1) := (blk_cell BK432.out 1).trans rfl
          have hcz9_2 : w3.cell? ⟨gb432, 2, none⟩ = some (.slice A0_2 l0_2.length c0_2) := (blk_cell BK432.out 2).trans rfl
          have hfz9_0 := blk_frozen BK432.out 0
          have hfz9_1 := blk_frozen BK432.out 1
          have hfz9_2 := blk_frozen BK432.out 2
          go_wp2
          go_meet
          case rel => exact ⟨_, (true), (by first | rfl | (simp; done) | (simp [*]; done)), H', ⟨by first | omega | exact Nat.le_refl _⟩, ⟨by (with_reducible repeat (first | refine blk_drewN ?_ _ | refine blk_drew ?_ | refine blk_alloc ?_ _)); exact BK432.out⟩, ⟨by repeat (first | (with_reducible first | exact HB.out | apply below_alloc | apply pw_below_drewN | apply below_drew1 | refine below_set ?_ GE432.out) | exact HB.out)⟩⟩
        · rw [if_neg c8] at H
          have c8b0 : decide (a0_1 < 0) = false := decide_eq_false c8
          clear c8
          have H' := Aside0.mk H
          clear H
          have hcz10_0 : w3.cell? ⟨gb432, 0, none⟩ = some (.int .i64 a0_0) := (blk_cell BK432.out 0).trans rfl
          have hcz10_1 : w3.cell? ⟨gb432, 1, none⟩ = some (.int .i64 a0_1) := (blk_cell BK432.out 1).trans rfl
          have hcz10_2 : w3.cell? ⟨gb432, 2, none⟩ = some (.slice A0_2 l0_2.length c0_2) := (blk_cell BK432.out 2).trans rfl
          have hfz10_0 := blk_frozen BK432.out 0
          have hfz10_1 := blk_frozen BK432.out 1
          have hfz10_2 := blk_frozen BK432.out 2
          go_wp2
          go_meet
          case rel => exact ⟨_, (decide (a0_1 > 16777216)), (by first | rfl | (simp; done) | (simp [*]; done)), H', ⟨by first | omega | exact Nat.le_refl _⟩, ⟨by (with_reducible repeat (first | refine blk_drewN ?_ _ | refine blk_drew ?_ | refine blk_alloc ?_ _)); exact BK432.out⟩, ⟨by repeat (first | (with_reducible first | exact HB.out | apply below_alloc | apply pw_below_drewN | apply below_drew1 | refine below_set ?_ GE432.out) | exact HB.out)⟩⟩
  case rest =>
    clear HC2
    try clear c2
    try clear p2
    try clear c4
    try clear c4b0
    try clear c6
    try clear c6b0
    try clear c8
    try clear c8b0
    try clear hcz10_0
    try clear hcz10_1
    try clear hcz10_2
    try clear hcz5_0
    try clear hcz5_1
    try clear hcz5_2
    try clear hcz7_0
    try clear hcz7_1
    try clear hcz7_2
    try clear hcz9_0
    try clear hcz9_1
    try clear hcz9_2
    try clear hfz10_0
    try clear hfz10_1
    try clear hfz10_2
    try clear hfz5_0
    try clear hfz5_1
    try clear hfz5_2
    try clear hfz7_0
    try clear hfz7_1
    try clear hfz7_2
    try clear hfz9_0
    try clear hfz9_1
    try clear hfz9_2
    obtain ⟨kq, x5_1, rfl, HA, HJ1, BK432, HB⟩ := hcut
    cases kq with
    | zero => exact absurd HA.out (by simp [stemmaref19_Put.j0])
    | succ kj1 =>
      have H := HA.out
      clear HA
      simp only [stemmaref19_Put.j0] at H
      by_cases c11 : x5_1 = true
      · subst c11
        have H1 : (some (([] : List Int), 2)) = some (r1, r2) := by rw [if_pos rfl] at H; exact H
        clear H
        have H := H1
        clear H1
        simp only [Option.some.injEq, Prod.mk.injEq] at H
        obtain ⟨rfl, rfl⟩ := H
        go_wp2
        go_ret2
        exact ⟨_, by first | rfl | (simp [errW_none, errW_some] <;> rfl) | (simp [*, errW_none, errW_some] <;> rfl), by first | exact Kd.R_nil _ _ _ _ _ | exact Kd.N_nil _ _ _ _ _ | exact Kd.V_nil _ _ _ _ _ | exact Kd.Q_nil _ _ _ _ _ | exact Kd.S_nil _ _ _ _ _, by repeat (first | (with_reducible first | exact HB.out | apply below_alloc | apply pw_below_drewN | apply below_drew1 | refine below_set ?_ GE432.out) | exact HB.out)⟩
      · replace c11 := Bool.eq_false_iff.mpr c11
        subst c11
        have H1 : (if (l0_2.length : Int) > 524288 then (some (([] : List Int), 5)) else ((stemmaref02_Uint.f kj1 (IntKind.u64.wrap (a0_0))).bind fun t433 => ((stemmaref02_Uint.f kj1 (IntKind.u64.wrap (a0_1))).bind fun t436 => (if t433.length + t436.length < 140737488355328 then ((some (t433 ++ t436 : List Int)).bind fun y439 => (if y439.length + l0_2.length < 140737488355328 then ((stemmaref04_Seal.f kj1 3 (y439 ++ l0_2)).bind fun bt445 => (some (bt445.1, bt445.2))) else (none))) else (none))))) = some (r1, r2) := by rw [if_neg (show ¬ (false = true) by decide)] at H; exact H
        clear H
        have H := H1
        clear H1
        by_cases c12 : (l0_2.length : Int) > 524288
        · rw [if_pos c12] at H
          have c12b0 : decide (524288 < (l0_2.length : Int)) = true := decide_eq_true c12
          have c12b1 : decide (524288 < l0_2.length) = true := decide_eq_true (by omega)
          clear c12
          simp only [Option.some.injEq, Prod.mk.injEq] at H
          obtain ⟨rfl, rfl⟩ := H
          have hcz13_0 : wc.cell? ⟨gb432, 0, none⟩ = some (.int .i64 a0_0) := (blk_cell BK432.out 0).trans rfl
          have hcz13_1 : wc.cell? ⟨gb432, 1, none⟩ = some (.int .i64 a0_1) := (blk_cell BK432.out 1).trans rfl
          have hcz13_2 : wc.cell? ⟨gb432, 2, none⟩ = some (.slice A0_2 l0_2.length c0_2) := (blk_cell BK432.out 2).trans rfl
          have hfz13_0 := blk_frozen BK432.out 0
          have hfz13_1 := blk_frozen BK432.out 1
          have hfz13_2 := blk_frozen BK432.out 2
          go_wp2
          go_ret2
          exact ⟨_, by first | rfl | (simp [errW_none, errW_some] <;> rfl) | (simp [*, errW_none, errW_some] <;> rfl), by first | exact Kd.R_nil _ _ _ _ _ | exact Kd.N_nil _ _ _ _ _ | exact Kd.V_nil _ _ _ _ _ | exact Kd.Q_nil _ _ _ _ _ | exact Kd.S_nil _ _ _ _ _, by repeat (first | (with_reducible first | exact HB.out | apply below_alloc | apply pw_below_drewN | apply below_drew1 | refine below_set ?_ GE432.out) | exact HB.out)⟩
        · rw [if_neg c12] at H
          have c12b0 : decide (524288 < (l0_2.length : Int)) = false := decide_eq_false c12
          have c12b1 : decide (524288 < l0_2.length) = false := decide_eq_false (by omega)
          clear c12
          replace H := Option.bind_eq_some_iff.mp H
          obtain ⟨t433, A140, H⟩ := H
          replace H : ((stemmaref02_Uint.f kj1 (IntKind.u64.wrap (a0_1))).bind fun t436 => (if t433.length + t436.length < 140737488355328 then ((some (t433 ++ t436 : List Int)).bind fun y439 => (if y439.length + l0_2.length < 140737488355328 then ((stemmaref04_Seal.f kj1 3 (y439 ++ l0_2)).bind fun bt445 => (some (bt445.1, bt445.2))) else (none))) else (none))) = some (r1, r2) := H
          have A14 := Aside0.mk A140
          clear A140
          replace H := Option.bind_eq_some_iff.mp H
          obtain ⟨t436, A150, H⟩ := H
          replace H : (if t433.length + t436.length < 140737488355328 then ((some (t433 ++ t436 : List Int)).bind fun y439 => (if y439.length + l0_2.length < 140737488355328 then ((stemmaref04_Seal.f kj1 3 (y439 ++ l0_2)).bind fun bt445 => (some (bt445.1, bt445.2))) else (none))) else (none)) = some (r1, r2) := H
          have A15 := Aside0.mk A150
          clear A150
          by_cases c16 : t433.length + t436.length < 140737488355328
          · rw [if_pos c16] at H
            have LMc16 := Aside0.mk c16
            clear c16
            obtain ⟨y439, hy439⟩ : ∃ y_ : List Int, y_ = (t433 ++ t436) := ⟨_, rfl⟩
            replace H : (if y439.length + l0_2.length < 140737488355328 then ((stemmaref04_Seal.f kj1 3 (y439 ++ l0_2)).bind fun bt445 => (some (bt445.1, bt445.2))) else (none)) = some (r1, r2) := by first | (rw [hy439]; with_reducible exact H) | (have H2_ := (Option.bind_some _ _).symm.trans H; rw [hy439]; with_reducible exact H2_) | (have H2_ := (Option.bind_some _ _).symm.trans H; with_reducible exact H2_) | with_reducible exact H | (rw [hy439]; exact H) | exact H
            have Ny439 := Aside0.mk hy439
            clear hy439
            by_cases c17 : y439.length + l0_2.length < 140737488355328
            · rw [if_pos c17] at H
              have LMc17 := Aside0.mk c17
              clear c17
              obtain ⟨y442, hy442⟩ : ∃ y_ : List Int, y_ = (y439 ++ l0_2) := ⟨_, rfl⟩
              replace H : ((stemmaref04_Seal.f kj1 3 y442).bind fun bt445 => (some (bt445.1, bt445.2))) = some (r1, r2) := by first | (rw [hy442]; with_reducible exact H) | (have H2_ := (Option.bind_some _ _).symm.trans H; rw [hy442]; with_reducible exact H2_) | (have H2_ := (Option.bind_some _ _).symm.trans H; with_reducible exact H2_) | with_reducible exact H | (rw [hy442]; exact H) | exact H
              have Ny442 := Aside0.mk hy442
              clear hy442
              replace H := Option.bind_eq_some_iff.mp H
              obtain ⟨⟨t445, t446⟩, A180, H⟩ := H
              replace H : (some (t445, t446)) = some (r1, r2) := H
              have A18 := Aside0.mk A180
              clear A180
              simp only [Option.some.injEq, Prod.mk.injEq] at H
              obtain ⟨rfl, rfl⟩ := H
              have hcz19_0 : wc.cell? ⟨gb432, 0, none⟩ = some (.int .i64 a0_0) := (blk_cell BK432.out 0).trans rfl
              have hcz19_1 : wc.cell? ⟨gb432, 1, none⟩ = some (.int .i64 a0_1) := (blk_cell BK432.out 1).trans rfl
              have hcz19_2 : wc.cell? ⟨gb432, 2, none⟩ = some (.slice A0_2 l0_2.length c0_2) := (blk_cell BK432.out 2).trans rfl
              have hfz19_0 := blk_frozen BK432.out 0
              have hfz19_1 := blk_frozen BK432.out 1
              have hfz19_2 := blk_frozen BK432.out 2
              try go_wp2
              have n0_ := Aside0.mk (blk_drew BK432.out)
              have n1_ := Aside0.mk (below_drew1 HB.out)
              clear BK432
              clear HB
              have BK432 := n0_
              have HB := n1_
              clear n0_ n1_
              refine start_ (n := 10) (S := fun w' => w'.cell? ⟨gb432, 0, none⟩ = some (.int .i64 a0_0) ∧ w'.cell? ⟨gb432, 1, none⟩ = some (.int .i64 a0_1) ∧ w'.cell? ⟨gb432, 2, none⟩ = some (.slice A0_2 l0_2.length c0_2)) (ds := []) #[false, false, false, false, false, false, false, false, false, false] (by kernel_rfl) rfl rfl ⟨(blk_cell BK432.out 0).trans rfl, (blk_cell BK432.out 1).trans rfl, (blk_cell BK432.out 2).trans rfl⟩ (fun hHeld => ?_); refine with_tabW stemmaref19_Put.tab5 stemmaref19_Put.bits5 (fun HT_ HW_ => ?_)
              generalize wc.drew = w20 at BK432 HB hHeld ⊢
              refine pure_ (i := 0) (N := some 29) (v := ?_) (a' := ?_) #[true, false, false, false, false, false, false, false, false, false] rfl rfl (any_of HT_.out (by kernel_rfl)) (fun _ _ _ h => h) (Or.inl ⟨by rfl, ?_⟩) ?_ ?_
              rotate_left
              · intro w'
                go_simp
                with_reducible rfl
              rotate_left
              · simp only [Act.put, List.setIfInBounds_toArray, List.set_cons_zero, List.set_cons_succ, i64_w, i32_w]
                rfl
              refine pure_ (i := 4) (N := some 33) (v := ?_) (a' := ?_) #[true, false, false, false, true, false, false, false, false, false] rfl rfl (any_of HT_.out (by kernel_rfl)) (fun _ _ _ h => h) (Or.inl ⟨by rfl, ?_⟩) ?_ ?_
              rotate_left
              · intro w'
                go_simp
                with_reducible rfl
              rotate_left
              · simp only [Act.put, List.setIfInBounds_toArray, List.set_cons_zero, List.set_cons_succ, i64_w, i32_w]
                rfl
              refine take_ (i := 1) (N := some 30) (v := ?_) (a' := ?_) #[true, true, false, false, true, false, false, false, false, false] rfl rfl (take_ofW HT_.out HW_.out (by kernel_rfl)) (fun _ _ _ h => h) (Or.inl ⟨by rfl, ?_⟩) hHeld ?_ ?_
              rotate_left
              · rintro w' ⟨s0, s1, s2⟩
                go_simp
                with_reducible rfl
              rotate_left
              · simp only [Act.put, List.setIfInBounds_toArray, List.set_cons_zero, List.set_cons_succ, i64_w, i32_w]
                rfl
              refine pure_ (i := 2) (N := some 31) (v := ?_) (a' := ?_) #[true, true, true, false, true, false, false, false, false, false] rfl rfl (any_of HT_.out (by kernel_rfl)) (fun _ _ _ h => h) (Or.inl ⟨by rfl, ?_⟩) ?_ ?_
              rotate_left
              · intro w'
                go_simp
                with_reducible rfl
              rotate_left
              · simp only [Act.put, List.setIfInBounds_toArray, List.set_cons_zero, List.set_cons_succ, i64_w, i32_w]
                rfl
              refine take_ (i := 5) (N := some 34) (v := ?_) (a' := ?_) #[true, true, true, false, true, true, false, false, false, false] rfl rfl (take_ofW HT_.out HW_.out (by kernel_rfl)) (fun _ _ _ h => h) (Or.inl ⟨by rfl, ?_⟩) hHeld ?_ ?_
              rotate_left
              · rintro w' ⟨s0, s1, s2⟩
                go_simp
                with_reducible rfl
              rotate_left
              · simp only [Act.put, List.setIfInBounds_toArray, List.set_cons_zero, List.set_cons_succ, i64_w, i32_w]
                rfl
              refine pure_ (i := 6) (N := some 35) (v := ?_) (a' := ?_) #[true, true, true, false, true, true, true, false, false, false] rfl rfl (any_of HT_.out (by kernel_rfl)) (fun _ _ _ h => h) (Or.inl ⟨by rfl, ?_⟩) ?_ ?_
              rotate_left
              · intro w'
                go_simp
                with_reducible rfl
              rotate_left
              · simp only [Act.put, List.setIfInBounds_toArray, List.set_cons_zero, List.set_cons_succ, i64_w, i32_w]
                rfl
              refine one_ (i := 3) (N := some 32) #[true, true, true, true, true, true, true, false, false, false] rfl rfl (one_of HT_.out (by kernel_rfl)) (by decide) (fun K hK => ?_)
              refine goes_ Tryd.func36 (by kernel_rfl) rfl #[.int .u64 (IntKind.u64.wrap (a0_0))] (by rfl) rfl rfl (by (try simp only [List.map_toArray, List.map_cons, List.map_nil]); first | done | rfl | (simp only [List.length_drop, List.length_take]; rfl)) ?_
              with_reducible refine (stemmaref02_Uint.calls kj1 (IntKind.u64.wrap (a0_0)) t433 _ A14.out).mono ?_
              rintro e w21 ⟨v434, rfl, ho0, hb⟩
              refine ⟨_, rfl, ?_⟩
              have n0_ := Aside0.mk (Kd.R_lower ho0 (below_size (by repeat (first | (with_reducible first | exact HB.out | apply below_alloc | apply pw_below_drewN | apply below_drew1 | refine below_set ?_ GE432.out) | exact HB.out))))
              have n1_ := Aside0.mk (blk_below (g := gb432) (o := .cells #[.int .i64 a0_0, .int .i64 a0_1, .slice A0_2 l0_2.length c0_2] 62 (0, 0)) (by (with_reducible repeat (first | refine blk_drewN ?_ _ | refine blk_drew ?_ | refine blk_alloc ?_ _)); exact BK432.out) hb)
              have n2_ := Aside0.mk (below_step (by repeat (first | (with_reducible first | exact HB.out | apply below_alloc | apply pw_below_drewN | apply below_drew1 | refine below_set ?_ GE432.out) | exact HB.out)) hb)
              clear BK432
              clear HB
              have HO435 := n0_
              have BK432 := n1_
              have HB := n2_
              clear n0_ n1_ n2_
              (try clear hb)
              (try clear hb2)
              (try clear hk)
              (try clear hi)
              (try clear ho0)
              refine hK.out _ _ ⟨(blk_cell BK432.out 0).trans rfl, (blk_cell BK432.out 1).trans rfl, (blk_cell BK432.out 2).trans rfl⟩ (fun hHeld => ?_)
              clear hK K
              refine norm_ (a' := ?_) ?_ ?_
              rotate_left
              · show Act.put _ (some 32) _ = _
                simp only [Act.put, List.setIfInBounds_toArray, List.set_cons_zero, List.set_cons_succ, i64_w, i32_w]
                rfl
              refine one_ (i := 7) (N := some 36) #[true, true, true, true, true, true, true, true, false, false] rfl rfl (one_of HT_.out (by kernel_rfl)) (by decide) (fun K hK => ?_)
              refine goes_ Tryd.func36 (by kernel_rfl) rfl #[.int .u64 (IntKind.u64.wrap (a0_1))] (by rfl) rfl rfl (by (try simp only [List.map_toArray, List.map_cons, List.map_nil]); first | done | rfl | (simp only [List.length_drop, List.length_take]; rfl)) ?_
              with_reducible refine (stemmaref02_Uint.calls kj1 (IntKind.u64.wrap (a0_1)) t436 _ A15.out).mono ?_
              rintro e w22 ⟨v437, rfl, ho0, hb⟩
              refine ⟨_, rfl, ?_⟩
              have n0_ := Aside0.mk (Kd.R_elder' (by (with_reducible repeat (first | apply Kd.R_alloc | apply Kd.R_drewN | apply Kd.R_drew)); exact HO435.out) (Kd.R_base ho0) hb)
              have n1_ := Aside0.mk (Kd.R_lower (Kd.R_new' ho0 (Kd.R_lt (by (with_reducible repeat (first | apply Kd.R_alloc | apply Kd.R_drewN | apply Kd.R_drew)); exact HO435.out))) (below_size (by repeat (first | (with_reducible first | exact HB.out | apply below_alloc | apply pw_below_drewN | apply below_drew1 | refine below_set ?_ GE432.out) | exact HB.out))))
              have n2_ := Aside0.mk (blk_below (g := gb432) (o := .cells #[.int .i64 a0_0, .int .i64 a0_1, .slice A0_2 l0_2.length c0_2] 62 (0, 0)) (by (with_reducible repeat (first | refine blk_drewN ?_ _ | refine blk_drew ?_ | refine blk_alloc ?_ _)); exact BK432.out) hb)
              have n3_ := Aside0.mk (below_step (by repeat (first | (with_reducible first | exact HB.out | apply below_alloc | apply pw_below_drewN | apply below_drew1 | refine below_set ?_ GE432.out) | exact HB.out)) hb)
              clear HO435
              clear BK432
              clear HB
              have HO435 := n0_
              have HO438 := n1_
              have BK432 := n2_
              have HB := n3_
              clear n0_ n1_ n2_ n3_
              (try clear hb)
              (try clear hb2)
              (try clear hk)
              (try clear hi)
              (try clear ho0)
              obtain ⟨Ao24, co24, eo24⟩ := Kd.R_slice HO438.out
              (first | subst eo24 | (injection eo24 with f1_ f2_ f3_; have f4_ := f1_.symm; have f5_ := f3_.symm; clear f1_ f2_ f3_; subst f4_; subst f5_))
              refine hK.out _ _ ⟨(blk_cell BK432.out 0).trans rfl, (blk_cell BK432.out 1).trans rfl, (blk_cell BK432.out 2).trans rfl⟩ (fun hHeld => ?_)
              clear hK K
              refine norm_ (a' := ?_) ?_ ?_
              rotate_left
              · show Act.put _ (some 36) _ = _
                simp only [Act.put, List.setIfInBounds_toArray, List.set_cons_zero, List.set_cons_succ, i64_w, i32_w]
                rfl
              refine one_ (i := 8) (N := some 37) #[true, true, true, true, true, true, true, true, true, false] rfl rfl (one_of HT_.out (by kernel_rfl)) (by decide) (fun K hK => ?_)
              refine Kd.R_append_rows_step (Kd.int .u8) (w0 := w) w.heap.size (by rfl) (.tmp 32) (.tmp 36) 22 5 (.int .u8 0) 1 rfl Tryd.underlying22 info5 rfl (by decide) (by omega) v434 t433 t436 _ _ _ (fun k_ => some k_ ≠ (.slice Ao24 t436.length co24 : Value).ownBlock) (fun _ => False) rfl rfl ?aO ?aR (fun _ _ h => h) (fun _ h => h.elim) ?aF ?aB ?aS ?aL ?_
              (case aR => repeat (first | exact (Kd.R_reads' HO438.out).2.2 | (with_reducible refine Kd.C_alloc ?_ _) | (with_reducible refine Kd.C_drewN ?_ _) | (with_reducible refine Kd.C_drew ?_)))
              (case aB => exact (by repeat (first | (with_reducible first | exact HB.out | apply below_alloc | apply pw_below_drewN | apply below_drew1 | refine below_set ?_ GE432.out) | exact HB.out)))
              (case aF => exact (fun k_ hk => Kd.fresh' (Kd.R_lt (by (with_reducible repeat (first | apply Kd.R_alloc | apply Kd.R_drewN | apply Kd.R_drew)); exact HO438.out)) k_ hk))
              (case aO => exact (by (with_reducible repeat (first | apply Kd.R_alloc | apply Kd.R_drewN | apply Kd.R_drew)); exact Kd.R_mono HO435.out (fun _ hk => hk.2)))
              (case aS => exact (below_size (by repeat (first | (with_reducible first | exact HB.out | apply below_alloc | apply pw_below_drewN | apply below_drew1 | refine below_set ?_ GE432.out) | exact HB.out))))
              (case aL => have := LMc16.out; omega)
              intro v440 w23 ho hb hg hat
              rw [← Ny439.out] at ho
              have n0_ := Aside0.mk (blk_grown (g := gb432) (o := .cells #[.int .i64 a0_0, .int .i64 a0_1, .slice A0_2 l0_2.length c0_2] 62 (0, 0)) (by (with_reducible repeat (first | refine blk_drewN ?_ _ | refine blk_drew ?_ | refine blk_alloc ?_ _)); exact BK432.out) hg (Kd.R_ne HO435.out BK432.out (by decide)))
              have n1_ := Aside0.mk (Kd.R_after (ok := (fun _ => True)) (by (with_reducible repeat (first | apply Kd.R_alloc | apply Kd.R_drewN | apply Kd.R_drew)); exact HO438.out) hg hat)
              have n2_ := Aside0.mk (hb)
              have n3_ := Aside0.mk (ho)
              clear BK432
              clear HO438
              clear HB
              clear HO435
              have BK432 := n0_
              have HO438 := n1_
              have HB := n2_
              have HO441 := n3_
              clear n0_ n1_ n2_ n3_
              clear ho hb hg hat
              refine hK.out _ _ ⟨(blk_cell BK432.out 0).trans rfl, (blk_cell BK432.out 1).trans rfl, (blk_cell BK432.out 2).trans rfl⟩ (fun hHeld => ?_)
              clear hK K
              refine norm_ (a' := ?_) ?_ ?_
              rotate_left
              · show Act.put _ (some 37) _ = _
                simp only [Act.put, List.setIfInBounds_toArray, List.set_cons_zero, List.set_cons_succ, i64_w, i32_w]
                rfl
              refine pure_ (i := 9) (N := some 4) (v := ?_) (a' := ?_) #[true, true, true, true, true, true, true, true, true, true] rfl rfl (any_of HT_.out (by kernel_rfl)) (fun _ _ _ h => h) (Or.inl ⟨by rfl, ?_⟩) ?_ ?_
              rotate_left
              · intro w'
                go_simp
                with_reducible rfl
              rotate_left
              · simp only [Act.put, List.setIfInBounds_toArray, List.set_cons_zero, List.set_cons_succ, i64_w, i32_w]
                rfl
              refine done_ (done_of HT_.out (by kernel_rfl)) ?_
              have hcz25_0 : w23.cell? ⟨gb432, 0, none⟩ = some (.int .i64 a0_0) := (blk_cell BK432.out 0).trans rfl
              have hcz25_1 : w23.cell? ⟨gb432, 1, none⟩ = some (.int .i64 a0_1) := (blk_cell BK432.out 1).trans rfl
              have hcz25_2 : w23.cell? ⟨gb432, 2, none⟩ = some (.slice A0_2 l0_2.length c0_2) := (blk_cell BK432.out 2).trans rfl
              have hfz25_0 := blk_frozen BK432.out 0
              have hfz25_1 := blk_frozen BK432.out 1
              have hfz25_2 := blk_frozen BK432.out 2
              try go_wp2_with (first | ((with_reducible refine gate_builtin (b := .append) (xs := #[.tmp 38, .tmp 40]) rfl ?_); at_builtin; refine Kd.R_append_rows (Kd.int .u8) (w0 := w) w.heap.size rfl (.tmp 38) (.tmp 40) 22 5 (.int .u8 0) 1 rfl Tryd.underlying22 info5 rfl (by decide) (by omega) v440 y439 l0_2 _ _ _ (fun k_ => some k_ ≠ (.slice Ao24 t436.length co24 : Value).ownBlock) (fun _ => False) rfl rfl ?aO ?aR (fun _ _ h => h) (fun _ h => h.elim) ?aF ?aB ?aS ?aL ?_; (case aR => repeat (first | exact (Kd.C_below HR0_2.out HB.out) | (with_reducible refine Kd.C_alloc ?_ _) | (with_reducible refine Kd.C_drewN ?_ _) | (with_reducible refine Kd.C_drew ?_))); (case aB => exact (by repeat (first | (with_reducible first | exact HB.out | apply below_alloc | apply pw_below_drewN | apply below_drew1 | refine below_set ?_ GE432.out) | exact HB.out))); (case aF => exact (fun k_ hk => Kd.fresh' (Kd.R_lt (by (with_reducible repeat (first | apply Kd.R_alloc | apply Kd.R_drewN | apply Kd.R_drew)); exact HO438.out)) k_ hk)); (case aO => exact (by (with_reducible repeat (first | apply Kd.R_alloc | apply Kd.R_drewN | apply Kd.R_drew)); exact HO441.out)); (case aS => exact (below_size (by repeat (first | (with_reducible first | exact HB.out | apply below_alloc | apply pw_below_drewN | apply below_drew1 | refine below_set ?_ GE432.out) | exact HB.out)))); (case aL => have := LMc17.out; omega); intro v443 w26 ho hb hg hat; rw [← Ny442.out] at ho; have n0_ := Aside0.mk (blk_grown (g := gb432) (o := .cells #[.int .i64 a0_0, .int .i64 a0_1, .slice A0_2 l0_2.length c0_2] 62 (0, 0)) (by (with_reducible repeat (first | refine blk_drewN ?_ _ | refine blk_drew ?_ | refine blk_alloc ?_ _)); exact BK432.out) hg (Kd.R_ne HO441.out BK432.out (by decide))); have n1_ := Aside0.mk (Kd.R_after (ok := (fun _ => True)) (by (with_reducible repeat (first | apply Kd.R_alloc | apply Kd.R_drewN | apply Kd.R_drew)); exact HO438.out) hg hat); have n2_ := Aside0.mk (hb); have n3_ := Aside0.mk (ho); clear BK432; clear HO438; clear HB; clear HO441; have BK432 := n0_; have HO438 := n1_; have HB := n2_; have HO444 := n3_; clear n0_ n1_ n2_ n3_; clear ho hb hg hat; obtain ⟨Ao27, co27, eo27⟩ := Kd.R_slice HO444.out; subst eo27) | ((with_reducible refine gate_callee (f := 14) rfl ?_); refine goesL_ (some 42) rfl rfl Tryd.func14 (by kernel_rfl) rfl #[.int .u8 3, .slice Ao27 y442.length co27] rfl (by (try simp only [List.map_toArray, List.map_cons, List.map_nil]); first | done | rfl | (simp only [List.length_drop, List.length_take]; rfl)) ?_; (with_reducible refine (stemmaref04_Seal.calls kj1 3 _ _ y442 t445 t446 _ ?side1 ?side2 A18.out).mono ?_); (case side1 => repeat (first | exact (Kd.R_reads' HO444.out).2.2 | (with_reducible refine Kd.C_alloc ?_ _) | (with_reducible refine Kd.C_drewN ?_ _) | (with_reducible refine Kd.C_drew ?_))); (case side2 => exact (Kd.R_reads' HO444.out).2.1); rintro e w28 ⟨v447, rfl, ho0, hb⟩; refine ⟨_, rfl, ?_⟩; have n0_ := Aside0.mk (Kd.R_elder' (by (with_reducible repeat (first | apply Kd.R_alloc | apply Kd.R_drewN | apply Kd.R_drew)); exact HO438.out) (Kd.R_base ho0) hb); have n1_ := Aside0.mk (Kd.R_elder' (by (with_reducible repeat (first | apply Kd.R_alloc | apply Kd.R_drewN | apply Kd.R_drew)); exact HO444.out) (Kd.R_base ho0) hb); have n2_ := Aside0.mk (Kd.R_lower (Kd.R_new' (Kd.R_new' ho0 (Kd.R_lt (by (with_reducible repeat (first | apply Kd.R_alloc | apply Kd.R_drewN | apply Kd.R_drew)); exact HO438.out))) (Kd.R_lt (by (with_reducible repeat (first | apply Kd.R_alloc | apply Kd.R_drewN | apply Kd.R_drew)); exact HO444.out))) (below_size (by repeat (first | (with_reducible first | exact HB.out | apply below_alloc | apply pw_below_drewN | apply below_drew1 | refine below_set ?_ GE432.out) | exact HB.out)))); have n3_ := Aside0.mk (blk_below (g := gb432) (o := .cells #[.int .i64 a0_0, .int .i64 a0_1, .slice A0_2 l0_2.length c0_2] 62 (0, 0)) (by (with_reducible repeat (first | refine blk_drewN ?_ _ | refine blk_drew ?_ | refine blk_alloc ?_ _)); exact BK432.out) hb); have n4_ := Aside0.mk (below_step (by repeat (first | (with_reducible first | exact HB.out | apply below_alloc | apply pw_below_drewN | apply below_drew1 | refine below_set ?_ GE432.out) | exact HB.out)) hb); clear HO438; clear HO444; clear BK432; clear HB; have HO438 := n0_; have HO444 := n1_; have HO448 := n2_; have BK432 := n3_; have HB := n4_; clear n0_ n1_ n2_ n3_ n4_; (try clear hb); (try clear hb2); (try clear hk); (try clear hi); (try clear ho0)))
              go_ret2
              exact ⟨_, by first | rfl | (simp [errW_none, errW_some] <;> rfl) | (simp [*, errW_none, errW_some] <;> rfl), by (with_reducible repeat (first | apply Kd.R_alloc | apply Kd.R_drewN | apply Kd.R_drew)); exact Kd.R_mono HO448.out (fun _ hk => trivial), by repeat (first | (with_reducible first | exact HB.out | apply below_alloc | apply pw_below_drewN | apply below_drew1 | refine below_set ?_ GE432.out) | exact HB.out)⟩
            · rw [if_neg c17] at H
              exact absurd H (by simp)
          · rw [if_neg c16] at H
            exact absurd H (by simp)

end Go.Proofs.YtonpiacnljcohaaDoor.PA

-- Written by a program of this session (wip/tools/myprint.py), out of the translation's print. Lean checks it.
namespace Go.Proofs.YtonpiacnljcohaaDoor.PA
open Go.RowKit Go.Proofs.YtonpiacnljcohaaDoorW.PrintWords Go.Proofs.YtonpiacnljcohaaDoorW.PrintLast Go.Proofs.YtonpiacnljcohaaDoorW.PrintMore
attribute [local go_sem] max2_int min2_int max_two min_two max_three min_three max_four min_four   -- for this text's walks alone
set_option linter.unusedVariables false
set_option linter.unusedSimpArgs false

/-! ### stemmalaw19_awake: function 27 -/
def stemmalaw19_awake.f (k : Nat)  : Option (Bool) := (manifest_Put.f k 1 0 ([] : List Int)).bind fun bt449 => ((manifest_Get.f bt449.1).bind fun bt453 => (if (bt449.1.length : Int) = 8 then (if 4 ≤ (bt449.1.length : Int) then (if (strOfNums (bt449.1.take 4)).toList = ([3, 2, 1, 0] : List UInt8) then (if bt449.2 = 0 then (if bt453.2.2.2 = 0 then (if bt453.1 = 1 then (some true) else (some false)) else (some false)) else (some false)) else (some false)) else (none)) else (some false)))
theorem stemmalaw19_awake.mono : ∀ k, LeO (stemmalaw19_awake.f k ) (stemmalaw19_awake.f (k + 1) ) := by
  intro  k
  unfold stemmalaw19_awake.f
  repeat' first
      | (with_reducible exact manifest_Put.mono _ _ _ _)
      | (with_reducible exact LeO.refl _)
      | (with_reducible exact LeO.none _)
      | (with_reducible refine LeO.ite ?_ ?_)
      | (with_reducible refine LeO.bind ?_ (fun _ => ?_))
      | exact manifest_Put.mono _ _ _ _
      | exact LeO.none _
      | refine LeO.ite ?_ ?_
      | refine LeO.bind ?_ (fun _ => ?_)
set_option maxHeartbeats 8000000 in
set_option maxRecDepth 100000 in
theorem stemmalaw19_awake.calls (k : Nat)  (r : Bool) (w : World) (hG_ : Gl w) (h : stemmalaw19_awake.f k  = some r) :
    Calls Tryd.prog 27 #[] w fun e w' => e = .returned (.bool r) ∧ Below w.heap.size w w' := by
  have hu60 := Tryd.underlying60
  have HG := Aside0.mk hG_
  clear hG_
  have HB := Aside0.mk (Below.refl w.heap.size w)
  have H : ((manifest_Put.f k 1 0 ([] : List Int)).bind fun bt449 => ((manifest_Get.f bt449.1).bind fun bt453 => (if (bt449.1.length : Int) = 8 then (if 4 ≤ (bt449.1.length : Int) then (if (strOfNums (bt449.1.take 4)).toList = ([3, 2, 1, 0] : List UInt8) then (if bt449.2 = 0 then (if bt453.2.2.2 = 0 then (if bt453.1 = 1 then (some true) else (some false)) else (some false)) else (some false)) else (some false)) else (none)) else (some false)))) = some r := h
  clear h
  replace H := Option.bind_eq_some_iff.mp H
  obtain ⟨⟨t449, t452⟩, A10, H⟩ := H
  replace H : ((manifest_Get.f t449).bind fun bt453 => (if (t449.length : Int) = 8 then (if 4 ≤ (t449.length : Int) then (if (strOfNums (t449.take 4)).toList = ([3, 2, 1, 0] : List UInt8) then (if t452 = 0 then (if bt453.2.2.2 = 0 then (if bt453.1 = 1 then (some true) else (some false)) else (some false)) else (some false)) else (some false)) else (none)) else (some false))) = some r := H
  have A1 := Aside0.mk A10
  clear A10
  replace H := Option.bind_eq_some_iff.mp H
  obtain ⟨⟨t453, t454, t455, t458⟩, A20, H⟩ := H
  replace H : (if (t449.length : Int) = 8 then (if 4 ≤ (t449.length : Int) then (if (strOfNums (t449.take 4)).toList = ([3, 2, 1, 0] : List UInt8) then (if t452 = 0 then (if t458 = 0 then (if t453 = 1 then (some true) else (some false)) else (some false)) else (some false)) else (some false)) else (none)) else (some false)) = some r := H
  have A2 := Aside0.mk A20
  clear A20
  by_cases c3 : (t449.length : Int) = 8
  · rw [if_pos c3] at H
    have c3b0 : ((t449.length : Int) == 8) = true := beq_iff_eq.mpr c3
    have c3b1 : ((t449.length : Int) != 8) = false := bne_eq_false_iff_eq.mpr c3
    clear c3
    by_cases c4 : 4 ≤ (t449.length : Int)
    · rw [if_pos c4] at H
      have c4b0 := eq_true c4
      have c4b1 : decide (4 ≤ (t449.length : Int)) = true := decide_eq_true c4
      clear c4
      obtain ⟨y460, hy460⟩ : ∃ y_ : List Int, y_ = (t449.take 4) := ⟨_, rfl⟩
      replace H : (if (strOfNums y460).toList = ([3, 2, 1, 0] : List UInt8) then (if t452 = 0 then (if t458 = 0 then (if t453 = 1 then (some true) else (some false)) else (some false)) else (some false)) else (some false)) = some r := by first | (rw [hy460]; with_reducible exact H) | (have H2_ := (Option.bind_some _ _).symm.trans H; rw [hy460]; with_reducible exact H2_) | (have H2_ := (Option.bind_some _ _).symm.trans H; with_reducible exact H2_) | with_reducible exact H | (rw [hy460]; exact H) | exact H
      have Ny460 := Aside0.mk hy460
      clear hy460
      by_cases c5 : (strOfNums y460).toList = ([3, 2, 1, 0] : List UInt8)
      · rw [if_pos c5] at H
        have c5b0 : ((strOfNums y460).toList == ([3, 2, 1, 0] : List UInt8)) = true := beq_iff_eq.mpr c5
        have c5b1 : ((strOfNums y460).toList != ([3, 2, 1, 0] : List UInt8)) = false := bne_eq_false_iff_eq.mpr c5
        clear c5
        by_cases c6 : t452 = 0
        · rw [if_pos c6] at H
          have c6b0 : (t452 == 0) = true := beq_iff_eq.mpr c6
          have c6b1 : (t452 != 0) = false := bne_eq_false_iff_eq.mpr c6
          clear c6
          by_cases c7 : t458 = 0
          · rw [if_pos c7] at H
            have c7b0 : (t458 == 0) = true := beq_iff_eq.mpr c7
            have c7b1 : (t458 != 0) = false := bne_eq_false_iff_eq.mpr c7
            clear c7
            by_cases c8 : t453 = 1
            · rw [if_pos c8] at H
              have c8b0 : (t453 == 1) = true := beq_iff_eq.mpr c8
              have c8b1 : (t453 != 1) = false := bne_eq_false_iff_eq.mpr c8
              clear c8
              obtain rfl := Option.some.inj H
              go_enter Tryd.func27, Tryd.ntmps27
              go_wp2_with (first | ((with_reducible refine gate_callee (f := 25) rfl ?_); refine goesL_ (some 7) rfl rfl Tryd.func25 (by kernel_rfl) rfl #[.agg #[.int .i64 1, .int .i64 0, .slice none 0 0]] rfl (by (try simp only [List.map_toArray, List.map_cons, List.map_nil]); first | done | rfl | (simp only [List.length_drop, List.length_take]; rfl)) ?_; (refine (manifest_Put.calls k 1 0 (fun k_ => False) _ _ ([] : List Int) t449 t452 _ ?side1 ?side2 A1.out).mono ?_); (case side1 => exact Kd.V_nil _ _ _ _ _); (case side2 => first | exact HG.out | exact Gl.below HG.out (by repeat (first | (with_reducible first | exact HB.out | apply below_alloc | apply pw_below_drewN | apply below_drew1) | exact HB.out))); rintro e w9 ⟨v450, rfl, ho0, hb⟩; refine ⟨_, rfl, ?_⟩; have n0_ := Aside0.mk (Kd.R_lower (Kd.R_mono (ok' := fun k_ => True) ho0 (fun _ hk_ => trivial)) (below_size (by repeat (first | (with_reducible first | exact HB.out | apply below_alloc | apply pw_below_drewN | apply below_drew1) | exact HB.out)))); have n1_ := Aside0.mk (below_step (by repeat (first | (with_reducible first | exact HB.out | apply below_alloc | apply pw_below_drewN | apply below_drew1) | exact HB.out)) hb); clear HB; have HO451 := n0_; have HB := n1_; clear n0_ n1_; (try clear hb); (try clear hb2); (try clear hk); (try clear hi); (try clear ho0); obtain ⟨Ao10, co10, eo10⟩ := Kd.R_slice HO451.out; subst eo10) | ((with_reducible refine gate_callee (f := 28) rfl ?_); refine goesL_ (some 12) rfl rfl Tryd.func28 (by kernel_rfl) rfl #[.slice Ao10 t449.length co10] rfl (by (try simp only [List.map_toArray, List.map_cons, List.map_nil]); first | done | rfl | (simp only [List.length_drop, List.length_take]; rfl)) ?_; (with_reducible refine (manifest_Get.calls _ _ t449 t453 t454 t455 t458 _ ?side1 ?side2 ?side3 A2.out).mono ?_); (case side1 => repeat (first | exact (Kd.R_reads' HO451.out).2.2 | (with_reducible refine Kd.C_alloc ?_ _) | (with_reducible refine Kd.C_drewN ?_ _) | (with_reducible refine Kd.C_drew ?_))); (case side2 => exact (Kd.R_reads' HO451.out).2.1); (case side3 => first | exact HG.out | exact Gl.below HG.out (by repeat (first | (with_reducible first | exact HB.out | apply below_alloc | apply pw_below_drewN | apply below_drew1) | exact HB.out))); rintro e w11 ⟨v456, rfl, ho0, hb⟩; refine ⟨_, rfl, ?_⟩; have n0_ := Aside0.mk (Kd.R_elder' (by (with_reducible repeat (first | apply Kd.R_alloc | apply Kd.R_drewN | apply Kd.R_drew)); exact HO451.out) (Kd.R_base ho0) hb); have n1_ := Aside0.mk (Kd.R_lower (Kd.R_new' ho0 (Kd.R_lt (by (with_reducible repeat (first | apply Kd.R_alloc | apply Kd.R_drewN | apply Kd.R_drew)); exact HO451.out))) (below_size (by repeat (first | (with_reducible first | exact HB.out | apply below_alloc | apply pw_below_drewN | apply below_drew1) | exact HB.out)))); have n2_ := Aside0.mk (below_step (by repeat (first | (with_reducible first | exact HB.out | apply below_alloc | apply pw_below_drewN | apply below_drew1) | exact HB.out)) hb); clear HO451; clear HB; have HO451 := n0_; have HO457 := n1_; have HB := n2_; clear n0_ n1_ n2_; (try clear hb); (try clear hb2); (try clear hk); (try clear hi); (try clear ho0)) | ((with_reducible refine gate_dst (N := 3) rfl ?_); refine box_event ?hg (N := 3) ?hd (cs := #[.int .i64 0, .int .i64 0, .slice none 0 0]) (t := 60) ?hr ?_; (case hd => rfl); (case hg => rfl); (case hr => first | (go_simp; done) | (go_simp; rfl)); intro gb459 hg w12 hbox hb; have n0_ := Aside0.mk (Kd.R_below (by (with_reducible repeat (first | apply Kd.R_alloc | apply Kd.R_drewN | apply Kd.R_drew)); exact HO451.out) hb); have n1_ := Aside0.mk (Kd.R_below (by (with_reducible repeat (first | apply Kd.R_alloc | apply Kd.R_drewN | apply Kd.R_drew)); exact HO457.out) hb); have n2_ := Aside0.mk (below_step (by repeat (first | (with_reducible first | exact HB.out | apply below_alloc | apply pw_below_drewN | apply below_drew1) | exact HB.out)) hb); have n3_ := Aside0.mk (hbox); have n4_ := Aside0.mk ((by rw [hg]; exact (below_size (by repeat (first | (with_reducible first | exact HB.out | apply below_alloc | apply pw_below_drewN | apply below_drew1) | exact HB.out))) : w.heap.size ≤ gb459)); have n5_ := Aside0.mk ((by rw [hg]; exact (below_size (by repeat (first | (with_reducible first | exact HB.out | apply below_alloc | apply pw_below_drewN | apply below_drew1) | exact HB.out))) : w.heap.size ≤ gb459)); clear HO451; clear HO457; clear HB; have HO451 := n0_; have HO457 := n1_; have HB := n2_; have BK459 := n3_; have GW459 := n4_; have GE459 := n5_; clear n0_ n1_ n2_ n3_ n4_ n5_; clear hb hbox hg; have hcz13_0 : w12.cell? ⟨gb459, 0, none⟩ = some (.int .i64 0) := (blk_cell BK459.out 0).trans rfl; have hcz13_1 : w12.cell? ⟨gb459, 1, none⟩ = some (.int .i64 0) := (blk_cell BK459.out 1).trans rfl; have hcz13_2 : w12.cell? ⟨gb459, 2, none⟩ = some (.slice none 0 0) := (blk_cell BK459.out 2).trans rfl; have hfz13_0 := blk_frozen BK459.out 0; have hfz13_1 := blk_frozen BK459.out 1; have hfz13_2 := blk_frozen BK459.out 2; obtain ⟨Ao14, co14, eo14⟩ := Kd.R_slice HO457.out; subst eo14) | ((with_reducible refine gate_store (t := 60) (p := 3) rfl ?_); refine store_event (t := 60) (p := 3) (v := ?vo_w15) (w1 := (((w12.setCell ⟨gb459, 0, none⟩ (.int .i64 t453)).setCell ⟨gb459, 1, none⟩ (.int .i64 t454)).setCell ⟨gb459, 2, none⟩ (.slice Ao14 t455.length co14))) ?hg ?ho ?hn ?hr ?_; (case ho => rfl); (case hg => rfl); (case hn => rfl); (case hr => first | (go_simp; done) | (go_simp; rfl)); intro w15 hw; have n0_ : Aside0 (Kd.R (Kd.int .u8) 5 w15 w.heap.size (fun k_ => some k_ ≠ (.slice Ao14 t455.length co14 : Value).ownBlock) (.slice Ao10 t449.length co10) t449) := ⟨(by rw [hw]; exact (by (with_reducible repeat (first | apply Kd.R_alloc | apply Kd.R_drewN | apply Kd.R_drew)); exact Kd.R_mono (Kd.R_far (p := ⟨gb459, 2, none⟩) (Kd.R_far (p := ⟨gb459, 1, none⟩) (Kd.R_far (p := ⟨gb459, 0, none⟩) (Kd.R_types HO451.out BK459.out (by decide)) (fun _ hk => hk.2) (.int .i64 t453)) (fun _ hk => hk.2) (.int .i64 t454)) (fun _ hk => hk.2) (.slice Ao14 t455.length co14)) (fun _ hk => hk.1.2)))⟩; have n1_ : Aside0 (Kd.R (Kd.int .u8) 5 w15 w.heap.size (fun k_ => some k_ ≠ (.slice Ao10 t449.length co10 : Value).ownBlock) (.slice Ao14 t455.length co14) t455) := ⟨(by rw [hw]; exact (by (with_reducible repeat (first | apply Kd.R_alloc | apply Kd.R_drewN | apply Kd.R_drew)); exact Kd.R_mono (Kd.R_far (p := ⟨gb459, 2, none⟩) (Kd.R_far (p := ⟨gb459, 1, none⟩) (Kd.R_far (p := ⟨gb459, 0, none⟩) (Kd.R_types HO457.out BK459.out (by decide)) (fun _ hk => hk.2) (.int .i64 t453)) (fun _ hk => hk.2) (.int .i64 t454)) (fun _ hk => hk.2) (.slice Ao14 t455.length co14)) (fun _ hk => hk.1.2)))⟩; have n2_ : Aside0 (w15.heap[gb459]? = some (.cells #[.int .i64 t453, .int .i64 t454, .slice Ao14 t455.length co14] 60 (0, 0))) := ⟨(by rw [hw]; exact (by (with_reducible repeat (first | refine blk_drewN ?_ _ | refine blk_drew ?_ | refine blk_alloc ?_ _)); refine blk_put (cs := #[.int .i64 t453, .int .i64 t454, .slice none 0 0]) ?_ 2 _ rfl; (with_reducible repeat (first | refine blk_drewN ?_ _ | refine blk_drew ?_ | refine blk_alloc ?_ _)); refine blk_put (cs := #[.int .i64 t453, .int .i64 0, .slice none 0 0]) ?_ 1 _ rfl; (with_reducible repeat (first | refine blk_drewN ?_ _ | refine blk_drew ?_ | refine blk_alloc ?_ _)); refine blk_put (cs := #[.int .i64 0, .int .i64 0, .slice none 0 0]) ?_ 0 _ rfl; (with_reducible repeat (first | refine blk_drewN ?_ _ | refine blk_drew ?_ | refine blk_alloc ?_ _)); exact BK459.out))⟩; have n3_ : Aside0 (Below w.heap.size w w15) := ⟨(by rw [hw]; exact (by repeat (first | (with_reducible first | exact HB.out | apply below_alloc | apply pw_below_drewN | apply below_drew1 | refine below_set ?_ GE459.out) | exact HB.out)))⟩; clear hw; clear HO451; clear HO457; clear BK459; clear HB; have HO451 := n0_; have HO457 := n1_; have BK459 := n2_; have HB := n3_; clear n0_ n1_ n2_ n3_; have q16 : (4 : Int) ≤ ((t449.length : Int) : Int) := of_decide_eq_true (by first | (with_reducible assumption) | assumption); obtain ⟨i016, hi016, _, hsz16, _⟩ := info_parts info5; have hroom16 : t449.length ≤ co10 := (Kd.R_reads' HO451.out).2.1; have hC16 : Kd.C (Kd.int .u8) _ Ao10 t449.length t449 := (Kd.R_reads' HO451.out).2.2; have hcut16 := cut_to (P := Tryd.prog) 22 5 .i64 Tryd.underlying22 hi016 Ao10 t449.length co10 4 (by omega) q16 hroom16; have hr16 := Kd.C_take (m := 4) hC16 (by omega); have hy16 : y460.length = (4 : Int).toNat := (by rw [Ny460.out, List.length_take]; omega); rw [← Ny460.out] at hr16; rw [← hy16] at hcut16; have HR463 := Aside0.mk hr16; have HC463 := Aside0.mk (show y460.length ≤ co10 from by omega); clear hr16 hC16 hroom16 hi016 hsz16; have KY16 := Aside0.mk hy16; clear hy16; have KL16 := Aside0.mk (show 4 ≤ t449.length from by omega); replace q16 := eq_true q16; have hcv17 := Kd.C_string (P := Tryd.prog) (A := Ao10) (c := co10) Tryd.underlying22 Tryd.underlying5 Tryd.underlying9 (by repeat (first | (with_reducible exact HR463.out) | (with_reducible refine Kd.C_alloc ?_ _) | (with_reducible refine Kd.C_drewN ?_ _) | (with_reducible refine Kd.C_drew ?_) | exact HR463.out)); have hcd17 := fun m_ : Nat => Kd.C_string (P := Tryd.prog) (A := Ao10) (c := co10) Tryd.underlying22 Tryd.underlying5 Tryd.underlying9 (Kd.C_drewN (by repeat (first | (with_reducible exact HR463.out) | (with_reducible refine Kd.C_alloc ?_ _) | (with_reducible refine Kd.C_drewN ?_ _) | (with_reducible refine Kd.C_drew ?_) | exact HR463.out)) m_); have hcz18_0 : w15.cell? ⟨gb459, 0, none⟩ = some (.int .i64 t453) := (blk_cell BK459.out 0).trans rfl; have hcz18_1 : w15.cell? ⟨gb459, 1, none⟩ = some (.int .i64 t454) := (blk_cell BK459.out 1).trans rfl; have hcz18_2 : w15.cell? ⟨gb459, 2, none⟩ = some (.slice Ao14 t455.length co14) := (blk_cell BK459.out 2).trans rfl; have hfz18_0 := blk_frozen BK459.out 0; have hfz18_1 := blk_frozen BK459.out 1; have hfz18_2 := blk_frozen BK459.out 2))
              go_ret
              exact ⟨by first | rfl | (simp [errW_none, errW_some] <;> rfl) | (simp [*, errW_none, errW_some] <;> rfl), by repeat (first | (with_reducible first | exact HB.out | apply below_alloc | apply pw_below_drewN | apply below_drew1 | refine below_set ?_ GE459.out) | exact HB.out)⟩
            · rw [if_neg c8] at H
              have c8b0 : (t453 == 1) = false := beq_eq_false_iff_ne.mpr c8
              have c8b1 : (t453 != 1) = true := bne_iff_ne.mpr c8
              obtain rfl := Option.some.inj H
              go_enter Tryd.func27, Tryd.ntmps27
              go_wp2_with (first | ((with_reducible refine gate_callee (f := 25) rfl ?_); refine goesL_ (some 7) rfl rfl Tryd.func25 (by kernel_rfl) rfl #[.agg #[.int .i64 1, .int .i64 0, .slice none 0 0]] rfl (by (try simp only [List.map_toArray, List.map_cons, List.map_nil]); first | done | rfl | (simp only [List.length_drop, List.length_take]; rfl)) ?_; (refine (manifest_Put.calls k 1 0 (fun k_ => False) _ _ ([] : List Int) t449 t452 _ ?side1 ?side2 A1.out).mono ?_); (case side1 => exact Kd.V_nil _ _ _ _ _); (case side2 => first | exact HG.out | exact Gl.below HG.out (by repeat (first | (with_reducible first | exact HB.out | apply below_alloc | apply pw_below_drewN | apply below_drew1) | exact HB.out))); rintro e w19 ⟨v450, rfl, ho0, hb⟩; refine ⟨_, rfl, ?_⟩; have n0_ := Aside0.mk (Kd.R_lower (Kd.R_mono (ok' := fun k_ => True) ho0 (fun _ hk_ => trivial)) (below_size (by repeat (first | (with_reducible first | exact HB.out | apply below_alloc | apply pw_below_drewN | apply below_drew1) | exact HB.out)))); have n1_ := Aside0.mk (below_step (by repeat (first | (with_reducible first | exact HB.out | apply below_alloc | apply pw_below_drewN | apply below_drew1) | exact HB.out)) hb); clear HB; have HO451 := n0_; have HB := n1_; clear n0_ n1_; (try clear hb); (try clear hb2); (try clear hk); (try clear hi); (try clear ho0); obtain ⟨Ao20, co20, eo20⟩ := Kd.R_slice HO451.out; subst eo20) | ((with_reducible refine gate_callee (f := 28) rfl ?_); refine goesL_ (some 12) rfl rfl Tryd.func28 (by kernel_rfl) rfl #[.slice Ao20 t449.length co20] rfl (by (try simp only [List.map_toArray, List.map_cons, List.map_nil]); first | done | rfl | (simp only [List.length_drop, List.length_take]; rfl)) ?_; (with_reducible refine (manifest_Get.calls _ _ t449 t453 t454 t455 t458 _ ?side1 ?side2 ?side3 A2.out).mono ?_); (case side1 => repeat (first | exact (Kd.R_reads' HO451.out).2.2 | (with_reducible refine Kd.C_alloc ?_ _) | (with_reducible refine Kd.C_drewN ?_ _) | (with_reducible refine Kd.C_drew ?_))); (case side2 => exact (Kd.R_reads' HO451.out).2.1); (case side3 => first | exact HG.out | exact Gl.below HG.out (by repeat (first | (with_reducible first | exact HB.out | apply below_alloc | apply pw_below_drewN | apply below_drew1) | exact HB.out))); rintro e w21 ⟨v456, rfl, ho0, hb⟩; refine ⟨_, rfl, ?_⟩; have n0_ := Aside0.mk (Kd.R_elder' (by (with_reducible repeat (first | apply Kd.R_alloc | apply Kd.R_drewN | apply Kd.R_drew)); exact HO451.out) (Kd.R_base ho0) hb); have n1_ := Aside0.mk (Kd.R_lower (Kd.R_new' ho0 (Kd.R_lt (by (with_reducible repeat (first | apply Kd.R_alloc | apply Kd.R_drewN | apply Kd.R_drew)); exact HO451.out))) (below_size (by repeat (first | (with_reducible first | exact HB.out | apply below_alloc | apply pw_below_drewN | apply below_drew1) | exact HB.out)))); have n2_ := Aside0.mk (below_step (by repeat (first | (with_reducible first | exact HB.out | apply below_alloc | apply pw_below_drewN | apply below_drew1) | exact HB.out)) hb); clear HO451; clear HB; have HO451 := n0_; have HO457 := n1_; have HB := n2_; clear n0_ n1_ n2_; (try clear hb); (try clear hb2); (try clear hk); (try clear hi); (try clear ho0)) | ((with_reducible refine gate_dst (N := 3) rfl ?_); refine box_event ?hg (N := 3) ?hd (cs := #[.int .i64 0, .int .i64 0, .slice none 0 0]) (t := 60) ?hr ?_; (case hd => rfl); (case hg => rfl); (case hr => first | (go_simp; done) | (go_simp; rfl)); intro gb459 hg w22 hbox hb; have n0_ := Aside0.mk (Kd.R_below (by (with_reducible repeat (first | apply Kd.R_alloc | apply Kd.R_drewN | apply Kd.R_drew)); exact HO451.out) hb); have n1_ := Aside0.mk (Kd.R_below (by (with_reducible repeat (first | apply Kd.R_alloc | apply Kd.R_drewN | apply Kd.R_drew)); exact HO457.out) hb); have n2_ := Aside0.mk (below_step (by repeat (first | (with_reducible first | exact HB.out | apply below_alloc | apply pw_below_drewN | apply below_drew1) | exact HB.out)) hb); have n3_ := Aside0.mk (hbox); have n4_ := Aside0.mk ((by rw [hg]; exact (below_size (by repeat (first | (with_reducible first | exact HB.out | apply below_alloc | apply pw_below_drewN | apply below_drew1) | exact HB.out))) : w.heap.size ≤ gb459)); have n5_ := Aside0.mk ((by rw [hg]; exact (below_size (by repeat (first | (with_reducible first | exact HB.out | apply below_alloc | apply pw_below_drewN | apply below_drew1) | exact HB.out))) : w.heap.size ≤ gb459)); clear HO451; clear HO457; clear HB; have HO451 := n0_; have HO457 := n1_; have HB := n2_; have BK459 := n3_; have GW459 := n4_; have GE459 := n5_; clear n0_ n1_ n2_ n3_ n4_ n5_; clear hb hbox hg; have hcz23_0 : w22.cell? ⟨gb459, 0, none⟩ = some (.int .i64 0) := (blk_cell BK459.out 0).trans rfl; have hcz23_1 : w22.cell? ⟨gb459, 1, none⟩ = some (.int .i64 0) := (blk_cell BK459.out 1).trans rfl; have hcz23_2 : w22.cell? ⟨gb459, 2, none⟩ = some (.slice none 0 0) := (blk_cell BK459.out 2).trans rfl; have hfz23_0 := blk_frozen BK459.out 0; have hfz23_1 := blk_frozen BK459.out 1; have hfz23_2 := blk_frozen BK459.out 2; obtain ⟨Ao24, co24, eo24⟩ := Kd.R_slice HO457.out; subst eo24) | ((with_reducible refine gate_store (t := 60) (p := 3) rfl ?_); refine store_event (t := 60) (p := 3) (v := ?vo_w25) (w1 := (((w22.setCell ⟨gb459, 0, none⟩ (.int .i64 t453)).setCell ⟨gb459, 1, none⟩ (.int .i64 t454)).setCell ⟨gb459, 2, none⟩ (.slice Ao24 t455.length co24))) ?hg ?ho ?hn ?hr ?_; (case ho => rfl); (case hg => rfl); (case hn => rfl); (case hr => first | (go_simp; done) | (go_simp; rfl)); intro w25 hw; have n0_ : Aside0 (Kd.R (Kd.int .u8) 5 w25 w.heap.size (fun k_ => some k_ ≠ (.slice Ao24 t455.length co24 : Value).ownBlock) (.slice Ao20 t449.length co20) t449) := ⟨(by rw [hw]; exact (by (with_reducible repeat (first | apply Kd.R_alloc | apply Kd.R_drewN | apply Kd.R_drew)); exact Kd.R_mono (Kd.R_far (p := ⟨gb459, 2, none⟩) (Kd.R_far (p := ⟨gb459, 1, none⟩) (Kd.R_far (p := ⟨gb459, 0, none⟩) (Kd.R_types HO451.out BK459.out (by decide)) (fun _ hk => hk.2) (.int .i64 t453)) (fun _ hk => hk.2) (.int .i64 t454)) (fun _ hk => hk.2) (.slice Ao24 t455.length co24)) (fun _ hk => hk.1.2)))⟩; have n1_ : Aside0 (Kd.R (Kd.int .u8) 5 w25 w.heap.size (fun k_ => some k_ ≠ (.slice Ao20 t449.length co20 : Value).ownBlock) (.slice Ao24 t455.length co24) t455) := ⟨(by rw [hw]; exact (by (with_reducible repeat (first | apply Kd.R_alloc | apply Kd.R_drewN | apply Kd.R_drew)); exact Kd.R_mono (Kd.R_far (p := ⟨gb459, 2, none⟩) (Kd.R_far (p := ⟨gb459, 1, none⟩) (Kd.R_far (p := ⟨gb459, 0, none⟩) (Kd.R_types HO457.out BK459.out (by decide)) (fun _ hk => hk.2) (.int .i64 t453)) (fun _ hk => hk.2) (.int .i64 t454)) (fun _ hk => hk.2) (.slice Ao24 t455.length co24)) (fun _ hk => hk.1.2)))⟩; have n2_ : Aside0 (w25.heap[gb459]? = some (.cells #[.int .i64 t453, .int .i64 t454, .slice Ao24 t455.length co24] 60 (0, 0))) := ⟨(by rw [hw]; exact (by (with_reducible repeat (first | refine blk_drewN ?_ _ | refine blk_drew ?_ | refine blk_alloc ?_ _)); refine blk_put (cs := #[.int .i64 t453, .int .i64 t454, .slice none 0 0]) ?_ 2 _ rfl; (with_reducible repeat (first | refine blk_drewN ?_ _ | refine blk_drew ?_ | refine blk_alloc ?_ _)); refine blk_put (cs := #[.int .i64 t453, .int .i64 0, .slice none 0 0]) ?_ 1 _ rfl; (with_reducible repeat (first | refine blk_drewN ?_ _ | refine blk_drew ?_ | refine blk_alloc ?_ _)); refine blk_put (cs := #[.int .i64 0, .int .i64 0, .slice none 0 0]) ?_ 0 _ rfl; (with_reducible repeat (first | refine blk_drewN ?_ _ | refine blk_drew ?_ | refine blk_alloc ?_ _)); exact BK459.out))⟩; have n3_ : Aside0 (Below w.heap.size w w25) := ⟨(by rw [hw]; exact (by repeat (first | (with_reducible first | exact HB.out | apply below_alloc | apply pw_below_drewN | apply below_drew1 | refine below_set ?_ GE459.out) | exact HB.out)))⟩; clear hw; clear HO451; clear HO457; clear BK459; clear HB; have HO451 := n0_; have HO457 := n1_; have BK459 := n2_; have HB := n3_; clear n0_ n1_ n2_ n3_; have q26 : (4 : Int) ≤ ((t449.length : Int) : Int) := of_decide_eq_true (by first | (with_reducible assumption) | assumption); obtain ⟨i026, hi026, _, hsz26, _⟩ := info_parts info5; have hroom26 : t449.length ≤ co20 := (Kd.R_reads' HO451.out).2.1; have hC26 : Kd.C (Kd.int .u8) _ Ao20 t449.length t449 := (Kd.R_reads' HO451.out).2.2; have hcut26 := cut_to (P := Tryd.prog) 22 5 .i64 Tryd.underlying22 hi026 Ao20 t449.length co20 4 (by omega) q26 hroom26; have hr26 := Kd.C_take (m := 4) hC26 (by omega); have hy26 : y460.length = (4 : Int).toNat := (by rw [Ny460.out, List.length_take]; omega); rw [← Ny460.out] at hr26; rw [← hy26] at hcut26; have HR463 := Aside0.mk hr26; have HC463 := Aside0.mk (show y460.length ≤ co20 from by omega); clear hr26 hC26 hroom26 hi026 hsz26; have KY26 := Aside0.mk hy26; clear hy26; have KL26 := Aside0.mk (show 4 ≤ t449.length from by omega); replace q26 := eq_true q26; have hcv27 := Kd.C_string (P := Tryd.prog) (A := Ao20) (c := co20) Tryd.underlying22 Tryd.underlying5 Tryd.underlying9 (by repeat (first | (with_reducible exact HR463.out) | (with_reducible refine Kd.C_alloc ?_ _) | (with_reducible refine Kd.C_drewN ?_ _) | (with_reducible refine Kd.C_drew ?_) | exact HR463.out)); have hcd27 := fun m_ : Nat => Kd.C_string (P := Tryd.prog) (A := Ao20) (c := co20) Tryd.underlying22 Tryd.underlying5 Tryd.underlying9 (Kd.C_drewN (by repeat (first | (with_reducible exact HR463.out) | (with_reducible refine Kd.C_alloc ?_ _) | (with_reducible refine Kd.C_drewN ?_ _) | (with_reducible refine Kd.C_drew ?_) | exact HR463.out)) m_); have hcz28_0 : w25.cell? ⟨gb459, 0, none⟩ = some (.int .i64 t453) := (blk_cell BK459.out 0).trans rfl; have hcz28_1 : w25.cell? ⟨gb459, 1, none⟩ = some (.int .i64 t454) := (blk_cell BK459.out 1).trans rfl; have hcz28_2 : w25.cell? ⟨gb459, 2, none⟩ = some (.slice Ao24 t455.length co24) := (blk_cell BK459.out 2).trans rfl; have hfz28_0 := blk_frozen BK459.out 0; have hfz28_1 := blk_frozen BK459.out 1; have hfz28_2 := blk_frozen BK459.out 2))
              go_ret
              exact ⟨by first | rfl | (simp [errW_none, errW_some] <;> rfl) | (simp [*, errW_none, errW_some] <;> rfl), by repeat (first | (with_reducible first | exact HB.out | apply below_alloc | apply pw_below_drewN | apply below_drew1 | refine below_set ?_ GE459.out) | exact HB.out)⟩
          · rw [if_neg c7] at H
            have c7b0 : (t458 == 0) = false := beq_eq_false_iff_ne.mpr c7
            have c7b1 : (t458 != 0) = true := bne_iff_ne.mpr c7
            obtain rfl := Option.some.inj H
            go_enter Tryd.func27, Tryd.ntmps27
            go_wp2_with (first | ((with_reducible refine gate_callee (f := 25) rfl ?_); refine goesL_ (some 7) rfl rfl Tryd.func25 (by kernel_rfl) rfl #[.agg #[.int .i64 1, .int .i64 0, .slice none 0 0]] rfl (by (try simp only [List.map_toArray, List.map_cons, List.map_nil]); first | done | rfl | (simp only [List.length_drop, List.length_take]; rfl)) ?_; (refine (manifest_Put.calls k 1 0 (fun k_ => False) _ _ ([] : List Int) t449 t452 _ ?side1 ?side2 A1.out).mono ?_); (case side1 => exact Kd.V_nil _ _ _ _ _); (case side2 => first | exact HG.out | exact Gl.below HG.out (by repeat (first | (with_reducible first | exact HB.out | apply below_alloc | apply pw_below_drewN | apply below_drew1) | exact HB.out))); rintro e w29 ⟨v450, rfl, ho0, hb⟩; refine ⟨_, rfl, ?_⟩; have n0_ := Aside0.mk (Kd.R_lower (Kd.R_mono (ok' := fun k_ => True) ho0 (fun _ hk_ => trivial)) (below_size (by repeat (first | (with_reducible first | exact HB.out | apply below_alloc | apply pw_below_drewN | apply below_drew1) | exact HB.out)))); have n1_ := Aside0.mk (below_step (by repeat (first | (with_reducible first | exact HB.out | apply below_alloc | apply pw_below_drewN | apply below_drew1) | exact HB.out)) hb); clear HB; have HO451 := n0_; have HB := n1_; clear n0_ n1_; (try clear hb); (try clear hb2); (try clear hk); (try clear hi); (try clear ho0); obtain ⟨Ao30, co30, eo30⟩ := Kd.R_slice HO451.out; subst eo30) | ((with_reducible refine gate_callee (f := 28) rfl ?_); refine goesL_ (some 12) rfl rfl Tryd.func28 (by kernel_rfl) rfl #[.slice Ao30 t449.length co30] rfl (by (try simp only [List.map_toArray, List.map_cons, List.map_nil]); first | done | rfl | (simp only [List.length_drop, List.length_take]; rfl)) ?_; (with_reducible refine (manifest_Get.calls _ _ t449 t453 t454 t455 t458 _ ?side1 ?side2 ?side3 A2.out).mono ?_); (case side1 => repeat (first | exact (Kd.R_reads' HO451.out).2.2 | (with_reducible refine Kd.C_alloc ?_ _) | (with_reducible refine Kd.C_drewN ?_ _) | (with_reducible refine Kd.C_drew ?_))); (case side2 => exact (Kd.R_reads' HO451.out).2.1); (case side3 => first | exact HG.out | exact Gl.below HG.out (by repeat (first | (with_reducible first | exact HB.out | apply below_alloc | apply pw_below_drewN | apply below_drew1) | exact HB.out))); rintro e w31 ⟨v456, rfl, ho0, hb⟩; refine ⟨_, rfl, ?_⟩; have n0_ := Aside0.mk (Kd.R_elder' (by (with_reducible repeat (first | apply Kd.R_alloc | apply Kd.R_drewN | apply Kd.R_drew)); exact HO451.out) (Kd.R_base ho0) hb); have n1_ := Aside0.mk (Kd.R_lower (Kd.R_new' ho0 (Kd.R_lt (by (with_reducible repeat (first | apply Kd.R_alloc | apply Kd.R_drewN | apply Kd.R_drew)); exact HO451.out))) (below_size (by repeat (first | (with_reducible first | exact HB.out | apply below_alloc | apply pw_below_drewN | apply below_drew1) | exact HB.out)))); have n2_ := Aside0.mk (below_step (by repeat (first | (with_reducible first | exact HB.out | apply below_alloc | apply pw_below_drewN | apply below_drew1) | exact HB.out)) hb); clear HO451; clear HB; have HO451 := n0_; have HO457 := n1_; have HB := n2_; clear n0_ n1_ n2_; (try clear hb); (try clear hb2); (try clear hk); (try clear hi); (try clear ho0)) | ((with_reducible refine gate_dst (N := 3) rfl ?_); refine box_event ?hg (N := 3) ?hd (cs := #[.int .i64 0, .int .i64 0, .slice none 0 0]) (t := 60) ?hr ?_; (case hd => rfl); (case hg => rfl); (case hr => first | (go_simp; done) | (go_simp; rfl)); intro gb459 hg w32 hbox hb; have n0_ := Aside0.mk (Kd.R_below (by (with_reducible repeat (first | apply Kd.R_alloc | apply Kd.R_drewN | apply Kd.R_drew)); exact HO451.out) hb); have n1_ := Aside0.mk (Kd.R_below (by (with_reducible repeat (first | apply Kd.R_alloc | apply Kd.R_drewN | apply Kd.R_drew)); exact HO457.out) hb); have n2_ := Aside0.mk (below_step (by repeat (first | (with_reducible first | exact HB.out | apply below_alloc | apply pw_below_drewN | apply below_drew1) | exact HB.out)) hb); have n3_ := Aside0.mk (hbox); have n4_ := Aside0.mk ((by rw [hg]; exact (below_size (by repeat (first | (with_reducible first | exact HB.out | apply below_alloc | apply pw_below_drewN | apply below_drew1) | exact HB.out))) : w.heap.size ≤ gb459)); have n5_ := Aside0.mk ((by rw [hg]; exact (below_size (by repeat (first | (with_reducible first | exact HB.out | apply below_alloc | apply pw_below_drewN | apply below_drew1) | exact HB.out))) : w.heap.size ≤ gb459)); clear HO451; clear HO457; clear HB; have HO451 := n0_; have HO457 := n1_; have HB := n2_; have BK459 := n3_; have GW459 := n4_; have GE459 := n5_; clear n0_ n1_ n2_ n3_ n4_ n5_; clear hb hbox hg; have hcz33_0 : w32.cell? ⟨gb459, 0, none⟩ = some (.int .i64 0) := (blk_cell BK459.out 0).trans rfl; have hcz33_1 : w32.cell? ⟨gb459, 1, none⟩ = some (.int .i64 0) := (blk_cell BK459.out 1).trans rfl; have hcz33_2 : w32.cell? ⟨gb459, 2, none⟩ = some (.slice none 0 0) := (blk_cell BK459.out 2).trans rfl; have hfz33_0 := blk_frozen BK459.out 0; have hfz33_1 := blk_frozen BK459.out 1; have hfz33_2 := blk_frozen BK459.out 2; obtain ⟨Ao34, co34, eo34⟩ := Kd.R_slice HO457.out; subst eo34) | ((with_reducible refine gate_store (t := 60) (p := 3) rfl ?_); refine store_event (t := 60) (p := 3) (v := ?vo_w35) (w1 := (((w32.setCell ⟨gb459, 0, none⟩ (.int .i64 t453)).setCell ⟨gb459, 1, none⟩ (.int .i64 t454)).setCell ⟨gb459, 2, none⟩ (.slice Ao34 t455.length co34))) ?hg ?ho ?hn ?hr ?_; (case ho => rfl); (case hg => rfl); (case hn => rfl); (case hr => first | (go_simp; done) | (go_simp; rfl)); intro w35 hw; have n0_ : Aside0 (Kd.R (Kd.int .u8) 5 w35 w.heap.size (fun k_ => some k_ ≠ (.slice Ao34 t455.length co34 : Value).ownBlock) (.slice Ao30 t449.length co30) t449) := ⟨(by rw [hw]; exact (by (with_reducible repeat (first | apply Kd.R_alloc | apply Kd.R_drewN | apply Kd.R_drew)); exact Kd.R_mono (Kd.R_far (p := ⟨gb459, 2, none⟩) (Kd.R_far (p := ⟨gb459, 1, none⟩) (Kd.R_far (p := ⟨gb459, 0, none⟩) (Kd.R_types HO451.out BK459.out (by decide)) (fun _ hk => hk.2) (.int .i64 t453)) (fun _ hk => hk.2) (.int .i64 t454)) (fun _ hk => hk.2) (.slice Ao34 t455.length co34)) (fun _ hk => hk.1.2)))⟩; have n1_ : Aside0 (Kd.R (Kd.int .u8) 5 w35 w.heap.size (fun k_ => some k_ ≠ (.slice Ao30 t449.length co30 : Value).ownBlock) (.slice Ao34 t455.length co34) t455) := ⟨(by rw [hw]; exact (by (with_reducible repeat (first | apply Kd.R_alloc | apply Kd.R_drewN | apply Kd.R_drew)); exact Kd.R_mono (Kd.R_far (p := ⟨gb459, 2, none⟩) (Kd.R_far (p := ⟨gb459, 1, none⟩) (Kd.R_far (p := ⟨gb459, 0, none⟩) (Kd.R_types HO457.out BK459.out (by decide)) (fun _ hk => hk.2) (.int .i64 t453)) (fun _ hk => hk.2) (.int .i64 t454)) (fun _ hk => hk.2) (.slice Ao34 t455.length co34)) (fun _ hk => hk.1.2)))⟩; have n2_ : Aside0 (w35.heap[gb459]? = some (.cells #[.int .i64 t453, .int .i64 t454, .slice Ao34 t455.length co34] 60 (0, 0))) := ⟨(by rw [hw]; exact (by (with_reducible repeat (first | refine blk_drewN ?_ _ | refine blk_drew ?_ | refine blk_alloc ?_ _)); refine blk_put (cs := #[.int .i64 t453, .int .i64 t454, .slice none 0 0]) ?_ 2 _ rfl; (with_reducible repeat (first | refine blk_drewN ?_ _ | refine blk_drew ?_ | refine blk_alloc ?_ _)); refine blk_put (cs := #[.int .i64 t453, .int .i64 0, .slice none 0 0]) ?_ 1 _ rfl; (with_reducible repeat (first | refine blk_drewN ?_ _ | refine blk_drew ?_ | refine blk_alloc ?_ _)); refine blk_put (cs := #[.int .i64 0, .int .i64 0, .slice none 0 0]) ?_ 0 _ rfl; (with_reducible repeat (first | refine blk_drewN ?_ _ | refine blk_drew ?_ | refine blk_alloc ?_ _)); exact BK459.out))⟩; have n3_ : Aside0 (Below w.heap.size w w35) := ⟨(by rw [hw]; exact (by repeat (first | (with_reducible first | exact HB.out | apply below_alloc | apply pw_below_drewN | apply below_drew1 | refine below_set ?_ GE459.out) | exact HB.out)))⟩; clear hw; clear HO451; clear HO457; clear BK459; clear HB; have HO451 := n0_; have HO457 := n1_; have BK459 := n2_; have HB := n3_; clear n0_ n1_ n2_ n3_; have q36 : (4 : Int) ≤ ((t449.length : Int) : Int) := of_decide_eq_true (by first | (with_reducible assumption) | assumption); obtain ⟨i036, hi036, _, hsz36, _⟩ := info_parts info5; have hroom36 : t449.length ≤ co30 := (Kd.R_reads' HO451.out).2.1; have hC36 : Kd.C (Kd.int .u8) _ Ao30 t449.length t449 := (Kd.R_reads' HO451.out).2.2; have hcut36 := cut_to (P := Tryd.prog) 22 5 .i64 Tryd.underlying22 hi036 Ao30 t449.length co30 4 (by omega) q36 hroom36; have hr36 := Kd.C_take (m := 4) hC36 (by omega); have hy36 : y460.length = (4 : Int).toNat := (by rw [Ny460.out, List.length_take]; omega); rw [← Ny460.out] at hr36; rw [← hy36] at hcut36; have HR463 := Aside0.mk hr36; have HC463 := Aside0.mk (show y460.length ≤ co30 from by omega); clear hr36 hC36 hroom36 hi036 hsz36; have KY36 := Aside0.mk hy36; clear hy36; have KL36 := Aside0.mk (show 4 ≤ t449.length from by omega); replace q36 := eq_true q36; have hcv37 := Kd.C_string (P := Tryd.prog) (A := Ao30) (c := co30) Tryd.underlying22 Tryd.underlying5 Tryd.underlying9 (by repeat (first | (with_reducible exact HR463.out) | (with_reducible refine Kd.C_alloc ?_ _) | (with_reducible refine Kd.C_drewN ?_ _) | (with_reducible refine Kd.C_drew ?_) | exact HR463.out)); have hcd37 := fun m_ : Nat => Kd.C_string (P := Tryd.prog) (A := Ao30) (c := co30) Tryd.underlying22 Tryd.underlying5 Tryd.underlying9 (Kd.C_drewN (by repeat (first | (with_reducible exact HR463.out) | (with_reducible refine Kd.C_alloc ?_ _) | (with_reducible refine Kd.C_drewN ?_ _) | (with_reducible refine Kd.C_drew ?_) | exact HR463.out)) m_)))
            go_ret
            exact ⟨by first | rfl | (simp [errW_none, errW_some] <;> rfl) | (simp [*, errW_none, errW_some] <;> rfl), by repeat (first | (with_reducible first | exact HB.out | apply below_alloc | apply pw_below_drewN | apply below_drew1 | refine below_set ?_ GE459.out) | exact HB.out)⟩
        · rw [if_neg c6] at H
          have c6b0 : (t452 == 0) = false := beq_eq_false_iff_ne.mpr c6
          have c6b1 : (t452 != 0) = true := bne_iff_ne.mpr c6
          obtain rfl := Option.some.inj H
          go_enter Tryd.func27, Tryd.ntmps27
          go_wp2_with (first | ((with_reducible refine gate_callee (f := 25) rfl ?_); refine goesL_ (some 7) rfl rfl Tryd.func25 (by kernel_rfl) rfl #[.agg #[.int .i64 1, .int .i64 0, .slice none 0 0]] rfl (by (try simp only [List.map_toArray, List.map_cons, List.map_nil]); first | done | rfl | (simp only [List.length_drop, List.length_take]; rfl)) ?_; (refine (manifest_Put.calls k 1 0 (fun k_ => False) _ _ ([] : List Int) t449 t452 _ ?side1 ?side2 A1.out).mono ?_); (case side1 => exact Kd.V_nil _ _ _ _ _); (case side2 => first | exact HG.out | exact Gl.below HG.out (by repeat (first | (with_reducible first | exact HB.out | apply below_alloc | apply pw_below_drewN | apply below_drew1) | exact HB.out))); rintro e w38 ⟨v450, rfl, ho0, hb⟩; refine ⟨_, rfl, ?_⟩; have n0_ := Aside0.mk (Kd.R_lower (Kd.R_mono (ok' := fun k_ => True) ho0 (fun _ hk_ => trivial)) (below_size (by repeat (first | (with_reducible first | exact HB.out | apply below_alloc | apply pw_below_drewN | apply below_drew1) | exact HB.out)))); have n1_ := Aside0.mk (below_step (by repeat (first | (with_reducible first | exact HB.out | apply below_alloc | apply pw_below_drewN | apply below_drew1) | exact HB.out)) hb); clear HB; have HO451 := n0_; have HB := n1_; clear n0_ n1_; (try clear hb); (try clear hb2); (try clear hk); (try clear hi); (try clear ho0); obtain ⟨Ao39, co39, eo39⟩ := Kd.R_slice HO451.out; subst eo39) | ((with_reducible refine gate_callee (f := 28) rfl ?_); refine goesL_ (some 12) rfl rfl Tryd.func28 (by kernel_rfl) rfl #[.slice Ao39 t449.length co39] rfl (by (try simp only [List.map_toArray, List.map_cons, List.map_nil]); first | done | rfl | (simp only [List.length_drop, List.length_take]; rfl)) ?_; (with_reducible refine (manifest_Get.calls _ _ t449 t453 t454 t455 t458 _ ?side1 ?side2 ?side3 A2.out).mono ?_); (case side1 => repeat (first | exact (Kd.R_reads' HO451.out).2.2 | (with_reducible refine Kd.C_alloc ?_ _) | (with_reducible refine Kd.C_drewN ?_ _) | (with_reducible refine Kd.C_drew ?_))); (case side2 => exact (Kd.R_reads' HO451.out).2.1); (case side3 => first | exact HG.out | exact Gl.below HG.out (by repeat (first | (with_reducible first | exact HB.out | apply below_alloc | apply pw_below_drewN | apply below_drew1) | exact HB.out))); rintro e w40 ⟨v456, rfl, ho0, hb⟩; refine ⟨_, rfl, ?_⟩; have n0_ := Aside0.mk (Kd.R_elder' (by (with_reducible repeat (first | apply Kd.R_alloc | apply Kd.R_drewN | apply Kd.R_drew)); exact HO451.out) (Kd.R_base ho0) hb); have n1_ := Aside0.mk (Kd.R_lower (Kd.R_new' ho0 (Kd.R_lt (by (with_reducible repeat (first | apply Kd.R_alloc | apply Kd.R_drewN | apply Kd.R_drew)); exact HO451.out))) (below_size (by repeat (first | (with_reducible first | exact HB.out | apply below_alloc | apply pw_below_drewN | apply below_drew1) | exact HB.out)))); have n2_ := Aside0.mk (below_step (by repeat (first | (with_reducible first | exact HB.out | apply below_alloc | apply pw_below_drewN | apply below_drew1) | exact HB.out)) hb); clear HO451; clear HB; have HO451 := n0_; have HO457 := n1_; have HB := n2_; clear n0_ n1_ n2_; (try clear hb); (try clear hb2); (try clear hk); (try clear hi); (try clear ho0)) | ((with_reducible refine gate_dst (N := 3) rfl ?_); refine box_event ?hg (N := 3) ?hd (cs := #[.int .i64 0, .int .i64 0, .slice none 0 0]) (t := 60) ?hr ?_; (case hd => rfl); (case hg => rfl); (case hr => first | (go_simp; done) | (go_simp; rfl)); intro gb459 hg w41 hbox hb; have n0_ := Aside0.mk (Kd.R_below (by (with_reducible repeat (first | apply Kd.R_alloc | apply Kd.R_drewN | apply Kd.R_drew)); exact HO451.out) hb); have n1_ := Aside0.mk (Kd.R_below (by (with_reducible repeat (first | apply Kd.R_alloc | apply Kd.R_drewN | apply Kd.R_drew)); exact HO457.out) hb); have n2_ := Aside0.mk (below_step (by repeat (first | (with_reducible first | exact HB.out | apply below_alloc | apply pw_below_drewN | apply below_drew1) | exact HB.out)) hb); have n3_ := Aside0.mk (hbox); have n4_ := Aside0.mk ((by rw [hg]; exact (below_size (by repeat (first | (with_reducible first | exact HB.out | apply below_alloc | apply pw_below_drewN | apply below_drew1) | exact HB.out))) : w.heap.size ≤ gb459)); have n5_ := Aside0.mk ((by rw [hg]; exact (below_size (by repeat (first | (with_reducible first | exact HB.out | apply below_alloc | apply pw_below_drewN | apply below_drew1) | exact HB.out))) : w.heap.size ≤ gb459)); clear HO451; clear HO457; clear HB; have HO451 := n0_; have HO457 := n1_; have HB := n2_; have BK459 := n3_; have GW459 := n4_; have GE459 := n5_; clear n0_ n1_ n2_ n3_ n4_ n5_; clear hb hbox hg; have hcz42_0 : w41.cell? ⟨gb459, 0, none⟩ = some (.int .i64 0) := (blk_cell BK459.out 0).trans rfl; have hcz42_1 : w41.cell? ⟨gb459, 1, none⟩ = some (.int .i64 0) := (blk_cell BK459.out 1).trans rfl; have hcz42_2 : w41.cell? ⟨gb459, 2, none⟩ = some (.slice none 0 0) := (blk_cell BK459.out 2).trans rfl; have hfz42_0 := blk_frozen BK459.out 0; have hfz42_1 := blk_frozen BK459.out 1; have hfz42_2 := blk_frozen BK459.out 2; obtain ⟨Ao43, co43, eo43⟩ := Kd.R_slice HO457.out; subst eo43) | ((with_reducible refine gate_store (t := 60) (p := 3) rfl ?_); refine store_event (t := 60) (p := 3) (v := ?vo_w44) (w1 := (((w41.setCell ⟨gb459, 0, none⟩ (.int .i64 t453)).setCell ⟨gb459, 1, none⟩ (.int .i64 t454)).setCell ⟨gb459, 2, none⟩ (.slice Ao43 t455.length co43))) ?hg ?ho ?hn ?hr ?_; (case ho => rfl); (case hg => rfl); (case hn => rfl); (case hr => first | (go_simp; done) | (go_simp; rfl)); intro w44 hw; have n0_ : Aside0 (Kd.R (Kd.int .u8) 5 w44 w.heap.size (fun k_ => some k_ ≠ (.slice Ao43 t455.length co43 : Value).ownBlock) (.slice Ao39 t449.length co39) t449) := ⟨(by rw [hw]; exact (by (with_reducible repeat (first | apply Kd.R_alloc | apply Kd.R_drewN | apply Kd.R_drew)); exact Kd.R_mono (Kd.R_far (p := ⟨gb459, 2, none⟩) (Kd.R_far (p := ⟨gb459, 1, none⟩) (Kd.R_far (p := ⟨gb459, 0, none⟩) (Kd.R_types HO451.out BK459.out (by decide)) (fun _ hk => hk.2) (.int .i64 t453)) (fun _ hk => hk.2) (.int .i64 t454)) (fun _ hk => hk.2) (.slice Ao43 t455.length co43)) (fun _ hk => hk.1.2)))⟩; have n1_ : Aside0 (Kd.R (Kd.int .u8) 5 w44 w.heap.size (fun k_ => some k_ ≠ (.slice Ao39 t449.length co39 : Value).ownBlock) (.slice Ao43 t455.length co43) t455) := ⟨(by rw [hw]; exact (by (with_reducible repeat (first | apply Kd.R_alloc | apply Kd.R_drewN | apply Kd.R_drew)); exact Kd.R_mono (Kd.R_far (p := ⟨gb459, 2, none⟩) (Kd.R_far (p := ⟨gb459, 1, none⟩) (Kd.R_far (p := ⟨gb459, 0, none⟩) (Kd.R_types HO457.out BK459.out (by decide)) (fun _ hk => hk.2) (.int .i64 t453)) (fun _ hk => hk.2) (.int .i64 t454)) (fun _ hk => hk.2) (.slice Ao43 t455.length co43)) (fun _ hk => hk.1.2)))⟩; have n2_ : Aside0 (w44.heap[gb459]? = some (.cells #[.int .i64 t453, .int .i64 t454, .slice Ao43 t455.length co43] 60 (0, 0))) := ⟨(by rw [hw]; exact (by (with_reducible repeat (first | refine blk_drewN ?_ _ | refine blk_drew ?_ | refine blk_alloc ?_ _)); refine blk_put (cs := #[.int .i64 t453, .int .i64 t454, .slice none 0 0]) ?_ 2 _ rfl; (with_reducible repeat (first | refine blk_drewN ?_ _ | refine blk_drew ?_ | refine blk_alloc ?_ _)); refine blk_put (cs := #[.int .i64 t453, .int .i64 0, .slice none 0 0]) ?_ 1 _ rfl; (with_reducible repeat (first | refine blk_drewN ?_ _ | refine blk_drew ?_ | refine blk_alloc ?_ _)); refine blk_put (cs := #[.int .i64 0, .int .i64 0, .slice none 0 0]) ?_ 0 _ rfl; (with_reducible repeat (first | refine blk_drewN ?_ _ | refine blk_drew ?_ | refine blk_alloc ?_ _)); exact BK459.out))⟩; have n3_ : Aside0 (Below w.heap.size w w44) := ⟨(by rw [hw]; exact (by repeat (first | (with_reducible first | exact HB.out | apply below_alloc | apply pw_below_drewN | apply below_drew1 | refine below_set ?_ GE459.out) | exact HB.out)))⟩; clear hw; clear HO451; clear HO457; clear BK459; clear HB; have HO451 := n0_; have HO457 := n1_; have BK459 := n2_; have HB := n3_; clear n0_ n1_ n2_ n3_; have q45 : (4 : Int) ≤ ((t449.length : Int) : Int) := of_decide_eq_true (by first | (with_reducible assumption) | assumption); obtain ⟨i045, hi045, _, hsz45, _⟩ := info_parts info5; have hroom45 : t449.length ≤ co39 := (Kd.R_reads' HO451.out).2.1; have hC45 : Kd.C (Kd.int .u8) _ Ao39 t449.length t449 := (Kd.R_reads' HO451.out).2.2; have hcut45 := cut_to (P := Tryd.prog) 22 5 .i64 Tryd.underlying22 hi045 Ao39 t449.length co39 4 (by omega) q45 hroom45; have hr45 := Kd.C_take (m := 4) hC45 (by omega); have hy45 : y460.length = (4 : Int).toNat := (by rw [Ny460.out, List.length_take]; omega); rw [← Ny460.out] at hr45; rw [← hy45] at hcut45; have HR463 := Aside0.mk hr45; have HC463 := Aside0.mk (show y460.length ≤ co39 from by omega); clear hr45 hC45 hroom45 hi045 hsz45; have KY45 := Aside0.mk hy45; clear hy45; have KL45 := Aside0.mk (show 4 ≤ t449.length from by omega); replace q45 := eq_true q45; have hcv46 := Kd.C_string (P := Tryd.prog) (A := Ao39) (c := co39) Tryd.underlying22 Tryd.underlying5 Tryd.underlying9 (by repeat (first | (with_reducible exact HR463.out) | (with_reducible refine Kd.C_alloc ?_ _) | (with_reducible refine Kd.C_drewN ?_ _) | (with_reducible refine Kd.C_drew ?_) | exact HR463.out)); have hcd46 := fun m_ : Nat => Kd.C_string (P := Tryd.prog) (A := Ao39) (c := co39) Tryd.underlying22 Tryd.underlying5 Tryd.underlying9 (Kd.C_drewN (by repeat (first | (with_reducible exact HR463.out) | (with_reducible refine Kd.C_alloc ?_ _) | (with_reducible refine Kd.C_drewN ?_ _) | (with_reducible refine Kd.C_drew ?_) | exact HR463.out)) m_)))
          go_ret
          exact ⟨by first | rfl | (simp [errW_none, errW_some] <;> rfl) | (simp [*, errW_none, errW_some] <;> rfl), by repeat (first | (with_reducible first | exact HB.out | apply below_alloc | apply pw_below_drewN | apply below_drew1 | refine below_set ?_ GE459.out) | exact HB.out)⟩
      · rw [if_neg c5] at H
        have c5b0 : ((strOfNums y460).toList == ([3, 2, 1, 0] : List UInt8)) = false := beq_eq_false_iff_ne.mpr c5
        have c5b1 : ((strOfNums y460).toList != ([3, 2, 1, 0] : List UInt8)) = true := bne_iff_ne.mpr c5
        obtain rfl := Option.some.inj H
        go_enter Tryd.func27, Tryd.ntmps27
        go_wp2_with (first | ((with_reducible refine gate_callee (f := 25) rfl ?_); refine goesL_ (some 7) rfl rfl Tryd.func25 (by kernel_rfl) rfl #[.agg #[.int .i64 1, .int .i64 0, .slice none 0 0]] rfl (by (try simp only [List.map_toArray, List.map_cons, List.map_nil]); first | done | rfl | (simp only [List.length_drop, List.length_take]; rfl)) ?_; (refine (manifest_Put.calls k 1 0 (fun k_ => False) _ _ ([] : List Int) t449 t452 _ ?side1 ?side2 A1.out).mono ?_); (case side1 => exact Kd.V_nil _ _ _ _ _); (case side2 => first | exact HG.out | exact Gl.below HG.out (by repeat (first | (with_reducible first | exact HB.out | apply below_alloc | apply pw_below_drewN | apply below_drew1) | exact HB.out))); rintro e w47 ⟨v450, rfl, ho0, hb⟩; refine ⟨_, rfl, ?_⟩; have n0_ := Aside0.mk (Kd.R_lower (Kd.R_mono (ok' := fun k_ => True) ho0 (fun _ hk_ => trivial)) (below_size (by repeat (first | (with_reducible first | exact HB.out | apply below_alloc | apply pw_below_drewN | apply below_drew1) | exact HB.out)))); have n1_ := Aside0.mk (below_step (by repeat (first | (with_reducible first | exact HB.out | apply below_alloc | apply pw_below_drewN | apply below_drew1) | exact HB.out)) hb); clear HB; have HO451 := n0_; have HB := n1_; clear n0_ n1_; (try clear hb); (try clear hb2); (try clear hk); (try clear hi); (try clear ho0); obtain ⟨Ao48, co48, eo48⟩ := Kd.R_slice HO451.out; subst eo48) | ((with_reducible refine gate_callee (f := 28) rfl ?_); refine goesL_ (some 12) rfl rfl Tryd.func28 (by kernel_rfl) rfl #[.slice Ao48 t449.length co48] rfl (by (try simp only [List.map_toArray, List.map_cons, List.map_nil]); first | done | rfl | (simp only [List.length_drop, List.length_take]; rfl)) ?_; (with_reducible refine (manifest_Get.calls _ _ t449 t453 t454 t455 t458 _ ?side1 ?side2 ?side3 A2.out).mono ?_); (case side1 => repeat (first | exact (Kd.R_reads' HO451.out).2.2 | (with_reducible refine Kd.C_alloc ?_ _) | (with_reducible refine Kd.C_drewN ?_ _) | (with_reducible refine Kd.C_drew ?_))); (case side2 => exact (Kd.R_reads' HO451.out).2.1); (case side3 => first | exact HG.out | exact Gl.below HG.out (by repeat (first | (with_reducible first | exact HB.out | apply below_alloc | apply pw_below_drewN | apply below_drew1) | exact HB.out))); rintro e w49 ⟨v456, rfl, ho0, hb⟩; refine ⟨_, rfl, ?_⟩; have n0_ := Aside0.mk (Kd.R_elder' (by (with_reducible repeat (first | apply Kd.R_alloc | apply Kd.R_drewN | apply Kd.R_drew)); exact HO451.out) (Kd.R_base ho0) hb); have n1_ := Aside0.mk (Kd.R_lower (Kd.R_new' ho0 (Kd.R_lt (by (with_reducible repeat (first | apply Kd.R_alloc | apply Kd.R_drewN | apply Kd.R_drew)); exact HO451.out))) (below_size (by repeat (first | (with_reducible first | exact HB.out | apply below_alloc | apply pw_below_drewN | apply below_drew1) | exact HB.out)))); have n2_ := Aside0.mk (below_step (by repeat (first | (with_reducible first | exact HB.out | apply below_alloc | apply pw_below_drewN | apply below_drew1) | exact HB.out)) hb); clear HO451; clear HB; have HO451 := n0_; have HO457 := n1_; have HB := n2_; clear n0_ n1_ n2_; (try clear hb); (try clear hb2); (try clear hk); (try clear hi); (try clear ho0)) | ((with_reducible refine gate_dst (N := 3) rfl ?_); refine box_event ?hg (N := 3) ?hd (cs := #[.int .i64 0, .int .i64 0, .slice none 0 0]) (t := 60) ?hr ?_; (case hd => rfl); (case hg => rfl); (case hr => first | (go_simp; done) | (go_simp; rfl)); intro gb459 hg w50 hbox hb; have n0_ := Aside0.mk (Kd.R_below (by (with_reducible repeat (first | apply Kd.R_alloc | apply Kd.R_drewN | apply Kd.R_drew)); exact HO451.out) hb); have n1_ := Aside0.mk (Kd.R_below (by (with_reducible repeat (first | apply Kd.R_alloc | apply Kd.R_drewN | apply Kd.R_drew)); exact HO457.out) hb); have n2_ := Aside0.mk (below_step (by repeat (first | (with_reducible first | exact HB.out | apply below_alloc | apply pw_below_drewN | apply below_drew1) | exact HB.out)) hb); have n3_ := Aside0.mk (hbox); have n4_ := Aside0.mk ((by rw [hg]; exact (below_size (by repeat (first | (with_reducible first | exact HB.out | apply below_alloc | apply pw_below_drewN | apply below_drew1) | exact HB.out))) : w.heap.size ≤ gb459)); have n5_ := Aside0.mk ((by rw [hg]; exact (below_size (by repeat (first | (with_reducible first | exact HB.out | apply below_alloc | apply pw_below_drewN | apply below_drew1) | exact HB.out))) : w.heap.size ≤ gb459)); clear HO451; clear HO457; clear HB; have HO451 := n0_; have HO457 := n1_; have HB := n2_; have BK459 := n3_; have GW459 := n4_; have GE459 := n5_; clear n0_ n1_ n2_ n3_ n4_ n5_; clear hb hbox hg; have hcz51_0 : w50.cell? ⟨gb459, 0, none⟩ = some (.int .i64 0) := (blk_cell BK459.out 0).trans rfl; have hcz51_1 : w50.cell? ⟨gb459, 1, none⟩ = some (.int .i64 0) := (blk_cell BK459.out 1).trans rfl; have hcz51_2 : w50.cell? ⟨gb459, 2, none⟩ = some (.slice none 0 0) := (blk_cell BK459.out 2).trans rfl; have hfz51_0 := blk_frozen BK459.out 0; have hfz51_1 := blk_frozen BK459.out 1; have hfz51_2 := blk_frozen BK459.out 2; obtain ⟨Ao52, co52, eo52⟩ := Kd.R_slice HO457.out; subst eo52) | ((with_reducible refine gate_store (t := 60) (p := 3) rfl ?_); refine store_event (t := 60) (p := 3) (v := ?vo_w53) (w1 := (((w50.setCell ⟨gb459, 0, none⟩ (.int .i64 t453)).setCell ⟨gb459, 1, none⟩ (.int .i64 t454)).setCell ⟨gb459, 2, none⟩ (.slice Ao52 t455.length co52))) ?hg ?ho ?hn ?hr ?_; (case ho => rfl); (case hg => rfl); (case hn => rfl); (case hr => first | (go_simp; done) | (go_simp; rfl)); intro w53 hw; have n0_ : Aside0 (Kd.R (Kd.int .u8) 5 w53 w.heap.size (fun k_ => some k_ ≠ (.slice Ao52 t455.length co52 : Value).ownBlock) (.slice Ao48 t449.length co48) t449) := ⟨(by rw [hw]; exact (by (with_reducible repeat (first | apply Kd.R_alloc | apply Kd.R_drewN | apply Kd.R_drew)); exact Kd.R_mono (Kd.R_far (p := ⟨gb459, 2, none⟩) (Kd.R_far (p := ⟨gb459, 1, none⟩) (Kd.R_far (p := ⟨gb459, 0, none⟩) (Kd.R_types HO451.out BK459.out (by decide)) (fun _ hk => hk.2) (.int .i64 t453)) (fun _ hk => hk.2) (.int .i64 t454)) (fun _ hk => hk.2) (.slice Ao52 t455.length co52)) (fun _ hk => hk.1.2)))⟩; have n1_ : Aside0 (Kd.R (Kd.int .u8) 5 w53 w.heap.size (fun k_ => some k_ ≠ (.slice Ao48 t449.length co48 : Value).ownBlock) (.slice Ao52 t455.length co52) t455) := ⟨(by rw [hw]; exact (by (with_reducible repeat (first | apply Kd.R_alloc | apply Kd.R_drewN | apply Kd.R_drew)); exact Kd.R_mono (Kd.R_far (p := ⟨gb459, 2, none⟩) (Kd.R_far (p := ⟨gb459, 1, none⟩) (Kd.R_far (p := ⟨gb459, 0, none⟩) (Kd.R_types HO457.out BK459.out (by decide)) (fun _ hk => hk.2) (.int .i64 t453)) (fun _ hk => hk.2) (.int .i64 t454)) (fun _ hk => hk.2) (.slice Ao52 t455.length co52)) (fun _ hk => hk.1.2)))⟩; have n2_ : Aside0 (w53.heap[gb459]? = some (.cells #[.int .i64 t453, .int .i64 t454, .slice Ao52 t455.length co52] 60 (0, 0))) := ⟨(by rw [hw]; exact (by (with_reducible repeat (first | refine blk_drewN ?_ _ | refine blk_drew ?_ | refine blk_alloc ?_ _)); refine blk_put (cs := #[.int .i64 t453, .int .i64 t454, .slice none 0 0]) ?_ 2 _ rfl; (with_reducible repeat (first | refine blk_drewN ?_ _ | refine blk_drew ?_ | refine blk_alloc ?_ _)); refine blk_put (cs := #[.int .i64 t453, .int .i64 0, .slice none 0 0]) ?_ 1 _ rfl; (with_reducible repeat (first | refine blk_drewN ?_ _ | refine blk_drew ?_ | refine blk_alloc ?_ _)); refine blk_put (cs := #[.int .i64 0, .int .i64 0, .slice none 0 0]) ?_ 0 _ rfl; (with_reducible repeat (first | refine blk_drewN ?_ _ | refine blk_drew ?_ | refine blk_alloc ?_ _)); exact BK459.out))⟩; have n3_ : Aside0 (Below w.heap.size w w53) := ⟨(by rw [hw]; exact (by repeat (first | (with_reducible first | exact HB.out | apply below_alloc | apply pw_below_drewN | apply below_drew1 | refine below_set ?_ GE459.out) | exact HB.out)))⟩; clear hw; clear HO451; clear HO457; clear BK459; clear HB; have HO451 := n0_; have HO457 := n1_; have BK459 := n2_; have HB := n3_; clear n0_ n1_ n2_ n3_; have q54 : (4 : Int) ≤ ((t449.length : Int) : Int) := of_decide_eq_true (by first | (with_reducible assumption) | assumption); obtain ⟨i054, hi054, _, hsz54, _⟩ := info_parts info5; have hroom54 : t449.length ≤ co48 := (Kd.R_reads' HO451.out).2.1; have hC54 : Kd.C (Kd.int .u8) _ Ao48 t449.length t449 := (Kd.R_reads' HO451.out).2.2; have hcut54 := cut_to (P := Tryd.prog) 22 5 .i64 Tryd.underlying22 hi054 Ao48 t449.length co48 4 (by omega) q54 hroom54; have hr54 := Kd.C_take (m := 4) hC54 (by omega); have hy54 : y460.length = (4 : Int).toNat := (by rw [Ny460.out, List.length_take]; omega); rw [← Ny460.out] at hr54; rw [← hy54] at hcut54; have HR463 := Aside0.mk hr54; have HC463 := Aside0.mk (show y460.length ≤ co48 from by omega); clear hr54 hC54 hroom54 hi054 hsz54; have KY54 := Aside0.mk hy54; clear hy54; have KL54 := Aside0.mk (show 4 ≤ t449.length from by omega); replace q54 := eq_true q54; have hcv55 := Kd.C_string (P := Tryd.prog) (A := Ao48) (c := co48) Tryd.underlying22 Tryd.underlying5 Tryd.underlying9 (by repeat (first | (with_reducible exact HR463.out) | (with_reducible refine Kd.C_alloc ?_ _) | (with_reducible refine Kd.C_drewN ?_ _) | (with_reducible refine Kd.C_drew ?_) | exact HR463.out)); have hcd55 := fun m_ : Nat => Kd.C_string (P := Tryd.prog) (A := Ao48) (c := co48) Tryd.underlying22 Tryd.underlying5 Tryd.underlying9 (Kd.C_drewN (by repeat (first | (with_reducible exact HR463.out) | (with_reducible refine Kd.C_alloc ?_ _) | (with_reducible refine Kd.C_drewN ?_ _) | (with_reducible refine Kd.C_drew ?_) | exact HR463.out)) m_)))
        go_ret
        exact ⟨by first | rfl | (simp [errW_none, errW_some] <;> rfl) | (simp [*, errW_none, errW_some] <;> rfl), by repeat (first | (with_reducible first | exact HB.out | apply below_alloc | apply pw_below_drewN | apply below_drew1 | refine below_set ?_ GE459.out) | exact HB.out)⟩
    · rw [if_neg c4] at H
      exact absurd H (by simp)
  · rw [if_neg c3] at H
    have c3b0 : ((t449.length : Int) == 8) = false := beq_eq_false_iff_ne.mpr c3
    have c3b1 : ((t449.length : Int) != 8) = true := bne_iff_ne.mpr c3
    obtain rfl := Option.some.inj H
    go_enter Tryd.func27, Tryd.ntmps27
    go_wp2_with (first | ((with_reducible refine gate_callee (f := 25) rfl ?_); refine goesL_ (some 7) rfl rfl Tryd.func25 (by kernel_rfl) rfl #[.agg #[.int .i64 1, .int .i64 0, .slice none 0 0]] rfl (by (try simp only [List.map_toArray, List.map_cons, List.map_nil]); first | done | rfl | (simp only [List.length_drop, List.length_take]; rfl)) ?_; (refine (manifest_Put.calls k 1 0 (fun k_ => False) _ _ ([] : List Int) t449 t452 _ ?side1 ?side2 A1.out).mono ?_); (case side1 => exact Kd.V_nil _ _ _ _ _); (case side2 => first | exact HG.out | exact Gl.below HG.out (by repeat (first | (with_reducible first | exact HB.out | apply below_alloc | apply pw_below_drewN | apply below_drew1) | exact HB.out))); rintro e w56 ⟨v450, rfl, ho0, hb⟩; refine ⟨_, rfl, ?_⟩; have n0_ := Aside0.mk (Kd.R_lower (Kd.R_mono (ok' := fun k_ => True) ho0 (fun _ hk_ => trivial)) (below_size (by repeat (first | (with_reducible first | exact HB.out | apply below_alloc | apply pw_below_drewN | apply below_drew1) | exact HB.out)))); have n1_ := Aside0.mk (below_step (by repeat (first | (with_reducible first | exact HB.out | apply below_alloc | apply pw_below_drewN | apply below_drew1) | exact HB.out)) hb); clear HB; have HO451 := n0_; have HB := n1_; clear n0_ n1_; (try clear hb); (try clear hb2); (try clear hk); (try clear hi); (try clear ho0); obtain ⟨Ao57, co57, eo57⟩ := Kd.R_slice HO451.out; subst eo57) | ((with_reducible refine gate_callee (f := 28) rfl ?_); refine goesL_ (some 12) rfl rfl Tryd.func28 (by kernel_rfl) rfl #[.slice Ao57 t449.length co57] rfl (by (try simp only [List.map_toArray, List.map_cons, List.map_nil]); first | done | rfl | (simp only [List.length_drop, List.length_take]; rfl)) ?_; (with_reducible refine (manifest_Get.calls _ _ t449 t453 t454 t455 t458 _ ?side1 ?side2 ?side3 A2.out).mono ?_); (case side1 => repeat (first | exact (Kd.R_reads' HO451.out).2.2 | (with_reducible refine Kd.C_alloc ?_ _) | (with_reducible refine Kd.C_drewN ?_ _) | (with_reducible refine Kd.C_drew ?_))); (case side2 => exact (Kd.R_reads' HO451.out).2.1); (case side3 => first | exact HG.out | exact Gl.below HG.out (by repeat (first | (with_reducible first | exact HB.out | apply below_alloc | apply pw_below_drewN | apply below_drew1) | exact HB.out))); rintro e w58 ⟨v456, rfl, ho0, hb⟩; refine ⟨_, rfl, ?_⟩; have n0_ := Aside0.mk (Kd.R_elder' (by (with_reducible repeat (first | apply Kd.R_alloc | apply Kd.R_drewN | apply Kd.R_drew)); exact HO451.out) (Kd.R_base ho0) hb); have n1_ := Aside0.mk (Kd.R_lower (Kd.R_new' ho0 (Kd.R_lt (by (with_reducible repeat (first | apply Kd.R_alloc | apply Kd.R_drewN | apply Kd.R_drew)); exact HO451.out))) (below_size (by repeat (first | (with_reducible first | exact HB.out | apply below_alloc | apply pw_below_drewN | apply below_drew1) | exact HB.out)))); have n2_ := Aside0.mk (below_step (by repeat (first | (with_reducible first | exact HB.out | apply below_alloc | apply pw_below_drewN | apply below_drew1) | exact HB.out)) hb); clear HO451; clear HB; have HO451 := n0_; have HO457 := n1_; have HB := n2_; clear n0_ n1_ n2_; (try clear hb); (try clear hb2); (try clear hk); (try clear hi); (try clear ho0)) | ((with_reducible refine gate_dst (N := 3) rfl ?_); refine box_event ?hg (N := 3) ?hd (cs := #[.int .i64 0, .int .i64 0, .slice none 0 0]) (t := 60) ?hr ?_; (case hd => rfl); (case hg => rfl); (case hr => first | (go_simp; done) | (go_simp; rfl)); intro gb459 hg w59 hbox hb; have n0_ := Aside0.mk (Kd.R_below (by (with_reducible repeat (first | apply Kd.R_alloc | apply Kd.R_drewN | apply Kd.R_drew)); exact HO451.out) hb); have n1_ := Aside0.mk (Kd.R_below (by (with_reducible repeat (first | apply Kd.R_alloc | apply Kd.R_drewN | apply Kd.R_drew)); exact HO457.out) hb); have n2_ := Aside0.mk (below_step (by repeat (first | (with_reducible first | exact HB.out | apply below_alloc | apply pw_below_drewN | apply below_drew1) | exact HB.out)) hb); have n3_ := Aside0.mk (hbox); have n4_ := Aside0.mk ((by rw [hg]; exact (below_size (by repeat (first | (with_reducible first | exact HB.out | apply below_alloc | apply pw_below_drewN | apply below_drew1) | exact HB.out))) : w.heap.size ≤ gb459)); have n5_ := Aside0.mk ((by rw [hg]; exact (below_size (by repeat (first | (with_reducible first | exact HB.out | apply below_alloc | apply pw_below_drewN | apply below_drew1) | exact HB.out))) : w.heap.size ≤ gb459)); clear HO451; clear HO457; clear HB; have HO451 := n0_; have HO457 := n1_; have HB := n2_; have BK459 := n3_; have GW459 := n4_; have GE459 := n5_; clear n0_ n1_ n2_ n3_ n4_ n5_; clear hb hbox hg; have hcz60_0 : w59.cell? ⟨gb459, 0, none⟩ = some (.int .i64 0) := (blk_cell BK459.out 0).trans rfl; have hcz60_1 : w59.cell? ⟨gb459, 1, none⟩ = some (.int .i64 0) := (blk_cell BK459.out 1).trans rfl; have hcz60_2 : w59.cell? ⟨gb459, 2, none⟩ = some (.slice none 0 0) := (blk_cell BK459.out 2).trans rfl; have hfz60_0 := blk_frozen BK459.out 0; have hfz60_1 := blk_frozen BK459.out 1; have hfz60_2 := blk_frozen BK459.out 2; obtain ⟨Ao61, co61, eo61⟩ := Kd.R_slice HO457.out; subst eo61))
    go_ret
    exact ⟨by first | rfl | (simp [errW_none, errW_some] <;> rfl) | (simp [*, errW_none, errW_some] <;> rfl), by repeat (first | (with_reducible first | exact HB.out | apply below_alloc | apply pw_below_drewN | apply below_drew1 | refine below_set ?_ GE459.out) | exact HB.out)⟩

end Go.Proofs.YtonpiacnljcohaaDoor.PA

/- Manifests: what is laid is read; the reference lays the same; the closed case. -/
set_option linter.unusedVariables false
set_option linter.unusedSimpArgs false
namespace Go.Proofs.YtonpiacnljcohaaDoor.MaT
open Go Go.RowKit Go.Proofs.YtonpiacnljcohaaDoor.PA Go.Proofs.YtonpiacnljcohaaDoorW.PrintWords Go.Proofs.YtonpiacnljcohaaDoor.LebT Go.Proofs.YtonpiacnljcohaaDoor.LebP Go.Proofs.YtonpiacnljcohaaDoor.ColT Go.Proofs.YtonpiacnljcohaaDoor.FrT Go.Proofs.YtonpiacnljcohaaDoor.Rdr
theorem rd_head' (x : Int) (r : List Int) : rd (x :: r) 0 = x := rfl
theorem opn_sealed' (a : Int) (l r : List Int) (ha0 : a ≠ 0) (hl : l.length ≤ 1048576) : opn (sealed a l ++ r) = (a, l, ((sealed a l).length : Int), 0) := by
  have hb : sealed a l ++ r = a :: (putU l.length ++ (l ++ (le4 (crcN (head a l)) ++ r))) := by simp [sealed, head]
  have hp := putU_len64 (n := l.length) (by omega)
  have hpp := putU_len_pos l.length
  have hg : gU 0 0 ((sealed a l ++ r).drop 1) = ((l.length : Int), ((putU l.length).length : Int), 0) := by
    rw [hb, List.drop_one, List.tail_cons]
    have := gU_put l.length 0 0 (l ++ (le4 (crcN (head a l)) ++ r)) (by omega) (by simp) (by simp; omega)
    simpa using this
  have hh : (head a l).length = 1 + (putU l.length).length + l.length := by simp [head]; omega
  have hs : (sealed a l).length = (head a l).length + 4 := by simp [sealed, le4_len]
  unfold opn
  rw [hg]
  have e1 : (1 + ((putU l.length).length : Int) + (l.length : Int)).toNat = (head a l).length := by omega
  have e2 : (1 + ((putU l.length).length : Int) + (l.length : Int) + 4).toNat = (sealed a l).length := by omega
  have e3 : (1 + ((putU l.length).length : Int)).toNat = (a :: putU l.length).length := by simp; omega
  have t1 : (sealed a l ++ r).take (head a l).length = head a l := by
    unfold sealed
    rw [List.append_assoc, List.take_left']
    rfl
  have t2 : (sealed a l ++ r).take (sealed a l).length = sealed a l := List.take_left' rfl
  simp only [e1, e2, e3, t1, t2, if_true]
  rw [if_neg (by rw [List.length_append]; omega), if_neg (by rw [hb, rd_head']; exact ha0), if_neg (by omega), if_neg (by rw [List.length_append]; omega), if_pos (show sealed a l = head a l ++ le4 (crcN (head a l)) from rfl)]
  rw [hb, rd_head']
  have t3 : (head a l).drop (a :: putU l.length).length = l := by
    unfold head
    rw [← List.cons_append, List.drop_left']
    rfl
  rw [t3]
  simp only [Prod.mk.injEq, true_and, and_true]
  omega
theorem rput_j0 (a b : Int) (l : List Int) (hl : ∀ x ∈ l, isByte x) (k : Nat) (hk : 12000000 ≤ k) (x : Bool) (h : x = false → 1 ≤ a ∧ a ≤ 999999 ∧ 0 ≤ b ∧ b ≤ 16777216) :
    stemmaref19_Put.j0 k x a b l = some (if x = true then ([], 2) else if (l.length : Int) > 524288 then ([], 5) else (sealed 3 (body a b l), 0)) := by
  obtain ⟨k, rfl⟩ : ∃ k', k = k' + 1 := ⟨k - 1, by omega⟩
  rw [stemmaref19_Put.j0]
  cases x with
  | true => rfl
  | false =>
    obtain ⟨h1, h2, h3, h4⟩ := h rfl
    clear h
    simp only [Bool.false_eq_true, if_false]
    by_cases hl2 : (l.length : Int) > 524288
    · rw [if_pos hl2, if_pos hl2]
    rw [if_neg hl2, if_neg hl2, wrap_u64 (by omega) (by omega), wrap_u64 (by omega) (by omega), rUint_f (by omega) (by omega) (by omega), Option.bind_some, rUint_f (by omega) (by omega) (by omega), Option.bind_some]
    have hlen := body_len (a := a) (b := b) (l := l) (by omega) (by omega) (by omega)
    have hp1 := putU_len64 (n := a.toNat) (by omega)
    have hp2 := putU_len64 (n := b.toNat) (by omega)
    have e : putU a.toNat ++ putU b.toNat ++ l = body a b l := by simp [body]
    rw [if_pos (by omega), Option.bind_some, if_pos (by rw [List.length_append]; omega), e, rseal_f 3 _ ⟨by omega, by omega⟩ (body_bytes hl) (by omega), Option.bind_some, sealR, if_neg (by omega), if_neg (by omega)]
theorem rput_f (a b : Int) (l : List Int) (hl : ∀ x ∈ l, isByte x) {k : Nat} (hk : 12000000 ≤ k) : stemmaref19_Put.f k a b l = some (mput a b l) := by
  unfold stemmaref19_Put.f mput
  by_cases h1 : a < 1
  · rw [if_pos h1, rput_j0 a b l hl k hk true (by simp), if_pos rfl, if_pos (Or.inl h1)]
  rw [if_neg h1]
  by_cases h2 : a > 999999
  · rw [if_pos h2, rput_j0 a b l hl k hk true (by simp), if_pos rfl, if_pos (Or.inr (Or.inl h2))]
  rw [if_neg h2]
  by_cases h3 : b < 0
  · rw [if_pos h3, rput_j0 a b l hl k hk true (by simp), if_pos rfl, if_pos (Or.inr (Or.inr (Or.inl h3)))]
  rw [if_neg h3]
  rw [rput_j0 a b l hl k hk _ (fun h => by have := of_decide_eq_false h; omega)]
  by_cases h4 : b > 16777216
  · rw [if_pos (decide_eq_true h4), if_pos (Or.inr (Or.inr (Or.inr h4)))]
  · rw [if_neg (by simp; omega), if_neg (show ¬ (a < 1 ∨ a > 999999 ∨ b < 0 ∨ b > 16777216) by omega)]
theorem rdU_put (most : Int) (a : Int) (r : List Int) (h0 : 0 ≤ a) (h1 : a ≤ most) (h2 : most < 18446744073709551616) : rdU most (putU a.toNat ++ r) 0 = (a, r, 0) := by
  have hg : gU 0 0 (putU a.toNat ++ r) = (a, ((putU a.toNat).length : Int), 0) := by
    have := gU_put a.toNat 0 0 r (by omega) (by simp) (by simp; omega)
    simp at this
    rw [this, show max a 0 = a by omega]
  unfold rdU
  rw [hg]
  rw [if_pos ⟨rfl, rfl, h1⟩]
  simp
theorem mget_put (a b : Int) (l : List Int) (h1 : 1 ≤ a) (h2 : a ≤ 999999) (h3 : 0 ≤ b) (h4 : b ≤ 16777216) (h5 : l.length ≤ 524288) : mget (sealed 3 (body a b l)) = (a, b, l, 0) := by
  have hlen := body_len (a := a) (b := b) (l := l) (by omega) (by omega) h5
  have ho := opn_sealed' 3 (body a b l) [] (by omega) (by omega)
  rw [List.append_nil] at ho
  have r1 := rdU_put 999999 a (putU b.toNat ++ l) (by omega) h2 (by omega)
  have r2 := rdU_put 16777216 b l h3 h4 (by omega)
  have hp : mput a b l = (sealed 3 (body a b l), 0) := by
    unfold mput
    rw [if_neg (by omega), if_neg (by omega)]
  unfold mget
  rw [ho]
  simp only [and_self, if_true]
  rw [show rdU 999999 (body a b l) 0 = (a, putU b.toNat ++ l, 0) from r1]
  simp only
  rw [r2]
  simp only
  rw [hp]
  simp only [and_self, if_true]
theorem mput_1 : (mput 1 0 []) = (sealed 3 [1, 0], 0) := by
  unfold mput body
  rw [if_neg (by omega), if_neg (by simp)]
  rw [show ((1 : Int).toNat) = 1 from rfl, show ((0 : Int).toNat) = 0 from rfl, putU_small (by omega), putU_small (by omega)]
  rfl
theorem mget_1 : mget (sealed 3 [1, 0]) = (1, 0, [], 0) := by
  have := mget_put 1 0 [] (by omega) (by omega) (by omega) (by omega) (by simp)
  unfold body at this
  rw [show ((1 : Int).toNat) = 1 from rfl, show ((0 : Int).toNat) = 0 from rfl, putU_small (by omega), putU_small (by omega)] at this
  exact this
theorem sealed_1 : sealed 3 [1, 0] = [3, 2, 1, 0] ++ le4 (crcN (head 3 [1, 0])) := by
  unfold sealed head
  rw [show ([1, 0] : List Int).length = 2 from rfl, putU_small (by omega)]
  rfl
theorem awake19_f {k : Nat} (hk : 30 ≤ k) : stemmalaw19_awake.f k = some true := by
  unfold stemmalaw19_awake.f
  rw [put_f 1 0 [] (by intro x hx; cases hx) hk, Option.bind_some, mput_1]
  have hb : bytesB (sealed 3 [1, 0]) = true := by
    rw [bytesB_iff]
    have := mput_bytes 1 0 (l := []) (by intro x hx; cases hx)
    rw [mput_1] at this
    exact this
  have hl : (sealed 3 [1, 0]).length = 8 := by rw [sealed_1]; rfl
  have hg : manifest_Get.f (sealed 3 [1, 0]) = some (1, 0, [], 0) := by
    unfold manifest_Get.f
    rw [if_pos ⟨by rw [hl]; omega, hb⟩, mget_1]
  have ht : (sealed 3 [1, 0]).take 4 = [3, 2, 1, 0] := by rw [sealed_1]; rfl
  have hs : (strOfNums [3, 2, 1, 0]).toList = ([3, 2, 1, 0] : List UInt8) := by decide +kernel
  simp only
  rw [hg, Option.bind_some, hl, ht, if_pos (show ((8 : Nat) : Int) = 8 from rfl), if_pos (show (4 : Int) ≤ ((8 : Nat) : Int) by decide), if_pos hs]
  simp only [if_true]
theorem mput_len (a b : Int) {l : List Int} : (mput a b l).1.length ≤ 524330 := by
  unfold mput
  split
  · simp
  split
  · simp
  · rename_i h1 h2
    have hlen := body_len (a := a) (b := b) (l := l) (by omega) (by omega) (by omega)
    have hh := putU_len64 (n := (body a b l).length) (by omega)
    simp only [sealed, head, List.length_append, List.length_cons, le4_len]
    omega
end Go.Proofs.YtonpiacnljcohaaDoor.MaT

-- Written by a program of this session (wip/tools/myprint.py), out of the translation's print. Lean checks it.
namespace Go.Proofs.YtonpiacnljcohaaDoor.PA
open Go.RowKit Go.Proofs.YtonpiacnljcohaaDoorW.PrintWords Go.Proofs.YtonpiacnljcohaaDoorW.PrintLast Go.Proofs.YtonpiacnljcohaaDoorW.PrintMore
attribute [local go_sem] max2_int min2_int max_two min_two max_three min_three max_four min_four   -- for this text's walks alone
set_option linter.unusedVariables false
set_option linter.unusedSimpArgs false

/-! ### manifest_Manifest_place: function 50 -/
def manifest_Manifest_place.f (a0_0 : Int) (a0_1 : Int) (l0_2 : List Int) : Option (Int × Int) := some (a0_0, a0_1)
set_option maxHeartbeats 8000000 in
set_option maxRecDepth 100000 in
theorem manifest_Manifest_place.calls (a0_0 : Int) (a0_1 : Int) (A0_2 : Option Addr) (c0_2 : Nat) (l0_2 : List Int) (r1 : Int) (r2 : Int) (w : World) (hr0_2 : Kd.C (Kd.int .u8) w A0_2 l0_2.length l0_2) (hc0_2 : l0_2.length ≤ c0_2) (h : manifest_Manifest_place.f a0_0 a0_1 l0_2 = some (r1, r2)) :
    Calls Tryd.prog 50 #[.agg #[.int .i64 a0_0, .int .i64 a0_1, .slice A0_2 l0_2.length c0_2]] w fun e w' => e = .returned (.agg #[.int .i64 r1, .int .i64 r2]) ∧ Below w.heap.size w w' := by
  have hu60 := Tryd.underlying60
  have hu98 := Tryd.underlying98
  have HR0_2 := Aside0.mk hr0_2
  have HC0_2 := Aside0.mk hc0_2
  clear hr0_2 hc0_2
  have HB := Aside0.mk (Below.refl w.heap.size w)
  have H : (some (a0_0, a0_1)) = some (r1, r2) := h
  clear h
  simp only [Option.some.injEq, Prod.mk.injEq] at H
  obtain ⟨rfl, rfl⟩ := H
  go_enter Tryd.func50, Tryd.ntmps50
  go_wp2_with (first | ((with_reducible refine gate_dst (N := 1) rfl ?_); refine box_event ?hg (N := 1) ?hd (cs := #[.int .i64 a0_0, .int .i64 a0_1, .slice A0_2 l0_2.length c0_2]) (t := 60) ?hr ?_; (case hd => rfl); (case hg => rfl); (case hr => first | (go_simp; done) | (go_simp; rfl)); intro gb536 hg w2 hbox hb; have n0_ := Aside0.mk (below_step (by repeat (first | (with_reducible first | exact HB.out | apply below_alloc | apply pw_below_drewN | apply below_drew1) | exact HB.out)) hb); have n1_ := Aside0.mk (hbox); have n2_ := Aside0.mk ((by rw [hg]; exact (below_size (by repeat (first | (with_reducible first | exact HB.out | apply below_alloc | apply pw_below_drewN | apply below_drew1) | exact HB.out))) : w.heap.size ≤ gb536)); have n3_ := Aside0.mk ((by rw [hg]; exact (below_size (by repeat (first | (with_reducible first | exact HB.out | apply below_alloc | apply pw_below_drewN | apply below_drew1) | exact HB.out))) : w.heap.size ≤ gb536)); clear HB; have HB := n0_; have BK536 := n1_; have GW536 := n2_; have GE536 := n3_; clear n0_ n1_ n2_ n3_; clear hb hbox hg) | ((with_reducible refine gate_dst (N := 2) rfl ?_); refine box_event ?hg (N := 2) ?hd (cs := #[.int .i64 0, .int .i64 0]) (t := 98) ?hr ?_; (case hd => rfl); (case hg => rfl); (case hr => first | (go_simp; done) | (go_simp; rfl)); intro gb537 hg w3 hbox hb; have n0_ := Aside0.mk (blk_below (g := gb536) (o := .cells #[.int .i64 a0_0, .int .i64 a0_1, .slice A0_2 l0_2.length c0_2] 60 (0, 0)) (by (with_reducible repeat (first | refine blk_drewN ?_ _ | refine blk_drew ?_ | refine blk_alloc ?_ _)); exact BK536.out) hb); have n1_ := Aside0.mk (below_step (by repeat (first | (with_reducible first | exact HB.out | apply below_alloc | apply pw_below_drewN | apply below_drew1 | refine below_set ?_ GE536.out) | exact HB.out)) hb); have n2_ := Aside0.mk (hbox); have n3_ := Aside0.mk ((by rw [hg]; exact (below_size (by repeat (first | (with_reducible first | exact HB.out | apply below_alloc | apply pw_below_drewN | apply below_drew1 | refine below_set ?_ GE536.out) | exact HB.out))) : w.heap.size ≤ gb537)); have n4_ := Aside0.mk ((by rw [hg]; exact (below_size (by repeat (first | (with_reducible first | exact HB.out | apply below_alloc | apply pw_below_drewN | apply below_drew1 | refine below_set ?_ GE536.out) | exact HB.out))) : w.heap.size ≤ gb537)); have n5_ := Aside0.mk ((by rw [hg]; exact Nat.ne_of_lt (blk_lt (g := gb536) (o := .cells #[.int .i64 a0_0, .int .i64 a0_1, .slice A0_2 l0_2.length c0_2] 60 (0, 0)) (by (with_reducible repeat (first | refine blk_drewN ?_ _ | refine blk_drew ?_ | refine blk_alloc ?_ _)); exact BK536.out)) : gb536 ≠ gb537)); have n6_ := Aside0.mk ((by rw [hg]; exact Nat.ne_of_gt (blk_lt (g := gb536) (o := .cells #[.int .i64 a0_0, .int .i64 a0_1, .slice A0_2 l0_2.length c0_2] 60 (0, 0)) (by (with_reducible repeat (first | refine blk_drewN ?_ _ | refine blk_drew ?_ | refine blk_alloc ?_ _)); exact BK536.out)) : gb537 ≠ gb536)); clear BK536; clear HB; have BK536 := n0_; have HB := n1_; have BK537 := n2_; have GW537 := n3_; have GE537 := n4_; have NB536_537 := n5_; have NB537_536 := n6_; clear n0_ n1_ n2_ n3_ n4_ n5_ n6_; clear hb hbox hg; have hnb4 := NB536_537.out; have hnc4 := NB537_536.out; have hcz5_0 : w3.cell? ⟨gb536, 0, none⟩ = some (.int .i64 a0_0) := (blk_cell BK536.out 0).trans rfl; have hcz5_1 : w3.cell? ⟨gb536, 1, none⟩ = some (.int .i64 a0_1) := (blk_cell BK536.out 1).trans rfl; have hcz5_2 : w3.cell? ⟨gb536, 2, none⟩ = some (.slice A0_2 l0_2.length c0_2) := (blk_cell BK536.out 2).trans rfl; have hfz5_0 := blk_frozen BK536.out 0; have hfz5_1 := blk_frozen BK536.out 1; have hfz5_2 := blk_frozen BK536.out 2; have hcz6_0 : w3.cell? ⟨gb537, 0, none⟩ = some (.int .i64 0) := (blk_cell BK537.out 0).trans rfl; have hcz6_1 : w3.cell? ⟨gb537, 1, none⟩ = some (.int .i64 0) := (blk_cell BK537.out 1).trans rfl; have hfz6_0 := blk_frozen BK537.out 0; have hfz6_1 := blk_frozen BK537.out 1))
  refine bodyPost_ret (results_cell_row rfl _ _ gb537 98 #[.int .i64 a0_0, .int .i64 a0_1] (0, 0) _ rfl (by (with_reducible repeat (first | refine blk_drewN ?_ _ | refine blk_drew ?_ | refine blk_alloc ?_ _)); refine blk_put (cs := #[.int .i64 a0_0, .int .i64 0]) ?_ 1 _ rfl; (with_reducible repeat (first | refine blk_drewN ?_ _ | refine blk_drew ?_ | refine blk_alloc ?_ _)); refine blk_put (cs := #[.int .i64 0, .int .i64 0]) ?_ 0 _ rfl; (with_reducible repeat (first | refine blk_drewN ?_ _ | refine blk_drew ?_ | refine blk_alloc ?_ _)); exact BK537.out) Tryd.underlying98 rfl (by kernel_rfl)) rfl ?_
  exact ⟨by first | rfl | (simp [errW_none, errW_some] <;> rfl) | (simp [*, errW_none, errW_some] <;> rfl), by repeat (first | (with_reducible first | exact HB.out | apply below_alloc | apply pw_below_drewN | apply below_drew1 | refine below_set ?_ GE536.out | refine below_set ?_ GE537.out) | exact HB.out)⟩

end Go.Proofs.YtonpiacnljcohaaDoor.PA

-- Written by a program of this session (wip/tools/myprint.py), out of the translation's print. Lean checks it.
namespace Go.Proofs.YtonpiacnljcohaaDoor.PA
open Go.RowKit Go.Proofs.YtonpiacnljcohaaDoorW.PrintWords Go.Proofs.YtonpiacnljcohaaDoorW.PrintLast Go.Proofs.YtonpiacnljcohaaDoorW.PrintMore
attribute [local go_sem] max2_int min2_int max_two min_two max_three min_three max_four min_four   -- for this text's walks alone
set_option linter.unusedVariables false
set_option linter.unusedSimpArgs false

attribute [local go_sem high] eqA98
/-! ### manifest_Same: function 32 -/
def manifest_Same.f (a0_0 : Int) (a0_1 : Int) (l0_2 : List Int) (a1_0 : Int) (a1_1 : Int) (l1_2 : List Int) : Option (Bool) := (manifest_Manifest_place.f a0_0 a0_1 l0_2).bind fun bt540 => ((manifest_Manifest_place.f a1_0 a1_1 l1_2).bind fun bt542 => (if (bt540.1 == bt542.1 && (bt540.2 == bt542.2)) = true then ((bytes_Equal.f l0_2 l1_2).bind fun t544 => (some t544)) else (some false)))
def manifest_Same.T1 : Bool × List (List Nat × List Nat) := (true, [([], []), ([0], [0]), ([], []), ([2, 1], [2]), ([1, 3], [1, 3]), ([4, 3], [4]), ([5], [5]), ([6, 5], [5, 6]), ([5], [5]), ([8, 5], [5, 8]), ([7, 9, 5, 5], [5, 7, 9]), ([5, 10], [5, 10]), ([11, 10, 0, 1, 2, 3, 4, 5, 6, 7, 8, 9, 10, 11], [11])])
def manifest_Same.B1 : List Nat := [0, 1, 0, 7, 15, 31, 63, 127, 63, 319, 1023, 2047, 4095]
theorem manifest_Same.tab1 : rtab .any (opsOf Tryd.f32 1) = manifest_Same.T1 := by kernel_rfl
theorem manifest_Same.bits1 : waitsOk manifest_Same.T1.2 manifest_Same.B1 = true := by kernel_rfl
set_option maxHeartbeats 8000000 in
set_option maxRecDepth 100000 in
theorem manifest_Same.calls (a0_0 : Int) (a0_1 : Int) (A0_2 : Option Addr) (c0_2 : Nat) (l0_2 : List Int) (a1_0 : Int) (a1_1 : Int) (A1_2 : Option Addr) (c1_2 : Nat) (l1_2 : List Int) (r : Bool) (w : World) (hr0_2 : Kd.C (Kd.int .u8) w A0_2 l0_2.length l0_2) (hc0_2 : l0_2.length ≤ c0_2) (hr1_2 : Kd.C (Kd.int .u8) w A1_2 l1_2.length l1_2) (hc1_2 : l1_2.length ≤ c1_2) (h : manifest_Same.f a0_0 a0_1 l0_2 a1_0 a1_1 l1_2 = some r) :
    Calls Tryd.prog 32 #[.agg #[.int .i64 a0_0, .int .i64 a0_1, .slice A0_2 l0_2.length c0_2], .agg #[.int .i64 a1_0, .int .i64 a1_1, .slice A1_2 l1_2.length c1_2]] w fun e w' => e = .returned (.bool r) ∧ Below w.heap.size w w' := by
  have hu60 := Tryd.underlying60
  have HR0_2 := Aside0.mk hr0_2
  have HC0_2 := Aside0.mk hc0_2
  clear hr0_2 hc0_2
  have HR1_2 := Aside0.mk hr1_2
  have HC1_2 := Aside0.mk hc1_2
  clear hr1_2 hc1_2
  have HB := Aside0.mk (Below.refl w.heap.size w)
  have H : ((manifest_Manifest_place.f a0_0 a0_1 l0_2).bind fun bt540 => ((manifest_Manifest_place.f a1_0 a1_1 l1_2).bind fun bt542 => (if (bt540.1 == bt542.1 && (bt540.2 == bt542.2)) = true then ((bytes_Equal.f l0_2 l1_2).bind fun t544 => (some t544)) else (some false)))) = some r := h
  clear h
  replace H := Option.bind_eq_some_iff.mp H
  obtain ⟨⟨t540, t541⟩, A30, H⟩ := H
  replace H : ((manifest_Manifest_place.f a1_0 a1_1 l1_2).bind fun bt542 => (if (t540 == bt542.1 && (t541 == bt542.2)) = true then ((bytes_Equal.f l0_2 l1_2).bind fun t544 => (some t544)) else (some false))) = some r := H
  have A3 := Aside0.mk A30
  clear A30
  replace H := Option.bind_eq_some_iff.mp H
  obtain ⟨⟨t542, t543⟩, A40, H⟩ := H
  replace H : (if (t540 == t542 && (t541 == t543)) = true then ((bytes_Equal.f l0_2 l1_2).bind fun t544 => (some t544)) else (some false)) = some r := H
  have A4 := Aside0.mk A40
  clear A40
  by_cases c5 : (t540 == t542 && (t541 == t543)) = true
  · rw [if_pos c5] at H
    have c5b0 : (t540 == t542 && (t541 == t543)) = true := c5
    (try (have c5b1 : decide (t540 = t542 && (t541 == t543)) = true := by simpa using c5))
    (try (have c5b2 : (t540 == t542 && (t541 == t543)) = true := by simpa using c5))
    clear c5
    replace H := Option.bind_eq_some_iff.mp H
    obtain ⟨t544, A60, H⟩ := H
    replace H : (some t544) = some r := H
    have A6 := Aside0.mk A60
    clear A60
    obtain rfl := Option.some.inj H
    go_enter Tryd.func32, Tryd.ntmps32
    try go_wp2_with (first | ((with_reducible refine gate_dst (N := 2) rfl ?_); refine box_event ?hg (N := 2) ?hd (cs := #[.int .i64 a0_0, .int .i64 a0_1, .slice A0_2 l0_2.length c0_2]) (t := 60) ?hr ?_; (case hd => rfl); (case hg => rfl); (case hr => first | (go_simp; done) | (go_simp; rfl)); intro gb538 hg w7 hbox hb; have n0_ := Aside0.mk (below_step (by repeat (first | (with_reducible first | exact HB.out | apply below_alloc | apply pw_below_drewN | apply below_drew1) | exact HB.out)) hb); have n1_ := Aside0.mk (hbox); have n2_ := Aside0.mk ((by rw [hg]; exact (below_size (by repeat (first | (with_reducible first | exact HB.out | apply below_alloc | apply pw_below_drewN | apply below_drew1) | exact HB.out))) : w.heap.size ≤ gb538)); have n3_ := Aside0.mk ((by rw [hg]; exact (below_size (by repeat (first | (with_reducible first | exact HB.out | apply below_alloc | apply pw_below_drewN | apply below_drew1) | exact HB.out))) : w.heap.size ≤ gb538)); clear HB; have HB := n0_; have BK538 := n1_; have GW538 := n2_; have GE538 := n3_; clear n0_ n1_ n2_ n3_; clear hb hbox hg) | ((with_reducible refine gate_dst (N := 3) rfl ?_); refine box_event ?hg (N := 3) ?hd (cs := #[.int .i64 a1_0, .int .i64 a1_1, .slice A1_2 l1_2.length c1_2]) (t := 60) ?hr ?_; (case hd => rfl); (case hg => rfl); (case hr => first | (go_simp; done) | (go_simp; rfl)); intro gb539 hg w8 hbox hb; have n0_ := Aside0.mk (blk_below (g := gb538) (o := .cells #[.int .i64 a0_0, .int .i64 a0_1, .slice A0_2 l0_2.length c0_2] 60 (0, 0)) (by (with_reducible repeat (first | refine blk_drewN ?_ _ | refine blk_drew ?_ | refine blk_alloc ?_ _)); exact BK538.out) hb); have n1_ := Aside0.mk (below_step (by repeat (first | (with_reducible first | exact HB.out | apply below_alloc | apply pw_below_drewN | apply below_drew1 | refine below_set ?_ GE538.out) | exact HB.out)) hb); have n2_ := Aside0.mk (hbox); have n3_ := Aside0.mk ((by rw [hg]; exact (below_size (by repeat (first | (with_reducible first | exact HB.out | apply below_alloc | apply pw_below_drewN | apply below_drew1 | refine below_set ?_ GE538.out) | exact HB.out))) : w.heap.size ≤ gb539)); have n4_ := Aside0.mk ((by rw [hg]; exact (below_size (by repeat (first | (with_reducible first | exact HB.out | apply below_alloc | apply pw_below_drewN | apply below_drew1 | refine below_set ?_ GE538.out) | exact HB.out))) : w.heap.size ≤ gb539)); have n5_ := Aside0.mk ((by rw [hg]; exact Nat.ne_of_lt (blk_lt (g := gb538) (o := .cells #[.int .i64 a0_0, .int .i64 a0_1, .slice A0_2 l0_2.length c0_2] 60 (0, 0)) (by (with_reducible repeat (first | refine blk_drewN ?_ _ | refine blk_drew ?_ | refine blk_alloc ?_ _)); exact BK538.out)) : gb538 ≠ gb539)); have n6_ := Aside0.mk ((by rw [hg]; exact Nat.ne_of_gt (blk_lt (g := gb538) (o := .cells #[.int .i64 a0_0, .int .i64 a0_1, .slice A0_2 l0_2.length c0_2] 60 (0, 0)) (by (with_reducible repeat (first | refine blk_drewN ?_ _ | refine blk_drew ?_ | refine blk_alloc ?_ _)); exact BK538.out)) : gb539 ≠ gb538)); clear BK538; clear HB; have BK538 := n0_; have HB := n1_; have BK539 := n2_; have GW539 := n3_; have GE539 := n4_; have NB538_539 := n5_; have NB539_538 := n6_; clear n0_ n1_ n2_ n3_ n4_ n5_ n6_; clear hb hbox hg))
    have n0_ := Aside0.mk (blk_drew BK538.out)
    have n1_ := Aside0.mk (blk_drew BK539.out)
    have n2_ := Aside0.mk (below_drew1 HB.out)
    clear BK538
    clear BK539
    clear HB
    have BK538 := n0_
    have BK539 := n1_
    have HB := n2_
    clear n0_ n1_ n2_
    refine start_ (n := 13) (S := fun w' => w'.cell? ⟨gb538, 0, none⟩ = some (.int .i64 a0_0) ∧ w'.cell? ⟨gb538, 1, none⟩ = some (.int .i64 a0_1) ∧ w'.cell? ⟨gb538, 2, none⟩ = some (.slice A0_2 l0_2.length c0_2) ∧ w'.cell? ⟨gb539, 0, none⟩ = some (.int .i64 a1_0) ∧ w'.cell? ⟨gb539, 1, none⟩ = some (.int .i64 a1_1) ∧ w'.cell? ⟨gb539, 2, none⟩ = some (.slice A1_2 l1_2.length c1_2)) (ds := []) #[false, false, false, false, false, false, false, false, false, false, false, false, false] (by kernel_rfl) rfl rfl ⟨(blk_cell BK538.out 0).trans rfl, (blk_cell BK538.out 1).trans rfl, (blk_cell BK538.out 2).trans rfl, (blk_cell BK539.out 0).trans rfl, (blk_cell BK539.out 1).trans rfl, (blk_cell BK539.out 2).trans rfl⟩ (fun hHeld => ?_); refine with_tabW manifest_Same.tab1 manifest_Same.bits1 (fun HT_ HW_ => ?_)
    generalize w8.drew = w9 at BK538 BK539 HB hHeld ⊢
    refine take_ (i := 0) (N := some 5) (v := ?_) (a' := ?_) #[true, false, false, false, false, false, false, false, false, false, false, false, false] rfl rfl (take_ofW HT_.out HW_.out (by kernel_rfl)) (fun _ _ _ h => h) (Or.inl ⟨by rfl, ?_⟩) hHeld ?_ ?_
    rotate_left
    · rintro w' ⟨s0, s1, s2, s3, s4, s5⟩
      go_simp
      with_reducible rfl
    rotate_left
    · simp only [Act.put, List.setIfInBounds_toArray, List.set_cons_zero, List.set_cons_succ, i64_w, i32_w]
      rfl
    refine take_ (i := 2) (N := some 7) (v := ?_) (a' := ?_) #[true, false, true, false, false, false, false, false, false, false, false, false, false] rfl rfl (take_ofW HT_.out HW_.out (by kernel_rfl)) (fun _ _ _ h => h) (Or.inl ⟨by rfl, ?_⟩) hHeld ?_ ?_
    rotate_left
    · rintro w' ⟨s0, s1, s2, s3, s4, s5⟩
      go_simp
      with_reducible rfl
    rotate_left
    · simp only [Act.put, List.setIfInBounds_toArray, List.set_cons_zero, List.set_cons_succ, i64_w, i32_w]
      rfl
    refine one_ (i := 1) (N := some 6) #[true, true, true, false, false, false, false, false, false, false, false, false, false] rfl rfl (one_of HT_.out (by kernel_rfl)) (by decide) (fun K hK => ?_)
    refine goes_ Tryd.func50 (by kernel_rfl) rfl #[.agg #[.int .i64 a0_0, .int .i64 a0_1, .slice A0_2 l0_2.length c0_2]] (by rfl) rfl rfl (by (try simp only [List.map_toArray, List.map_cons, List.map_nil]); first | done | rfl | (simp only [List.length_drop, List.length_take]; rfl)) ?_
    with_reducible refine (manifest_Manifest_place.calls a0_0 a0_1 _ _ l0_2 t540 t541 _ ?side1 ?side2 A3.out).mono ?_
    (case side1 => repeat (first | exact (Kd.C_below HR0_2.out HB.out) | (with_reducible refine Kd.C_alloc ?_ _) | (with_reducible refine Kd.C_drewN ?_ _) | (with_reducible refine Kd.C_drew ?_)))
    (case side2 => exact HC0_2.out)
    rintro e w10 ⟨rfl, hb⟩
    refine ⟨_, rfl, ?_⟩
    have n0_ := Aside0.mk (blk_below (g := gb538) (o := .cells #[.int .i64 a0_0, .int .i64 a0_1, .slice A0_2 l0_2.length c0_2] 60 (0, 0)) (by (with_reducible repeat (first | refine blk_drewN ?_ _ | refine blk_drew ?_ | refine blk_alloc ?_ _)); exact BK538.out) hb)
    have n1_ := Aside0.mk (blk_below (g := gb539) (o := .cells #[.int .i64 a1_0, .int .i64 a1_1, .slice A1_2 l1_2.length c1_2] 60 (0, 0)) (by (with_reducible repeat (first | refine blk_drewN ?_ _ | refine blk_drew ?_ | refine blk_alloc ?_ _)); exact BK539.out) hb)
    have n2_ := Aside0.mk (below_step (by repeat (first | (with_reducible first | exact HB.out | apply below_alloc | apply pw_below_drewN | apply below_drew1 | refine below_set ?_ GE538.out | refine below_set ?_ GE539.out) | exact HB.out)) hb)
    clear BK538
    clear BK539
    clear HB
    have BK538 := n0_
    have BK539 := n1_
    have HB := n2_
    clear n0_ n1_ n2_
    (try clear hb)
    (try clear hb2)
    (try clear hk)
    (try clear hi)
    refine hK.out _ _ ⟨(blk_cell BK538.out 0).trans rfl, (blk_cell BK538.out 1).trans rfl, (blk_cell BK538.out 2).trans rfl, (blk_cell BK539.out 0).trans rfl, (blk_cell BK539.out 1).trans rfl, (blk_cell BK539.out 2).trans rfl⟩ (fun hHeld => ?_)
    clear hK K
    refine norm_ (a' := ?_) ?_ ?_
    rotate_left
    · show Act.put _ (some 6) _ = _
      simp only [Act.put, List.setIfInBounds_toArray, List.set_cons_zero, List.set_cons_succ, i64_w, i32_w]
      rfl
    refine one_ (i := 3) (N := some 8) #[true, true, true, true, false, false, false, false, false, false, false, false, false] rfl rfl (one_of HT_.out (by kernel_rfl)) (by decide) (fun K hK => ?_)
    refine goes_ Tryd.func50 (by kernel_rfl) rfl #[.agg #[.int .i64 a1_0, .int .i64 a1_1, .slice A1_2 l1_2.length c1_2]] (by rfl) rfl rfl (by (try simp only [List.map_toArray, List.map_cons, List.map_nil]); first | done | rfl | (simp only [List.length_drop, List.length_take]; rfl)) ?_
    with_reducible refine (manifest_Manifest_place.calls a1_0 a1_1 _ _ l1_2 t542 t543 _ ?side1 ?side2 A4.out).mono ?_
    (case side1 => repeat (first | exact (Kd.C_below HR1_2.out HB.out) | (with_reducible refine Kd.C_alloc ?_ _) | (with_reducible refine Kd.C_drewN ?_ _) | (with_reducible refine Kd.C_drew ?_)))
    (case side2 => exact HC1_2.out)
    rintro e w11 ⟨rfl, hb⟩
    refine ⟨_, rfl, ?_⟩
    have n0_ := Aside0.mk (blk_below (g := gb538) (o := .cells #[.int .i64 a0_0, .int .i64 a0_1, .slice A0_2 l0_2.length c0_2] 60 (0, 0)) (by (with_reducible repeat (first | refine blk_drewN ?_ _ | refine blk_drew ?_ | refine blk_alloc ?_ _)); exact BK538.out) hb)
    have n1_ := Aside0.mk (blk_below (g := gb539) (o := .cells #[.int .i64 a1_0, .int .i64 a1_1, .slice A1_2 l1_2.length c1_2] 60 (0, 0)) (by (with_reducible repeat (first | refine blk_drewN ?_ _ | refine blk_drew ?_ | refine blk_alloc ?_ _)); exact BK539.out) hb)
    have n2_ := Aside0.mk (below_step (by repeat (first | (with_reducible first | exact HB.out | apply below_alloc | apply pw_below_drewN | apply below_drew1 | refine below_set ?_ GE538.out | refine below_set ?_ GE539.out) | exact HB.out)) hb)
    clear BK538
    clear BK539
    clear HB
    have BK538 := n0_
    have BK539 := n1_
    have HB := n2_
    clear n0_ n1_ n2_
    (try clear hb)
    (try clear hb2)
    (try clear hk)
    (try clear hi)
    refine hK.out _ _ ⟨(blk_cell BK538.out 0).trans rfl, (blk_cell BK538.out 1).trans rfl, (blk_cell BK538.out 2).trans rfl, (blk_cell BK539.out 0).trans rfl, (blk_cell BK539.out 1).trans rfl, (blk_cell BK539.out 2).trans rfl⟩ (fun hHeld => ?_)
    clear hK K
    refine norm_ (a' := ?_) ?_ ?_
    rotate_left
    · show Act.put _ (some 8) _ = _
      simp only [Act.put, List.setIfInBounds_toArray, List.set_cons_zero, List.set_cons_succ, i64_w, i32_w]
      rfl
    refine pure_ (i := 4) (N := some 9) (v := ?_) (a' := ?_) #[true, true, true, true, true, false, false, false, false, false, false, false, false] rfl rfl (any_of HT_.out (by kernel_rfl)) (fun _ _ _ h => h) (Or.inl ⟨by rfl, ?_⟩) ?_ ?_
    rotate_left
    · intro w'
      go_simp
      with_reducible rfl
    rotate_left
    · simp only [Act.put, List.setIfInBounds_toArray, List.set_cons_zero, List.set_cons_succ, i64_w, i32_w]
      rfl
    refine pure_ (i := 5) (N := some 10) (v := ?_) (a' := ?_) #[true, true, true, true, true, true, false, false, false, false, false, false, false] rfl rfl (any_of HT_.out (by kernel_rfl)) (fun _ _ _ h => h) (Or.inl ⟨by rfl, ?_⟩) ?_ ?_
    rotate_left
    · intro w'
      go_simp
      with_reducible rfl
    rotate_left
    · simp only [Act.put, List.setIfInBounds_toArray, List.set_cons_zero, List.set_cons_succ, i64_w, i32_w]
      rfl
    refine pure_ (i := 6) (N := some 11) (v := ?_) (a' := ?_) #[true, true, true, true, true, true, true, false, false, false, false, false, false] rfl rfl (any_of HT_.out (by kernel_rfl)) (fun _ _ _ h => h) (Or.inl ⟨by rfl, ?_⟩) ?_ ?_
    rotate_left
    · intro w'
      go_simp
      with_reducible rfl
    rotate_left
    · simp only [Act.put, List.setIfInBounds_toArray, List.set_cons_zero, List.set_cons_succ, i64_w, i32_w]
      rfl
    refine pure_ (i := 8) (N := some 13) (v := ?_) (a' := ?_) #[true, true, true, true, true, true, true, false, true, false, false, false, false] rfl rfl (any_of HT_.out (by kernel_rfl)) (fun _ _ _ h => h) (Or.inl ⟨by rfl, ?_⟩) ?_ ?_
    rotate_left
    · intro w'
      go_simp
      with_reducible rfl
    rotate_left
    · simp only [Act.put, List.setIfInBounds_toArray, List.set_cons_zero, List.set_cons_succ, i64_w, i32_w]
      rfl
    refine take_ (i := 7) (N := some 12) (v := ?_) (a' := ?_) #[true, true, true, true, true, true, true, true, true, false, false, false, false] rfl rfl (take_ofW HT_.out HW_.out (by kernel_rfl)) (fun _ _ _ h => h) (Or.inl ⟨by rfl, ?_⟩) hHeld ?_ ?_
    rotate_left
    · rintro w' ⟨s0, s1, s2, s3, s4, s5⟩
      go_simp
      with_reducible rfl
    rotate_left
    · simp only [Act.put, List.setIfInBounds_toArray, List.set_cons_zero, List.set_cons_succ, i64_w, i32_w]
      rfl
    refine take_ (i := 9) (N := some 14) (v := ?_) (a' := ?_) #[true, true, true, true, true, true, true, true, true, true, false, false, false] rfl rfl (take_ofW HT_.out HW_.out (by kernel_rfl)) (fun _ _ _ h => h) (Or.inl ⟨by rfl, ?_⟩) hHeld ?_ ?_
    rotate_left
    · rintro w' ⟨s0, s1, s2, s3, s4, s5⟩
      go_simp
      with_reducible rfl
    rotate_left
    · simp only [Act.put, List.setIfInBounds_toArray, List.set_cons_zero, List.set_cons_succ, i64_w, i32_w]
      rfl
    refine one_ (i := 10) (N := some 15) #[true, true, true, true, true, true, true, true, true, true, true, false, false] rfl rfl (one_of HT_.out (by kernel_rfl)) (by decide) (fun K hK => ?_)
    refine goes_ Tryd.func48 (by kernel_rfl) rfl #[.slice A0_2 l0_2.length c0_2, .slice A1_2 l1_2.length c1_2] (by rfl) rfl rfl (by (try simp only [List.map_toArray, List.map_cons, List.map_nil]); first | done | rfl | (simp only [List.length_drop, List.length_take]; rfl)) ?_
    with_reducible refine (bytes_Equal.calls _ _ l0_2 _ _ l1_2 t544 _ ?side1 ?side2 ?side3 ?side4 A6.out).mono ?_
    (case side1 => repeat (first | exact (Kd.C_below HR0_2.out HB.out) | (with_reducible refine Kd.C_alloc ?_ _) | (with_reducible refine Kd.C_drewN ?_ _) | (with_reducible refine Kd.C_drew ?_)))
    (case side2 => exact HC0_2.out)
    (case side3 => repeat (first | exact (Kd.C_below HR1_2.out HB.out) | (with_reducible refine Kd.C_alloc ?_ _) | (with_reducible refine Kd.C_drewN ?_ _) | (with_reducible refine Kd.C_drew ?_)))
    (case side4 => exact HC1_2.out)
    rintro e w' ⟨rfl, ⟨nd, rfl⟩⟩
    refine ⟨_, rfl, ?_⟩
    refine hK.out _ _ ⟨(blk_cell BK538.out 0).trans rfl, (blk_cell BK538.out 1).trans rfl, (blk_cell BK538.out 2).trans rfl, (blk_cell BK539.out 0).trans rfl, (blk_cell BK539.out 1).trans rfl, (blk_cell BK539.out 2).trans rfl⟩ (fun hHeld => ?_)
    clear hK K
    refine norm_ (a' := ?_) ?_ ?_
    rotate_left
    · show Act.put _ (some 15) _ = _
      simp only [Act.put, List.setIfInBounds_toArray, List.set_cons_zero, List.set_cons_succ, i64_w, i32_w]
      rfl
    refine pure_ (i := 11) (N := some 16) (v := ?_) (a' := ?_) #[true, true, true, true, true, true, true, true, true, true, true, true, false] rfl rfl (any_of HT_.out (by kernel_rfl)) (fun _ _ _ h => h) (Or.inl ⟨by rfl, ?_⟩) ?_ ?_
    rotate_left
    · intro w'
      go_simp
      with_reducible rfl
    rotate_left
    · simp only [Act.put, List.setIfInBounds_toArray, List.set_cons_zero, List.set_cons_succ, i64_w, i32_w]
      rfl
    refine pure_ (i := 12) (N := some 4) (v := ?_) (a' := ?_) #[true, true, true, true, true, true, true, true, true, true, true, true, true] rfl rfl (any_of HT_.out (by kernel_rfl)) (fun _ _ _ h => h) (Or.inl ⟨by rfl, ?_⟩) ?_ ?_
    rotate_left
    · intro w'
      go_simp
      with_reducible rfl
    rotate_left
    · simp only [Act.put, List.setIfInBounds_toArray, List.set_cons_zero, List.set_cons_succ, i64_w, i32_w]
      rfl
    refine done_ (done_of HT_.out (by kernel_rfl)) ?_
    try go_wp2
    go_ret
    exact ⟨by first | rfl | (simp [errW_none, errW_some] <;> rfl) | (simp [*, errW_none, errW_some] <;> rfl), by repeat (first | (with_reducible first | exact HB.out | apply below_alloc | apply pw_below_drewN | apply below_drew1 | refine below_set ?_ GE538.out | refine below_set ?_ GE539.out) | exact HB.out)⟩
  · rw [if_neg c5] at H
    have c5b0 : (t540 == t542 && (t541 == t543)) = false := by simpa using c5
    (try (have c5b1 : decide (t540 = t542 && (t541 == t543)) = false := by simpa using c5))
    (try (have c5b2 : (t540 == t542 && (t541 == t543)) = false := by simpa using c5))
    (try (have c5b3 : ¬ (t540 = t542 && (t541 == t543)) := by simpa using c5))
    clear c5
    obtain rfl := Option.some.inj H
    go_enter Tryd.func32, Tryd.ntmps32
    try go_wp2_with (first | ((with_reducible refine gate_dst (N := 2) rfl ?_); refine box_event ?hg (N := 2) ?hd (cs := #[.int .i64 a0_0, .int .i64 a0_1, .slice A0_2 l0_2.length c0_2]) (t := 60) ?hr ?_; (case hd => rfl); (case hg => rfl); (case hr => first | (go_simp; done) | (go_simp; rfl)); intro gb538 hg w12 hbox hb; have n0_ := Aside0.mk (below_step (by repeat (first | (with_reducible first | exact HB.out | apply below_alloc | apply pw_below_drewN | apply below_drew1) | exact HB.out)) hb); have n1_ := Aside0.mk (hbox); have n2_ := Aside0.mk ((by rw [hg]; exact (below_size (by repeat (first | (with_reducible first | exact HB.out | apply below_alloc | apply pw_below_drewN | apply below_drew1) | exact HB.out))) : w.heap.size ≤ gb538)); have n3_ := Aside0.mk ((by rw [hg]; exact (below_size (by repeat (first | (with_reducible first | exact HB.out | apply below_alloc | apply pw_below_drewN | apply below_drew1) | exact HB.out))) : w.heap.size ≤ gb538)); clear HB; have HB := n0_; have BK538 := n1_; have GW538 := n2_; have GE538 := n3_; clear n0_ n1_ n2_ n3_; clear hb hbox hg) | ((with_reducible refine gate_dst (N := 3) rfl ?_); refine box_event ?hg (N := 3) ?hd (cs := #[.int .i64 a1_0, .int .i64 a1_1, .slice A1_2 l1_2.length c1_2]) (t := 60) ?hr ?_; (case hd => rfl); (case hg => rfl); (case hr => first | (go_simp; done) | (go_simp; rfl)); intro gb539 hg w13 hbox hb; have n0_ := Aside0.mk (blk_below (g := gb538) (o := .cells #[.int .i64 a0_0, .int .i64 a0_1, .slice A0_2 l0_2.length c0_2] 60 (0, 0)) (by (with_reducible repeat (first | refine blk_drewN ?_ _ | refine blk_drew ?_ | refine blk_alloc ?_ _)); exact BK538.out) hb); have n1_ := Aside0.mk (below_step (by repeat (first | (with_reducible first | exact HB.out | apply below_alloc | apply pw_below_drewN | apply below_drew1 | refine below_set ?_ GE538.out) | exact HB.out)) hb); have n2_ := Aside0.mk (hbox); have n3_ := Aside0.mk ((by rw [hg]; exact (below_size (by repeat (first | (with_reducible first | exact HB.out | apply below_alloc | apply pw_below_drewN | apply below_drew1 | refine below_set ?_ GE538.out) | exact HB.out))) : w.heap.size ≤ gb539)); have n4_ := Aside0.mk ((by rw [hg]; exact (below_size (by repeat (first | (with_reducible first | exact HB.out | apply below_alloc | apply pw_below_drewN | apply below_drew1 | refine below_set ?_ GE538.out) | exact HB.out))) : w.heap.size ≤ gb539)); have n5_ := Aside0.mk ((by rw [hg]; exact Nat.ne_of_lt (blk_lt (g := gb538) (o := .cells #[.int .i64 a0_0, .int .i64 a0_1, .slice A0_2 l0_2.length c0_2] 60 (0, 0)) (by (with_reducible repeat (first | refine blk_drewN ?_ _ | refine blk_drew ?_ | refine blk_alloc ?_ _)); exact BK538.out)) : gb538 ≠ gb539)); have n6_ := Aside0.mk ((by rw [hg]; exact Nat.ne_of_gt (blk_lt (g := gb538) (o := .cells #[.int .i64 a0_0, .int .i64 a0_1, .slice A0_2 l0_2.length c0_2] 60 (0, 0)) (by (with_reducible repeat (first | refine blk_drewN ?_ _ | refine blk_drew ?_ | refine blk_alloc ?_ _)); exact BK538.out)) : gb539 ≠ gb538)); clear BK538; clear HB; have BK538 := n0_; have HB := n1_; have BK539 := n2_; have GW539 := n3_; have GE539 := n4_; have NB538_539 := n5_; have NB539_538 := n6_; clear n0_ n1_ n2_ n3_ n4_ n5_ n6_; clear hb hbox hg))
    have n0_ := Aside0.mk (blk_drew BK538.out)
    have n1_ := Aside0.mk (blk_drew BK539.out)
    have n2_ := Aside0.mk (below_drew1 HB.out)
    clear BK538
    clear BK539
    clear HB
    have BK538 := n0_
    have BK539 := n1_
    have HB := n2_
    clear n0_ n1_ n2_
    refine start_ (n := 13) (S := fun w' => w'.cell? ⟨gb538, 0, none⟩ = some (.int .i64 a0_0) ∧ w'.cell? ⟨gb538, 1, none⟩ = some (.int .i64 a0_1) ∧ w'.cell? ⟨gb538, 2, none⟩ = some (.slice A0_2 l0_2.length c0_2) ∧ w'.cell? ⟨gb539, 0, none⟩ = some (.int .i64 a1_0) ∧ w'.cell? ⟨gb539, 1, none⟩ = some (.int .i64 a1_1) ∧ w'.cell? ⟨gb539, 2, none⟩ = some (.slice A1_2 l1_2.length c1_2)) (ds := []) #[false, false, false, false, false, false, false, false, false, false, false, false, false] (by kernel_rfl) rfl rfl ⟨(blk_cell BK538.out 0).trans rfl, (blk_cell BK538.out 1).trans rfl, (blk_cell BK538.out 2).trans rfl, (blk_cell BK539.out 0).trans rfl, (blk_cell BK539.out 1).trans rfl, (blk_cell BK539.out 2).trans rfl⟩ (fun hHeld => ?_); refine with_tabW manifest_Same.tab1 manifest_Same.bits1 (fun HT_ HW_ => ?_)
    generalize w13.drew = w14 at BK538 BK539 HB hHeld ⊢
    refine take_ (i := 0) (N := some 5) (v := ?_) (a' := ?_) #[true, false, false, false, false, false, false, false, false, false, false, false, false] rfl rfl (take_ofW HT_.out HW_.out (by kernel_rfl)) (fun _ _ _ h => h) (Or.inl ⟨by rfl, ?_⟩) hHeld ?_ ?_
    rotate_left
    · rintro w' ⟨s0, s1, s2, s3, s4, s5⟩
      go_simp
      with_reducible rfl
    rotate_left
    · simp only [Act.put, List.setIfInBounds_toArray, List.set_cons_zero, List.set_cons_succ, i64_w, i32_w]
      rfl
    refine take_ (i := 2) (N := some 7) (v := ?_) (a' := ?_) #[true, false, true, false, false, false, false, false, false, false, false, false, false] rfl rfl (take_ofW HT_.out HW_.out (by kernel_rfl)) (fun _ _ _ h => h) (Or.inl ⟨by rfl, ?_⟩) hHeld ?_ ?_
    rotate_left
    · rintro w' ⟨s0, s1, s2, s3, s4, s5⟩
      go_simp
      with_reducible rfl
    rotate_left
    · simp only [Act.put, List.setIfInBounds_toArray, List.set_cons_zero, List.set_cons_succ, i64_w, i32_w]
      rfl
    refine one_ (i := 1) (N := some 6) #[true, true, true, false, false, false, false, false, false, false, false, false, false] rfl rfl (one_of HT_.out (by kernel_rfl)) (by decide) (fun K hK => ?_)
    refine goes_ Tryd.func50 (by kernel_rfl) rfl #[.agg #[.int .i64 a0_0, .int .i64 a0_1, .slice A0_2 l0_2.length c0_2]] (by rfl) rfl rfl (by (try simp only [List.map_toArray, List.map_cons, List.map_nil]); first | done | rfl | (simp only [List.length_drop, List.length_take]; rfl)) ?_
    with_reducible refine (manifest_Manifest_place.calls a0_0 a0_1 _ _ l0_2 t540 t541 _ ?side1 ?side2 A3.out).mono ?_
    (case side1 => repeat (first | exact (Kd.C_below HR0_2.out HB.out) | (with_reducible refine Kd.C_alloc ?_ _) | (with_reducible refine Kd.C_drewN ?_ _) | (with_reducible refine Kd.C_drew ?_)))
    (case side2 => exact HC0_2.out)
    rintro e w15 ⟨rfl, hb⟩
    refine ⟨_, rfl, ?_⟩
    have n0_ := Aside0.mk (blk_below (g := gb538) (o := .cells #[.int .i64 a0_0, .int .i64 a0_1, .slice A0_2 l0_2.length c0_2] 60 (0, 0)) (by (with_reducible repeat (first | refine blk_drewN ?_ _ | refine blk_drew ?_ | refine blk_alloc ?_ _)); exact BK538.out) hb)
    have n1_ := Aside0.mk (blk_below (g := gb539) (o := .cells #[.int .i64 a1_0, .int .i64 a1_1, .slice A1_2 l1_2.length c1_2] 60 (0, 0)) (by (with_reducible repeat (first | refine blk_drewN ?_ _ | refine blk_drew ?_ | refine blk_alloc ?_ _)); exact BK539.out) hb)
    have n2_ := Aside0.mk (below_step (by repeat (first | (with_reducible first | exact HB.out | apply below_alloc | apply pw_below_drewN | apply below_drew1 | refine below_set ?_ GE538.out | refine below_set ?_ GE539.out) | exact HB.out)) hb)
    clear BK538
    clear BK539
    clear HB
    have BK538 := n0_
    have BK539 := n1_
    have HB := n2_
    clear n0_ n1_ n2_
    (try clear hb)
    (try clear hb2)
    (try clear hk)
    (try clear hi)
    refine hK.out _ _ ⟨(blk_cell BK538.out 0).trans rfl, (blk_cell BK538.out 1).trans rfl, (blk_cell BK538.out 2).trans rfl, (blk_cell BK539.out 0).trans rfl, (blk_cell BK539.out 1).trans rfl, (blk_cell BK539.out 2).trans rfl⟩ (fun hHeld => ?_)
    clear hK K
    refine norm_ (a' := ?_) ?_ ?_
    rotate_left
    · show Act.put _ (some 6) _ = _
      simp only [Act.put, List.setIfInBounds_toArray, List.set_cons_zero, List.set_cons_succ, i64_w, i32_w]
      rfl
    refine one_ (i := 3) (N := some 8) #[true, true, true, true, false, false, false, false, false, false, false, false, false] rfl rfl (one_of HT_.out (by kernel_rfl)) (by decide) (fun K hK => ?_)
    refine goes_ Tryd.func50 (by kernel_rfl) rfl #[.agg #[.int .i64 a1_0, .int .i64 a1_1, .slice A1_2 l1_2.length c1_2]] (by rfl) rfl rfl (by (try simp only [List.map_toArray, List.map_cons, List.map_nil]); first | done | rfl | (simp only [List.length_drop, List.length_take]; rfl)) ?_
    with_reducible refine (manifest_Manifest_place.calls a1_0 a1_1 _ _ l1_2 t542 t543 _ ?side1 ?side2 A4.out).mono ?_
    (case side1 => repeat (first | exact (Kd.C_below HR1_2.out HB.out) | (with_reducible refine Kd.C_alloc ?_ _) | (with_reducible refine Kd.C_drewN ?_ _) | (with_reducible refine Kd.C_drew ?_)))
    (case side2 => exact HC1_2.out)
    rintro e w16 ⟨rfl, hb⟩
    refine ⟨_, rfl, ?_⟩
    have n0_ := Aside0.mk (blk_below (g := gb538) (o := .cells #[.int .i64 a0_0, .int .i64 a0_1, .slice A0_2 l0_2.length c0_2] 60 (0, 0)) (by (with_reducible repeat (first | refine blk_drewN ?_ _ | refine blk_drew ?_ | refine blk_alloc ?_ _)); exact BK538.out) hb)
    have n1_ := Aside0.mk (blk_below (g := gb539) (o := .cells #[.int .i64 a1_0, .int .i64 a1_1, .slice A1_2 l1_2.length c1_2] 60 (0, 0)) (by (with_reducible repeat (first | refine blk_drewN ?_ _ | refine blk_drew ?_ | refine blk_alloc ?_ _)); exact BK539.out) hb)
    have n2_ := Aside0.mk (below_step (by repeat (first | (with_reducible first | exact HB.out | apply below_alloc | apply pw_below_drewN | apply below_drew1 | refine below_set ?_ GE538.out | refine below_set ?_ GE539.out) | exact HB.out)) hb)
    clear BK538
    clear BK539
    clear HB
    have BK538 := n0_
    have BK539 := n1_
    have HB := n2_
    clear n0_ n1_ n2_
    (try clear hb)
    (try clear hb2)
    (try clear hk)
    (try clear hi)
    refine hK.out _ _ ⟨(blk_cell BK538.out 0).trans rfl, (blk_cell BK538.out 1).trans rfl, (blk_cell BK538.out 2).trans rfl, (blk_cell BK539.out 0).trans rfl, (blk_cell BK539.out 1).trans rfl, (blk_cell BK539.out 2).trans rfl⟩ (fun hHeld => ?_)
    clear hK K
    refine norm_ (a' := ?_) ?_ ?_
    rotate_left
    · show Act.put _ (some 8) _ = _
      simp only [Act.put, List.setIfInBounds_toArray, List.set_cons_zero, List.set_cons_succ, i64_w, i32_w]
      rfl
    refine pure_ (i := 4) (N := some 9) (v := ?_) (a' := ?_) #[true, true, true, true, true, false, false, false, false, false, false, false, false] rfl rfl (any_of HT_.out (by kernel_rfl)) (fun _ _ _ h => h) (Or.inl ⟨by rfl, ?_⟩) ?_ ?_
    rotate_left
    · intro w'
      go_simp
      with_reducible rfl
    rotate_left
    · simp only [Act.put, List.setIfInBounds_toArray, List.set_cons_zero, List.set_cons_succ, i64_w, i32_w]
      rfl
    refine pure_ (i := 5) (N := some 10) (v := ?_) (a' := ?_) #[true, true, true, true, true, true, false, false, false, false, false, false, false] rfl rfl (any_of HT_.out (by kernel_rfl)) (fun _ _ _ h => h) (Or.inl ⟨by rfl, ?_⟩) ?_ ?_
    rotate_left
    · intro w'
      go_simp
      with_reducible rfl
    rotate_left
    · simp only [Act.put, List.setIfInBounds_toArray, List.set_cons_zero, List.set_cons_succ, i64_w, i32_w]
      rfl
    refine pure_ (i := 6) (N := some 11) (v := undef) (a' := ?_) #[true, true, true, true, true, true, true, false, false, false, false, false, false] rfl rfl (any_of HT_.out (by kernel_rfl)) (fun _ _ _ h => h) (Or.inr ⟨by rfl, rfl⟩) ?_ ?_
    rotate_left
    · simp only [Act.put, List.setIfInBounds_toArray, List.set_cons_zero, List.set_cons_succ, i64_w, i32_w]
      rfl
    refine pure_ (i := 7) (N := some 12) (v := undef) (a' := ?_) #[true, true, true, true, true, true, true, true, false, false, false, false, false] rfl rfl (any_of HT_.out (by kernel_rfl)) (fun _ _ _ h => h) (Or.inr ⟨by rfl, rfl⟩) ?_ ?_
    rotate_left
    · simp only [Act.put, List.setIfInBounds_toArray, List.set_cons_zero, List.set_cons_succ, i64_w, i32_w]
      rfl
    refine pure_ (i := 8) (N := some 13) (v := undef) (a' := ?_) #[true, true, true, true, true, true, true, true, true, false, false, false, false] rfl rfl (any_of HT_.out (by kernel_rfl)) (fun _ _ _ h => h) (Or.inr ⟨by rfl, rfl⟩) ?_ ?_
    rotate_left
    · simp only [Act.put, List.setIfInBounds_toArray, List.set_cons_zero, List.set_cons_succ, i64_w, i32_w]
      rfl
    refine pure_ (i := 9) (N := some 14) (v := undef) (a' := ?_) #[true, true, true, true, true, true, true, true, true, true, false, false, false] rfl rfl (any_of HT_.out (by kernel_rfl)) (fun _ _ _ h => h) (Or.inr ⟨by rfl, rfl⟩) ?_ ?_
    rotate_left
    · simp only [Act.put, List.setIfInBounds_toArray, List.set_cons_zero, List.set_cons_succ, i64_w, i32_w]
      rfl
    refine pure_ (i := 10) (N := some 15) (v := undef) (a' := ?_) #[true, true, true, true, true, true, true, true, true, true, true, false, false] rfl rfl (any_of HT_.out (by kernel_rfl)) (fun _ _ _ h => h) (Or.inr ⟨by rfl, rfl⟩) ?_ ?_
    rotate_left
    · simp only [Act.put, List.setIfInBounds_toArray, List.set_cons_zero, List.set_cons_succ, i64_w, i32_w]
      rfl
    refine pure_ (i := 11) (N := some 16) (v := ?_) (a' := ?_) #[true, true, true, true, true, true, true, true, true, true, true, true, false] rfl rfl (any_of HT_.out (by kernel_rfl)) (fun _ _ _ h => h) (Or.inl ⟨by rfl, ?_⟩) ?_ ?_
    rotate_left
    · intro w'
      go_simp
      with_reducible rfl
    rotate_left
    · simp only [Act.put, List.setIfInBounds_toArray, List.set_cons_zero, List.set_cons_succ, i64_w, i32_w]
      rfl
    refine pure_ (i := 12) (N := some 4) (v := ?_) (a' := ?_) #[true, true, true, true, true, true, true, true, true, true, true, true, true] rfl rfl (any_of HT_.out (by kernel_rfl)) (fun _ _ _ h => h) (Or.inl ⟨by rfl, ?_⟩) ?_ ?_
    rotate_left
    · intro w'
      go_simp
      with_reducible rfl
    rotate_left
    · simp only [Act.put, List.setIfInBounds_toArray, List.set_cons_zero, List.set_cons_succ, i64_w, i32_w]
      rfl
    refine done_ (done_of HT_.out (by kernel_rfl)) ?_
    try go_wp2
    go_ret
    exact ⟨by first | rfl | (simp [errW_none, errW_some] <;> rfl) | (simp [*, errW_none, errW_some] <;> rfl), by repeat (first | (with_reducible first | exact HB.out | apply below_alloc | apply pw_below_drewN | apply below_drew1 | refine below_set ?_ GE538.out | refine below_set ?_ GE539.out) | exact HB.out)⟩

end Go.Proofs.YtonpiacnljcohaaDoor.PA

/- Manifests turned: a byte more, a byte less, a byte changed. -/
set_option linter.unusedVariables false
set_option linter.unusedSimpArgs false
namespace Go.Proofs.YtonpiacnljcohaaDoor.MaB
open Go Go.RowKit Go.Proofs.YtonpiacnljcohaaDoor.PA Go.Proofs.YtonpiacnljcohaaDoorW.PrintWords Go.Proofs.YtonpiacnljcohaaDoor.LebT Go.Proofs.YtonpiacnljcohaaDoor.LebP Go.Proofs.YtonpiacnljcohaaDoor.ColT Go.Proofs.YtonpiacnljcohaaDoor.FrT Go.Proofs.YtonpiacnljcohaaDoor.Rdr Go.Proofs.YtonpiacnljcohaaDoor.MaT
theorem rd_head (x : Int) (r : List Int) : rd (x :: r) 0 = x := rfl
theorem opn_sealed (a : Int) (l r : List Int) (ha0 : a ≠ 0) (hl : l.length ≤ 1048576) : opn (sealed a l ++ r) = (a, l, ((sealed a l).length : Int), 0) := by
  have hb : sealed a l ++ r = a :: (putU l.length ++ (l ++ (le4 (crcN (head a l)) ++ r))) := by simp [sealed, head]
  have hp := putU_len64 (n := l.length) (by omega)
  have hpp := putU_len_pos l.length
  have hg : gU 0 0 ((sealed a l ++ r).drop 1) = ((l.length : Int), ((putU l.length).length : Int), 0) := by
    rw [hb, List.drop_one, List.tail_cons]
    have := gU_put l.length 0 0 (l ++ (le4 (crcN (head a l)) ++ r)) (by omega) (by simp) (by simp; omega)
    simpa using this
  have hh : (head a l).length = 1 + (putU l.length).length + l.length := by simp [head]; omega
  have hs : (sealed a l).length = (head a l).length + 4 := by simp [sealed, le4_len]
  unfold opn
  rw [hg]
  have e1 : (1 + ((putU l.length).length : Int) + (l.length : Int)).toNat = (head a l).length := by omega
  have e2 : (1 + ((putU l.length).length : Int) + (l.length : Int) + 4).toNat = (sealed a l).length := by omega
  have e3 : (1 + ((putU l.length).length : Int)).toNat = (a :: putU l.length).length := by simp; omega
  have t1 : (sealed a l ++ r).take (head a l).length = head a l := by
    unfold sealed
    rw [List.append_assoc, List.take_left']
    rfl
  have t2 : (sealed a l ++ r).take (sealed a l).length = sealed a l := List.take_left' rfl
  simp only [e1, e2, e3, t1, t2, if_true]
  rw [if_neg (by rw [List.length_append]; omega), if_neg (by rw [hb, rd_head]; exact ha0), if_neg (by omega), if_neg (by rw [List.length_append]; omega), if_pos (show sealed a l = head a l ++ le4 (crcN (head a l)) from rfl)]
  rw [hb, rd_head]
  have t3 : (head a l).drop (a :: putU l.length).length = l := by
    unfold head
    rw [← List.cons_append, List.drop_left']
    rfl
  rw [t3]
  simp only [Prod.mk.injEq, true_and, and_true]
  omega
theorem gU_cut (m : Nat) : ∀ (i n t : Nat), i + (putU m).length ≤ 10 → t < (putU m).length → gU i n ((putU m).take t) = (0, 0, 3) := by
  induction m using Nat.strongRecOn with
  | _ m ih =>
    intro i n t hi ht
    cases t with
    | zero => rw [List.take_zero]; rfl
    | succ t =>
      by_cases hm : m < 128
      · rw [putU_small hm] at ht; simp at ht
      · rw [putU_big hm] at hi ht ⊢
        simp only [List.length_cons] at hi ht
        have hpos := putU_len_pos (m / 128)
        rw [List.take_succ_cons, gU, if_neg (by omega), if_neg (by omega)]
        exact ih (m / 128) (by omega) (i + 1) _ t (by omega) (by omega)
theorem opn_cut (a : Int) (l : List Int) (ha0 : a ≠ 0) (hl : l.length ≤ 1048576) (j : Nat) (h0 : 0 < j) (hj : j < (sealed a l).length) : opn ((sealed a l).take j) = (0, [], 0, 3) := by
  have hb : sealed a l = a :: (putU l.length ++ (l ++ le4 (crcN (head a l)))) := by simp [sealed, head]
  have hp := putU_len64 (n := l.length) (by omega)
  have hh : (head a l).length = 1 + (putU l.length).length + l.length := by simp [head]; omega
  have hs : (sealed a l).length = (head a l).length + 4 := by simp [sealed, le4_len]
  have hlen : ((sealed a l).take j).length = j := by rw [List.length_take]; omega
  obtain ⟨j', rfl⟩ : ∃ j', j = j' + 1 := ⟨j - 1, by omega⟩
  have hd : ((sealed a l).take (j' + 1)) = a :: ((putU l.length ++ (l ++ le4 (crcN (head a l)))).take j') := by rw [hb, List.take_succ_cons]
  unfold opn
  rw [if_neg (by omega), if_neg (by rw [hd, rd_head]; exact ha0)]
  have hdr : ((sealed a l).take (j' + 1)).drop 1 = (putU l.length ++ (l ++ le4 (crcN (head a l)))).take j' := by rw [hd]; rfl
  rw [hdr]
  by_cases hc : j' < (putU l.length).length
  · rw [List.take_append_of_le_length (by omega), gU_cut l.length 0 0 j' (by omega) hc]
    rfl
  · have hg : gU 0 0 ((putU l.length ++ (l ++ le4 (crcN (head a l)))).take j') = ((l.length : Int), ((putU l.length).length : Int), 0) := by
      rw [List.take_append, List.take_of_length_le (by omega)]
      have := gU_put l.length 0 0 ((l ++ le4 (crcN (head a l))).take (j' - (putU l.length).length)) (by omega) (by simp) (by simp; omega)
      simpa using this
    rw [hg]
    simp only [if_true]
    rw [if_neg (by omega), if_pos (by rw [hlen]; omega)]
theorem xor_cancel {x y p : Nat} (h : x ^^^ p = y ^^^ p) : x = y := by
  have := congrArg (· ^^^ p) h
  simpa [Nat.xor_assoc] using this
theorem xor_cancel' {x y p : Nat} (h : p ^^^ x = p ^^^ y) : x = y := xor_cancel (p := p) (by rw [Nat.xor_comm x, Nat.xor_comm y]; exact h)
theorem high_not {a b : Nat} (ha : a < 4294967296) (hb : b < 4294967296) (h : a / 2 ^^^ 3988292384 = b / 2) : False := by
  have h1 : (a / 2 ^^^ 3988292384).testBit 31 = true := by
    rw [Nat.testBit_xor, Nat.testBit_lt_two_pow (show a / 2 < 2 ^ 31 by omega)]
    decide
  rw [h, Nat.testBit_lt_two_pow (show b / 2 < 2 ^ 31 by omega)] at h1
  cases h1
theorem bs_inj {a b : Nat} (ha : a < 4294967296) (hb : b < 4294967296) (h : bs a = bs b) : a = b := by
  unfold bs at h
  by_cases h1 : a % 2 = 1 <;> by_cases h2 : b % 2 = 1
  · rw [if_pos h1, if_pos h2] at h
    have := xor_cancel h
    omega
  · rw [if_pos h1, if_neg h2] at h
    exact (high_not ha hb h).elim
  · rw [if_neg h1, if_pos h2] at h
    exact (high_not hb ha h.symm).elim
  · rw [if_neg h1, if_neg h2] at h
    omega
theorem b4_inj {a b : Nat} (ha : a < 4294967296) (hb : b < 4294967296) (h : b4 a = b4 b) : a = b :=
  bs_inj ha hb (bs_inj (bs_lt ha) (bs_lt hb) (bs_inj (bs_lt (bs_lt ha)) (bs_lt (bs_lt hb)) (bs_inj (bs_lt (bs_lt (bs_lt ha))) (bs_lt (bs_lt (bs_lt hb))) h)))
theorem b8_inj {a b : Nat} (ha : a < 4294967296) (hb : b < 4294967296) (h : b8 a = b8 b) : a = b := b4_inj ha hb (b4_inj (b4_lt ha) (b4_lt hb) h)
theorem byte_nat {x : Int} (h : isByte x) : x.toNat < 4294967296 := by obtain ⟨h0, h1⟩ := h; omega
theorem fold_inj (l : List Int) (hl : ∀ x ∈ l, isByte x) : ∀ (a b : Nat), a < 4294967296 → b < 4294967296 → fold a l = fold b l → a = b := by
  induction l with
  | nil => intro a b _ _ h; exact h
  | cons x r ih =>
    intro a b ha hb h
    have hx := byte_nat (hl x (by simp))
    have h1 := ih (fun y hy => hl y (by simp [hy])) (b8 (a ^^^ x.toNat)) (b8 (b ^^^ x.toNat)) (b8_lt (xor_lt ha hx)) (b8_lt (xor_lt hb hx)) h
    exact xor_cancel (b8_inj (xor_lt ha hx) (xor_lt hb hx) h1)
theorem fold_append (p q : List Int) (s : Nat) : fold s (p ++ q) = fold (fold s p) q := by unfold fold; rw [List.foldl_append]
theorem crc_set (l : List Int) (hl : ∀ x ∈ l, isByte x) (i : Nat) (hi : i < l.length) (y : Int) (hy : isByte y) (h : crcN (l.set i y) = crcN l) : y = l[i] := by
  have hx := hl l[i] (List.getElem_mem hi)
  have e1 : l = l.take i ++ l[i] :: l.drop (i + 1) := by rw [← List.drop_eq_getElem_cons hi, List.take_append_drop]
  have e2 : l.set i y = l.take i ++ y :: l.drop (i + 1) := List.set_eq_take_append_cons_drop.trans (by rw [if_pos hi])
  have h2 : fold 4294967295 (l.set i y) = fold 4294967295 l := xor_cancel' (p := 4294967295) h
  rw [e2] at h2
  conv at h2 => rhs; rw [e1]
  rw [fold_append, fold_append] at h2
  have hS := fold_lt (l.take i) 4294967295 (by omega) (fun x hx => hl x (List.mem_of_mem_take hx))
  have hd : ∀ x ∈ l.drop (i + 1), isByte x := fun x hx => hl x (List.mem_of_mem_drop hx)
  have h3 := fold_inj (l.drop (i + 1)) hd (b8 (fold 4294967295 (l.take i) ^^^ y.toNat)) (b8 (fold 4294967295 (l.take i) ^^^ l[i].toNat)) (b8_lt (xor_lt hS (byte_nat hy))) (b8_lt (xor_lt hS (byte_nat hx))) h2
  have h4 := xor_cancel' (b8_inj (xor_lt hS (byte_nat hy)) (xor_lt hS (byte_nat hx)) h3)
  have := hy.1
  have := hx.1
  omega
theorem set_bytes {l : List Int} (hl : ∀ x ∈ l, isByte x) (i : Nat) {y : Int} (hy : isByte y) : ∀ x ∈ l.set i y, isByte x := by
  intro x hx
  rcases List.mem_or_eq_of_mem_set hx with h | rfl
  · exact hl x h
  · exact hy
/-- One byte turned: the sum tells it, or the kind is none. -/
theorem opn_turned (a : Int) (l : List Int) (ha : isByte a) (ha0 : a ≠ 0) (hb : ∀ x ∈ l, isByte x) (hl : l.length ≤ 1048576) (i : Nat) (hi : i < (sealed a l).length) (hi2 : i = 0 ∨ 1 + (putU l.length).length ≤ i) (y : Int) (hy : isByte y) (hne : y ≠ (sealed a l)[i]) :
    (opn ((sealed a l).set i y)).2.2.2 = 6 ∨ (i = 0 ∧ y = 0 ∧ (opn ((sealed a l).set i y)).2.2.2 = 4) := by
  have hs : sealed a l = a :: (putU l.length ++ (l ++ le4 (crcN (head a l)))) := by simp [sealed, head]
  have hp := putU_len64 (n := l.length) (by omega)
  have hh : (head a l).length = 1 + (putU l.length).length + l.length := by simp [head]; omega
  have hsl : (sealed a l).length = (head a l).length + 4 := by simp [sealed, le4_len]
  have hhb := head_bytes ha hb
  obtain ⟨b, hbd⟩ : ∃ b, (sealed a l).set i y = b := ⟨_, rfl⟩
  have hblen : b.length = (head a l).length + 4 := by rw [← hbd, List.length_set, hsl]
  have hr0 : rd b 0 = if i = 0 then y else a := by
    rw [← hbd, hs]
    cases i with
    | zero => rfl
    | succ i => rfl
  have hdr : ∃ r, b.drop 1 = putU l.length ++ r := by
    rw [← hbd, hs]
    rcases hi2 with rfl | h
    · exact ⟨_, rfl⟩
    · obtain ⟨j, rfl⟩ : ∃ j, i = j + 1 := ⟨i - 1, by omega⟩
      refine ⟨(l ++ le4 (crcN (head a l))).set (j - (putU l.length).length) y, ?_⟩
      rw [List.set_cons_succ, List.drop_one, List.tail_cons, List.set_append_right _ _ (by omega)]
  obtain ⟨r, hr⟩ := hdr
  have hg : gU 0 0 (b.drop 1) = ((l.length : Int), ((putU l.length).length : Int), 0) := by
    rw [hr]
    have := gU_put l.length 0 0 r (by omega) (by simp) (by simp; omega)
    simpa using this
  rw [hbd]
  unfold opn
  rw [hg]
  have e1 : (1 + ((putU l.length).length : Int) + (l.length : Int)).toNat = (head a l).length := by omega
  have e2 : (1 + ((putU l.length).length : Int) + (l.length : Int) + 4).toNat = b.length := by omega
  simp only [e1, e2, if_true]
  rw [if_neg (by omega), hr0]
  by_cases hk : (if i = 0 then y else a) = 0
  · rw [if_pos hk]
    right
    by_cases h0 : i = 0
    · rw [if_pos h0] at hk
      exact ⟨h0, hk, rfl⟩
    · rw [if_neg h0] at hk
      exact absurd hk ha0
  · left
    rw [if_neg hk, if_neg (by omega), if_neg (by omega), if_neg]
    intro hc
    rw [List.take_length] at hc
    have hdrop : b.drop (head a l).length = le4 (crcN (b.take (head a l).length)) := by
      conv => lhs; rw [hc]
      rw [List.drop_left' (by rw [List.length_take]; omega)]
    by_cases hlt : i < (head a l).length
    · have t1 : b.take (head a l).length = (head a l).set i y := by
        rw [← hbd, sealed, List.set_append_left _ _ hlt, List.take_left' (by rw [List.length_set])]
      have t2 : b.drop (head a l).length = le4 (crcN (head a l)) := by
        rw [← hbd, sealed, List.set_append_left _ _ hlt, List.drop_left' (by rw [List.length_set])]
      rw [t1, t2] at hdrop
      have := crc_set (head a l) hhb i hlt y hy (le4_inj (crcN_lt _ hhb) (crcN_lt _ (set_bytes hhb i hy)) hdrop).symm
      apply hne
      rw [this]
      simp only [sealed]
      rw [List.getElem_append_left hlt]
    · have t1 : b.take (head a l).length = head a l := by
        rw [← hbd, sealed, List.set_append_right _ _ (by omega), List.take_left' rfl]
      have t2 : b.drop (head a l).length = (le4 (crcN (head a l))).set (i - (head a l).length) y := by
        rw [← hbd, sealed, List.set_append_right _ _ (by omega), List.drop_left' rfl]
      rw [t1, t2] at hdrop
      apply hne
      have hi4 : i - (head a l).length < (le4 (crcN (head a l))).length := by rw [le4_len]; omega
      have h5 : ((le4 (crcN (head a l))).set (i - (head a l).length) y)[i - (head a l).length]'(by rw [List.length_set]; exact hi4) = (le4 (crcN (head a l)))[i - (head a l).length] := by
        congr 1
      rw [List.getElem_set_self] at h5
      rw [h5]
      simp only [sealed]
      rw [List.getElem_append_right (by omega)]
theorem mget_err {b : List Int} (h : (opn b).2.2.2 ≠ 0) : mget b = (0, 0, [], 4) := by
  unfold mget
  rw [if_neg (fun h2 => h h2.1)]
theorem mput_ok {a b : Int} {l : List Int} (h : (mput a b l).2 = 0) : 1 ≤ a ∧ a ≤ 999999 ∧ 0 ≤ b ∧ b ≤ 16777216 ∧ l.length ≤ 524288 ∧ (mput a b l).1 = sealed 3 (body a b l) := by
  unfold mput at h ⊢
  split at h
  · exact absurd h (by show ¬ (2 : Int) = 0; omega)
  · rename_i h1
    split at h
    · exact absurd h (by show ¬ (5 : Int) = 0; omega)
    · rename_i h2
      rw [if_neg h1, if_neg h2]
      exact ⟨by omega, by omega, by omega, by omega, by omega, rfl⟩
theorem mput_no {a b : Int} {l : List Int} (h : (mput a b l).2 ≠ 0) : (mput a b l).1 = [] := by
  unfold mput at h ⊢
  split
  · rfl
  · rename_i h1
    rw [if_neg h1] at h
    split
    · rfl
    · rename_i h2
      rw [if_neg h2] at h
      exact absurd rfl h
theorem mget_more (a b : Int) (l : List Int) (h1 : 1 ≤ a) (h2 : a ≤ 999999) (h3 : 0 ≤ b) (h4 : b ≤ 16777216) (h5 : l.length ≤ 524288) (r : List Int) (hr : r ≠ []) : mget (sealed 3 (body a b l) ++ r) = (0, 0, [], 4) := by
  have hlen := body_len (a := a) (b := b) (l := l) (by omega) (by omega) h5
  have ho := opn_sealed' 3 (body a b l) r (by omega) (by omega)
  have r1 := rdU_put 999999 a (putU b.toNat ++ l) (by omega) h2 (by omega)
  have r2 := rdU_put 16777216 b l h3 h4 (by omega)
  have hp : mput a b l = (sealed 3 (body a b l), 0) := by
    unfold mput
    rw [if_neg (by omega), if_neg (by omega)]
  unfold mget
  rw [ho]
  simp only [and_self, if_true]
  rw [show rdU 999999 (body a b l) 0 = (a, putU b.toNat ++ l, 0) from r1]
  simp only
  rw [r2]
  simp only
  rw [hp, if_neg]
  rintro ⟨_, _, h⟩
  have : (sealed 3 (body a b l)).length = (sealed 3 (body a b l) ++ r).length := congrArg List.length h
  rw [List.length_append] at this
  exact hr (List.length_eq_zero_iff.1 (by omega))
theorem mget_less (a b : Int) (l : List Int) (h1 : 1 ≤ a) (h2 : a ≤ 999999) (h3 : 0 ≤ b) (h4 : b ≤ 16777216) (h5 : l.length ≤ 524288) (j : Nat) (h0 : 0 < j) (hj : j < (sealed 3 (body a b l)).length) : mget ((sealed 3 (body a b l)).take j) = (0, 0, [], 4) := by
  have hlen := body_len (a := a) (b := b) (l := l) (by omega) (by omega) h5
  have ho := opn_cut 3 (body a b l) (by omega) (by omega) j h0 hj
  exact mget_err (by rw [ho]; show ¬ (3 : Int) = 0; omega)
theorem sealed_len (a b : Int) (l : List Int) (h1 : 1 ≤ a) (h2 : a ≤ 999999) (h3 : 0 ≤ b) (h4 : b ≤ 16777216) (h5 : l.length ≤ 524288) : l.length + 8 ≤ (sealed 3 (body a b l)).length := by
  have hp1 := putU_len_pos a.toNat
  have hp2 := putU_len_pos b.toNat
  have hp3 := putU_len_pos (body a b l).length
  simp only [sealed, head, List.length_append, List.length_cons, le4_len]
  simp only [body, List.length_append] at *
  omega
theorem len_one {n : Nat} (h : n < 128) : putU n = [(n : Int)] := putU_small h
/-- The byte behind the kind, one more: the frame wants a byte more than there is. -/
theorem opn_long (a : Int) (l : List Int) (ha0 : a ≠ 0) (hl : l.length < 127) : (opn ((sealed a l).set 1 ((l.length : Int) + 1))).2.2.2 ≠ 0 := by
  have hb : (sealed a l).set 1 ((l.length : Int) + 1) = a :: (putU (l.length + 1) ++ (l ++ le4 (crcN (head a l)))) := by
    rw [len_one (by omega)]
    simp [sealed, head, len_one (show l.length < 128 by omega)]
  have hg : gU 0 0 (((sealed a l).set 1 ((l.length : Int) + 1)).drop 1) = (((l.length + 1 : Nat) : Int), 1, 0) := by
    rw [hb, List.drop_one, List.tail_cons]
    have := gU_put (l.length + 1) 0 0 (l ++ le4 (crcN (head a l))) (by omega) (by simp) (by simp; omega)
    rw [this, len_one (by omega)]
    simp
  have hlen : ((sealed a l).set 1 ((l.length : Int) + 1)).length = l.length + 6 := by
    rw [List.length_set]
    simp [sealed, head, len_one (show l.length < 128 by omega), le4_len]
  unfold opn
  rw [hg, hlen, if_neg (by omega), if_neg (by rw [hb]; exact ha0)]
  simp only
  rw [if_pos trivial, if_neg (by omega), if_pos (by omega)]
  show ¬ (3 : Int) = 0
  omega
theorem mget_turned (a b : Int) (l : List Int) (hl : ∀ x ∈ l, isByte x) (h1 : 1 ≤ a) (h2 : a ≤ 999999) (h3 : 0 ≤ b) (h4 : b ≤ 16777216) (h5 : l.length ≤ 524288) (hi : l.length < (sealed 3 (body a b l)).length) :
    mget ((sealed 3 (body a b l)).set l.length (((sealed 3 (body a b l))[l.length] + 1) % 256)) = (0, 0, [], 4) := by
  have hlen := body_len (a := a) (b := b) (l := l) (by omega) (by omega) h5
  have hbb := body_bytes (a := a) (b := b) hl
  have hsb : ∀ x ∈ sealed 3 (body a b l), isByte x := by
    intro x hx
    simp only [sealed, List.mem_append] at hx
    rcases hx with hx | hx
    · exact head_bytes ⟨by omega, by omega⟩ hbb x hx
    · exact le4_bytes _ x hx
  obtain ⟨x0, x1⟩ := hsb _ (List.getElem_mem hi)
  have hne : ((sealed 3 (body a b l))[l.length] + 1) % 256 ≠ (sealed 3 (body a b l))[l.length] := by omega
  have hy : isByte (((sealed 3 (body a b l))[l.length] + 1) % 256) := ⟨by omega, by omega⟩
  by_cases hp : l.length = 0 ∨ 1 + (putU (body a b l).length).length ≤ l.length
  · apply mget_err
    rcases opn_turned 3 (body a b l) ⟨by omega, by omega⟩ (by omega) hbb (by omega) l.length hi hp _ hy hne with h | ⟨_, _, h⟩
    · rw [h]; show ¬ (6 : Int) = 0; omega
    · rw [h]; show ¬ (4 : Int) = 0; omega
  · have hp1 := putU_len64 (n := a.toNat) (by omega)
    have hp2 := putU_len64 (n := b.toNat) (by omega)
    have hp3 := putU_len64 (n := (body a b l).length) (by omega)
    have hbl : (body a b l).length ≤ l.length + 20 := by simp only [body, List.length_append]; omega
    have hl1 : l.length = 1 := by
      have : (body a b l).length < 128 := by omega
      have h1' : (putU (body a b l).length).length = 1 := by rw [len_one this]; rfl
      omega
    apply mget_err
    have hx : (sealed 3 (body a b l))[l.length] = ((body a b l).length : Int) := by
      have : ∀ (i : Nat) (hi : i < (sealed 3 (body a b l)).length), i = 1 → (sealed 3 (body a b l))[i] = ((body a b l).length : Int) := by
        intro i hi e
        subst e
        simp [sealed, head, len_one (show (body a b l).length < 128 by omega)]
      exact this _ _ hl1
    rw [hx, show (((body a b l).length : Int) + 1) % 256 = ((body a b l).length : Int) + 1 by omega, hl1]
    exact opn_long 3 (body a b l) (by omega) (by omega)
theorem mget_turned' (a b : Int) (l : List Int) (hl : ∀ x ∈ l, isByte x) (h1 : 1 ≤ a) (h2 : a ≤ 999999) (h3 : 0 ≤ b) (h4 : b ≤ 16777216) (h5 : l.length ≤ 524288) :
    mget ((sealed 3 (body a b l)).set l.length (((sealed 3 (body a b l)).getD l.length 0 + 1) % 256)) = (0, 0, [], 4) := by
  have hi : l.length < (sealed 3 (body a b l)).length := by have := sealed_len a b l h1 h2 h3 h4 h5; omega
  have := mget_turned a b l hl h1 h2 h3 h4 h5 hi
  rwa [List.getD_eq_getElem?_getD, List.getElem?_eq_getElem hi]
end Go.Proofs.YtonpiacnljcohaaDoor.MaB

/- stemmalaw19.ManifestBack, walked. -/
set_option linter.unusedVariables false
set_option linter.unusedSimpArgs false
namespace Go.Proofs.YtonpiacnljcohaaDoor.MaB
open Go Go.RowKit Go.Proofs.YtonpiacnljcohaaDoor.PA Go.Proofs.YtonpiacnljcohaaDoorW.PrintWords Go.Proofs.YtonpiacnljcohaaDoorW.PrintLast Go.Proofs.YtonpiacnljcohaaDoor.LebT Go.Proofs.YtonpiacnljcohaaDoor.LebP Go.Proofs.YtonpiacnljcohaaDoor.ColT Go.Proofs.YtonpiacnljcohaaDoor.FrT Go.Proofs.YtonpiacnljcohaaDoor.Rdr Go.Proofs.YtonpiacnljcohaaDoor.MaT
theorem R_mk0 (w : World) : Kd.R (Kd.int .u8) 5 (w.alloc (.cells #[] 5)) w.heap.size (fun _ => True) (.slice (some ⟨w.heap.size, 0, none⟩) 0 0) ([] : List Int) :=
  ⟨fun _ _ => trivial, [], ⟨by simp [Kd.int, Kd.scalar], .inr ⟨w.heap.size, 0, #[], rfl, Nat.le_refl _, blk_new w _, Nat.le_refl _, by decide, by simp [Kd.int, Kd.scalar], by simp⟩⟩, Kd.reps_scalar []⟩
theorem C_one (w : World) (x : Int) : Kd.C (Kd.int .u8) (w.alloc (.cells #[.int .u8 x] 5)) (some ⟨w.heap.size, 0, none⟩) 1 [x] := by
  refine Kd.C_of_reads (enc := Value.int .u8) (d := 0) (h1 := fun _ => rfl) ⟨rfl, by decide, fun _ => ⟨_, rfl, fun j hj => ?_⟩⟩
  obtain rfl : j = 0 := by simp at hj; omega
  exact (blk_cell (blk_new w _) 0).trans rfl
theorem row_old {w : World} {A : Option Addr} {l : List Int} (h : Kd.C (Kd.int .u8) w A l.length l) : Kd.F (Kd.int .u8) w (fun k => k < w.heap.size) A l.length l := by
  intro W' hW
  have hr := Kd.reads_of_C (enc := Value.int .u8) (d := 0) (h1 := fun _ => rfl) h
  refine Kd.C_of_reads (enc := Value.int .u8) (d := 0) ⟨hr.1, hr.2.1, fun hn => ?_⟩
  obtain ⟨ad, e, hc⟩ := hr.2.2 hn
  refine ⟨ad, e, fun j hj => ?_⟩
  have hcj := hc j hj
  have hlt := World.block_lt_of_cell? w _ hcj
  exact (World.cell?_of_block (hW _ hlt hlt)).trans hcj
/-- Behind the laying: what was laid stands, and the manifest's box. -/
structure Mb (w : World) (n0 n1 : Int) (A : Option Addr) (ca : Nat) (l : List Int) (Ap : Option Addr) (p1 : List Int) (N : Nat) (wr : World) : Prop where
  below : Below w.heap.size w wr
  b7 : wr.heap[w.heap.size]? = some (.cells #[.int .i64 n0, .int .i64 n1, .slice A l.length ca] 60 (0, 0))
  row : Kd.F (Kd.int .u8) wr (fun k => k < N) Ap p1.length p1
section
variable {w : World} {n0 n1 : Int} {A : Option Addr} {ca : Nat} {l : List Int} {Ap : Option Addr} {p1 : List Int} {N : Nat} {wr wq : World} {n10 : Nat} {Ai : Option Addr} {ci : Nat}
theorem Mb.step (h : Mb w n0 n1 A ca l Ap p1 N wr) (hb : Below wr.heap.size wr wq) : Mb w n0 n1 A ca l Ap p1 N wq := ⟨h.below.trans (hb.mono h.below.size), blk_below h.b7 hb, Kd.F_below h.row hb⟩
theorem Mb.C (h : Mb w n0 n1 A ca l Ap p1 N wr) : Kd.C (Kd.int .u8) wr Ap p1.length p1 := Kd.F_now h.row
/-- With what was read. -/
structure Mc (w : World) (n0 n1 : Int) (A : Option Addr) (ca : Nat) (l : List Int) (Ap : Option Addr) (p1 : List Int) (N : Nat) (n10 : Nat) (Ai : Option Addr) (ci : Nat) (wr : World) : Prop where
  mb : Mb w n0 n1 A ca l Ap p1 N wr
  b10 : wr.heap[n10]? = some (.cells #[.int .i64 n0, .int .i64 n1, .slice Ai l.length ci] 60 (0, 0))
  xi : Kd.F (Kd.int .u8) wr (fun k => k < n10) Ai l.length l
  lx : l.length ≤ ci
  nn : N ≤ n10
theorem Mc.step (h : Mc w n0 n1 A ca l Ap p1 N n10 Ai ci wr) (hb : Below wr.heap.size wr wq) : Mc w n0 n1 A ca l Ap p1 N n10 Ai ci wq := ⟨h.mb.step hb, blk_below h.b10 hb, Kd.F_below h.xi hb, h.lx, h.nn⟩
theorem Mc.far (h : Mc w n0 n1 A ca l Ap p1 N n10 Ai ci wr) {g : Nat} (hg : n10 < g) (hw : w.heap.size < N) (i : Nat) (v : Value) : Mc w n0 n1 A ca l Ap p1 N n10 Ai ci (wr.setCell ⟨g, i, none⟩ v) := by
  have hn := h.nn
  exact ⟨⟨Below.setCell h.mb.below (show w.heap.size ≤ g by omega) v, blk_far h.mb.b7 (show w.heap.size ≠ g by omega) v, Kd.F_far h.mb.row (fun k hk => show k ≠ g by omega) v⟩, blk_far h.b10 (show n10 ≠ g by omega) v, Kd.F_far h.xi (fun k hk => show k ≠ g by omega) v, h.lx, h.nn⟩
end
end Go.Proofs.YtonpiacnljcohaaDoor.MaB
namespace Go.Proofs.YtonpiacnljcohaaDoor.PA
open Go Go.RowKit Go.Proofs.YtonpiacnljcohaaDoorW.PrintWords Go.Proofs.YtonpiacnljcohaaDoorW.PrintLast Go.Proofs.YtonpiacnljcohaaDoor.LebT Go.Proofs.YtonpiacnljcohaaDoor.LebP Go.Proofs.YtonpiacnljcohaaDoor.ColT Go.Proofs.YtonpiacnljcohaaDoor.FrT Go.Proofs.YtonpiacnljcohaaDoor.Rdr Go.Proofs.YtonpiacnljcohaaDoor.MaT Go.Proofs.YtonpiacnljcohaaDoor.MaB
open Classical in
noncomputable def stemmalaw19_ManifestBack.f (n0 n1 : Int) (l : List Int) : Option Bool := if (∀ x ∈ l, isByte x) ∧ l.length ≤ 140737488351232 then some true else none
theorem back_self (n0 n1 : Int) (a : List Int) : manifest_Same.f n0 n1 a n0 n1 a = some true := by
  unfold manifest_Same.f bytes_Equal.f manifest_Manifest_place.f
  simp
set_option maxRecDepth 100000 in
set_option maxHeartbeats 4000000 in
theorem stemmalaw19_ManifestBack.calls (n0 n1 : Int) (A : Option Addr) (ca : Nat) (l : List Int) (r : Bool) (w : World) (hr0 : Kd.C (Kd.int .u8) w A l.length l) (hc0 : l.length ≤ ca) (hr_ : Aside0 (r = true)) (hG_ : Gl w) (h : stemmalaw19_ManifestBack.f n0 n1 l = some r) :
    Calls Tryd.prog 12 #[.int .i64 n0, .int .i64 n1, .slice A l.length ca] w fun e w' => e = .returned (.bool r) ∧ Below w.heap.size w w' := by
  obtain ⟨rfl⟩ := hr_
  unfold stemmalaw19_ManifestBack.f at h
  split at h
  case isFalse => cases h
  case isTrue hh =>
  obtain ⟨hb, hl⟩ := hh
  have HAW := Aside0.mk (fun (W : World) (hW : Below w.heap.size w W) => stemmalaw19_awake.calls 30 true W (hG_.below hW) (awake19_f (Nat.le_refl _)))
  obtain ⟨p1, hp1⟩ : ∃ x, (mput n0 n1 l).1 = x := ⟨_, rfl⟩
  obtain ⟨p2, hp2⟩ : ∃ x, (mput n0 n1 l).2 = x := ⟨_, rfl⟩
  have hpp : mput n0 n1 l = (p1, p2) := by rw [← hp1, ← hp2]
  have hpb : ∀ x ∈ p1, isByte x := by rw [← hp1]; exact mput_bytes n0 n1 hb
  have hpl : p1.length ≤ 524330 := by rw [← hp1]; exact mput_len n0 n1
  have HPut := Aside0.mk (fun (W : World) (hW : Below w.heap.size w W) => manifest_Put.calls 30 n0 n1 (fun k => k < w.heap.size) A ca l p1 p2 W ⟨A, ca, rfl, hc0, Kd.F_below (row_old hr0) hW⟩ (hG_.below hW) (by rw [put_f n0 n1 l hb (Nat.le_refl _), hpp]))
  have HGet := Aside0.mk (fun (W : World) (B : Option Addr) (c : Nat) (b : List Int) (hbb : ∀ x ∈ b, isByte x) (hbl : b.length ≤ 524331) (hc : b.length ≤ c) (hr : Kd.C (Kd.int .u8) W B b.length b) (hW : Below w.heap.size w W) => Get_calls B c b hbb (by omega) W hr hc (hG_.below hW))
  have HSA : Aside0 (∀ {N n10 : Nat} {Ap : Option Addr} {Ai : Option Addr} {ci : Nat} (W : World), Mc w n0 n1 A ca l Ap p1 N n10 Ai ci W → Calls Tryd.prog 32 #[.agg #[.int .i64 n0, .int .i64 n1, .slice Ai l.length ci], .agg #[.int .i64 n0, .int .i64 n1, .slice A l.length ca]] W fun e w' => e = .returned (.bool true) ∧ Below W.heap.size W w') := ⟨fun {N n10 Ap Ai ci} W hM =>
    manifest_Same.calls n0 n1 Ai ci l n0 n1 A ca l true W (Kd.F_now hM.xi) hM.lx (Kd.C_below hr0 hM.mb.below) hc0 (back_self n0 n1 l)⟩
  have HP1 := Aside0.mk hp1
  have HP2 := Aside0.mk hp2
  have HPB := Aside0.mk hpb
  have HPL := Aside0.mk hpl
  have HBb := Aside0.mk hb
  have hu60 := Tryd.underlying60
  clear h hb hl hr0 hc0 hG_ hp1 hp2 hpp hpb hpl
  go_enter Tryd.func12, Tryd.ntmps12
  go_wp2_with fail
  refine (HPut.out _ (below_alloc (Below.refl _ _) _)).mono ?_
  rintro e w2 ⟨vb, rfl, hRb, hb2⟩
  obtain ⟨Ap, cp, rfl, hcp, hCp⟩ := Kd.R_reads hRb
  have HM2 : Aside0 (Mb w n0 n1 A ca l Ap p1 w2.heap.size w2) := ⟨⟨(below_alloc (Below.refl w.heap.size w) _).trans (hb2.mono (below_alloc (Below.refl w.heap.size w) _).size), blk_below (blk_new w _) hb2, row_old hCp⟩⟩
  have HCP := Aside0.mk hcp
  clear hRb hb2 hcp hCp
  by_cases d : p2 = 0
  · subst d
    obtain ⟨m1, m2, m3, m4, m5, m6⟩ := mput_ok HP2.out
    rw [HP1.out] at m6
    have hlen := sealed_len n0 n1 l m1 m2 m3 m4 m5
    have hg1 := mget_put n0 n1 l m1 m2 m3 m4 m5
    have hg2 := mget_more n0 n1 l m1 m2 m3 m4 m5 [0] (by simp)
    have hg3 := mget_less n0 n1 l m1 m2 m3 m4 m5 ((sealed 3 (body n0 n1 l)).length - 1) (by omega) (by omega)
    have hg4 := mget_turned' n0 n1 l HBb.out m1 m2 m3 m4 m5
    simp only [← m6] at hlen hg1 hg2 hg3 hg4
    clear m1 m2 m3 m4 m5 m6 HP1 HP2 HPut
    have HLen := Aside0.mk hlen
    have G1 := Aside0.mk (fun (W : World) (hM : Mb w n0 n1 A ca l Ap p1 w2.heap.size W) => HGet.out W Ap cp p1 HPB.out (by have := HPL.out; omega) HCP.out hM.C hM.below)
    rw [hg1] at G1
    have HG2 := Aside0.mk hg2
    have HG3 := Aside0.mk hg3
    have HG4 := Aside0.mk hg4
    clear hg1 hg2 hg3 hg4
    have hne : ((p1.length : Int) == 0) = false := beq_eq_false_iff_ne.mpr (by omega)
    have hne' : ((p1.length : Int) = 0) = False := eq_false (by omega)
    clear hlen
    go_wp2_with fail
    refine (G1.out _ HM2.out).mono ?_
    rintro e w3 ⟨vx, rfl, hRx, hb3⟩
    obtain ⟨Ai, ci, rfl, hci, hCi⟩ := Kd.R_reads hRx
    have HM3 := Aside0.mk (HM2.out.step hb3)
    have HXI := Aside0.mk (row_old hCi)
    have HCI := Aside0.mk hci
    have HS3 := Aside0.mk hb3.size
    clear hRx hb3 hci hCi G1
    go_upto_region 8 with (fail)
    have HM4 : Aside0 (Mc w n0 n1 A ca l Ap p1 w2.heap.size w3.heap.size Ai ci (w3.alloc (.cells #[.int .i64 n0, .int .i64 n1, .slice Ai l.length ci] 60))) := ⟨⟨HM3.out.step (below_alloc (Below.refl _ _) _), blk_new w3 _, Kd.F_alloc HXI.out _, HCI.out, HS3.out⟩⟩
    have HW2 : Aside0 (w.heap.size < w2.heap.size) := ⟨blk_lt HM2.out.b7⟩
    clear HM3 HXI HCI HS3 HM2
    generalize w3.alloc (.cells #[.int .i64 n0, .int .i64 n1, .slice Ai l.length ci] 60) = w4 at *
    generalize w3.heap.size = n10 at *
    generalize w2.heap.size = N at *
    have HO : Aside0 (Kd.R (Kd.int .u8) 5 (w4.alloc (.cells #[] 5)) w4.heap.size (fun _ => True) (.slice (some ⟨w4.heap.size, 0, none⟩) 0 0) ([] : List Int)) := ⟨R_mk0 w4⟩
    have HB := Aside0.mk (below_alloc (Below.refl w4.heap.size w4) (.cells #[] 5))
    go_wp2_with (first | ((with_reducible refine gate_builtin (b := .append) (xs := #[.tmp 45, .tmp 46]) rfl ?_); at_builtin; refine Kd.R_append_rows (Kd.int .u8) (w0 := w4) w4.heap.size rfl (.tmp 45) (.tmp 46) 22 5 (.int .u8 0) 1 rfl Tryd.underlying22 info5 rfl (by decide) (by decide) (.slice (some ⟨w4.heap.size, 0, none⟩) 0 0) ([] : List Int) p1 Ap p1.length cp (fun _ => True) (fun _ => False) rfl rfl HO.out (Kd.C_below HM4.out.mb.C HB.out) (fun _ _ h => h) (fun _ h => h.elim) (fun _ _ => trivial) HB.out HB.out.size (by have := HPL.out; rw [List.length_nil]; omega) ?_; intro v5 w5 ho hb hg hat; rw [List.nil_append] at ho; obtain ⟨A5, c5, rfl, hc5, _⟩ := Kd.R_reads ho; have HO5 := Aside0.mk ho; have HB5 := Aside0.mk hb; clear ho hb hg hat hc5) | ((with_reducible refine gate_builtin (b := .append) (xs := #[.tmp 47, .tmp 48]) rfl ?_); at_builtin; refine Kd.R_append_rows (Kd.int .u8) (w0 := w4) w4.heap.size rfl (.tmp 47) (.tmp 48) 22 5 (.int .u8 0) 1 rfl Tryd.underlying22 info5 rfl (by decide) (by decide) (.slice A5 p1.length c5) p1 [0] (some ⟨w5.heap.size, 0, none⟩) 1 1 (fun _ => True) (fun _ => False) rfl rfl (Kd.R_alloc HO5.out _) (C_one w5 0) (fun _ _ h => h) (fun _ h => h.elim) (fun _ _ => trivial) (below_alloc HB5.out _) (below_alloc HB5.out _).size (by have := HPL.out; omega) ?_; intro v6 w6 ho hb hg hat; obtain ⟨A6, c6, rfl, hc6, hC6⟩ := Kd.R_reads ho; have HC6 := Aside0.mk (And.intro hc6 hC6); have HB6 := Aside0.mk hb; clear ho hb hg hat hc6 hC6))
    have G2 := HGet.out w6 A6 c6 (p1 ++ [0]) (fun x hx => by rcases List.mem_append.1 hx with h | h; exact HPB.out x h; (rw [List.mem_singleton.1 h]; exact ⟨by omega, by omega⟩)) (by have := HPL.out; rw [List.length_append]; simp; omega) HC6.out.1 HC6.out.2 (HM4.out.step HB6.out).mb.below
    have h01 : (p1 ++ [0]).length = p1.length + 1 := List.length_append
    rw [HG2.out, h01] at G2
    clear h01
    refine G2.mono ?_
    rintro e w7 ⟨vy, rfl, hRy, hb7⟩
    obtain ⟨A7, c7, rfl⟩ := Kd.R_slice hRy
    have HM7 := Aside0.mk ((HM4.out.step HB6.out).step hb7)
    clear G2 hRy hb7 HM4 HB6 HC6 HO5 HB5 HO HB HG2
    go_upto_region 9 with (fail)
    have HM8 := Aside0.mk (HM7.out.step (below_alloc (Below.refl _ _) (.cells #[.int .i64 0, .int .i64 0, .slice A7 ([] : List Int).length c7] 60)))
    clear HM7
    simp only [List.length_nil] at HM8
    generalize w7.alloc (.cells #[.int .i64 0, .int .i64 0, .slice A7 0 c7] 60) = w8 at *
    generalize w7.heap.size = n12 at *
    obtain ⟨u, hu⟩ : ∃ u, p1.length - 1 = u := ⟨_, rfl⟩
    have hul : u + 1 = p1.length := by have := HLen.out; omega
    obtain ⟨i0, hi0, _, hsz, _⟩ := info_parts info5
    obtain ⟨t1, t2, t3⟩ := print_take_of (P := Tryd.prog) (Value.int .u8) 0 22 5 .i64 Tryd.underlying22 hi0 hsz Ap cp p1 (u : Int) (by omega) (by omega) HCP.out
    simp only [Int.toNat_natCast] at t1 t2 t3
    have hsub : wrap64 ((p1.length : Int) - 1) = (u : Int) := by have := HPL.out; unfold wrap64; omega
    have htl : (p1.take u).length = u := by rw [List.length_take]; omega
    have hC9 : Kd.C (Kd.int .u8) w8 Ap (p1.take u).length (p1.take u) := Kd.C_of_reads (h1 := fun _ => rfl) (t2 w8 (Kd.reads_of_C HM8.out.mb.C))
    have G3 := HGet.out w8 Ap cp (p1.take u) (fun x hx => HPB.out x (List.mem_of_mem_take hx)) (by have := HPL.out; omega) t3 hC9 HM8.out.mb.below
    rw [← hu, HG3.out, hu, htl] at G3
    have HQ3 := Aside0.mk G3
    simp only [htl] at t1
    clear hC9 t2 t3 htl hi0 hsz hul hu G3
    go_wp2_with fail
    refine HQ3.out.mono ?_
    rintro e w9 ⟨vz, rfl, hRz, hb9⟩
    obtain ⟨A9, c9, rfl⟩ := Kd.R_slice hRz
    have HM9 := Aside0.mk (HM8.out.step hb9)
    clear hRz hb9 HM8 HQ3 HG3 hsub t1
    go_upto_region 10 with (fail)
    have HM10 := Aside0.mk (HM9.out.step (below_alloc (Below.refl _ _) (.cells #[.int .i64 0, .int .i64 0, .slice A9 ([] : List Int).length c9] 60)))
    clear HM9
    simp only [List.length_nil] at HM10
    generalize w9.alloc (.cells #[.int .i64 0, .int .i64 0, .slice A9 0 c9] 60) = w10 at *
    generalize w9.heap.size = n14 at *
    have HO : Aside0 (Kd.R (Kd.int .u8) 5 (w10.alloc (.cells #[] 5)) w10.heap.size (fun _ => True) (.slice (some ⟨w10.heap.size, 0, none⟩) 0 0) ([] : List Int)) := ⟨R_mk0 w10⟩
    have HB := Aside0.mk (below_alloc (Below.refl w10.heap.size w10) (.cells #[] 5))
    go_upto_region 11 with ((with_reducible refine gate_builtin (b := .append) (xs := #[.tmp 62, .tmp 63]) rfl ?_); at_builtin; refine Kd.R_append_rows (Kd.int .u8) (w0 := w10) w10.heap.size rfl (.tmp 62) (.tmp 63) 22 5 (.int .u8 0) 1 rfl Tryd.underlying22 info5 rfl (by decide) (by decide) (.slice (some ⟨w10.heap.size, 0, none⟩) 0 0) ([] : List Int) p1 Ap p1.length cp (fun _ => True) (fun _ => False) rfl rfl HO.out (Kd.C_below HM10.out.mb.C HB.out) (fun _ _ h => h) (fun _ h => h.elim) (fun _ _ => trivial) HB.out HB.out.size (by have := HPL.out; rw [List.length_nil]; omega) ?_; intro v5 w11 ho hb hg hat; rw [List.nil_append] at ho; obtain ⟨A11, c11, rfl, hc11, _⟩ := Kd.R_reads ho; have HO11 := Aside0.mk ho; have HB11 := Aside0.mk hb; clear ho hb hg hat)
    obtain ⟨gt, cap, he, hgt, _⟩ := Kd.R_form HO11.out (by have := HLen.out; omega)
    injection he with e1 e2 e3
    subst e1
    subst e3
    clear e2
    obtain ⟨cl1, fl1⟩ := Kd.R_celln 0 HO11.out (l.length : Int) (by omega) (by have := HLen.out; omega)
    have hput := fun y => Kd.R_putg HO11.out (l.length : Int) y
    simp only [Int.toNat_natCast] at cl1 fl1 hput
    have HPT := Aside0.mk hput
    have HM11 := Aside0.mk (HM10.out.step HB11.out)
    have HGT : Aside0 (n10 < gt) := ⟨by have := blk_lt HM10.out.b10; omega⟩
    have HC11 := Aside0.mk hc11
    have hll : l.length < p1.length := by have := HLen.out; omega
    have hpl := HPL.out
    have hpz : ¬ (p1.length : Int) = 0 := by omega
    have hmod : l.length % p1.length = l.length := Nat.mod_eq_of_lt hll
    have hmod2 : (l.length : Int) % (p1.length : Int) = (l.length : Int) := Int.emod_eq_of_lt (by omega) (by omega)
    have hmod3 : (l.length : Int).tmod (p1.length : Int) = (l.length : Int) := Int.tmod_eq_of_lt (by omega) (by omega)
    clear hput HM10 HB11 HO HB hgt hc11 HO11
    go_wp2_with fail
    obtain ⟨y, hy⟩ : ∃ y, (rdOf 0 p1 (l.length : Int) + 1) % 256 = y := ⟨_, rfl⟩
    have hy2 : (p1.getD l.length 0 + 1) % 256 = y := hy
    have hyb : isByte y := ⟨by omega, by omega⟩
    have hG4 := HG4.out
    rw [hy2] at hG4
    obtain ⟨r1, g1⟩ := HPT.out y
    obtain ⟨hq0, hcS, hCS⟩ := Kd.R_reads' r1
    have hset : (p1.set l.length y).length = p1.length := List.length_set
    have HM12 := Aside0.mk (HM11.out.far HGT.out HW2.out l.length (.int .u8 y))
    have G4 := HGet.out _ _ c11 (p1.set l.length y) (fun x hx => by rcases List.mem_or_eq_of_mem_set hx with h | h; exact HPB.out x h; (rw [h]; exact hyb)) (by rw [hset]; omega) (by rw [hset]; exact HC11.out) hCS HM12.out.mb.below
    rw [hG4, hset] at G4
    rw [hy]
    clear hy hy2 hyb hG4 r1 g1 hq0 hcS hCS hset HPT cl1 fl1 hmod hmod2 hmod3 hpz hpl hll HG4 HM11
    refine G4.mono ?_
    rintro e w13 ⟨vt, rfl, hRt, hb13⟩
    obtain ⟨A13, c13, rfl⟩ := Kd.R_slice hRt
    have HM13 := Aside0.mk (HM12.out.step hb13)
    clear hRt hb13 HM12 G4
    go_upto_region 13 with (fail)
    have HM14 := Aside0.mk (HM13.out.step (below_alloc (Below.refl _ _) (.cells #[.int .i64 0, .int .i64 0, .slice A13 ([] : List Int).length c13] 60)))
    clear HM13
    simp only [List.length_nil] at HM14
    generalize w13.alloc (.cells #[.int .i64 0, .int .i64 0, .slice A13 0 c13] 60) = w14 at *
    generalize w13.heap.size = n18 at *
    have a0 := (blk_cell HM14.out.mb.b7 0).trans rfl
    have a1 := (blk_cell HM14.out.mb.b7 1).trans rfl
    have a2 := (blk_cell HM14.out.mb.b7 2).trans rfl
    have a3 := (blk_cell HM14.out.b10 0).trans rfl
    have a4 := (blk_cell HM14.out.b10 1).trans rfl
    have a5 := (blk_cell HM14.out.b10 2).trans rfl
    go_wp2_with (first | (go_at_call 32; refine (HSA.out _ HM14.out).mono ?_; rintro e w15 ⟨rfl, hb15⟩; have HM15 := Aside0.mk (HM14.out.step hb15); clear hb15) | (go_at_call 27; refine (HAW.out _ HM15.out.mb.below).mono ?_; rintro e w16 ⟨rfl, hb16⟩; have HB16 := Aside0.mk (HM15.out.mb.below.trans (hb16.mono HM15.out.mb.below.size)); clear hb16))
    go_ret
    exact ⟨rfl, HB16.out⟩
  · have hp0 := mput_no (a := n0) (b := n1) (l := l) (by rw [HP2.out]; exact d)
    rw [HP1.out] at hp0
    subst hp0
    have b2 : (p2 == 0) = false := beq_eq_false_iff_ne.mpr d
    have b2' : (p2 != 0) = true := bne_iff_ne.mpr d
    clear d HP1 HP2 HPut
    go_wp2_with (go_at_call 27; refine (HAW.out _ HM2.out.below).mono ?_; rintro e w16 ⟨rfl, hb16⟩; have HB16 := Aside0.mk (HM2.out.below.trans (hb16.mono HM2.out.below.size)); clear hb16)
    go_ret
    exact ⟨rfl, HB16.out⟩
end Go.Proofs.YtonpiacnljcohaaDoor.PA

/- ManifestBack: what is left beside the walk: what comes in is bytes. -/
set_option linter.unusedVariables false
namespace Go.Proofs.YtonpiacnljcohaaDoor.Pure
open Go Go.RowKit Go.Proofs.YtonpiacnljcohaaDoor.PA Go.Proofs.YtonpiacnljcohaaDoorW.PrintWords Go.Proofs.YtonpiacnljcohaaDoor.LebT Go.Proofs.YtonpiacnljcohaaDoor.LebP Go.Proofs.YtonpiacnljcohaaDoor.FrT Go.Proofs.YtonpiacnljcohaaDoor.MaT
theorem ManifestBack (a0 : Int) (a1 : Int) (a2 : (List Int)) (q0 : (Lit.int .i64 a0).wf = true) (q1 : (Lit.int .i64 a1).wf = true) (q2 : a2.length ≤ maxLen ∧ ∀ y22 ∈ a2, (Lit.int .u8 y22).wf = true) (b2 : a2.length * 1 ≤ 140737488351232) : PA.stemmalaw19_ManifestBack.f a0 a1 a2 = some true := by
  unfold PA.stemmalaw19_ManifestBack.f
  rw [if_pos ⟨fun y hy => wf_u8 (q2.2 y hy), by omega⟩]
end Go.Proofs.YtonpiacnljcohaaDoor.Pure
