/- stemmalaw01.ShaPieces, walked: however it is cut, the same is summed. -/
import Derived.Test.YtkimpjlaailhcaaDoorShaE
set_option linter.unusedVariables false
set_option linter.unusedSimpArgs false
namespace Go.Proofs.YtkimpjlaailhcaaDoor.Sha
open Go Go.RowKit Go.Proofs.YtkimpjlaailhcaaDoorW.PrintWords Go.Proofs.YtkimpjlaailhcaaDoor.Ar Go.Proofs.YtkimpjlaailhcaaDoor.PA
/-- A hasher that was fed. -/
structure Wr (w : World) (g : Nat) (X : List Int × List Int × Nat) (n : Nat) (wr : World) : Prop where
  below : Below w.heap.size w wr
  hs : Hs wr g X.1 X.2.1 (X.2.2 : Nat) (n : Nat)
  hx : X.2.2 < 64
  hg : w.heap.size ≤ g
theorem Wr.step {w wr wq : World} {g n : Nat} {X : List Int × List Int × Nat} (h : Wr w g X n wr) (hb : Below wr.heap.size wr wq) : Wr w g X n wq := ⟨below_step h.below hb, h.hs.below hb, h.hx, h.hg⟩
theorem Wr.write {w wr : World} {g n : Nat} {X : List Int × List Int × Nat} (h : Wr w g X n wr) (hG : Gl w) (Pf : Nat → Prop) (hPf : ∀ k, Pf k → k ≠ g) (A : Option Addr) (c : Nat) (l : List Int) (hlc : l.length ≤ c) (hr : Kd.F (Kd.int .u8) wr Pf A l.length l) (hn : n + l.length < 9223372036854775808) :
    Calls Tryd.prog 14 #[.pointer (some ⟨g, 0, none⟩), .slice A l.length c] wr fun e w' => e = .returned (.tuple #[]) ∧ wr.grownBy w' (some g) ∧ Wr w g (feed X l) (n + l.length) w' := by
  have hgl := gl_lt hG
  have hw := h.hg
  refine (Write_calls wr g X.1 X.2.1 X.2.2 n h.hx Pf hPf A c l hlc hr h.hs (hG.below h.below) ⟨by omega, by omega⟩ hn).mono ?_
  rintro e w' ⟨he, hgr, hs⟩
  exact ⟨he, hgr, pw_below_grown h.below (some g) h.below.size hgr (fun k e => by injection e with e; omega), hs, held_lt l X.1 X.2.1 X.2.2 h.hx, hw⟩
/-- What a hasher that was fed sums. -/
def sumX (X : List Int × List Int × Nat) (n : Nat) : List Int := sumH X.1 X.2.1 X.2.2 (n : Nat)
theorem sumX_len (X : List Int × List Int × Nat) (n : Nat) : (sumX X n).length = 32 := by rw [sumX, sumH, outF]; exact outS_len _ 32
theorem Wr.sum {w wr : World} {g n : Nat} {X : List Int × List Int × Nat} (h : Wr w g X n wr) (hG : Gl w) (hn : n < 4611686018427387904) :
    Calls Tryd.prog 15 #[.pointer (some ⟨g, 0, none⟩)] wr fun e w' => e = .returned (.agg (ns .u8 (sumX X n))) ∧ Below wr.heap.size wr w' ∧ Wr w g X n w' :=
  (SumM_calls wr g X.1 X.2.1 X.2.2 n h.hx h.hs (hG.below h.below) hn).mono (fun e w' ⟨he, hb⟩ => ⟨he, hb, h.step hb⟩)
def X0 : List Int × List Int × Nat := (btab, List.replicate 64 0, 0)
theorem Wr.new (w : World) (hG : Gl w) : Calls Tryd.prog 13 #[] w fun e w' => e = .returned (.pointer (some ⟨w.heap.size, 0, none⟩)) ∧ Wr w w.heap.size X0 0 w' :=
  (New_calls w hG).mono (fun e w' ⟨he, hs, hb⟩ => ⟨he, hb, hs, by show 0 < 64; omega, Nat.le_refl _⟩)
theorem sumX_sumF (l : List Int) : sumX (feed X0 l) l.length = sumF l := rfl
end Go.Proofs.YtkimpjlaailhcaaDoor.Sha
namespace Go.Proofs.YtkimpjlaailhcaaDoor.PA
open Go Go.RowKit Go.Proofs.YtkimpjlaailhcaaDoorW.PrintWords Go.Proofs.YtkimpjlaailhcaaDoorW.PrintLast Go.Proofs.YtkimpjlaailhcaaDoor.Sha Go.Proofs.YtkimpjlaailhcaaDoor.Ar
def stemmalaw01_ShaPieces.f (l0 : List Int) (a1 : Int) : Option Bool := if l0.length ≤ 140737488351232 ∧ 0 ≤ a1 ∧ a1 < 65536 then some true else none
set_option maxRecDepth 100000 in
set_option maxHeartbeats 4000000 in
theorem stemmalaw01_ShaPieces.calls (A0 : Option Addr) (c0 : Nat) (l0 : List Int) (a1 : Int) (r : Bool) (w : World) (hr0 : Kd.C (Kd.int .u8) w A0 l0.length l0) (hc0 : l0.length ≤ c0) (hr_ : Aside0 (r = true)) (hG_ : Gl w) (h : stemmalaw01_ShaPieces.f l0 a1 = some r) :
    Calls Tryd.prog 5 #[.slice A0 l0.length c0, .int .u16 a1] w fun e w' => e = .returned (.bool r) ∧ Below w.heap.size w w' := by
  obtain ⟨rfl⟩ := hr_
  unfold stemmalaw01_ShaPieces.f at h
  split at h
  case isFalse => cases h
  case isTrue hh =>
  obtain ⟨hl0, a0, a2⟩ := hh
  obtain ⟨i0, hi0, _, hsz, _⟩ := info_parts infoB
  have u0 : 0 ≤ a1 % ((l0.length : Int) + 1) := Int.emod_nonneg _ (by omega)
  have u1 : a1 % ((l0.length : Int) + 1) < (l0.length : Int) + 1 := Int.emod_lt_of_pos _ (by omega)
  obtain ⟨u, hu⟩ := Int.eq_ofNat_of_zero_le u0
  have hul : u ≤ l0.length := by omega
  obtain ⟨t1, t2, t3⟩ := print_take_of (P := Tryd.prog) (Value.int .u8) 0 22 5 .i64 Tryd.underlying22 hi0 hsz A0 c0 l0 (u : Int) (by omega) (by omega) hc0
  obtain ⟨A', d1, d2, d3⟩ := print_drop_of (P := Tryd.prog) (Value.int .u8) 0 22 5 .i64 Tryd.underlying22 hi0 hsz A0 c0 l0 (u : Int) (by omega) (by omega) hc0
  simp only [Int.toNat_natCast] at t1 t2 t3 d1 d2 d3
  have HT := Aside0.mk (row_old (Kd.C_of_reads (h1 := fun _ => rfl) (t2 w (Kd.reads_of_C hr0))))
  have HD := Aside0.mk (row_old (Kd.C_of_reads (h1 := fun _ => rfl) (d2 w (Kd.reads_of_C hr0))))
  have HAW := Aside0.mk (fun (W : World) (hW : Below w.heap.size w W) => awake_calls W (hG_.below hW))
  have HS := Aside0.mk (fun (W : World) (hW : Below w.heap.size w W) => Sum_calls W A0 c0 l0 hc0 (Kd.F_now (Kd.F_below (row_old hr0) hW)) (hG_.below hW) (by omega))
  have HF : Aside0 (feed (feed (feed X0 (l0.take u)) []) (l0.drop u) = feed X0 l0) := ⟨by rw [show feed (feed X0 (l0.take u)) [] = feed X0 (l0.take u) from rfl, ← feed_append, List.take_append_drop]⟩
  have hlt : (l0.take u).length = u := by rw [List.length_take]; omega
  have hld : (l0.drop u).length = l0.length - u := List.length_drop
  have HN : Aside0 (0 + (l0.take u).length + ([] : List Int).length + (l0.drop u).length = l0.length) := ⟨by rw [hlt, hld, List.length_nil]; omega⟩
  have HLT := Aside0.mk hlt
  have HLD := Aside0.mk hld
  have HUL := Aside0.mk hul
  have hO3 := sumF_len l0
  have hOX := sumX_sumF l0
  obtain ⟨O, hO⟩ : ∃ O, sumF l0 = O := ⟨_, rfl⟩
  rw [hO] at HS hO3 hOX
  have heq : ∀ W, (Op.equalIn 10000 24 (.agg (ns .u8 O)) (.agg (ns .u8 O))).run Tryd.prog W = .ok true W := fun W => (run_equalIn_ns (P := Tryd.prog) W 9998 24 5 32 .u8 Tryd.underlying24 Tryd.underlying5 (fun _ => by kernel_rfl) O O hO3 hO3).trans (by rw [beq_self_eq_true])
  obtain ⟨C, hC⟩ : ∃ C, ns .u8 O = C := ⟨_, rfl⟩
  have HOX : Aside0 (ns .u8 (sumX (feed X0 l0) l0.length) = C) := ⟨by rw [hOX, hC]⟩
  rw [hC] at heq HS
  have HG := Aside0.mk hG_
  have HA1 : Aside0 (∀ W, Wr w w.heap.size X0 0 W → Calls Tryd.prog 14 #[.pointer (some ⟨w.heap.size, 0, none⟩), .slice A0 u c0] W fun e w' => e = .returned (.tuple #[]) ∧ Wr w w.heap.size (feed X0 (l0.take u)) u w') := ⟨fun W hW => by
    have := hW.write HG.out (fun k => k < w.heap.size) (fun k hk => by omega) A0 c0 (l0.take u) t3 (Kd.F_below HT.out hW.below) (by omega)
    rw [hlt, Nat.zero_add] at this
    exact this.mono (fun e w' ⟨h1, _, h2⟩ => ⟨h1, h2⟩)⟩
  have HA2 : Aside0 (∀ W, Wr w w.heap.size (feed X0 (l0.take u)) u W → Calls Tryd.prog 14 #[.pointer (some ⟨w.heap.size, 0, none⟩), .slice none 0 0] W fun e w' => e = .returned (.tuple #[]) ∧ Wr w w.heap.size (feed X0 (l0.take u)) u w') := ⟨fun W hW => by
    have := hW.write HG.out (fun k => k < w.heap.size) (fun k hk => by omega) none 0 [] (Nat.le_refl _) (Kd.R_F (Kd.R_nil (Kd.int .u8) 5 W w.heap.size (fun k => k < w.heap.size))) (by rw [List.length_nil]; omega)
    exact this.mono (fun e w' ⟨h1, _, h2⟩ => ⟨h1, h2⟩)⟩
  have HA3 : Aside0 (∀ W, Wr w w.heap.size (feed X0 (l0.take u)) u W → Calls Tryd.prog 14 #[.pointer (some ⟨w.heap.size, 0, none⟩), .slice A' (l0.length - u) (c0 - u)] W fun e w' => e = .returned (.tuple #[]) ∧ Wr w w.heap.size (feed X0 l0) l0.length w') := ⟨fun W hW => by
    have := hW.write HG.out (fun k => k < w.heap.size) (fun k hk => by omega) A' (c0 - u) (l0.drop u) d3 (Kd.F_below HD.out hW.below) (by omega)
    rw [hld, ← feed_append, List.take_append_drop, show u + (l0.length - u) = l0.length by omega] at this
    exact this.mono (fun e w' ⟨h1, _, h2⟩ => ⟨h1, h2⟩)⟩
  have HSM : Aside0 (∀ W, Wr w w.heap.size (feed X0 l0) l0.length W → Calls Tryd.prog 15 #[.pointer (some ⟨w.heap.size, 0, none⟩)] W fun e w' => e = .returned (.agg C) ∧ Wr w w.heap.size (feed X0 l0) l0.length w') := ⟨fun W hW => by
    have := hW.sum HG.out (by omega)
    rw [HOX.out] at this
    exact this.mono (fun e w' ⟨h1, _, h2⟩ => ⟨h1, h2⟩)⟩
  clear h hr0 hc0 hG_ hO3 hO hC t2 d2 t3 d3 hOX hlt hld u0 u1 hi0 hsz HT HD HF HN HOX HLT HLD
  go_enter Tryd.func5, Tryd.ntmps5
  go_wp2_with (go_at_call 13; refine (Wr.new _ HG.out).mono ?_; rintro e w1 ⟨rfl, hw1⟩; have HW1 := Aside0.mk hw1; clear hw1)
  refine (HA1.out _ HW1.out).mono ?_
  rintro e w2 ⟨rfl, hw2⟩
  have HW2 := Aside0.mk hw2
  clear hw2 HA1 HW1
  go_wp2_with fail
  refine (HA2.out _ HW2.out).mono ?_
  rintro e w3 ⟨rfl, hw3⟩
  have HW3 := Aside0.mk hw3
  clear hw3 HA2 HW2
  go_wp2_with fail
  refine (HA3.out _ HW3.out).mono ?_
  rintro e w4 ⟨rfl, hw4⟩
  have HW4 := Aside0.mk hw4
  clear hw4 HA3 HW3
  go_wp2_with (first | (go_at_call 15; refine (HSM.out _ HW4.out).mono ?_; rintro e w5 ⟨rfl, hw5⟩; have HW5 := Aside0.mk hw5; clear hw5) | (go_at_call 10; refine (HS.out _ HW5.out.below).mono ?_; rintro e w6 ⟨rfl, hb6⟩; have HW6 := Aside0.mk (HW5.out.step hb6); clear hb6) | (go_at_call 16; refine (Len_calls _ _ _ _ _ _ HW6.out.hs).mono ?_; rintro e w7 ⟨rfl, rfl⟩) | (go_at_call 12; refine (HAW.out _ HW6.out.below).mono ?_; rintro e w8 ⟨rfl, hb8⟩; have HB8 := Aside0.mk (below_step HW6.out.below hb8); clear hb8))
  go_ret
  exact ⟨rfl, HB8.out⟩
end Go.Proofs.YtkimpjlaailhcaaDoor.PA
