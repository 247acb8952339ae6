/- stemmalaw01.awake: what every right program sums. -/
import Derived.Test.YtkimpjlaailhcaaDoorShaX
import Derived.Test.YtkimpjlaailhcaaDoorArE
import Derived.Test.YtkimpjlaailhcaaDoorMark
set_option linter.unusedVariables false
set_option linter.unusedSimpArgs false
namespace Go.Proofs.YtkimpjlaailhcaaDoor.Sha
open Go Go.RowKit Go.Proofs.YtkimpjlaailhcaaDoorW.PrintWords Go.Proofs.YtkimpjlaailhcaaDoorW.PrintLast Go.Proofs.YtkimpjlaailhcaaDoor.Ar Go.Proofs.YtkimpjlaailhcaaDoor.PA
theorem abc_hex : hexF (sumF [97, 98, 99]) = [98, 97, 55, 56, 49, 54, 98, 102, 56, 102, 48, 49, 99, 102, 101, 97, 52, 49, 52, 49, 52, 48, 100, 101, 53, 100, 97, 101, 50, 50, 50, 51, 98, 48, 48, 51, 54, 49, 97, 51, 57, 54, 49, 55, 55, 97, 57, 99, 98, 52, 49, 48, 102, 102, 54, 49, 102, 50, 48, 48, 49, 53, 97, 100] := by decide +kernel
theorem abc_str : ((strOfNums (hexF (sumF [97, 98, 99]))).toList == ([98, 97, 55, 56, 49, 54, 98, 102, 56, 102, 48, 49, 99, 102, 101, 97, 52, 49, 52, 49, 52, 48, 100, 101, 53, 100, 97, 101, 50, 50, 50, 51, 98, 48, 48, 51, 54, 49, 97, 51, 57, 54, 49, 55, 55, 97, 57, 99, 98, 52, 49, 48, 102, 102, 54, 49, 102, 50, 48, 48, 49, 53, 97, 100] : List UInt8)) = true := by rw [abc_hex]; decide +kernel
theorem R_of_blk {w : World} {b base : Nat} {l : List Int} (h : w.heap[b]? = some (.cells (ns .u8 l) 5 (0, 0))) (hb : base ≤ b) (hl : l.length ≤ maxLen) : Kd.R (Kd.int .u8) 5 w base (fun _ => True) (.slice (some ⟨b, 0, none⟩) l.length l.length) l :=
  ⟨fun _ _ => trivial, encs (Value.int .u8) l, ⟨by simp [encs, Kd.int, Kd.scalar], .inr ⟨b, l.length, ns .u8 l, rfl, hb, h, Nat.le_refl _, hl, by simp [ns, Kd.int, Kd.scalar], by simp only [ns, encs, Kd.int, Kd.scalar, Nat.mul_one]; exact List.take_of_length_le (by simp)⟩⟩, Kd.reps_scalar l⟩
theorem sumF_byte (l : List Int) : ∀ x ∈ sumF l, isB x := by
  intro x hx
  rw [sumF, sumH, outF] at hx
  generalize (feed _ _).1 = S at hx
  have : ∀ k, ∀ x ∈ it (outS S) (List.replicate 32 0) k, isB x := by
    intro k
    induction k with
    | zero => intro x hx; rw [it, List.mem_replicate] at hx; rw [hx.2]; exact ⟨by omega, by omega⟩
    | succ k ih =>
      intro x hx
      rw [it, outS] at hx
      rcases List.mem_or_eq_of_mem_set hx with h | h
      · exact ih x h
      · rw [h]; exact ⟨by omega, by omega⟩
  exact this 32 x hx
set_option maxRecDepth 100000 in
set_option maxHeartbeats 4000000 in
theorem awake_calls (w : World) (hG : Gl w) : Calls Tryd.prog 12 #[] w fun e w' => e = .returned (.bool true) ∧ Below w.heap.size w w' := by
  have hR := R_of_blk (w := w.alloc (.cells (ns .u8 [97, 98, 99]) 5)) (base := w.heap.size) (blk_new w _) (Nat.le_refl _) (by decide)
  obtain ⟨W1, hrun, hV, hbel, hsz⟩ := mark_run 22 5 Tryd.underlying22 Tryd.underlying5 hR (by decide)
  have hb1 : Below w.heap.size w W1 := (below_alloc (Below.refl _ _) _).trans hbel
  have HS := Aside0.mk (Sum_calls W1 (some ⟨w.heap.size, 0, none⟩) 3 [97, 98, 99] (by decide) (Kd.F_now (Kd.V_F hV)) (hG.below hb1) (by decide))
  have HX := Aside0.mk (fun (W : World) => Hex_calls W (sumF [97, 98, 99]) (sumF_len _) (sumF_byte _))
  have HE := Aside0.mk abc_str
  obtain ⟨O, hO⟩ : ∃ O, sumF [97, 98, 99] = O := ⟨_, rfl⟩
  rw [hO] at HS HX HE
  obtain ⟨D, hD⟩ : ∃ D, strOfNums (hexF O) = D := ⟨_, rfl⟩
  rw [hD] at HX HE
  have he := HE.out
  have HB1 := Aside0.mk hb1
  have hrun2 : (convert 22 22 (.slice (some ⟨w.heap.size, 0, none⟩) 3 3)).run Tryd.prog (w.alloc (.cells #[.int .u8 97, .int .u8 98, .int .u8 99] 5)) = .ok (.slice (some ⟨w.heap.size, 0, none⟩) 3 3) W1 := hrun
  clear hrun hV hbel hsz hR hb1 hG hO hD HE
  go_enter Tryd.func12, Tryd.ntmps12
  go_wp2_with (first | (go_at_call 10; refine HS.out.mono ?_; rintro e w2 ⟨rfl, hb2⟩; have HB2 := Aside0.mk (below_step HB1.out hb2); clear hb2) | (go_at_call 21; refine (HX.out _).mono ?_; rintro e w3 ⟨rfl, hb3⟩; have HB3 := Aside0.mk (below_step HB2.out hb3); clear hb3))
  go_ret
  exact ⟨rfl, HB3.out⟩
end Go.Proofs.YtkimpjlaailhcaaDoor.Sha
