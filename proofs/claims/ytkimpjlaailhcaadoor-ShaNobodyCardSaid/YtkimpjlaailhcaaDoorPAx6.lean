/- stemmalaw01.ShaNobody, walked. -/
import Derived.Test.YtkimpjlaailhcaaDoorShaA
set_option linter.unusedVariables false
set_option linter.unusedSimpArgs false
namespace Go.Proofs.YtkimpjlaailhcaaDoor.Sha
open Go Go.RowKit Go.Proofs.YtkimpjlaailhcaaDoorW.PrintWords Go.Proofs.YtkimpjlaailhcaaDoorW.PrintLast Go.Proofs.YtkimpjlaailhcaaDoor.Ar Go.Proofs.YtkimpjlaailhcaaDoor.PA
theorem Write_nil (w : World) (v : Value) : Calls Tryd.prog 14 #[.pointer none, v] w fun e w' => e = .returned (.tuple #[]) ∧ w' = w := by
  go_enter Tryd.func14, Tryd.ntmps14
  go_wp2
  refine bodyPost_ret (results_none rfl _ _ _) rfl ?_
  exact ⟨rfl, rfl⟩
theorem Len_nil (w : World) : Calls Tryd.prog 16 #[.pointer none] w fun e w' => e = .returned (.int .i64 0) ∧ w' = w := by
  go_enter Tryd.func16, Tryd.ntmps16
  go_wp2
  go_ret
  exact ⟨rfl, rfl⟩
def z32 : List Int := List.replicate 32 0
set_option maxRecDepth 100000 in
theorem Sum_nil (w : World) : Calls Tryd.prog 15 #[.pointer none] w fun e w' => e = .returned (.agg (ns .u8 z32)) ∧ Below w.heap.size w w' := by
  go_enter Tryd.func15, Tryd.ntmps15
  have hb : (Tryd.prog.built 24 []) = some (ns .u8 z32) := by kernel_rfl
  go_wp2_with (first | ((with_reducible refine gate_ (Op.build 24 #[]) rfl ?_); refine wpList_build_as rfl 24 _ rfl [] rfl (ns .u8 z32) hb ?_) | ((with_reducible refine gate_ (Op.store 24 (.tmp 2) (.tmp 11)) rfl ?_); refine wpList_store_new rfl 24 (.tmp 2) (.tmp 11) rfl w _ _ (ns .u8 z32) rfl rfl rfl rfl (by kernel_rfl) (ns_one _ _) ?_))
  exact bodyPost_ret (results_cell_row rfl _ _ w.heap.size 24 _ (0, 0) _ rfl (blk_new w (.cells (ns .u8 z32) 24)) Tryd.underlying24 rfl (by kernel_rfl)) rfl ⟨rfl, below_alloc (Below.refl _ _) _⟩
end Go.Proofs.YtkimpjlaailhcaaDoor.Sha
namespace Go.Proofs.YtkimpjlaailhcaaDoor.PA
open Go.RowKit Go.Proofs.YtkimpjlaailhcaaDoorW.PrintWords Go.Proofs.YtkimpjlaailhcaaDoor.Sha Go.Proofs.YtkimpjlaailhcaaDoor.Ar
def stemmalaw01_ShaNobody.f (l0 : List Int) : Option Bool := some true
set_option maxRecDepth 100000 in
set_option maxHeartbeats 4000000 in
theorem stemmalaw01_ShaNobody.calls (A0 : Option Addr) (c0 : Nat) (l0 : List Int) (r : Bool) (w : World) (hr0 : Kd.C (Kd.int .u8) w A0 l0.length l0) (hc0 : l0.length ≤ c0) (hr_ : Aside0 (r = true)) (hG_ : Gl w) (h : stemmalaw01_ShaNobody.f l0 = some r) :
    Calls Tryd.prog 6 #[.slice A0 l0.length c0] w fun e w' => e = .returned (.bool r) ∧ Below w.heap.size w w' := by
  obtain ⟨rfl⟩ := hr_
  have HAW := Aside0.mk (fun (W : World) (hW : Below w.heap.size w W) => awake_calls W (hG_.below hW))
  have hb : (Tryd.prog.built 24 []) = some (ns .u8 z32) := by kernel_rfl
  have heq : ∀ W, (Op.equalIn 10000 24 (.agg (ns .u8 z32)) (.agg #[.int .u8 0, .int .u8 0, .int .u8 0, .int .u8 0, .int .u8 0, .int .u8 0, .int .u8 0, .int .u8 0, .int .u8 0, .int .u8 0, .int .u8 0, .int .u8 0, .int .u8 0, .int .u8 0, .int .u8 0, .int .u8 0, .int .u8 0, .int .u8 0, .int .u8 0, .int .u8 0, .int .u8 0, .int .u8 0, .int .u8 0, .int .u8 0, .int .u8 0, .int .u8 0, .int .u8 0, .int .u8 0, .int .u8 0, .int .u8 0, .int .u8 0, .int .u8 0])).run Tryd.prog W = .ok true W := fun W => run_equalIn_ns (P := Tryd.prog) W 9998 24 5 32 .u8 Tryd.underlying24 Tryd.underlying5 (fun _ => by kernel_rfl) z32 z32 rfl rfl
  obtain ⟨C, hC⟩ : ∃ C, ns .u8 z32 = C := ⟨_, rfl⟩
  have HS := Aside0.mk (fun W => Sum_nil W)
  rw [hC] at heq HS
  clear hC hr0 hc0 hG_ h hb
  go_enter Tryd.func6, Tryd.ntmps6
  go_wp2_with (first | (go_at_call 14; refine (Write_nil _ _).mono ?_; rintro e w' ⟨rfl, rfl⟩) | (go_at_call 15; refine (HS.out _).mono ?_; rintro e w2 ⟨rfl, hb2⟩; have HB2 := Aside0.mk hb2; clear hb2) | (go_at_call 16; refine (Len_nil _).mono ?_; rintro e w' ⟨rfl, rfl⟩) | (go_at_call 12; refine (HAW.out _ HB2.out).mono ?_; rintro e w3 ⟨rfl, hb3⟩; have HB3 := Aside0.mk (below_step HB2.out hb3); clear hb3))
  go_ret
  exact ⟨rfl, HB3.out⟩
end Go.Proofs.YtkimpjlaailhcaaDoor.PA
