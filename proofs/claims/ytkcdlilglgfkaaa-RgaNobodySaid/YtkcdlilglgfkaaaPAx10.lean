/- stemmalaw11.RgaNobody, walked. -/
import Derived.Test.YtkcdlilglgfkaaaRgN
set_option linter.unusedVariables false
set_option linter.unusedSimpArgs false
namespace Go.Proofs.Ytkcdlilglgfkaaa.PA
open Go Go.RowKit Go.Proofs.YtkcdlilglgfkaaaW.PrintWords Go.Proofs.YtkcdlilglgfkaaaW.PrintLast Go.Proofs.YtkcdlilglgfkaaaW.PrintMore Go.Proofs.Ytkcdlilglgfkaaa.Ar Go.Proofs.Ytkcdlilglgfkaaa.Sha Go.Proofs.Ytkcdlilglgfkaaa.Rg
def stemmalaw11_RgaNobody.f (n ch : Int) : Option Bool := some true
set_option maxRecDepth 100000 in
set_option maxHeartbeats 4000000 in
theorem stemmalaw11_RgaNobody.calls (n ch : Int) (r : Bool) (w : World) (hr_ : Aside0 (r = true)) (h : stemmalaw11_RgaNobody.f n ch = some r) :
    Calls Try.prog 10 #[.int .i64 n, .int .u8 ch] w fun e w' => e = .returned (.bool r) ∧ Below w.heap.size w w' := by
  obtain ⟨rfl⟩ := hr_
  clear h
  have HZ := Aside0.mk zero_id
  have HBZ := Aside0.mk built_zero
  have HZs : Aside0 ((Try.prog.info? TI).map (·.size) = some (iv z0).toArray.size) := ⟨size_id⟩
  have HZ1 : Aside0 (((iv z0).toArray).all (·.oneCell') = true) := ⟨iv_all z0⟩
  have HAT := Aside0.mk (nil_At w n)
  obtain ⟨Z, hZ⟩ : ∃ Z, (iv z0).toArray = Z := ⟨_, rfl⟩
  rw [hZ] at HZ HBZ HZs HZ1 HAT
  clear hZ
  go_enter Try.func10, Try.ntmps10
  go_upto_region 3 with (first | (go_at_call 24; refine HAT.out.mono ?_; rintro e w1 ⟨rfl, hb⟩; have HB1 := Aside0.mk hb; clear hb) | ((with_reducible refine gate_ (Op.alloc 28) rfl ?_); refine wpList_alloc_as rfl 28 rfl Z HZ.out ?_) | ((with_reducible refine gate_ (Op.store 28 (.tmp 6) (.tmp 12)) rfl ?_); refine store_same rfl 28 (.tmp 6) (.tmp 12) rfl w1.heap.size Z (by first | rfl | simp [Act.eval, Act.put]) (by first | rfl | simp [Act.eval, Act.put]) 28 (blk_new w1 _) HZs.out HZ1.out ?_))
  have HB2 := Aside0.mk (HB1.out.trans ((below_alloc (Below.refl w1.heap.size w1) (.cells Z TI)).mono HB1.out.size))
  clear HB1 HAT
  generalize w1.alloc (.cells Z TI) = w2 at *
  go_wp2_with (first | ((with_reducible refine gate_ (Op.build 28 #[]) rfl ?_); refine wpList_build_as rfl 28 _ rfl [] (by first | rfl | simp) Z HBZ.out ?_) | (go_at_call 20; refine (nil_Insert _ _ _ _).mono ?_; rintro e w3 ⟨rfl, hb⟩; have HB3 := Aside0.mk (HB2.out.trans (hb.mono HB2.out.size)); clear hb) | (go_at_call 27; refine (nil_Remove _ _).mono ?_; rintro e w4 ⟨rfl, hb⟩; have HB4 := Aside0.mk (HB3.out.trans (hb.mono HB3.out.size)); clear hb) | (go_at_call 18; refine (nil_Cells _).mono ?_; rintro e w5 ⟨rfl, hb⟩; have HB5 := Aside0.mk (HB4.out.trans (hb.mono HB4.out.size)); clear hb) | (go_at_call 26; refine (nil_Text _).mono ?_; rintro e w6 ⟨rfl, hb⟩; have HB6 := Aside0.mk (HB5.out.trans (hb.mono HB5.out.size)); clear hb) | (go_at_call 30; refine (nil_Len _).mono ?_; rintro e w7 ⟨rfl, hb⟩; have HB7 := Aside0.mk (HB6.out.trans (hb.mono HB6.out.size)); clear hb) | (go_at_call 29; refine (nil_Fork _).mono ?_; rintro e w8 ⟨rfl, hb⟩; have HB8 := Aside0.mk (HB7.out.trans (hb.mono HB7.out.size)); clear hb) | (go_at_call 14; refine (awake_calls _).mono ?_; rintro e w9 ⟨rfl, hb⟩; have HB9 := Aside0.mk (HB8.out.trans (hb.mono HB8.out.size)); clear hb))
  go_ret
  exact ⟨rfl, HB9.out⟩
end Go.Proofs.Ytkcdlilglgfkaaa.PA
