/- stemmalaw23.PostNobody, walked. -/
import Derived.Test.YtnjnljnhpihemaaPoN
set_option linter.unusedVariables false
set_option linter.unusedSimpArgs false
namespace Go.Proofs.Ytnjnljnhpihemaa.PA
open Go Go.RowKit Go.Proofs.YtnjnljnhpihemaaW.PrintWords Go.Proofs.YtnjnljnhpihemaaW.PrintLast Go.Proofs.Ytnjnljnhpihemaa.Po
def stemmalaw23_PostNobody.f (a b : Int) (l : List Int) : Option Bool := some true
set_option maxRecDepth 100000 in
set_option maxHeartbeats 4000000 in
theorem stemmalaw23_PostNobody.calls (a b : Int) (A : Option Addr) (c : Nat) (l : List Int) (r : Bool) (w : World) (hr2 : Kd.C (Kd.int .u8) w A l.length l) (hc2 : l.length ≤ c) (hr_ : Aside0 (r = true)) (h : stemmalaw23_PostNobody.f a b l = some r) :
    Calls Try.prog 6 #[.int .i64 a, .int .i64 b, .slice A l.length c] w fun e w' => e = .returned (.bool r) ∧ Below w.heap.size w w' := by
  obtain ⟨rfl⟩ := hr_
  clear h hr2 hc2
  go_enter Try.func6, Try.ntmps6
  go_wp2_with fail
  refine (nil_clear w).mono ?_
  rintro e w1 ⟨rfl, hb⟩
  have H1 := Aside0.mk hb
  clear hb
  go_wp2_with fail
  refine (nil_Look w1 a b 0).mono ?_
  rintro e w2 ⟨rfl, hb⟩
  have H2 := Aside0.mk (H1.out.trans (hb.mono H1.out.size))
  clear hb H1
  go_wp2_with fail
  refine (nil_Take w2 a b 0).mono ?_
  rintro e w3 ⟨rfl, hb⟩
  have H3 := Aside0.mk (H2.out.trans (hb.mono H2.out.size))
  clear hb H2
  go_wp2_with fail
  refine (nil_Send w3 a b A l.length c).mono ?_
  rintro e w4 ⟨rfl, hb⟩
  have H4 := Aside0.mk (H3.out.trans (hb.mono H3.out.size))
  clear hb H3
  go_wp2_with fail
  refine (nil_Len w4 a b).mono ?_
  rintro e w5 ⟨rfl, hb⟩
  have H5 := Aside0.mk (H4.out.trans (hb.mono H4.out.size))
  clear hb H4
  go_wp2_with fail
  refine (nil_Drop w5 a b 0).mono ?_
  rintro e w6 ⟨rfl, hb⟩
  have H6 := Aside0.mk (H5.out.trans (hb.mono H5.out.size))
  clear hb H5
  go_wp2_with fail
  refine (nil_Double w6 a b 0).mono ?_
  rintro e w7 ⟨rfl, hb⟩
  have H7 := Aside0.mk (H6.out.trans (hb.mono H6.out.size))
  clear hb H6
  go_wp2_with fail
  refine (awake_calls w7).mono ?_
  rintro e w8 ⟨rfl, hb⟩
  have H8 := Aside0.mk (H7.out.trans (hb.mono H7.out.size))
  clear hb H7
  go_wp2_with fail
  go_ret
  exact ⟨rfl, H8.out⟩
end Go.Proofs.Ytnjnljnhpihemaa.PA
