/- Rows of cells: the closed case. -/
import Derived.Test.YtkcdlilglgfkaaaRgI
import Derived.Test.YtkcdlilglgfkaaaRgT
import Derived.Test.YtkcdlilglgfkaaaMark
set_option linter.unusedVariables false
set_option linter.unusedSimpArgs false
namespace Go.Proofs.Ytkcdlilglgfkaaa.Rg
open Go Go.RowKit Go.Proofs.YtkcdlilglgfkaaaW.PrintWords Go.Proofs.YtkcdlilglgfkaaaW.PrintLast Go.Proofs.YtkcdlilglgfkaaaW.PrintMore Go.Proofs.Ytkcdlilglgfkaaa.PA Go.Proofs.Ytkcdlilglgfkaaa.Ar Go.Proofs.Ytkcdlilglgfkaaa.Sha
section
variable {w0 w : World} {gr gm : Nat} {L : List Ce} {M : List Idt} {v : Value} {a i : Idt} {ch : Int}
theorem Text_calls (h : Rw w0 gr gm L M v w) (hl : L.length < 100000) :
    Calls Try.prog 26 #[.pointer (some ⟨gr, 0, none⟩)] w fun e w' => ∃ A c, e = .returned (.slice A (textF L).length c) ∧ Kd.C (Kd.int .u8) w' A (textF L).length (textF L) ∧ Below w.heap.size w w' :=
  (callsIn_wide.1 (Text_in 3 (Nat.le_refl _) h hl)).mono fun e w' ⟨v0, he, hR, hb⟩ => by
    obtain ⟨A, c, rfl, _, hC⟩ := Kd.R_reads hR
    exact ⟨A, c, he, hC, hb⟩
/-- An Insert that may be. -/
theorem Ins_ok (h : Rw w0 gr gm L M v w) (hl : L.length < 99999) (ha : okI a) (hi : okI i) (h1 : ¬ (i.1 < 1 ∨ i.1 ≤ a.1)) (h2 : i ∉ M) (h3 : a = z0 ∨ a ∈ M) (j : Nat) (hj : ∀ j', start L a j' → j' = j) :
    Calls Try.prog 20 #[.pointer (some ⟨gr, 0, none⟩), .agg (iv a).toArray, .agg (iv i).toArray, .int .u8 ch] w fun e w' => e = .returned (.int .i64 0) ∧ ∃ v', Rw w0 gr gm (insAt L (adv L i j) ⟨i, ch, false⟩) (M ++ [i]) v' w' := by
  refine (Insert_calls h hl ha hi).mono ?_
  rintro e w' ⟨c, rfl, ⟨hbad, _⟩ | ⟨rfl, _, _, _, j', v', hst, hR, _⟩⟩
  · rcases hbad with ⟨_, h⟩ | ⟨_, _, h⟩ | ⟨_, _, _, h, h'⟩
    · exact absurd h h1
    · exact absurd h h2
    · exact absurd h3 (fun h3 => h3.elim h h')
  · rw [hj j' hst] at hR
    exact ⟨rfl, v', hR⟩
end
def idn (n : Int) : Idt := (n, List.replicate 32 0)
theorem ok_idn {n : Int} (h : 0 ≤ n ∧ n < 100) : okI (idn n) := by
  refine ⟨?_, rfl, fun y hy => ?_⟩
  · simp [idn, Lit.wf, IntKind.min, IntKind.max, IntKind.signed, IntKind.bits]
    omega
  · obtain ⟨_, rfl⟩ := List.mem_replicate.1 hy
    omega
def ca : Ce := ⟨idn 1, 97, false⟩
def cb : Ce := ⟨idn 2, 98, false⟩
def cc : Ce := ⟨idn 3, 99, false⟩
theorem st1 (j : Nat) (h : start [] z0 j) : j = 0 := by
  rcases h with ⟨_, h⟩ | ⟨h, _⟩
  · exact h
  · exact absurd rfl h
theorem st2 (j : Nat) (h : start [ca] (idn 1) j) : j = 1 := by
  rcases h with ⟨h, _⟩ | ⟨_, k, x, rfl, hk, _⟩
  · exact absurd h (by decide)
  · have := (List.getElem?_eq_some_iff.1 hk).1
    simp at this
    omega
theorem st3 (j : Nat) (h : start [ca, cb] (idn 1) j) : j = 1 := by
  rcases h with ⟨h, _⟩ | ⟨_, k, x, rfl, hk, hx⟩
  · exact absurd h (by decide)
  · have := (List.getElem?_eq_some_iff.1 hk).1
    match k, hk with
    | 0, _ => rfl
    | 1, hk =>
      obtain rfl : cb = x := by simpa using hk
      exact absurd hx (by decide)
    | k + 2, _ => exact absurd this (by simp)
set_option maxRecDepth 100000 in
set_option maxHeartbeats 4000000 in
theorem awake_calls (w : World) : Calls Try.prog 14 #[] w fun e w' => e = .returned (.bool true) ∧ Below w.heap.size w w' := by
  have HN := Aside0.mk (New_calls w)
  go_enter Try.func14, Try.ntmps14
  go_upto_region 2 with (go_at_call 22; refine HN.out.mono ?_; rintro e w1 ⟨gr, gm, rfl, hR⟩; have HR1 := Aside0.mk hR; clear hR)
  have HI1 := Aside0.mk (Ins_ok (ch := 97) HR1.out (by decide) (ok_idn (n := 0) (by decide)) (ok_idn (n := 1) (by decide)) (by decide) (by simp) (Or.inl rfl) 0 st1)
  clear HN HR1
  go_wp2_with fail
  refine calls_of_args (by rfl) (HI1.out.mono ?_)
  rintro e w2 ⟨rfl, v2, hR2⟩
  have HR2 : Aside0 (Rw w gr gm [ca] [idn 1] v2 w2) := ⟨hR2⟩
  have HI2 := Aside0.mk (Ins_ok (ch := 98) HR2.out (by decide) (ok_idn (n := 1) (by decide)) (ok_idn (n := 2) (by decide)) (by decide) (by decide) (Or.inr (by decide)) 1 st2)
  clear hR2 HI1 HR2
  go_wp2_with fail
  refine calls_of_args (by rfl) (HI2.out.mono ?_)
  rintro e w3 ⟨rfl, v3, hR3⟩
  have HR3 : Aside0 (Rw w gr gm [ca, cb] [idn 1, idn 2] v3 w3) := ⟨hR3⟩
  have HI3 := Aside0.mk (Ins_ok (ch := 99) HR3.out (by decide) (ok_idn (n := 1) (by decide)) (ok_idn (n := 3) (by decide)) (by decide) (by decide) (Or.inr (by decide)) 1 st3)
  clear hR3 HI2 HR3
  go_wp2_with fail
  refine calls_of_args (by rfl) (HI3.out.mono ?_)
  rintro e w4 ⟨rfl, v4, hR4⟩
  have HR4 : Aside0 (Rw w gr gm [ca, cc, cb] [idn 1, idn 2, idn 3] v4 w4) := ⟨hR4⟩
  have HT := Aside0.mk (Text_calls HR4.out (by decide))
  have HB4 := Aside0.mk HR4.out.below
  have ht : textF [ca, cc, cb] = [97, 99, 98] := rfl
  rw [ht] at HT
  clear hR4 HI3 HR4 ht
  have hst : (strOfNums [97, 99, 98]).toList = ([97, 99, 98] : List UInt8) := by decide +kernel
  go_wp2_with fail
  refine HT.out.mono ?_
  rintro e w5 ⟨A, c, rfl, hC, hb⟩
  have s1 := Kd.C_string (src := 34) (dst := 9) (c := c) Try.underlying34 Try.underlying5 Try.underlying9 hC
  rw [show ([97, 99, 98] : List Int).length = 3 from rfl] at s1
  have HB5 := Aside0.mk (HB4.out.trans (hb.mono HB4.out.size))
  clear hC hb HT HB4
  go_wp2_with fail
  go_ret
  exact ⟨rfl, HB5.out⟩
end Go.Proofs.Ytkcdlilglgfkaaa.Rg
