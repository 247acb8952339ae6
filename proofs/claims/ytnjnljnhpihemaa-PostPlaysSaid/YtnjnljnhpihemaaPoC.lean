/- slices.Clone of bytes. -/
import Derived.Test.YtnjnljnhpihemaaPAx0
import Derived.LoopTactic
import Derived.WalkSpells
import Derived.Lib.Hide
set_option linter.unusedVariables false
set_option linter.unusedSimpArgs false
namespace Go.Proofs.Ytnjnljnhpihemaa.PA
open Go Go.RowKit Go.Proofs.YtnjnljnhpihemaaW.PrintWords Go.Proofs.YtnjnljnhpihemaaW.PrintLast Go.Proofs.YtnjnljnhpihemaaW.PrintMore
theorem info5 : (Try.prog.info? 5).map (fun i => (i.zero, i.size, i.bytes)) = some (some (.int .u8 0), 1, 1) := by kernel_rfl
def slices_Clone_byte_byte.f (l : List Int) : Option (List Int) := if l.length < 140737488355328 then some l else none
set_option maxHeartbeats 1000000 in
set_option maxRecDepth 100000 in
theorem slices_Clone_byte_byte.calls (A0 : Option Addr) (c0 : Nat) (l0 : List Int) (r : List Int) (w : World) (hr0 : Kd.C (Kd.int .u8) w A0 l0.length l0) (hc0 : l0.length ≤ c0) (h : slices_Clone_byte_byte.f l0 = some r) :
    Calls Try.prog 20 #[.slice A0 l0.length c0] w fun e w' => ∃ v0_ : Value, e = .returned (v0_) ∧ Kd.R (Kd.int .u8) 5 w' w.heap.size (fun _ => True) v0_ r ∧ Below w.heap.size w w' := by
  unfold slices_Clone_byte_byte.f at h
  split at h
  case isFalse => cases h
  rename_i hl
  obtain rfl := Option.some.inj h
  have HR0 := Aside0.mk hr0
  have LM := Aside0.mk hl
  clear hr0 hl h
  have heql := fun W : World => Lib.run_eql_slice_nil (P := Try.prog) W 23 5 A0 l0.length c0 0 0 Try.underlying23
  cases A0 with
  | none =>
    have hn : l0 = [] := by
      have := HR0.out.2.2
      cases l0 with
      | nil => rfl
      | cons x t => obtain ⟨ad, he, _⟩ := this (by simp); cases he
    subst hn
    simp only [Option.isNone_none, List.length_nil] at heql ⊢
    go_enter Try.func20, Try.ntmps20
    go_wp2
    go_ret
    exact ⟨_, rfl, Kd.R_nil _ _ _ _ _, Below.refl _ _⟩
  | some ad =>
    simp only [Option.isNone_some] at heql
    go_enter Try.func20, Try.ntmps20
    go_wp2_with (first | ((with_reducible refine gate_dst (N := 5) rfl ?_); refine Kd.R_lit (Kd.int .u8) (w0 := w) w.heap.size 5 ?hg (N := 5) ?hd (xs := ([] : List Int)) (inner := []) (ok := fun _ => True) (okp := fun _ => True) ?hr ?hp (fun _ hk => hk) trivial (Below.refl _ _) (Nat.le_refl _) (by simp) ?_; (case hd => rfl); (case hg => rfl); (case hr => first | (go_simp; done) | (go_simp; rfl)); (case hp => exact (Reps.none _ _)); intro v360 w18 ho19 hb hg_ hnew_; clear hg_ hnew_) | ((with_reducible refine gate_builtin (b := .append) (xs := #[.tmp 5, .tmp 6]) rfl ?_); at_builtin; refine Kd.R_append_rows (Kd.int .u8) (w0 := w) w.heap.size rfl (.tmp 5) (.tmp 6) 23 5 (.int .u8 0) 1 rfl Try.underlying23 info5 rfl (by decide) (by omega) v360 ([] : List Int) l0 _ _ _ (fun _ => True) (fun _ => False) rfl rfl ?aO ?aR (fun _ _ h => h) (fun _ h => h.elim) ?aF ?aB ?aS ?aL ?_; (case aR => exact (Kd.C_below HR0.out hb)); (case aB => exact hb); (case aF => exact (fun _ _ => trivial)); (case aO => exact ho19); (case aS => exact hb.size); (case aL => have := LM.out; simp; omega); intro v103 w6 ho2 hb2 hg2 hat2; have HO := Aside0.mk ho2; have HB := Aside0.mk hb2; clear ho2 hb2 hg2 hat2 ho19 hb))
    go_ret
    exact ⟨_, rfl, by have := HO.out; rwa [List.nil_append] at this, HB.out⟩
end Go.Proofs.Ytnjnljnhpihemaa.PA
