/- Of any bytes the truths are taken off that the document says. -/
import Derived.Test.YtcffooeiennmjaaColFT
import Derived.Test.YtcffooeiennmjaaPAx13
set_option linter.unusedVariables false
set_option linter.unusedSimpArgs false
namespace Go.Proofs.Ytcffooeiennmjaa.Pure
open Go.RowKit Go.Proofs.Ytcffooeiennmjaa.PA Go.Proofs.YtcffooeiennmjaaW.PrintWords Go.Proofs.YtcffooeiennmjaaW.PrintLast Go.Proofs.Ytcffooeiennmjaa.ColT
theorem ColumnTruths : stemmalaw03_ColumnTruths.Pure := by
  intro b most _ hbl hb8 hm
  have hb : ∀ x ∈ b, LebT.isByte x := fun x hx => LebP.wf_u8 (hb8 x hx)
  refine ⟨800000, ?_⟩
  have hlr := getFlags_len b most
  unfold stemmalaw03_ColumnTruths.f
  rw [getFlags_f (by omega) hb (by omega), rgetFlags_f (by omega) hb (by omega)]
  simp only [Option.bind_some]
  rw [alike_f _ (by omega) (by omega), awake03 (by omega)]
  simp
end Go.Proofs.Ytcffooeiennmjaa.Pure
