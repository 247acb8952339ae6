/- ShaDigits: what is left beside the walk: the text's size. -/
import Derived.Test.YtkimpjlaailhcaaDoorPAx8
set_option linter.unusedVariables false
namespace Go.Proofs.YtkimpjlaailhcaaDoor.Pure
open Go
theorem ShaDigits (a0 : (List Int)) (a1 : ByteArray) (q1 : a1.size ≤ maxLen) (b1 : a1.size ≤ 140737488351232) : PA.stemmalaw01_ShaDigits.f a0 a1 = some true := by
  unfold PA.stemmalaw01_ShaDigits.f
  rw [if_pos b1]
end Go.Proofs.YtkimpjlaailhcaaDoor.Pure
