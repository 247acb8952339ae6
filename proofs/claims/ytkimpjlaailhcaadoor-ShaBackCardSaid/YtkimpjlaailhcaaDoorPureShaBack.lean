/- ShaBack: what is left beside the walk: the text's size. -/
import Derived.Test.YtkimpjlaailhcaaDoorPAx9
set_option linter.unusedVariables false
namespace Go.Proofs.YtkimpjlaailhcaaDoor.Pure
open Go
theorem ShaBack (a0 : (List Int)) (a1 : (List Int)) (a2 : ByteArray) (q2 : a2.size ≤ maxLen) (b2 : a2.size ≤ 140737488351232) : PA.stemmalaw01_ShaBack.f a0 a1 a2 = some true := by
  unfold PA.stemmalaw01_ShaBack.f
  rw [if_pos b2]
end Go.Proofs.YtkimpjlaailhcaaDoor.Pure
