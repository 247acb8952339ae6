/- Own texts of this claim. -/
import Derived.SizedLaws
import Derived.ChangeSlices

