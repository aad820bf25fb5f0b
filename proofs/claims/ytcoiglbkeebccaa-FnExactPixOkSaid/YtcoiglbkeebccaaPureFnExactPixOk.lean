/- The program's PixOk is the reference's: the pure statement of the law FnExactPixOk. No condition. -/
import Derived.Test.YtcoiglbkeebccaaPlPixOkS
import Derived.Test.YtcoiglbkeebccaaX0
import Derived.Test.YtcoiglbkeebccaaX2
namespace Go.Proofs.Ytcoiglbkeebccaa.Pure
open Go Go.Proofs.Ytcoiglbkeebccaa.X Go.Proofs.Ytcoiglbkeebccaa.Pl
theorem FnExactPixOk : laws_FnExactPixOk.Pure := by
  intro r g b a _ _ _ _
  simp [laws_FnExactPixOk.f, laws_toPixPix.f, specPixOk_ok, implPixOk_ok]
end Go.Proofs.Ytcoiglbkeebccaa.Pure
