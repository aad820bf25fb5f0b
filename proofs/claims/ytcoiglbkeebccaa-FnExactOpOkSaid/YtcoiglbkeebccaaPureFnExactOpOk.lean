/- The program's OpOk is the reference's: the pure statement of the law FnExactOpOk. No condition. -/
import Derived.Test.YtcoiglbkeebccaaPlOpOk
import Derived.Test.YtcoiglbkeebccaaX0
import Derived.Test.YtcoiglbkeebccaaX4
import Derived.Test.YtcoiglbkeebccaaX5
namespace Go.Proofs.Ytcoiglbkeebccaa.Pure
open Go Go.Proofs.Ytcoiglbkeebccaa.X Go.Proofs.Ytcoiglbkeebccaa.Pl
theorem FnExactOpOk : laws_FnExactOpOk.Pure := by
  intro q a b c d _ _ _ _ _
  refine ⟨1, ?_⟩
  simp [laws_FnExactOpOk.f, laws_toOpOp.f, specOpOk_ok, implOpOk_ok _ _ _ _ _ 1 (Nat.le_refl _)]
end Go.Proofs.Ytcoiglbkeebccaa.Pure
