/- The program's BitOk is the reference's: the pure statement of the law FnExactBitOk. No condition. -/
import Derived.Test.YtcoiglbkeebccaaPlBitOk
import Derived.Test.YtcoiglbkeebccaaX0
import Derived.Test.YtcoiglbkeebccaaX2
namespace Go.Proofs.Ytcoiglbkeebccaa.Pure
open Go Go.Proofs.Ytcoiglbkeebccaa.X Go.Proofs.Ytcoiglbkeebccaa.Pl
theorem FnExactBitOk : laws_FnExactBitOk.Pure := by
  intro n b _ _
  simp [laws_FnExactBitOk.f, laws_toBitNum.f, specBitOk_ok, implBitOk_ok]
end Go.Proofs.Ytcoiglbkeebccaa.Pure
