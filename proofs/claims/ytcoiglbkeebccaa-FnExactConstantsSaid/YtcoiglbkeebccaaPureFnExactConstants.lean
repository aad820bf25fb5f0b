/- Every exported constant has the value that the document gives it: the pure statement of the law FnExactConstants. No condition. -/
import Derived.Test.YtcoiglbkeebccaaX0
import Derived.Test.YtcoiglbkeebccaaX2
namespace Go.Proofs.Ytcoiglbkeebccaa.Pure
open Go Go.Proofs.Ytcoiglbkeebccaa.X
theorem FnExactConstants : laws_FnExactConstants.Pure := rfl
end Go.Proofs.Ytcoiglbkeebccaa.Pure
