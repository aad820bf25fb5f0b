/- The laws' own call of PixOk at one colour answers true. No condition. -/
import Derived.Test.YtcoiglbkeebccabPlPixOk
import Derived.Test.YtcoiglbkeebccabX0
import Derived.Test.YtcoiglbkeebccabX3
namespace Go.Proofs.Ytcoiglbkeebccab.Pl
open Go Go.RowKit Go.Proofs.Ytcoiglbkeebccab.X Go.Proofs.YtcoiglbkeebccabW.PrintWords Go.Proofs.YtcoiglbkeebccabW.PrintLast Go.Proofs.YtcoiglbkeebccabW.PrintMore
theorem eaOk_ok : laws_eaOk.f = some true := by
  unfold laws_eaOk.f
  rw [implPixOk_ok]
  simp [PixP]
end Go.Proofs.Ytcoiglbkeebccab.Pl
