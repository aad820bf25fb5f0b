/- The laws' own call of PixOk at one colour answers true. No condition. -/
import Derived.Test.YtmkiajoanblkbaaPlPixOk
import Derived.Test.YtmkiajoanblkbaaX0
import Derived.Test.YtmkiajoanblkbaaX23
namespace Go.Proofs.Ytmkiajoanblkbaa.Pl
open Go Go.RowKit Go.Proofs.Ytmkiajoanblkbaa.X Go.Proofs.YtmkiajoanblkbaaW.PrintWords Go.Proofs.YtmkiajoanblkbaaW.PrintLast Go.Proofs.YtmkiajoanblkbaaW.PrintMore
theorem eaOk_ok : laws_eaOk.f = some true := by
  unfold laws_eaOk.f
  rw [implPixOk_ok]
  simp [PixP]
end Go.Proofs.Ytmkiajoanblkbaa.Pl
