/- The laws' own call of PixOk at one colour answers true. No condition. -/
import Derived.Test.YtfnkaccncmjnaaaPlPixOk
import Derived.Test.YtfnkaccncmjnaaaX0
import Derived.Test.YtfnkaccncmjnaaaX26
namespace Go.Proofs.Ytfnkaccncmjnaaa.Pl
open Go Go.RowKit Go.Proofs.Ytfnkaccncmjnaaa.X Go.Proofs.YtfnkaccncmjnaaaW.PrintWords Go.Proofs.YtfnkaccncmjnaaaW.PrintLast Go.Proofs.YtfnkaccncmjnaaaW.PrintMore
theorem eaOk_ok : laws_eaOk.f = some true := by
  unfold laws_eaOk.f
  rw [implPixOk_ok]
  simp [PixP]
end Go.Proofs.Ytfnkaccncmjnaaa.Pl
