/- The laws' own call of PixOk at one colour answers true. No condition. -/
import Derived.Test.YthnmeogafklhnaaPlPixOk
import Derived.Test.YthnmeogafklhnaaX0
import Derived.Test.YthnmeogafklhnaaX45
namespace Go.Proofs.Ythnmeogafklhnaa.Pl
open Go Go.RowKit Go.Proofs.Ythnmeogafklhnaa.X Go.Proofs.YthnmeogafklhnaaW.PrintWords Go.Proofs.YthnmeogafklhnaaW.PrintLast Go.Proofs.YthnmeogafklhnaaW.PrintMore
theorem eaOk_ok : laws_eaOk.f = some true := by
  unfold laws_eaOk.f
  rw [implPixOk_ok]
  simp [PixP]
end Go.Proofs.Ythnmeogafklhnaa.Pl
