/- The laws' own call of PixOk at one colour answers true. No condition. -/
import Derived.Test.YtjkaalcocgioaaaPlPixOk
import Derived.Test.YtjkaalcocgioaaaX0
import Derived.Test.YtjkaalcocgioaaaX24
namespace Go.Proofs.Ytjkaalcocgioaaa.Pl
open Go Go.RowKit Go.Proofs.Ytjkaalcocgioaaa.X Go.Proofs.YtjkaalcocgioaaaW.PrintWords Go.Proofs.YtjkaalcocgioaaaW.PrintLast Go.Proofs.YtjkaalcocgioaaaW.PrintMore
theorem eaOk_ok : laws_eaOk.f = some true := by
  unfold laws_eaOk.f
  rw [implPixOk_ok]
  simp [PixP]
end Go.Proofs.Ytjkaalcocgioaaa.Pl
