/- What the reference's test of a colour comes to: each part from 0 to 255. No condition. -/
import Derived.Test.YtmkiajoanblkbaaPlIn
import Derived.Test.YtmkiajoanblkbaaPlPixOk
import Derived.Test.YtmkiajoanblkbaaX0
import Derived.Test.YtmkiajoanblkbaaX30
namespace Go.Proofs.Ytmkiajoanblkbaa.Pl
open Go Go.RowKit Go.Proofs.Ytmkiajoanblkbaa.X Go.Proofs.YtmkiajoanblkbaaW.PrintWords Go.Proofs.YtmkiajoanblkbaaW.PrintLast Go.Proofs.YtmkiajoanblkbaaW.PrintMore
theorem specPixOk_ok (r g b a : Int) : spec_PixOk.f r g b a = some (decide (PixP r g b a)) := by
  unfold spec_PixOk.f
  simp only [l1In_ok, Option.bind_some]
  by_cases h1 : 0 ≤ r ∧ r ≤ 255 <;> by_cases h2 : 0 ≤ g ∧ g ≤ 255 <;> by_cases h3 : 0 ≤ b ∧ b ≤ 255 <;> by_cases h4 : 0 ≤ a ∧ a ≤ 255 <;> simp [PixP, h1, h2, h3, h4]
end Go.Proofs.Ytmkiajoanblkbaa.Pl
