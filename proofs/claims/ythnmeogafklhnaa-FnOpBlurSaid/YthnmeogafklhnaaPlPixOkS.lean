/- What the reference's test of a colour comes to: each part from 0 to 255. No condition. -/
import Derived.Test.YthnmeogafklhnaaPlIn
import Derived.Test.YthnmeogafklhnaaPlPixOk
import Derived.Test.YthnmeogafklhnaaX0
import Derived.Test.YthnmeogafklhnaaX31
namespace Go.Proofs.Ythnmeogafklhnaa.Pl
open Go Go.RowKit Go.Proofs.Ythnmeogafklhnaa.X Go.Proofs.YthnmeogafklhnaaW.PrintWords Go.Proofs.YthnmeogafklhnaaW.PrintLast Go.Proofs.YthnmeogafklhnaaW.PrintMore
theorem specPixOk_ok (r g b a : Int) : spec_PixOk.f r g b a = some (decide (PixP r g b a)) := by
  unfold spec_PixOk.f
  simp only [l1In_ok, Option.bind_some]
  by_cases h1 : 0 ≤ r ∧ r ≤ 255 <;> by_cases h2 : 0 ≤ g ∧ g ≤ 255 <;> by_cases h3 : 0 ≤ b ∧ b ≤ 255 <;> by_cases h4 : 0 ≤ a ∧ a ≤ 255 <;> simp [PixP, h1, h2, h3, h4]
end Go.Proofs.Ythnmeogafklhnaa.Pl
