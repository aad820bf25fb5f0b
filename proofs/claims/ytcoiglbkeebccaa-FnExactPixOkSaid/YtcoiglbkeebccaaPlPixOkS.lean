/- What the reference's test of a colour comes to: each part from 0 to 255. No condition. -/
import Derived.Test.YtcoiglbkeebccaaPlIn
import Derived.Test.YtcoiglbkeebccaaPlPixOk
import Derived.Test.YtcoiglbkeebccaaX0
import Derived.Test.YtcoiglbkeebccaaX2
namespace Go.Proofs.Ytcoiglbkeebccaa.Pl
open Go Go.RowKit Go.Proofs.Ytcoiglbkeebccaa.X Go.Proofs.YtcoiglbkeebccaaW.PrintWords Go.Proofs.YtcoiglbkeebccaaW.PrintLast Go.Proofs.YtcoiglbkeebccaaW.PrintMore
theorem specPixOk_ok (r g b a : Int) : spec_PixOk.f r g b a = some (decide (PixP r g b a)) := by
  unfold spec_PixOk.f
  simp only [l1In_ok, Option.bind_some]
  by_cases h1 : 0 ≤ r ∧ r ≤ 255 <;> by_cases h2 : 0 ≤ g ∧ g ≤ 255 <;> by_cases h3 : 0 ≤ b ∧ b ≤ 255 <;> by_cases h4 : 0 ≤ a ∧ a ≤ 255 <;> simp [PixP, h1, h2, h3, h4]
end Go.Proofs.Ytcoiglbkeebccaa.Pl
