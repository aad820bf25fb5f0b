/- What the reference's test of a range comes to. No condition. -/
import Derived.Test.YtcoiglbkeebccaaPl
import Derived.Test.YtcoiglbkeebccaaX0
import Derived.Test.YtcoiglbkeebccaaX2
namespace Go.Proofs.Ytcoiglbkeebccaa.Pl
open Go Go.RowKit Go.Proofs.Ytcoiglbkeebccaa.X Go.Proofs.YtcoiglbkeebccaaW.PrintWords Go.Proofs.YtcoiglbkeebccaaW.PrintLast Go.Proofs.YtcoiglbkeebccaaW.PrintMore
theorem l1In_ok (a lo hi : Int) : spec_l1In.f a lo hi = some (decide (lo ≤ a ∧ a ≤ hi)) := by
  unfold spec_l1In.f
  by_cases h : a ≥ lo
  · rw [if_pos h]; congr 1; simp only [decide_eq_decide]; omega
  · rw [if_neg h]; congr 1; symm; simp only [decide_eq_false_iff_not]; omega
end Go.Proofs.Ytcoiglbkeebccaa.Pl
