/- What the program's and the reference's tests of a colour come to: each part from 0 to 255. No condition. -/
import Derived.Test.YthnmeogafklhnaaPl
import Derived.Test.YthnmeogafklhnaaX0
import Derived.Test.YthnmeogafklhnaaX12
import Derived.Test.YthnmeogafklhnaaX14
namespace Go.Proofs.Ythnmeogafklhnaa.Pl
open Go Go.RowKit Go.Proofs.Ythnmeogafklhnaa.X Go.Proofs.YthnmeogafklhnaaW.PrintWords Go.Proofs.YthnmeogafklhnaaW.PrintLast Go.Proofs.YthnmeogafklhnaaW.PrintMore
theorem partOk_ok (a : Int) : impl_partOk.f a = some (decide (0 ≤ a ∧ a ≤ 255)) := by
  unfold impl_partOk.f
  by_cases h : a ≥ 0
  · rw [if_pos h]; congr 1; simp only [decide_eq_decide]; omega
  · rw [if_neg h]; congr 1; symm; simp only [decide_eq_false_iff_not]; omega
def PixP (r g b a : Int) : Prop := (0 ≤ r ∧ r ≤ 255) ∧ (0 ≤ g ∧ g ≤ 255) ∧ (0 ≤ b ∧ b ≤ 255) ∧ (0 ≤ a ∧ a ≤ 255)
instance (r g b a : Int) : Decidable (PixP r g b a) := by unfold PixP; infer_instance
theorem implPixOk_ok (r g b a : Int) : impl_PixOk.f r g b a = some (decide (PixP r g b a)) := by
  unfold impl_PixOk.f
  simp only [partOk_ok, Option.bind_some]
  by_cases h1 : 0 ≤ r ∧ r ≤ 255 <;> by_cases h2 : 0 ≤ g ∧ g ≤ 255 <;> by_cases h3 : 0 ≤ b ∧ b ≤ 255 <;> by_cases h4 : 0 ≤ a ∧ a ≤ 255 <;> simp [PixP, h1, h2, h3, h4]
end Go.Proofs.Ythnmeogafklhnaa.Pl
