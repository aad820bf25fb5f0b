/- What the reference's test of an operation comes to. No condition. -/
import Derived.Test.YtmkiajoanblkbaaPlOpOkI
import Derived.Test.YtmkiajoanblkbaaPlIn
import Derived.Test.YtmkiajoanblkbaaX0
import Derived.Test.YtmkiajoanblkbaaX21
namespace Go.Proofs.Ytmkiajoanblkbaa.Pl
open Go Go.RowKit Go.Proofs.Ytmkiajoanblkbaa.X Go.Proofs.YtmkiajoanblkbaaW.PrintWords Go.Proofs.YtmkiajoanblkbaaW.PrintLast Go.Proofs.YtmkiajoanblkbaaW.PrintMore
theorem specOpOk_ok (q a b c d : Int) : spec_OpOk.f q a b c d = some (decide (OpQ q a b c d)) := by
  unfold spec_OpOk.f
  simp only [l1In_ok, Option.bind_some]
  by_cases h1 : q = 1
  · subst h1
    by_cases g1 : 0 ≤ a ∧ a ≤ 5 <;> by_cases g2 : 0 ≤ b ∧ b ≤ 5 <;> by_cases g3 : 1 ≤ c ∧ c ≤ 6 <;> by_cases g4 : 1 ≤ d ∧ d ≤ 6 <;> simp [OpQ, g1, g2, g3, g4]
  by_cases h7 : q = 7
  · subst h7
    by_cases g1 : 1 ≤ a ∧ a ≤ 6 <;> by_cases g2 : 1 ≤ b ∧ b ≤ 6 <;> by_cases g3 : c = 0 <;> by_cases g4 : d = 0 <;> simp [OpQ, g1, g2, g3, g4]
  by_cases h8 : q = 8
  · subst h8
    by_cases g1 : 0 ≤ a ∧ a ≤ 255 <;> by_cases g2 : 0 ≤ b ∧ b ≤ 255 <;> by_cases g3 : 0 ≤ c ∧ c ≤ 255 <;> by_cases g4 : d = 0 <;> simp [OpQ, g1, g2, g3, g4]
  rw [if_neg h1, if_neg h7, if_neg h8]
  by_cases h2 : 2 ≤ q ∧ q ≤ 6 <;> by_cases g1 : a = 0 <;> by_cases g2 : b = 0 <;> by_cases g3 : c = 0 <;> by_cases g4 : d = 0 <;> simp [OpQ, h1, h7, h8, h2, g1, g2, g3, g4]
end Go.Proofs.Ytmkiajoanblkbaa.Pl
