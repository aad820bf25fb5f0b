/- The colour at a place, as the reference tells it. The list is no longer than memory holds, the numbers are none beyond an int. -/
import Derived.Test.YtmkiajoanblkbaaPlRasAt
import Derived.Test.YtmkiajoanblkbaaX0
import Derived.Test.YtmkiajoanblkbaaX54
namespace Go.Proofs.Ytmkiajoanblkbaa.Pl
open Go Go.RowKit Go.Proofs.Ytmkiajoanblkbaa.X Go.Proofs.YtmkiajoanblkbaaW.PrintWords Go.Proofs.YtmkiajoanblkbaaW.PrintLast Go.Proofs.YtmkiajoanblkbaaW.PrintMore
theorem specRasAt_ok (W H : Int) (l : List S39) (x y : Int) (hl : l.length ≤ 1099511627776) (k : Nat) (hk : l.length + 2 ≤ k) : spec_RasAt.f k W H l x y = some (atP W H l x y) := by
  unfold spec_RasAt.f atP
  rw [specRasOk_ok W H l hl k hk, Option.bind_some]
  by_cases hr : RasP W H l
  · rw [if_pos (decide_eq_true hr), if_pos ⟨hr.1, hr.2.1, hr.2.2.1⟩]
    by_cases hx : 0 ≤ x ∧ x < W ∧ 0 ≤ y ∧ y < H
    · rw [if_pos hx, if_pos ⟨hr, hx⟩]
    · rw [if_neg hx, if_neg (fun h => hx h.2)]
  · rw [if_neg (show ¬ decide (RasP W H l) = true from fun h => hr (of_decide_eq_true h)), if_neg (fun h => hr h.1)]
end Go.Proofs.Ytmkiajoanblkbaa.Pl
