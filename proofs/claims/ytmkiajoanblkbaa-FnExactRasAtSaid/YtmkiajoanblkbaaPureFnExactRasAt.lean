/- The program's RasAt is the reference's, for every picture and place: the pure statement of the law FnExactRasAt. No condition. -/
import Derived.Test.YtmkiajoanblkbaaPlRasS
import Derived.Test.YtmkiajoanblkbaaPlRasAtS
import Derived.Test.YtmkiajoanblkbaaX0
import Derived.Test.YtmkiajoanblkbaaX57
namespace Go.Proofs.Ytmkiajoanblkbaa.Pure
open Go Go.RowKit Go.Proofs.Ytmkiajoanblkbaa.X Go.Proofs.Ytmkiajoanblkbaa.Pl Go.Proofs.YtmkiajoanblkbaaW.PrintWords Go.Proofs.YtmkiajoanblkbaaW.PrintLast
theorem FnExactRasAt : laws_FnExactRasAt.Pure := by
  intro W H l x y _ _ hl _ _ _
  unfold maxLen at hl
  refine ⟨l.length + 10, ?_⟩
  unfold laws_FnExactRasAt.f
  rw [szRas_ok W H l hl, Option.bind_some]
  by_cases h : (l.length : Int) > 1048576
  · rw [if_pos h, if_pos (by decide)]
  · have hm : (l.map cpPix).length = l.length := List.length_map _
    rw [if_neg h, if_neg (by omega), toRas_ok W H l (by omega) _ (by omega), Option.bind_some, specRasAt_ok W H (l.map cpPix) x y (by omega) _ (by omega), Option.bind_some, Option.bind_some, implRasAt_ok W H (l.map cpPix) x y (by omega) _ (by omega), Option.bind_some, eqPix_self, Option.bind_some, if_pos rfl, Option.bind_some, eqRas_self W H (l.map cpPix) (by omega) _ (by omega), Option.bind_some, if_pos rfl]
end Go.Proofs.Ytmkiajoanblkbaa.Pure
