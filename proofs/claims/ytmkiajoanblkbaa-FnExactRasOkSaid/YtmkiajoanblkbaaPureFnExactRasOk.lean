/- The program's RasOk is the reference's, for every picture: the pure statement of the law FnExactRasOk. No condition. -/
import Derived.Test.YtmkiajoanblkbaaPlRasS
import Derived.Test.YtmkiajoanblkbaaX0
import Derived.Test.YtmkiajoanblkbaaX41
namespace Go.Proofs.Ytmkiajoanblkbaa.Pure
open Go Go.RowKit Go.Proofs.Ytmkiajoanblkbaa.X Go.Proofs.Ytmkiajoanblkbaa.Pl Go.Proofs.YtmkiajoanblkbaaW.PrintWords Go.Proofs.YtmkiajoanblkbaaW.PrintLast
theorem FnExactRasOk : laws_FnExactRasOk.Pure := by
  intro W H l _ _ hl _
  unfold maxLen at hl
  refine ⟨l.length + 10, ?_⟩
  unfold laws_FnExactRasOk.f
  rw [szRas_ok W H l hl, Option.bind_some]
  by_cases h : (l.length : Int) > 1048576
  · rw [if_pos h, if_pos (by decide)]
  · have hm : (l.map cpPix).length = l.length := List.length_map _
    rw [if_neg h, if_neg (by omega), toRas_ok W H l (by omega) _ (by omega), Option.bind_some, specRasOk_ok W H (l.map cpPix) (by omega) _ (by omega), Option.bind_some, Option.bind_some, implRasOk_ok W H (l.map cpPix) (by omega) _ (by omega), Option.bind_some, if_neg (by simp), Option.bind_some, eqRas_self W H (l.map cpPix) (by omega) _ (by omega), Option.bind_some, if_pos rfl]
end Go.Proofs.Ytmkiajoanblkbaa.Pure
