/- The program's RasBytes is the reference's, for every picture, and what it hands back is its own: the pure statement of the law FnExactRasBytes. No condition. -/
import Derived.Test.YtmkiajoanblkbaaPlRasS
import Derived.Test.YtmkiajoanblkbaaPlMark
import Derived.Test.YtmkiajoanblkbaaPlMarks4
import Derived.Test.YtmkiajoanblkbaaPlEqByteS
import Derived.Test.YtmkiajoanblkbaaPlRasBytes
import Derived.Test.YtmkiajoanblkbaaX0
import Derived.Test.YtmkiajoanblkbaaX64
namespace Go.Proofs.Ytmkiajoanblkbaa.Pure
open Go Go.RowKit Go.Proofs.Ytmkiajoanblkbaa.X Go.Proofs.Ytmkiajoanblkbaa.Pl Go.Proofs.YtmkiajoanblkbaaW.PrintWords Go.Proofs.YtmkiajoanblkbaaW.PrintLast Go.Proofs.YtmkiajoanblkbaaW.PrintMore
theorem FnExactRasBytes : laws_FnExactRasBytes.Pure := by
  intro W H l _ _ hl _
  unfold maxLen at hl
  obtain ⟨k, hk⟩ : ∃ k : Nat, l.length + 2000 ≤ k := ⟨l.length + 2000, Nat.le_refl _⟩
  refine ⟨k + 1, ?_⟩
  unfold laws_FnExactRasBytes.f
  rw [szRas_ok W H l hl, Option.bind_some]
  by_cases h : (l.length : Int) > 1048576
  · rw [if_pos h, if_pos (by decide)]
  · have hm : (l.map cpPix).length = l.length := List.length_map _
    have h1 := toRas_ok W H l (by omega)
    have hb := bytesR_len W H (l.map cpPix)
    have hi (k : Nat) (hk : l.length + 2 ≤ k) := implRasBytes_ok W H (l.map cpPix) (by omega) k (by omega)
    rw [if_neg h, if_neg (by omega), h1 (k + 1) (by omega), Option.bind_some, specRasBytes_ok W H (l.map cpPix) (by omega) (k + 1) (by omega), Option.bind_some, Option.bind_some, hi (k + 1) (by omega), Option.bind_some, eqByteS_self _ (by omega) (k + 1) (by omega), Option.bind_some, if_pos rfl, Option.bind_some, eqRas_self W H (l.map cpPix) (by omega) (k + 1) (by omega), Option.bind_some, if_pos rfl, markRas_ok W H (l.map cpPix) (by omega) (k + 1) (by omega), Option.bind_some, if_neg (by omega), Option.bind_some]
    simp only [laws_FnExactRasBytes.j0]
    rw [if_neg (by decide), markByteS_ok _ (by omega) k (by omega), Option.bind_some, heldByteS_ok _ (by omega) k (by omega), Option.bind_some, if_neg (by omega), if_pos rfl, h1 k (by omega), Option.bind_some, hi k (by omega), Option.bind_some, eqByteS_self _ (by omega) k (by omega), Option.bind_some, if_pos rfl, Option.bind_some, if_neg (by omega), if_pos rfl]
end Go.Proofs.Ytmkiajoanblkbaa.Pure
