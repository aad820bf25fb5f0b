/- The program's HexText is the reference's, for all bytes: the pure statement of the law FnExactHexText. No condition. -/
import Derived.Test.YtcoiglbkeebccaaPlByteS
import Derived.Test.YtcoiglbkeebccaaPlHexText
import Derived.Test.YtcoiglbkeebccaaX0
import Derived.Test.YtcoiglbkeebccaaX3
namespace Go.Proofs.Ytcoiglbkeebccaa.Pure
open Go Go.RowKit Go.Proofs.Ytcoiglbkeebccaa.X Go.Proofs.Ytcoiglbkeebccaa.Pl
theorem FnExactHexText : laws_FnExactHexText.Pure := by
  intro l _ hl hb
  refine ⟨l.length + 1, ?_⟩
  unfold laws_FnExactHexText.f
  by_cases h : (l.length : Int) > 1048576
  · rw [if_pos h]
  · rw [if_neg h, toByteS_ok l (by omega) _ (Nat.lt_succ_self _)]
    simp only [Option.bind_some]
    rw [specHexText_ok l (by omega) (bytes_wf hb)]
    simp only [Option.bind_some]
    rw [implHexText_ok l (by omega) (bytes_wf hb) _ (Nat.lt_succ_self _)]
    simp only [Option.bind_some]
    rw [eqByteS_self l (by omega) _ (Nat.lt_succ_self _)]
    simp
end Go.Proofs.Ytcoiglbkeebccaa.Pure
