/- The program's HexText is the reference's, for all bytes: the pure statement of the law FnExactHexText. No condition. -/
import Derived.Test.YtcoiglbkeebccaaPlByteS
import Derived.Test.YtcoiglbkeebccaaPlHexText
import Derived.Test.YtcoiglbkeebccaaX0
import Derived.Test.YtcoiglbkeebccaaX2
import Derived.Test.YtcoiglbkeebccaaX3
namespace Go.Proofs.Ytcoiglbkeebccaa.Pure
open Go Go.RowKit Go.Proofs.Ytcoiglbkeebccaa.X Go.Proofs.Ytcoiglbkeebccaa.Pl
theorem exactHexText_core (k : Nat) (l : List Int) (s : ByteArray) (hs : ¬ (l.length : Int) > 1048576) (h1 : laws_toByteS.f k l = some l) (h2 : spec_HexText.f l = some s) (h3 : impl_HexText.f k l = some s) (h4 : laws_eqByteS.f k l l = some true) : laws_FnExactHexText.f k l = some true := by
  unfold laws_FnExactHexText.f
  rw [if_neg hs, h1, Option.bind_some, h2, Option.bind_some, Option.bind_some, h3, Option.bind_some, if_pos rfl, Option.bind_some, h4, Option.bind_some, if_pos rfl]
theorem FnExactHexText : laws_FnExactHexText.Pure := by
  intro l _ hl hb
  by_cases h : (l.length : Int) > 1048576
  · exact ⟨0, by unfold laws_FnExactHexText.f; rw [if_pos h]⟩
  · exact ⟨l.length + 1, exactHexText_core _ l _ h (toByteS_ok l (by omega) _ (by omega)) (specHexText_ok l (by omega) (bytes_wf hb)) (implHexText_ok l (by omega) (bytes_wf hb) _ (by omega)) (eqByteS_self l (by omega) _ (by omega))⟩
end Go.Proofs.Ytcoiglbkeebccaa.Pure
