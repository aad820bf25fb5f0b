/- The program's PakPut is the reference's, for all bytes, and what it hands back is its own: the pure statement of the law FnExactPakPut. No condition. -/
import Derived.Test.YtfnkaccncmjnaaaPlPakPut
import Derived.Test.YtfnkaccncmjnaaaPlMark
import Derived.Test.YtfnkaccncmjnaaaPlByteS
import Derived.Test.YtfnkaccncmjnaaaX0
import Derived.Test.YtfnkaccncmjnaaaX50
namespace Go.Proofs.Ytfnkaccncmjnaaa.Pure
open Go Go.RowKit Go.Proofs.Ytfnkaccncmjnaaa.X Go.Proofs.Ytfnkaccncmjnaaa.Pl Go.Proofs.YtfnkaccncmjnaaaW.PrintWords Go.Proofs.YtfnkaccncmjnaaaW.PrintLast Go.Proofs.YtfnkaccncmjnaaaW.PrintMore
theorem FnExactPakPut : laws_FnExactPakPut.Pure := by
  intro l hl _ hw
  unfold maxLen at hl
  have hb := bytes_wf hw
  by_cases h : (l.length : Int) > 1048576
  · refine ⟨0, ?_⟩
    unfold laws_FnExactPakPut.f
    rw [if_pos h]
  · obtain ⟨k, hk⟩ : ∃ k : Nat, l.length + 7000 ≤ k := ⟨_, Nat.le_refl _⟩
    have hr := pkPutR_len l
    have hspec := specPakPut_ok l hb (k + 1) (by omega)
    have himpl := implPakPut_ok l hb (k + 1) (by omega)
    have himpl2 := implPakPut_ok l hb k (by omega)
    refine ⟨k + 1, ?_⟩
    unfold laws_FnExactPakPut.f
    rw [if_neg h, toByteS_ok l (by omega) (k + 1) (by omega), Option.bind_some, hspec, Option.bind_some, Option.bind_some, himpl, Option.bind_some]
    generalize pkPutR l = r at hr himpl2
    rw [eqByteS_self r (by omega) (k + 1) (by omega), Option.bind_some, if_pos rfl, Option.bind_some, eqByteS_self l (by omega) (k + 1) (by omega), Option.bind_some, if_pos rfl, markByteS_ok l (by omega) (k + 1) (by omega), Option.bind_some, if_neg (show ¬ (1 + (l.length : Int) < 0) by omega), Option.bind_some]
    simp only [laws_FnExactPakPut.j0]
    rw [if_neg (by decide), markByteS_ok r (by omega) k (by omega), Option.bind_some, heldByteS_ok _ (by omega) k (by omega), Option.bind_some, if_neg (show ¬ (1 + (r.length : Int) < 0) by omega), if_pos rfl, toByteS_ok l (by omega) k (by omega), Option.bind_some, himpl2, Option.bind_some, eqByteS_self r (by omega) k (by omega), Option.bind_some, if_pos rfl, Option.bind_some, if_neg (show ¬ (1 + (r.length : Int) < 0) by omega), if_pos rfl]
end Go.Proofs.Ytfnkaccncmjnaaa.Pure
