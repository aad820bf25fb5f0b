/- The program's PakGet is the reference's, for all bytes, and what it hands back is its own: the pure statement of the law FnExactPakGet. No condition. -/
import Derived.Test.YtfnkaccncmjnaaaPlPakBack
import Derived.Test.YtfnkaccncmjnaaaPlMark
import Derived.Test.YtfnkaccncmjnaaaPlByteS
import Derived.Test.YtfnkaccncmjnaaaX0
import Derived.Test.YtfnkaccncmjnaaaX42
namespace Go.Proofs.Ytfnkaccncmjnaaa.Pure
open Go Go.RowKit Go.Proofs.Ytfnkaccncmjnaaa.X Go.Proofs.Ytfnkaccncmjnaaa.Pl Go.Proofs.YtfnkaccncmjnaaaW.PrintWords Go.Proofs.YtfnkaccncmjnaaaW.PrintLast Go.Proofs.YtfnkaccncmjnaaaW.PrintMore
theorem FnExactPakGet : laws_FnExactPakGet.Pure := by
  intro l hl _ hw
  unfold maxLen at hl
  have hb := bytes_wf hw
  by_cases h : (l.length : Int) > 1048576
  · refine ⟨0, ?_⟩
    unfold laws_FnExactPakGet.f
    rw [if_pos h]
  · obtain ⟨k, hk⟩ : ∃ k : Nat, l.length + 5000 ≤ k := ⟨_, Nat.le_refl _⟩
    have hg := getR_good l hb
    have hspec := specPakGet_ok l hb (by omega) (k + 3) (by omega)
    have himpl := implPakGet_ok l hb (by omega) (k + 3) (by omega)
    have himpl2 := implPakGet_ok l hb (by omega) (k + 1) (by omega)
    obtain ⟨_, hr, _⟩ := hg
    refine ⟨k + 3, ?_⟩
    unfold laws_FnExactPakGet.f
    rw [if_neg h, toByteS_ok l (by omega) (k + 3) (by omega), Option.bind_some, hspec, Option.bind_some, Option.bind_some, himpl, Option.bind_some]
    generalize pkGetR l = r at hr himpl2
    obtain ⟨r1, r2⟩ := r
    dsimp only at hr ⊢
    rw [eqByteS_self r1 (by omega) (k + 3) (by omega), Option.bind_some, if_pos rfl, show (r2 != r2) = false by simp]
    simp only [laws_FnExactPakGet.j0]
    rw [if_neg (by decide), toByteS_ok l (by omega) (k + 2) (by omega), Option.bind_some, eqByteS_self l (by omega) (k + 2) (by omega), Option.bind_some, if_pos rfl, markByteS_ok l (by omega) (k + 2) (by omega), Option.bind_some, if_neg (show ¬ (1 + (l.length : Int) < 0) by omega), eqByteS_self r1 (by omega) (k + 2) (by omega), Option.bind_some, if_pos rfl, show (r2 != r2) = false by simp]
    simp only [laws_FnExactPakGet.j1]
    rw [if_neg (by decide), markByteS_ok r1 (by omega) (k + 1) (by omega), Option.bind_some, heldByteS_ok _ (by omega) (k + 1) (by omega), Option.bind_some, if_neg (show ¬ (1 + (r1.length : Int) < 0) by omega), if_pos rfl, toByteS_ok l (by omega) (k + 1) (by omega), Option.bind_some, himpl2, Option.bind_some, eqByteS_self r1 (by omega) (k + 1) (by omega), Option.bind_some, if_pos rfl, show (r2 != r2) = false by simp]
    simp only [laws_FnExactPakGet.j2]
    rw [if_neg (by decide), heldByteS_ok _ (by omega) k (by omega), Option.bind_some, if_neg (show ¬ (1 + (r1.length : Int) < 0) by omega), if_pos rfl]
end Go.Proofs.Ytfnkaccncmjnaaa.Pure
