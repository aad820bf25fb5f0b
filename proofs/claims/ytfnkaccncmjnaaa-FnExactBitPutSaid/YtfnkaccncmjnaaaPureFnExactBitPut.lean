/- The program's BitPut is the reference's, for all numbers, and what it hands back is its own: the pure statement of the law FnExactBitPut. No condition. -/
import Derived.Test.YtfnkaccncmjnaaaPlMark
import Derived.Test.YtfnkaccncmjnaaaPlBitNumS
import Derived.Test.YtfnkaccncmjnaaaPlByteS
import Derived.Test.YtfnkaccncmjnaaaPlPutL
import Derived.Test.YtfnkaccncmjnaaaX0
import Derived.Test.YtfnkaccncmjnaaaX1
import Derived.Test.YtfnkaccncmjnaaaX6
import Derived.Test.YtfnkaccncmjnaaaX10
import Derived.Test.YtfnkaccncmjnaaaX17
namespace Go.Proofs.Ytfnkaccncmjnaaa.Pure
open Go Go.RowKit Go.Proofs.Ytfnkaccncmjnaaa.X Go.Proofs.Ytfnkaccncmjnaaa.Pl Go.Proofs.YtfnkaccncmjnaaaW.PrintWords Go.Proofs.YtfnkaccncmjnaaaW.PrintLast Go.Proofs.YtfnkaccncmjnaaaW.PrintMore
theorem exactPut_j (k : Nat) (l : List S45) (xs : List S36) (r : List Int) (h0 : laws_toBitNumS.f k l = some xs) (h1 : impl_BitPut.f k xs = some r) (hr : r.length ≤ 400) (hk : 400 < k) : laws_FnExactBitPut.j0 (k + 1) l r r false = some true := by
  simp only [laws_FnExactBitPut.j0]
  rw [if_neg (by decide), markByteS_ok r (by omega) k (by omega), Option.bind_some, heldByteS_ok _ (by omega) k (by omega), Option.bind_some, if_neg (by omega), if_pos rfl, h0, Option.bind_some, h1, Option.bind_some, eqByteS_self r (by omega) k (by omega), Option.bind_some, if_pos rfl, Option.bind_some, if_neg (by omega), if_pos rfl]
theorem FnExactBitPut : laws_FnExactBitPut.Pure := by
  intro l hl _
  unfold maxLen at hl
  by_cases h : (l.length : Int) > 1048576
  · refine ⟨0, ?_⟩
    unfold laws_FnExactBitPut.f laws_szBitNumS.f
    rw [w64 (by omega) (by omega), if_pos (by omega), Option.bind_some, if_pos (by omega)]
  · have hx : (l.map cpNum).length = l.length := List.length_map _
    obtain ⟨K, hK⟩ : ∃ K : Nat, 16 * l.length + 1000 ≤ K := ⟨_, Nat.le_refl _⟩
    have hj := exactPut_j K l (l.map cpNum) (res (l.map cpNum) [] 0) (toBitNumS_ok l (by omega) K (by omega)) (implPut_ok _ K (by omega)) (res_len _) (by omega)
    obtain ⟨m, hm⟩ := markBitNumS_ok (l.map cpNum) (by omega) (K + 1) (by omega)
    have hr := res_len (l.map cpNum)
    refine ⟨K + 1, ?_⟩
    unfold laws_FnExactBitPut.f laws_szBitNumS.f
    rw [w64 (by omega) (by omega), if_neg (by omega), Option.bind_some, if_neg (by omega), toBitNumS_ok l (by omega) (K + 1) (by omega), Option.bind_some, specPut_ok _ (by omega) (K + 1) (by omega), Option.bind_some, Option.bind_some, implPut_ok _ (K + 1) (by omega), Option.bind_some, eqByteS_self _ (by omega) (K + 1) (by omega), Option.bind_some, if_pos rfl, Option.bind_some, eqBitNumS_self _ (by omega) (K + 1) (by omega), Option.bind_some, if_pos rfl, hm, Option.bind_some, if_neg (by show ¬ (1 + 2 * ((l.map cpNum).length : Int) < 0); omega), Option.bind_some]
    exact hj
end Go.Proofs.Ytfnkaccncmjnaaa.Pure
