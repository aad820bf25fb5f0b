/- The program's OpsFold is the reference's, for every list, and what it hands back is its own: the pure statement of the law FnExactOpsFold. No condition. -/
import Derived.Test.YtjkaalcocgioaaaPlFold
import Derived.Test.YtjkaalcocgioaaaPlOpOpS
import Derived.Test.YtjkaalcocgioaaaX0
import Derived.Test.YtjkaalcocgioaaaX35
import Derived.Test.YtjkaalcocgioaaaX42
namespace Go.Proofs.Ytjkaalcocgioaaa.Pure
open Go Go.RowKit Go.Proofs.Ytjkaalcocgioaaa.X Go.Proofs.Ytjkaalcocgioaaa.Pl Go.Proofs.YtjkaalcocgioaaaW.PrintWords Go.Proofs.YtjkaalcocgioaaaW.PrintLast Go.Proofs.YtjkaalcocgioaaaW.PrintMore
theorem FnExactOpsFold : laws_FnExactOpsFold.Pure := by
  intro l hl _
  unfold maxLen at hl
  by_cases h : (l.length : Int) > 1048576
  · refine ⟨0, ?_⟩
    unfold laws_FnExactOpsFold.f laws_szOpOpS.f
    rw [w64 (by omega) (by omega), if_pos (by omega), Option.bind_some, if_pos (by omega)]
  · have hx : (l.map cpOp).length = l.length := List.length_map _
    obtain ⟨k, hk⟩ : ∃ k : Nat, l.length + 1000 ≤ k := ⟨_, Nat.le_refl _⟩
    have h5 := foldR_len (l.map cpOp)
    have hm := markOpOpS_ok (l.map cpOp) (by omega) (k + 1) (by omega)
    have hneg : ¬ (1 + 5 * ((l.map cpOp).length : Int) < 0) := by omega
    have hneg2 : ¬ (1 + 5 * ((foldR (l.map cpOp)).length : Int) < 0) := by omega
    refine ⟨k + 1, ?_⟩
    unfold laws_FnExactOpsFold.f laws_szOpOpS.f
    rw [w64 (by omega) (by omega), if_neg (by omega), Option.bind_some, if_neg (by omega), toOpOpS_ok l (by omega) (k + 1) (by omega), Option.bind_some, specOpsFold_ok _ (by omega) (k + 1) (by omega), Option.bind_some, Option.bind_some, implOpsFold_ok _ (by omega) (k + 1) (by omega), Option.bind_some, eqOpOpS_self _ (by omega) (k + 1) (by omega), Option.bind_some, if_pos rfl, Option.bind_some, eqOpOpS_self _ (by omega) (k + 1) (by omega), Option.bind_some, if_pos rfl, hm, Option.bind_some, if_neg hneg, Option.bind_some]
    simp only [laws_FnExactOpsFold.j0]
    rw [if_neg (by decide), markOpOpS_ok _ (by omega) k (by omega), Option.bind_some, heldOpOpS_ok _ (by omega) k (by omega), Option.bind_some, if_neg hneg2, if_pos rfl, toOpOpS_ok l (by omega) k (by omega), Option.bind_some, implOpsFold_ok _ (by omega) k (by omega), Option.bind_some, eqOpOpS_self _ (by omega) k (by omega), Option.bind_some, if_pos rfl, Option.bind_some, if_neg hneg2, if_pos rfl]
end Go.Proofs.Ytjkaalcocgioaaa.Pure
