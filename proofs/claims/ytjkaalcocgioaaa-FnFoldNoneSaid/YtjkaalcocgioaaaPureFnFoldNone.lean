/- What comes to nothing is folded away: the pure statement of the law FnFoldNone. No condition. -/
import Derived.Test.YtjkaalcocgioaaaPlFold
import Derived.Test.YtjkaalcocgioaaaX0
import Derived.Test.YtjkaalcocgioaaaX14
import Derived.Test.YtjkaalcocgioaaaX17
namespace Go.Proofs.Ytjkaalcocgioaaa.Pure
open Go Go.RowKit Go.Proofs.Ytjkaalcocgioaaa.X Go.Proofs.Ytjkaalcocgioaaa.Pl Go.Proofs.YtjkaalcocgioaaaW.PrintWords Go.Proofs.YtjkaalcocgioaaaW.PrintLast Go.Proofs.YtjkaalcocgioaaaW.PrintMore
def op0 (q : Int) : S25 := ⟨q, 0, 0, 0, 0⟩
theorem good0 (q : Int) (h : 2 ≤ q ∧ q ≤ 6) : GoodO (op0 q) := Or.inr (Or.inl ⟨h, rfl, rfl, rfl, rfl⟩)
theorem all0 (l : List Int) (hl : l.length ≤ 5) (h : ∀ q ∈ l, 2 ≤ q ∧ q ≤ 6) : AllO (l.map op0) := by
  refine And.intro (by rw [List.length_map]; exact hl) (fun o ho => ?_)
  obtain ⟨q, hq, rfl⟩ := List.mem_map.1 ho
  exact good0 q (h q hq)
theorem none_four : foldR ([4, 4, 4, 4].map op0) = [] := by
  unfold foldR
  rw [if_pos (all0 _ (by decide) (by decide))]
  rfl
theorem none_five : foldR ([4, 4, 4, 4, 4].map op0) = [op0 4] := by
  unfold foldR
  rw [if_pos (all0 _ (by decide) (by decide))]
  rfl
theorem none_a : foldR ([2, 3, 3, 2].map op0) = [] := by
  unfold foldR
  rw [if_pos (all0 _ (by decide) (by decide))]
  rfl
theorem none_b : foldR ([3, 2, 2, 3].map op0) = [] := by
  unfold foldR
  rw [if_pos (all0 _ (by decide) (by decide))]
  rfl
theorem none_2 : foldR ([2].map op0) = [op0 2] := by
  unfold foldR
  rw [if_pos (all0 _ (by decide) (by decide))]
  rfl
theorem none_3 : foldR ([3].map op0) = [op0 3] := by
  unfold foldR
  rw [if_pos (all0 _ (by decide) (by decide))]
  rfl
theorem fold_at (l : List Int) (hl : l.length ≤ 5) {r : List S25} (h : foldR (l.map op0) = r) (k : Nat) (hk : 10 ≤ k) : impl_OpsFold.f k (l.map op0) = some r := by
  rw [implOpsFold_ok _ (by rw [List.length_map]; omega) k hk, h]
theorem FnFoldNone : laws_FnFoldNone.Pure := by
  intro l _ _ _
  obtain ⟨k, hk⟩ : ∃ k : Nat, 1000 ≤ k := ⟨1000, by omega⟩
  refine ⟨k, ?_⟩
  unfold laws_FnFoldNone.f
  by_cases h : (l.length : Int) > 1048576
  · rw [if_pos h]
  have h4 := fold_at [4, 4, 4, 4] (by decide) none_four k (by omega)
  have h5 := fold_at [4, 4, 4, 4, 4] (by decide) none_five k (by omega)
  have ha := fold_at [2, 3, 3, 2] (by decide) none_a k (by omega)
  have hb := fold_at [3, 2, 2, 3] (by decide) none_b k (by omega)
  have h2 := fold_at [2] (by decide) none_2 k (by omega)
  have h3 := fold_at [3] (by decide) none_3 k (by omega)
  have e4 := eaOps_self [op0 4] (by decide) k (by show 1 < k; omega)
  have e2 := eaOps_self [op0 2] (by decide) k (by show 1 < k; omega)
  have e3 := eaOps_self [op0 3] (by decide) k (by show 1 < k; omega)
  simp only [List.map_cons, List.map_nil, op0] at h4 h5 ha hb h2 h3 e4 e2 e3
  have hm : Int.tmod ((l.length : Int) + 1) 2 = ((l.length : Int) + 1) % 2 := Int.tmod_eq_emod_of_nonneg (by omega)
  rw [if_neg h, w64 (x := (l.length : Int) + 1) (by omega) (by omega), hm]
  by_cases hp : (l.length : Int) % 2 = 0
  · rw [hp, show ((l.length : Int) + 1) % 2 = 1 by omega, show wrap64 (2 + 1) = 3 from (w64 (x := 2 + 1) (by omega) (by omega)).trans rfl, show (2 : Int) + 0 = 2 from rfl, h4, Option.bind_some, if_pos (by rfl), ha, Option.bind_some, if_pos (by rfl), h5, Option.bind_some, e4, Option.bind_some, if_pos rfl, h2, Option.bind_some, e2, Option.bind_some]
  · rw [show (l.length : Int) % 2 = 1 by omega, show ((l.length : Int) + 1) % 2 = 0 by omega, show wrap64 (2 + 0) = 2 from (w64 (x := 2 + 0) (by omega) (by omega)).trans rfl, show (2 : Int) + 1 = 3 from rfl, h4, Option.bind_some, if_pos (by rfl), hb, Option.bind_some, if_pos (by rfl), h5, Option.bind_some, e4, Option.bind_some, if_pos rfl, h3, Option.bind_some, e3, Option.bind_some]
end Go.Proofs.Ytjkaalcocgioaaa.Pure
