/- What may be done has no more numbers than it has: the pure statement of the law FnOpOk. No condition. -/
import Derived.Test.YtmkiajoanblkbaaPlDrawOpOk
import Derived.Test.YtmkiajoanblkbaaPlRas
import Derived.Test.YtmkiajoanblkbaaPlOpOkI
import Derived.Test.YtmkiajoanblkbaaPlOpOkS
import Derived.Test.YtmkiajoanblkbaaPlEaOk
import Derived.Test.YtmkiajoanblkbaaX0
import Derived.Test.YtmkiajoanblkbaaX24
namespace Go.Proofs.Ytmkiajoanblkbaa.Pure
open Go Go.RowKit Go.Proofs.Ytmkiajoanblkbaa.X Go.Proofs.Ytmkiajoanblkbaa.Pl Go.Proofs.YtmkiajoanblkbaaW.PrintWords Go.Proofs.YtmkiajoanblkbaaW.PrintLast Go.Proofs.YtmkiajoanblkbaaW.PrintMore
theorem ops_l : ∀ (d i k : Nat), i + d = 7 → 2 ≤ i → d + 5 < k → laws_FnOpOk.l0 k (i : Int) = some true := by
  intro d
  induction d with
  | zero =>
    intro i k hi h2 hk
    obtain ⟨k, rfl⟩ : ∃ m, k = m + 1 := ⟨k - 1, by omega⟩
    simp only [laws_FnOpOk.l0]
    rw [if_neg (by omega)]
  | succ d ih =>
    intro i k hi h2 hk
    obtain ⟨k, rfl⟩ : ∃ m, k = m + 1 := ⟨k - 1, by omega⟩
    have ho : OpQ (i : Int) 0 0 0 0 := Or.inr (Or.inl ⟨⟨by omega, by omega⟩, rfl, rfl, rfl, rfl⟩)
    simp only [laws_FnOpOk.l0]
    rw [if_pos (by omega), implOpOk_ok _ _ _ _ _ k (by omega), Option.bind_some, if_pos (decide_eq_true ho), w64 (by omega) (by omega)]
    exact ih (i + 1) k (by omega) (by omega) (by omega)
theorem FnOpOk : laws_FnOpOk.Pure := by
  intro l _ hl hb
  obtain ⟨K, A, B, C, D, hd⟩ := drawOpOk_ok l (bytes_wf hb)
  obtain ⟨k, hk⟩ : ∃ k : Nat, 1000 ≤ k := ⟨1000, by omega⟩
  refine ⟨k + 1 + 1, ?_⟩
  unfold laws_FnOpOk.f
  by_cases h : (l.length : Int) > 1048576
  · rw [if_pos h]
  have hj : laws_FnOpOk.j0 (k + 1 + 1) false K A B C D = some true := by
    simp only [laws_FnOpOk.j0]
    rw [if_neg (by decide)]
    split
    · simp only [laws_FnOpOk.j1]
      split
      · exact ops_l 5 2 k (by omega) (by omega) (by omega)
      · rfl
    · simp only [laws_FnOpOk.j1]
      rw [if_neg (by decide)]
  rw [if_neg h, hd (k + 1 + 1) (by omega), Option.bind_some, implOpOk_ok _ _ _ _ _ (k + 1 + 1) (by omega), Option.bind_some, specOpOk_ok, Option.bind_some, if_neg (by simp)]
  by_cases ho : OpQ K A B C D
  · rw [if_pos (decide_eq_true ho)]
    by_cases h1 : K = 1
    · rw [if_pos h1]; exact hj
    · have hn : ¬ OpQ K A B C 1 := by unfold OpQ; omega
      rw [if_neg h1, implOpOk_ok _ _ _ _ _ (k + 1 + 1) (by omega), Option.bind_some, decide_eq_false hn]
      exact hj
  · rw [if_neg (show ¬ decide (OpQ K A B C D) = true from fun h => ho (of_decide_eq_true h)), eaOk_ok, Option.bind_some]
end Go.Proofs.Ytmkiajoanblkbaa.Pure
