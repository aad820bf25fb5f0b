/- The program's sum of bytes is the reference's, for all bytes: the pure statement of the law FnExactSumOf. No condition. -/
import Derived.Test.YtcoiglbkeebccaaPlByteS
import Derived.Test.YtcoiglbkeebccaaX0
import Derived.Test.YtcoiglbkeebccaaX3
namespace Go.Proofs.Ytcoiglbkeebccaa.Pure
open Go Go.RowKit Go.Proofs.Ytcoiglbkeebccaa.X Go.Proofs.Ytcoiglbkeebccaa.Pl Go.Proofs.YtcoiglbkeebccaaW.PrintWords Go.Proofs.YtcoiglbkeebccaaW.PrintLast

theorem sum_l (l : List Int) (hl : l.length ≤ 140737488351232) : ∀ (d k i : Nat) (a b : Int), i + d = l.length → d < k → ∃ r, spec_SumOf.l0 k l a b i = some r ∧ impl_SumOf.l0 k a b l (l.length : Int) i = some r := by
  intro d
  induction d with
  | zero =>
    intro k i a b hd hk
    obtain ⟨k, rfl⟩ : ∃ q, k = q + 1 := ⟨k - 1, by omega⟩
    refine ⟨wrap64 (wrap64 (b * 65536) + a), ?_, ?_⟩
    · simp only [spec_SumOf.l0]; rw [if_neg (by omega)]
    · simp only [impl_SumOf.l0]; rw [if_neg (by omega)]
  | succ d ih =>
    intro k i a b hd hk
    obtain ⟨k, rfl⟩ : ∃ q, k = q + 1 := ⟨k - 1, by omega⟩
    simp only [spec_SumOf.l0, impl_SumOf.l0]
    rw [if_pos (by omega), if_pos (by omega), if_pos (by omega), if_pos (by omega), if_pos (by omega), w64 (x := (i : Int) + 1) (by omega) (by omega)]
    exact ih k (i + 1) _ _ (by omega) (by omega)
theorem FnExactSumOf : laws_FnExactSumOf.Pure := by
  intro l _ hl _
  obtain ⟨r, h1, h2⟩ := sum_l l (by omega) l.length (l.length + 1) 0 1 0 (by omega) (by omega)
  refine ⟨l.length + 1, ?_⟩
  unfold laws_FnExactSumOf.f
  split
  · rfl
  · rw [toByteS_ok l (by omega) _ (by omega)]
    simp only [Option.bind_some]
    unfold spec_SumOf.f impl_SumOf.f
    rw [show ((0 : Nat) : Int) = 0 from rfl] at h1 h2
    rw [h1]
    simp only [Option.bind_some]
    rw [h2]
    simp only [Option.bind_some]
    rw [eqByteS_self l (by omega) _ (by omega)]
    simp
end Go.Proofs.Ytcoiglbkeebccaa.Pure
