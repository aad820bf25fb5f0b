/- What the program's test of an operation comes to. No condition. -/
import Derived.Test.YthnmeogafklhnaaPlRas
import Derived.Test.YthnmeogafklhnaaX0
import Derived.Test.YthnmeogafklhnaaX10
import Derived.Test.YthnmeogafklhnaaX13
namespace Go.Proofs.Ythnmeogafklhnaa.Pl
open Go Go.RowKit Go.Proofs.Ythnmeogafklhnaa.X Go.Proofs.YthnmeogafklhnaaW.PrintWords Go.Proofs.YthnmeogafklhnaaW.PrintLast Go.Proofs.YthnmeogafklhnaaW.PrintMore
theorem within_ok (a lo hi : Int) : impl_within.f a lo hi = some (decide (lo ≤ a ∧ a ≤ hi)) := by
  unfold impl_within.f
  by_cases h : a ≥ lo
  · rw [if_pos h]; congr 1; simp only [decide_eq_decide]; omega
  · rw [if_neg h]; congr 1; symm; simp only [decide_eq_false_iff_not]; omega
/-- An operation that may be done with some picture. -/
def OpQ (q a b c d : Int) : Prop :=
  (q = 1 ∧ (0 ≤ a ∧ a ≤ 5) ∧ (0 ≤ b ∧ b ≤ 5) ∧ (1 ≤ c ∧ c ≤ 6) ∧ (1 ≤ d ∧ d ≤ 6)) ∨ ((2 ≤ q ∧ q ≤ 6) ∧ a = 0 ∧ b = 0 ∧ c = 0 ∧ d = 0) ∨
  (q = 7 ∧ (1 ≤ a ∧ a ≤ 6) ∧ (1 ≤ b ∧ b ≤ 6) ∧ c = 0 ∧ d = 0) ∨ (q = 8 ∧ (0 ≤ a ∧ a ≤ 255) ∧ (0 ≤ b ∧ b ≤ 255) ∧ (0 ≤ c ∧ c ≤ 255) ∧ d = 0)
instance (q a b c d : Int) : Decidable (OpQ q a b c d) := by unfold OpQ; infer_instance
theorem implOpOk_ok (q a b c d : Int) (k : Nat) (hk : 1 ≤ k) : impl_OpOk.f k q a b c d = some (decide (OpQ q a b c d)) := by
  obtain ⟨k, rfl⟩ : ∃ m, k = m + 1 := ⟨k - 1, by omega⟩
  unfold impl_OpOk.f
  simp only [impl_OpOk.j0, within_ok, sizeOk_ok, partOk_ok, Option.bind_some]
  by_cases h1 : q = 1
  · subst h1
    by_cases g1 : 0 ≤ a ∧ a ≤ 5 <;> by_cases g2 : 0 ≤ b ∧ b ≤ 5 <;> by_cases g3 : 1 ≤ c ∧ c ≤ 6 <;> by_cases g4 : 1 ≤ d ∧ d ≤ 6 <;> simp [OpQ, g1, g2, g3, g4]
  by_cases h7 : q = 7
  · subst h7
    by_cases g1 : 1 ≤ a ∧ a ≤ 6 <;> by_cases g2 : 1 ≤ b ∧ b ≤ 6 <;> by_cases g3 : c = 0 <;> by_cases g4 : d = 0 <;> simp [OpQ, g1, g2, g3, g4]
  by_cases h8 : q = 8
  · subst h8
    by_cases g1 : 0 ≤ a ∧ a ≤ 255 <;> by_cases g2 : 0 ≤ b ∧ b ≤ 255 <;> by_cases g3 : 0 ≤ c ∧ c ≤ 255 <;> by_cases g4 : d = 0 <;> simp [OpQ, g1, g2, g3, g4]
  by_cases h2 : q = 2
  · subst h2; by_cases g1 : a = 0 <;> by_cases g2 : b = 0 <;> by_cases g3 : c = 0 <;> by_cases g4 : d = 0 <;> simp [OpQ, g1, g2, g3, g4]
  by_cases h3 : q = 3
  · subst h3; by_cases g1 : a = 0 <;> by_cases g2 : b = 0 <;> by_cases g3 : c = 0 <;> by_cases g4 : d = 0 <;> simp [OpQ, g1, g2, g3, g4]
  by_cases h4 : q = 4
  · subst h4; by_cases g1 : a = 0 <;> by_cases g2 : b = 0 <;> by_cases g3 : c = 0 <;> by_cases g4 : d = 0 <;> simp [OpQ, g1, g2, g3, g4]
  by_cases h5 : q = 5
  · subst h5; by_cases g1 : a = 0 <;> by_cases g2 : b = 0 <;> by_cases g3 : c = 0 <;> by_cases g4 : d = 0 <;> simp [OpQ, g1, g2, g3, g4]
  by_cases h6 : q = 6
  · subst h6; by_cases g1 : a = 0 <;> by_cases g2 : b = 0 <;> by_cases g3 : c = 0 <;> by_cases g4 : d = 0 <;> simp [OpQ, g1, g2, g3, g4]
  have hn : ¬ OpQ q a b c d := by unfold OpQ; omega
  simp [h1, h2, h3, h4, h5, h6, h7, h8, hn]
end Go.Proofs.Ythnmeogafklhnaa.Pl
