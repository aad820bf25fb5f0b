/- A rest of a length, as the laws take it: a small natural number. No condition but that the length is none beyond memory. -/
import Derived.Test.YthnmeogafklhnaaPl

namespace Go.Proofs.Ythnmeogafklhnaa.Pl
open Go Go.RowKit Go.Proofs.YthnmeogafklhnaaW.PrintWords Go.Proofs.YthnmeogafklhnaaW.PrintLast Go.Proofs.YthnmeogafklhnaaW.PrintMore
theorem rest_nat (n : Nat) (hn : n ≤ 140737488351232) (d m : Nat) (hm : 1 ≤ m) : ∃ r : Nat, Int.tmod (wrap64 ((n : Int) / (d : Int))) (m : Int) = (r : Int) ∧ r < m := by
  have h1 : ((n / d : Nat) : Int) = (n : Int) / (d : Int) := Int.natCast_ediv n d
  have h2 : n / d ≤ n := Nat.div_le_self n d
  rw [← h1]
  clear h1
  generalize n / d = e at h2 ⊢
  rw [w64 (by omega) (by omega), Int.tmod_eq_emod_of_nonneg (by omega), ← Int.natCast_emod]
  exact ⟨_, rfl, Nat.mod_lt _ (by omega)⟩
theorem rest_one (n : Nat) (hn : n ≤ 140737488351232) (d m : Nat) (hm : 1 ≤ m) (hm2 : m ≤ 1000) : ∃ r : Nat, wrap64 (1 + Int.tmod (wrap64 ((n : Int) / (d : Int))) (m : Int)) = (r : Int) ∧ 1 ≤ r ∧ r ≤ m := by
  obtain ⟨r, h, hr⟩ := rest_nat n hn d m hm
  rw [h, w64 (by omega) (by omega)]
  exact ⟨1 + r, by omega, by omega, by omega⟩
theorem rest_mod (n m : Nat) (hm : 1 ≤ m) : ∃ r : Nat, (n : Int) % (m : Int) = (r : Int) ∧ r < m := by
  rw [← Int.natCast_emod]
  exact ⟨_, rfl, Nat.mod_lt _ (by omega)⟩
end Go.Proofs.Ythnmeogafklhnaa.Pl
