/- A picture is the same as itself, by the test of the laws. No condition but that it fits in memory. -/
import Derived.Test.YthnmeogafklhnaaPlRas
import Derived.Test.YthnmeogafklhnaaX0
import Derived.Test.YthnmeogafklhnaaX44
namespace Go.Proofs.Ythnmeogafklhnaa.Pl
open Go Go.RowKit Go.Proofs.Ythnmeogafklhnaa.X Go.Proofs.YthnmeogafklhnaaW.PrintWords Go.Proofs.YthnmeogafklhnaaW.PrintLast Go.Proofs.YthnmeogafklhnaaW.PrintMore
theorem eaRas_l (W H W' H' : Int) (l : List S38) (hl : l.length ≤ 1099511627776) : ∀ (d i k : Nat), i + d = l.length → d < k → laws_eaRas.l0 k (i : Int) W H l W' H' l = some true := by
  intro d
  induction d with
  | zero =>
    intro i k hi hk
    obtain ⟨k, rfl⟩ : ∃ m, k = m + 1 := ⟨k - 1, by omega⟩
    simp only [laws_eaRas.l0]
    rw [if_neg (by omega)]
  | succ d ih =>
    intro i k hi hk
    obtain ⟨k, rfl⟩ : ∃ m, k = m + 1 := ⟨k - 1, by omega⟩
    simp only [laws_eaRas.l0]
    rw [if_pos (by omega), if_pos (by omega), if_pos (by omega), if_neg (by simp), w64 (by omega) (by omega)]
    exact ih (i + 1) k (by omega) (by omega)
theorem eaRas_self (W H : Int) (l : List S38) (hl : l.length ≤ 1099511627776) (k : Nat) (hk : l.length + 2 ≤ k) : laws_eaRas.f k W H l W H l = some true := by
  obtain ⟨k, rfl⟩ : ∃ m, k = m + 1 := ⟨k - 1, by omega⟩
  unfold laws_eaRas.f
  rw [if_pos rfl, if_pos rfl]
  simp only [laws_eaRas.j0]
  rw [if_neg (by simp)]
  exact eaRas_l W H W H l hl l.length 0 k (by omega) (by omega)
end Go.Proofs.Ythnmeogafklhnaa.Pl
