/- The colour at a place, as the program and the reference tell it; pictures that are equal. Lists are no longer than memory holds. -/
import Derived.Test.YthnmeogafklhnaaPlRas
import Derived.Test.YthnmeogafklhnaaX0
import Derived.Test.YthnmeogafklhnaaX44
import Derived.Test.YthnmeogafklhnaaX50
import Derived.Test.YthnmeogafklhnaaX51
namespace Go.Proofs.Ythnmeogafklhnaa.Pl
open Go Go.RowKit Go.Proofs.Ythnmeogafklhnaa.X Go.Proofs.YthnmeogafklhnaaW.PrintWords Go.Proofs.YthnmeogafklhnaaW.PrintLast Go.Proofs.YthnmeogafklhnaaW.PrintMore
/-- The colour at a place, as four numbers. -/
def atP (W H : Int) (l : List S38) (x y : Int) : Int × Int × Int × Int :=
  if RasP W H l ∧ 0 ≤ x ∧ x < W ∧ 0 ≤ y ∧ y < H then ((rd_T38 l (y * W + x)).f0, (rd_T38 l (y * W + x)).f1, (rd_T38 l (y * W + x)).f2, (rd_T38 l (y * W + x)).f3) else (0, 0, 0, 0)
theorem implRasAt_ok (W H : Int) (l : List S38) (x y : Int) (hl : l.length ≤ 1099511627776) (k : Nat) (hk : l.length + 2 ≤ k) : impl_RasAt.f k W H l x y = some (atP W H l x y) := by
  unfold impl_RasAt.f atP
  rw [implRasOk_ok W H l hl k hk, Option.bind_some]
  by_cases hr : RasP W H l
  · rw [if_pos (decide_eq_true hr)]
    by_cases a1 : x < 0
    · rw [if_pos a1, if_neg (by omega)]
    by_cases a2 : x ≥ W
    · rw [if_neg a1, if_pos a2, if_neg (by omega)]
    by_cases a3 : y < 0
    · rw [if_neg a1, if_neg a2, if_pos a3, if_neg (by omega)]
    by_cases a4 : y ≥ H
    · rw [if_neg a1, if_neg a2, if_neg a3, if_pos a4, if_neg (by omega)]
    rw [if_neg a1, if_neg a2, if_neg a3, if_neg a4, if_pos ⟨hr, by omega, by omega, by omega, by omega⟩]
    unfold impl_pixOf.f
    rw [if_pos ⟨hr.1.1, hr.1.2, hr.2.1.2, hr.2.2.1, by omega, by omega, by omega, by omega⟩, Option.bind_some]
  · rw [if_neg (show ¬ decide (RasP W H l) = true from fun h => hr (of_decide_eq_true h)), if_neg (fun h => hr h.1)]
theorem placeB {W H : Int} (hW : 1 ≤ W ∧ W ≤ 6) (hH : 1 ≤ H ∧ H ≤ 6) {x y : Int} (x0 : 0 ≤ x) (x1 : x < W) (y0 : 0 ≤ y) (y1 : y < H) : 0 ≤ y * W ∧ y * W ≤ 30 ∧ y * W + x < W * H := by
  have h1 : y = 0 ∨ y = 1 ∨ y = 2 ∨ y = 3 ∨ y = 4 ∨ y = 5 := by omega
  have h2 : H = 1 ∨ H = 2 ∨ H = 3 ∨ H = 4 ∨ H = 5 ∨ H = 6 := by omega
  rcases h1 with rfl | rfl | rfl | rfl | rfl | rfl <;> rcases h2 with rfl | rfl | rfl | rfl | rfl | rfl <;> omega
theorem eaRas_l (W H W' H' : Int) (l : List S38) (hl : l.length ≤ 1099511627776) : ∀ (d i k : Nat), i + d = l.length → d < k → laws_eaRas.l0 k (i : Int) W H l W' H' l = some true := by
  intro d
  induction d with
  | zero =>
    intro i k hi hk
    obtain ⟨k, rfl⟩ : ∃ m, k = m + 1 := ⟨k - 1, by omega⟩
    simp only [laws_eaRas.l0]
    rw [if_neg (by omega)]
  | succ d ih =>
    intro i k hi hk
    obtain ⟨k, rfl⟩ : ∃ m, k = m + 1 := ⟨k - 1, by omega⟩
    simp only [laws_eaRas.l0]
    rw [if_pos (by omega), if_pos (by omega), if_pos (by omega), if_neg (by simp), w64 (by omega) (by omega)]
    exact ih (i + 1) k (by omega) (by omega)
theorem eaRas_self (W H : Int) (l : List S38) (hl : l.length ≤ 1099511627776) (k : Nat) (hk : l.length + 2 ≤ k) : laws_eaRas.f k W H l W H l = some true := by
  obtain ⟨k, rfl⟩ : ∃ m, k = m + 1 := ⟨k - 1, by omega⟩
  unfold laws_eaRas.f
  rw [if_pos rfl, if_pos rfl]
  simp only [laws_eaRas.j0]
  rw [if_neg (by simp)]
  exact eaRas_l W H W H l hl l.length 0 k (by omega) (by omega)
end Go.Proofs.Ythnmeogafklhnaa.Pl
