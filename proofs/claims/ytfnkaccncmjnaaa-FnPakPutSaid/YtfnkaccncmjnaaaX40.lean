/- What functions of the program come to, each with its proof. No condition but what each theorem states. -/
import Derived.Test.YtfnkaccncmjnaaaX0
namespace Go.Proofs.Ytfnkaccncmjnaaa.X
open Go.RowKit Go.Proofs.YtfnkaccncmjnaaaW.PrintWords Go.Proofs.YtfnkaccncmjnaaaW.PrintLast Go.Proofs.YtfnkaccncmjnaaaW.PrintMore Go.Proofs.Ytfnkaccncmjnaaa.Hyb
attribute [local go_sem] max2_int min2_int max_two min_two max_three min_three max_four min_four
set_option linter.unusedVariables false
set_option linter.unusedSimpArgs false

/-! ### impl_pakTail: function 51 -/
def impl_pakTail.f (l0 : List Int) (a1 : Int) : Option (Bool) := if (l0.length : Int) = (wrap64 (Int.tdiv (wrap64 (a1 + 7)) 8)) then (if (Int.tmod a1 8) = 0 then (some true) else (if 0 ≤ (wrap64 (Int.tdiv a1 8)) then (if (wrap64 (Int.tdiv a1 8)) < (l0.length : Int) then (if 0 ≤ (Int.tmod a1 8) then (some ((shr .u8 (rd l0 (wrap64 (Int.tdiv a1 8))) (Int.tmod a1 8)) == 0)) else (none)) else (none)) else (none))) else (some false)
set_option maxHeartbeats 8000000 in
set_option maxRecDepth 100000 in
theorem impl_pakTail.calls (A0 : Option Addr) (c0 : Nat) (l0 : List Int) (a1 : Int) (r : Bool) (w : World) (hr0 : Kd.C (Kd.int .u8) w A0 l0.length l0) (aL : l0.length ≤ c0) (h : impl_pakTail.f l0 a1 = some r) :
  Calls Try.prog 51 #[.slice A0 l0.length c0, .int .i64 a1] w fun e w' => e = .returned (.bool r) ∧ Drawn0 w w' := by
 have aN := Aside0.mk hr0
 have aS := Aside0.mk aL
 clear hr0 aL
 have H : (if (l0.length : Int) = (wrap64 (Int.tdiv (wrap64 (a1 + 7)) 8)) then (if (Int.tmod a1 8) = 0 then (some true) else (if 0 ≤ (wrap64 (Int.tdiv a1 8)) then (if (wrap64 (Int.tdiv a1 8)) < (l0.length : Int) then (if 0 ≤ (Int.tmod a1 8) then (some ((shr .u8 (rd l0 (wrap64 (Int.tdiv a1 8))) (Int.tmod a1 8)) == 0)) else (none)) else (none)) else (none))) else (some false)) = some r := h
 clear h
 by_cases c3 : (l0.length : Int) = (wrap64 (Int.tdiv (wrap64 (a1 + 7)) 8))
 ·rw [if_pos c3] at H
  have aF : ((l0.length : Int) == (wrap64 (Int.tdiv (wrap64 (a1 + 7)) 8))) = true := beq_iff_eq.mpr c3
  have aG : ((l0.length : Int) != (wrap64 (Int.tdiv (wrap64 (a1 + 7)) 8))) = false := bne_eq_false_iff_eq.mpr c3
  clear c3
  by_cases c4 : (Int.tmod a1 8) = 0
  ·rw [if_pos c4] at H
   have aC : ((Int.tmod a1 8) == 0) = true := beq_iff_eq.mpr c4
   have aD : ((Int.tmod a1 8) != 0) = false := bne_eq_false_iff_eq.mpr c4
   clear c4
   obtain rfl := Option.some.inj H
   go_enter Try.func51, Try.ntmps51
   go_wp2
   go_ret
   exact ⟨by first | rfl | (simp; done) | (simp [*]; done), by repeat (first | exact Drawn0.refl _ | apply Drawn0.step)⟩
  ·rw [if_neg c4] at H
   have aC : ((Int.tmod a1 8) == 0) = false := beq_eq_false_iff_ne.mpr c4
   have aD : ((Int.tmod a1 8) != 0) = true := bne_iff_ne.mpr c4
   obtain ⟨ji5, hji5⟩ : ∃ j_ : Int, (wrap64 (Int.tdiv a1 8)) = j_ := ⟨_, rfl⟩
   replace H : (if 0 ≤ (ji5) then (if (ji5) < (l0.length : Int) then (if 0 ≤ (Int.tmod a1 8) then (some ((shr .u8 (rd l0 (ji5)) (Int.tmod a1 8)) == 0)) else (none)) else (none)) else (none)) = some r := by first | (rw [hji5] at H; exact H) | (simp only [hji5] at H ⊢; exact H)
   have aM : (IntKind.i64.wrap (Int.tdiv a1 8)) = ji5 := (i64_w _).trans hji5
   by_cases c6 : 0 ≤ (ji5)
   ·rw [if_pos c6] at H
    have aO : decide (0 ≤ (ji5)) = true := decide_eq_true c6
    clear c6
    by_cases c7 : (ji5) < (l0.length : Int)
    ·rw [if_pos c7] at H
     have aP : decide ((ji5) < (l0.length : Int)) = true := decide_eq_true c7
     clear c7
     obtain ⟨ji8, hji8⟩ : ∃ j_ : Int, (Int.tmod a1 8) = j_ := ⟨_, rfl⟩
     replace H : (if 0 ≤ (ji8) then (some ((shr .u8 (rd l0 (ji5)) (ji8)) == 0)) else (none)) = some r := by first | (rw [hji8] at H; exact H) | (simp only [hji8] at H ⊢; exact H)
     (try rw [hji8] at aC)
     (try rw [hji8] at aD)
     by_cases c9 : 0 ≤ (ji8)
     ·rw [if_pos c9] at H
      have aQ := eq_true c9
      have aR : decide (0 ≤ (ji8)) = true := decide_eq_true c9
      clear c9
      obtain ⟨ji10, hji10⟩ : ∃ j_ : Int, (shr .u8 (rd l0 (ji5)) (ji8)) = j_ := ⟨_, rfl⟩
      replace H : (some ((ji10) == 0)) = some r := by first | (rw [hji10] at H; exact H) | (simp only [hji10] at H ⊢; exact H)
      have aI : ((rd l0 (ji5)) / 2 ^ min (ji8).toNat 8) = ji10 := hji10
      have aJ : (ji8) ≤ 8 → ((rd l0 (ji5)) / 2 ^ (ji8).toNat) = ji10 := shr_small hji10
      obtain rfl := Option.some.inj H
      have aA : 0 ≤ ((ji5) : Int) := of_decide_eq_true oM
      have aB : (ji5) < (l0.length : Int) := of_decide_eq_true oM
      obtain ⟨aK, aH, aE⟩ := Kd.at_int aN.out (ji5) aA aB
      cases aH
      replace aA := eq_true aA
      replace aB := eq_true aB
      go_enter Try.func51, Try.ntmps51
      go_wp2
      go_ret
      exact ⟨by first | rfl | (simp; done) | (simp only [← hji5, ← hji8, ← hji10] <;> (first | rfl | simp)) | (simp [*]; done), by repeat (first | exact Drawn0.refl _ | apply Drawn0.step)⟩
     ·rw [if_neg c9] at H
      exact absurd H (by simp)
    ·rw [if_neg c7] at H
     exact absurd H (by simp)
   ·rw [if_neg c6] at H
    exact absurd H (by simp)
 ·rw [if_neg c3] at H
  have aF : ((l0.length : Int) == (wrap64 (Int.tdiv (wrap64 (a1 + 7)) 8))) = false := beq_eq_false_iff_ne.mpr c3
  have aG : ((l0.length : Int) != (wrap64 (Int.tdiv (wrap64 (a1 + 7)) 8))) = true := bne_iff_ne.mpr c3
  obtain rfl := Option.some.inj H
  go_enter Try.func51, Try.ntmps51
  go_wp2
  go_ret
  exact ⟨by first | rfl | (simp; done) | (simp [*]; done), by repeat (first | exact Drawn0.refl _ | apply Drawn0.step)⟩

end Go.Proofs.Ytfnkaccncmjnaaa.X
