/- What functions of the program come to, each with its proof. No condition but what each theorem states. -/
import Derived.Test.YtfnkaccncmjnaaaX0
import Derived.Test.YtfnkaccncmjnaaaX43
namespace Go.Proofs.Ytfnkaccncmjnaaa.X
open Go.RowKit Go.Proofs.YtfnkaccncmjnaaaW.PrintWords Go.Proofs.YtfnkaccncmjnaaaW.PrintLast Go.Proofs.YtfnkaccncmjnaaaW.PrintMore Go.Proofs.Ytfnkaccncmjnaaa.Hyb
attribute [local go_sem] max2_int min2_int max_two min_two max_three min_three max_four min_four
set_option linter.unusedVariables false
set_option linter.unusedSimpArgs false

/-! ### spec_l4Code: function 52 -/
def spec_l4Code.f (k : Nat) (l0 : List (List Int)) (l1 : List Int) : Option (Int) := if (l1.length : Int) = 1 then (if 0 < (l1.length : Int) then (some (wrap64 (rd l1 0))) else (none)) else ((spec_l4At.f k l0 l1).bind fun aA => (if aA < 0 then (some (-1)) else (some (wrap64 (257 + aA)))))
theorem spec_l4Code.mono : ∀ a0 a1 k, LeO (spec_l4Code.f k a0 a1) (spec_l4Code.f (k + 1) a0 a1) := by
 intro a0 a1 k
 unfold spec_l4Code.f
 repeat' first
   | (with_reducible exact spec_l4At.mono _ _ _)
   | (with_reducible exact LeO.refl _)
   | (with_reducible exact LeO.none _)
   | (with_reducible refine LeO.ite ?_ ?_)
   | (with_reducible refine LeO.bind ?_ (fun _ => ?_))
   | exact spec_l4At.mono _ _ _
   | exact LeO.none _
   | refine LeO.ite ?_ ?_
   | refine LeO.bind ?_ (fun _ => ?_)
set_option maxHeartbeats 8000000 in
set_option maxRecDepth 100000 in
theorem spec_l4Code.calls (k : Nat) (A0 : Option Addr) (c0 : Nat) (l0 : List (List Int)) (A1 : Option Addr) (c1 : Nat) (l1 : List Int) (r : Int) (w : World) (hr0 : Kd.C (Kd.slice 5 (Kd.int .u8)) w A0 l0.length l0) (aO : l0.length ≤ c0) (hr1 : Kd.C (Kd.int .u8) w A1 l1.length l1) (aP : l1.length ≤ c1) (h : spec_l4Code.f k l0 l1 = some r) :
  Calls Try.prog 52 #[.slice A0 l0.length c0, .slice A1 l1.length c1] w fun e w' => e = .returned (.int .i64 r) ∧ Drawn0 w w' := by
 have aM := Aside0.mk hr0
 have aK := Aside0.mk aO
 clear hr0 aO
 have aE := Aside0.mk hr1
 have aL := Aside0.mk aP
 clear hr1 aP
 have H : (if (l1.length : Int) = 1 then (if 0 < (l1.length : Int) then (some (wrap64 (rd l1 0))) else (none)) else ((spec_l4At.f k l0 l1).bind fun aA => (if aA < 0 then (some (-1)) else (some (wrap64 (257 + aA)))))) = some r := h
 clear h
 by_cases c3 : (l1.length : Int) = 1
 ·rw [if_pos c3] at H
  have aF : ((l1.length : Int) == 1) = true := beq_iff_eq.mpr c3
  have aG : ((l1.length : Int) != 1) = false := bne_eq_false_iff_eq.mpr c3
  clear c3
  by_cases c4 : 0 < (l1.length : Int)
  ·rw [if_pos c4] at H
   have aQ : decide (0 < (l1.length : Int)) = true := decide_eq_true c4
   have aR : decide (0 < l1.length) = true := decide_eq_true (by omega)
   clear c4
   obtain rfl := Option.some.inj H
   have aC : 0 ≤ (0 : Int) := (by omega)
   have aD : 0 < (l1.length : Int) := of_decide_eq_true oM
   obtain ⟨aN, aI, aB⟩ := Kd.at_int aE.out 0 aC aD
   cases aI
   have qi438 : (0 < l1.length) = True := eq_true (by omega)
   (try rw [show ((0 : Int)).toNat = 0 from rfl] at aB)
   (try rw [Addr.add_zero'] at aB)
   replace aC := eq_true aC
   replace aD := eq_true aD
   go_enter Try.func52, Try.ntmps52
   go_wp2
   go_ret
   exact ⟨by first | rfl | (simp; done) | (simp [*]; done), by repeat (first | exact Drawn0.refl _ | apply Drawn0.step)⟩
  ·rw [if_neg c4] at H
   exact absurd H (by simp)
 ·rw [if_neg c3] at H
  have aF : ((l1.length : Int) == 1) = false := beq_eq_false_iff_ne.mpr c3
  have aG : ((l1.length : Int) != 1) = true := bne_iff_ne.mpr c3
  replace H := Option.bind_eq_some_iff.mp H
  obtain ⟨aA, aJ, H⟩ := H
  (try dsimp only at H)
  have A5 := Aside0.mk aJ
  clear aJ
  by_cases c6 : aA < 0
  ·rw [if_pos c6] at H
   have aH : decide (aA < 0) = true := decide_eq_true c6
   clear c6
   obtain rfl := Option.some.inj H
   go_enter Try.func52, Try.ntmps52
   go_wp2_with (first | ((with_reducible refine gate_callee (f := 61) rfl ?_); refine goesL_ (some 15) rfl rfl Try.func61 oK rfl #[.slice A0 l0.length c0, .slice A1 l1.length c1] rfl oA ?_; (with_reducible refine (spec_l4At.calls k _ _ l0 _ _ l1 aA _ ?side1 ?side2 ?side3 ?side4 A5.out).mono ?_); (case side1 => repeat (first | exact aM.out | (with_reducible refine Kd.C_alloc ?_ _) | (with_reducible refine Kd.C_drewN ?_ _) | (with_reducible refine Kd.C_drew ?_))); (case side2 => exact aK.out); (case side3 => repeat (first | exact aE.out | (with_reducible refine Kd.C_alloc ?_ _) | (with_reducible refine Kd.C_drewN ?_ _) | (with_reducible refine Kd.C_drew ?_))); (case side4 => exact aL.out); rintro e w' ⟨rfl, ⟨nd, rfl⟩⟩; refine ⟨_, rfl, ?_⟩))
   go_ret
   exact ⟨by first | rfl | (simp; done) | (simp [*]; done), by repeat (first | exact Drawn0.refl _ | apply Drawn0.step)⟩
  ·rw [if_neg c6] at H
   have aH : decide (aA < 0) = false := decide_eq_false c6
   clear c6
   obtain rfl := Option.some.inj H
   go_enter Try.func52, Try.ntmps52
   go_wp2_with (first | ((with_reducible refine gate_callee (f := 61) rfl ?_); refine goesL_ (some 15) rfl rfl Try.func61 oK rfl #[.slice A0 l0.length c0, .slice A1 l1.length c1] rfl oA ?_; (with_reducible refine (spec_l4At.calls k _ _ l0 _ _ l1 aA _ ?side1 ?side2 ?side3 ?side4 A5.out).mono ?_); (case side1 => repeat (first | exact aM.out | (with_reducible refine Kd.C_alloc ?_ _) | (with_reducible refine Kd.C_drewN ?_ _) | (with_reducible refine Kd.C_drew ?_))); (case side2 => exact aK.out); (case side3 => repeat (first | exact aE.out | (with_reducible refine Kd.C_alloc ?_ _) | (with_reducible refine Kd.C_drewN ?_ _) | (with_reducible refine Kd.C_drew ?_))); (case side4 => exact aL.out); rintro e w' ⟨rfl, ⟨nd, rfl⟩⟩; refine ⟨_, rfl, ?_⟩))
   go_ret
   exact ⟨by first | rfl | (simp; done) | (simp [*]; done), by repeat (first | exact Drawn0.refl _ | apply Drawn0.step)⟩

end Go.Proofs.Ytfnkaccncmjnaaa.X
