/- What functions of the program come to, each with its proof. No condition but what each theorem states. -/
import Derived.Test.YtfnkaccncmjnaaaX0
namespace Go.Proofs.Ytfnkaccncmjnaaa.X
open Go.RowKit Go.Proofs.YtfnkaccncmjnaaaW.PrintWords Go.Proofs.YtfnkaccncmjnaaaW.PrintLast Go.Proofs.YtfnkaccncmjnaaaW.PrintMore Go.Proofs.Ytfnkaccncmjnaaa.Hyb
attribute [local go_sem] max2_int min2_int max_two min_two max_three min_three max_four min_four
set_option linter.unusedVariables false
set_option linter.unusedSimpArgs false

/-! ### spec_l4At: function 61 -/
def spec_l4At.l0 : Nat → List (List Int) → List Int → Int → Option (Int)
 | 0, _, _, _ => none
 | k + 1, x0, x1, x5 => if x5 < (x0.length : Int) then (if 0 ≤ x5 then (if (strOfNums (rd_L4 x0 x5)).toList = (strOfNums x1).toList then (some x5) else (spec_l4At.l0 k x0 x1 (wrap64 (x5 + 1)))) else (none)) else (some (-1))
def spec_l4At.f (k : Nat) (l0 : List (List Int)) (l1 : List Int) : Option (Int) := spec_l4At.l0 k l0 l1 0
theorem spec_l4At.mono_l : ∀ k, (∀ y0 y1 y2, LeO (spec_l4At.l0 k y0 y1 y2) (spec_l4At.l0 (k + 1) y0 y1 y2))
 | 0 => (fun _ _ _ r h => nomatch (show none = some r from h))
 | k + 1 => by
  have ih0 := spec_l4At.mono_l k
  ·intro y0 y1 y2
   unfold spec_l4At.l0
   repeat' first
   | (with_reducible exact ih0 _ _ _)
   | (with_reducible exact LeO.refl _)
   | (with_reducible exact LeO.none _)
   | (with_reducible refine LeO.ite ?_ ?_)
   | (with_reducible refine LeO.bind ?_ (fun _ => ?_))
   | exact ih0 _ _ _
   | exact LeO.none _
   | refine LeO.ite ?_ ?_
   | refine LeO.bind ?_ (fun _ => ?_)
theorem spec_l4At.mono : ∀ a0 a1 k, LeO (spec_l4At.f k a0 a1) (spec_l4At.f (k + 1) a0 a1) := by
 intro a0 a1 k
 have ih0 := spec_l4At.mono_l k
 unfold spec_l4At.f
 repeat' first
   | (with_reducible exact ih0 _ _ _)
   | (with_reducible exact LeO.refl _)
   | (with_reducible exact LeO.none _)
   | (with_reducible refine LeO.ite ?_ ?_)
   | (with_reducible refine LeO.bind ?_ (fun _ => ?_))
   | exact ih0 _ _ _
   | exact LeO.none _
   | refine LeO.ite ?_ ?_
   | refine LeO.bind ?_ (fun _ => ?_)
set_option maxHeartbeats 8000000 in
set_option maxRecDepth 100000 in
theorem spec_l4At.calls (k : Nat) (A0 : Option Addr) (c0 : Nat) (l0 : List (List Int)) (A1 : Option Addr) (c1 : Nat) (l1 : List Int) (r : Int) (w : World) (hr0 : Kd.C (Kd.slice 5 (Kd.int .u8)) w A0 l0.length l0) (aP : l0.length ≤ c0) (hr1 : Kd.C (Kd.int .u8) w A1 l1.length l1) (aQ : l1.length ≤ c1) (h : spec_l4At.f k l0 l1 = some r) :
  Calls Try.prog 61 #[.slice A0 l0.length c0, .slice A1 l1.length c1] w fun e w' => e = .returned (.int .i64 r) ∧ Drawn0 w w' := by
 have aO := Aside0.mk hr0
 have aS := Aside0.mk aP
 clear hr0 aP
 have aK := Aside0.mk hr1
 have aT := Aside0.mk aQ
 clear hr1 aQ
 have H : (spec_l4At.l0 k l0 l1 0) = some r := h
 clear h
 have H' := Aside0.mk H
 clear H
 go_enter Try.func61, Try.ntmps61
 go_wp2
 repeat (go_quiet (fail); try go_wp2)
 go_loopg [5] k (fun kq v5 w' => ∃ (aA : Int), v5 = .int .i64 aA ∧ Aside0 (spec_l4At.l0 kq l0 l1 aA = some r) ∧ Aside0 (kq ≤ k) ∧ Drawn0 w w')
 case atStart => exact ⟨(0), oU, H', ⟨Nat.le_refl _⟩, by repeat (first | exact Drawn0.refl _ | apply Drawn0.step)⟩
 case round =>
  clear H'
  try clear c1
  try clear p2
  obtain ⟨aA, rfl, HA, HK1, ⟨m1, rfl⟩⟩ := hrel
  cases gk with
  | zero => exact nomatch (show none = some _ from HA.out)
  | succ k1 =>
   have H := HA.out
   clear HA
   simp only [spec_l4At.l0] at H
   by_cases c3 : aA < (l0.length : Int)
   ·rw [if_pos c3] at H
    have aL : decide (aA < (l0.length : Int)) = true := decide_eq_true c3
    clear c3
    by_cases c4 : 0 ≤ aA
    ·rw [if_pos c4] at H
     have aR : decide (0 ≤ aA) = true := decide_eq_true c4
     clear c4
     by_cases c5 : (strOfNums (rd_L4 l0 aA)).toList = (strOfNums l1).toList
     ·rw [if_pos c5] at H
      have aM : ((strOfNums (rd_L4 l0 aA)).toList == (strOfNums l1).toList) = true := beq_iff_eq.mpr c5
      have aN : ((strOfNums (rd_L4 l0 aA)).toList != (strOfNums l1).toList) = false := bne_eq_false_iff_eq.mpr c5
      clear c5
      obtain rfl := Option.some.inj H
      have aE : 0 ≤ (aA : Int) := of_decide_eq_true oM
      have aF : aA < (l0.length : Int) := of_decide_eq_true oM
      obtain ⟨aJ, aC, aD, aI, aH, hl437_0, hi437_0⟩ := at_L4 aO.out aA aE aF
      cases aI
      have aB := Aside0.mk hi437_0
      have aG := Aside0.mk hl437_0
      clear hi437_0 hl437_0
      replace aE := eq_true aE
      replace aF := eq_true aF
      have hcv6 := fun n_ : Nat => Kd.C_string (P := Try.prog) (A := aC) (c := aD) Try.underlying24 Try.underlying5 Try.underlying9 (Kd.C_drewN aB.out n_)
      have hcv6x := fun n_ : Nat => Kd.C_string (P := Try.prog) (A := aC) (c := aD) Try.underlying24 Try.underlying5 Try.underlying9 (Kd.C_drewN (Kd.C_drewN aB.out m1) n_)
      have hcv7 := fun n_ : Nat => Kd.C_string (P := Try.prog) (A := A1) (c := c1) Try.underlying24 Try.underlying5 Try.underlying9 (Kd.C_drewN aK.out n_)
      have hcv7x := fun n_ : Nat => Kd.C_string (P := Try.prog) (A := A1) (c := c1) Try.underlying24 Try.underlying5 Try.underlying9 (Kd.C_drewN (Kd.C_drewN aK.out m1) n_)
      go_wp2
      repeat (go_quiet (fail); try go_wp2)
      go_ret
      exact ⟨by first | rfl | (simp; done) | (simp [*]; done), by repeat (first | exact Drawn0.refl _ | apply Drawn0.step)⟩
     ·rw [if_neg c5] at H
      have aM : ((strOfNums (rd_L4 l0 aA)).toList == (strOfNums l1).toList) = false := beq_eq_false_iff_ne.mpr c5
      have aN : ((strOfNums (rd_L4 l0 aA)).toList != (strOfNums l1).toList) = true := bne_iff_ne.mpr c5
      have H' := Aside0.mk H
      clear H
      have aE : 0 ≤ (aA : Int) := of_decide_eq_true oM
      have aF : aA < (l0.length : Int) := of_decide_eq_true oM
      obtain ⟨aJ, aC, aD, aI, aH, hl437_0, hi437_0⟩ := at_L4 aO.out aA aE aF
      cases aI
      have aB := Aside0.mk hi437_0
      have aG := Aside0.mk hl437_0
      clear hi437_0 hl437_0
      replace aE := eq_true aE
      replace aF := eq_true aF
      have hcv8 := fun n_ : Nat => Kd.C_string (P := Try.prog) (A := aC) (c := aD) Try.underlying24 Try.underlying5 Try.underlying9 (Kd.C_drewN aB.out n_)
      have hcv8x := fun n_ : Nat => Kd.C_string (P := Try.prog) (A := aC) (c := aD) Try.underlying24 Try.underlying5 Try.underlying9 (Kd.C_drewN (Kd.C_drewN aB.out m1) n_)
      have hcv9 := fun n_ : Nat => Kd.C_string (P := Try.prog) (A := A1) (c := c1) Try.underlying24 Try.underlying5 Try.underlying9 (Kd.C_drewN aK.out n_)
      have hcv9x := fun n_ : Nat => Kd.C_string (P := Try.prog) (A := A1) (c := c1) Try.underlying24 Try.underlying5 Try.underlying9 (Kd.C_drewN (Kd.C_drewN aK.out m1) n_)
      go_wp2
      repeat (go_quiet (fail); try go_wp2)
      go_roundg k1
      case measure => have := HK1.out; omega
      case rel => exact ⟨(wrap64 (aA + 1)), oU, H', ⟨(by have := HK1.out; omega)⟩, by repeat (first | exact Drawn0.refl _ | apply Drawn0.step)⟩
    ·rw [if_neg c4] at H
     exact absurd H (by simp)
   ·rw [if_neg c3] at H
    have aL : decide (aA < (l0.length : Int)) = false := decide_eq_false c3
    clear c3
    obtain rfl := Option.some.inj H
    go_wp2
    repeat (go_quiet (fail); try go_wp2)
    go_ret
    exact ⟨by first | rfl | (simp; done) | (simp [*]; done), by repeat (first | exact Drawn0.refl _ | apply Drawn0.step)⟩

end Go.Proofs.Ytfnkaccncmjnaaa.X
