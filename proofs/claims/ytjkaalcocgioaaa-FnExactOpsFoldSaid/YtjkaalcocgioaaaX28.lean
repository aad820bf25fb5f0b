/- What functions of the program come to, each with its proof. No condition but what each theorem states. -/
import Derived.Test.YtjkaalcocgioaaaX0
namespace Go.Proofs.Ytjkaalcocgioaaa.X
open Go.RowKit Go.Proofs.YtjkaalcocgioaaaW.PrintWords Go.Proofs.YtjkaalcocgioaaaW.PrintLast Go.Proofs.YtjkaalcocgioaaaW.PrintMore Go.Proofs.Ytjkaalcocgioaaa.Hyb
attribute [local go_sem] max2_int min2_int max_two min_two max_three min_three max_four min_four
set_option linter.unusedVariables false
set_option linter.unusedSimpArgs false

/-! ### spec_l6Four: function 42 -/
def spec_l6Four.l0 : Nat → List (S25) → Int → Int → Option (Bool)
 | 0, _, _, _ => none
 | k + 1, x0, x1, x5 => if x5 < (wrap64 (x1 + 4)) then (if x5 ≥ (x0.length : Int) then (some false) else (if 0 ≤ x5 then (if x5 < (x0.length : Int) then (if ((rd_T25 x0 x5).f0) = 4 then (spec_l6Four.l0 k x0 x1 (wrap64 (x5 + 1))) else (some false)) else (none)) else (none))) else (some true)
def spec_l6Four.f (k : Nat) (l0 : List (S25)) (a1 : Int) : Option (Bool) := spec_l6Four.l0 k l0 a1 a1
theorem spec_l6Four.mono_l : ∀ k, (∀ y0 y1 y2, LeO (spec_l6Four.l0 k y0 y1 y2) (spec_l6Four.l0 (k + 1) y0 y1 y2))
 | 0 => (fun _ _ _ r h => nomatch (show none = some r from h))
 | k + 1 => by
  have ih0 := spec_l6Four.mono_l k
  ·intro y0 y1 y2
   unfold spec_l6Four.l0
   repeat' first
   | (with_reducible exact ih0 _ _ _)
   | (with_reducible exact LeO.refl _)
   | (with_reducible exact LeO.none _)
   | (with_reducible refine LeO.ite ?_ ?_)
   | (with_reducible refine LeO.bind ?_ (fun _ => ?_))
   | exact ih0 _ _ _
   | exact LeO.none _
   | refine LeO.ite ?_ ?_
   | refine LeO.bind ?_ (fun _ => ?_)
theorem spec_l6Four.mono : ∀ a0 a1 k, LeO (spec_l6Four.f k a0 a1) (spec_l6Four.f (k + 1) a0 a1) := by
 intro a0 a1 k
 have ih0 := spec_l6Four.mono_l k
 unfold spec_l6Four.f
 repeat' first
   | (with_reducible exact ih0 _ _ _)
   | (with_reducible exact LeO.refl _)
   | (with_reducible exact LeO.none _)
   | (with_reducible refine LeO.ite ?_ ?_)
   | (with_reducible refine LeO.bind ?_ (fun _ => ?_))
   | exact ih0 _ _ _
   | exact LeO.none _
   | refine LeO.ite ?_ ?_
   | refine LeO.bind ?_ (fun _ => ?_)
set_option maxHeartbeats 8000000 in
set_option maxRecDepth 100000 in
theorem spec_l6Four.calls (k : Nat) (A0 : Option Addr) (c0 : Nat) (l0 : List (S25)) (a1 : Int) (r : Bool) (w : World) (hr0 : Kd.C k25 w A0 l0.length l0) (aP : l0.length ≤ c0) (h : spec_l6Four.f k l0 a1 = some r) :
  Calls Try.prog 42 #[.slice A0 l0.length c0, .int .i64 a1] w fun e w' => e = .returned (.bool r) ∧ Drawn0 w w' := by
 have aO := Aside0.mk hr0
 have aS := Aside0.mk aP
 clear hr0 aP
 have H : (spec_l6Four.l0 k l0 a1 a1) = some r := h
 clear h
 have H' := Aside0.mk H
 clear H
 go_enter Try.func42, Try.ntmps42
 go_wp2
 go_loopg [5] k (fun kq v5 w' => ∃ (aA : Int), v5 = .int .i64 aA ∧ Aside0 (spec_l6Four.l0 kq l0 a1 aA = some r) ∧ Aside0 (kq ≤ k) ∧ Drawn0 w w')
 case atStart => exact ⟨(a1), oU, H', ⟨Nat.le_refl _⟩, by repeat (first | exact Drawn0.refl _ | apply Drawn0.step)⟩
 case round =>
  clear H'
  try clear p2
  obtain ⟨aA, rfl, HA, HK1, ⟨m1, rfl⟩⟩ := hrel
  cases gk with
  | zero => exact nomatch (show none = some _ from HA.out)
  | succ k1 =>
   have H := HA.out
   clear HA
   simp only [spec_l6Four.l0] at H
   by_cases c3 : aA < (wrap64 (a1 + 4))
   ·rw [if_pos c3] at H
    have aK : decide (aA < (wrap64 (a1 + 4))) = true := decide_eq_true c3
    clear c3
    by_cases c4 : aA ≥ (l0.length : Int)
    ·rw [if_pos c4] at H
     have aL : decide ((l0.length : Int) ≤ aA) = true := decide_eq_true c4
     clear c4
     obtain rfl := Option.some.inj H
     go_wp2
     go_ret
     exact ⟨by first | rfl | (simp; done) | (simp [*]; done), by repeat (first | exact Drawn0.refl _ | apply Drawn0.step)⟩
    ·rw [if_neg c4] at H
     have aL : decide ((l0.length : Int) ≤ aA) = false := decide_eq_false c4
     clear c4
     by_cases c5 : 0 ≤ aA
     ·rw [if_pos c5] at H
      have aQ : decide (0 ≤ aA) = true := decide_eq_true c5
      clear c5
      by_cases c6 : aA < (l0.length : Int)
      ·rw [if_pos c6] at H
       have aR : decide (aA < (l0.length : Int)) = true := decide_eq_true c6
       clear c6
       by_cases c7 : ((rd_T25 l0 aA).f0) = 4
       ·rw [if_pos c7] at H
        have aM : (((rd_T25 l0 aA).f0) == 4) = true := beq_iff_eq.mpr c7
        have aN : (((rd_T25 l0 aA).f0) != 4) = false := bne_eq_false_iff_eq.mpr c7
        clear c7
        have H' := Aside0.mk H
        clear H
        have aB : 0 ≤ (aA : Int) := of_decide_eq_true oM
        have aC : aA < (l0.length : Int) := of_decide_eq_true oM
        obtain ⟨aJ, aI, aD, aE, aF, aG, aH⟩ := at_T25 aO.out aA aB aC
        cases aI
        replace aB := eq_true aB
        replace aC := eq_true aC
        go_wp2
        go_roundg k1
        case measure => have := HK1.out; omega
        case rel => exact ⟨(wrap64 (aA + 1)), oU, H', ⟨(by have := HK1.out; omega)⟩, by repeat (first | exact Drawn0.refl _ | apply Drawn0.step)⟩
       ·rw [if_neg c7] at H
        have aM : (((rd_T25 l0 aA).f0) == 4) = false := beq_eq_false_iff_ne.mpr c7
        have aN : (((rd_T25 l0 aA).f0) != 4) = true := bne_iff_ne.mpr c7
        obtain rfl := Option.some.inj H
        have aB : 0 ≤ (aA : Int) := of_decide_eq_true oM
        have aC : aA < (l0.length : Int) := of_decide_eq_true oM
        obtain ⟨aJ, aI, aD, aE, aF, aG, aH⟩ := at_T25 aO.out aA aB aC
        cases aI
        replace aB := eq_true aB
        replace aC := eq_true aC
        go_wp2
        go_ret
        exact ⟨by first | rfl | (simp; done) | (simp [*]; done), by repeat (first | exact Drawn0.refl _ | apply Drawn0.step)⟩
      ·rw [if_neg c6] at H
       exact absurd H (by simp)
     ·rw [if_neg c5] at H
      exact absurd H (by simp)
   ·rw [if_neg c3] at H
    have aK : decide (aA < (wrap64 (a1 + 4))) = false := decide_eq_false c3
    clear c3
    obtain rfl := Option.some.inj H
    go_wp2
    go_ret
    exact ⟨by first | rfl | (simp; done) | (simp [*]; done), by repeat (first | exact Drawn0.refl _ | apply Drawn0.step)⟩

end Go.Proofs.Ytjkaalcocgioaaa.X
