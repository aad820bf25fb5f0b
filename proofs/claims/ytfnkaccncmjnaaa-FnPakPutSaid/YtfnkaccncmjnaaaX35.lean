/- What functions of the program come to, each with its proof. No condition but what each theorem states. -/
import Derived.Test.YtfnkaccncmjnaaaX0
namespace Go.Proofs.Ytfnkaccncmjnaaa.X
open Go.RowKit Go.Proofs.YtfnkaccncmjnaaaW.PrintWords Go.Proofs.YtfnkaccncmjnaaaW.PrintLast Go.Proofs.YtfnkaccncmjnaaaW.PrintMore Go.Proofs.Ytfnkaccncmjnaaa.Hyb
attribute [local go_sem] max2_int min2_int max_two min_two max_three min_three max_four min_four
set_option linter.unusedVariables false
set_option linter.unusedSimpArgs false

/-! ### spec_l4Rest: function 48 -/
def spec_l4Rest.l0 : Nat → List Int → Int → Option (Bool)
 | 0, _, _ => none
 | k + 1, x0, x5 => if x5 < (wrap64 (8 * (x0.length : Int))) then (if 0 ≤ (wrap64 (Int.tdiv x5 8)) then (if (wrap64 (Int.tdiv x5 8)) < (x0.length : Int) then (if 0 ≤ (Int.tmod x5 8) then (if (Int.tmod (shr .u8 (rd x0 (wrap64 (Int.tdiv x5 8))) (Int.tmod x5 8)) 2) = 1 then (some false) else (spec_l4Rest.l0 k x0 (wrap64 (x5 + 1)))) else (none)) else (none)) else (none)) else (some true)
def spec_l4Rest.f (k : Nat) (l0 : List Int) (a1 : Int) : Option (Bool) := spec_l4Rest.l0 k l0 a1
theorem spec_l4Rest.mono_l : ∀ k, (∀ y0 y1, LeO (spec_l4Rest.l0 k y0 y1) (spec_l4Rest.l0 (k + 1) y0 y1))
 | 0 => (fun _ _ r h => nomatch (show none = some r from h))
 | k + 1 => by
  have ih0 := spec_l4Rest.mono_l k
  ·intro y0 y1
   unfold spec_l4Rest.l0
   repeat' first
   | (with_reducible exact ih0 _ _)
   | (with_reducible exact LeO.refl _)
   | (with_reducible exact LeO.none _)
   | (with_reducible refine LeO.ite ?_ ?_)
   | (with_reducible refine LeO.bind ?_ (fun _ => ?_))
   | exact ih0 _ _
   | exact LeO.none _
   | refine LeO.ite ?_ ?_
   | refine LeO.bind ?_ (fun _ => ?_)
theorem spec_l4Rest.mono : ∀ a0 a1 k, LeO (spec_l4Rest.f k a0 a1) (spec_l4Rest.f (k + 1) a0 a1) := by
 intro a0 a1 k
 have ih0 := spec_l4Rest.mono_l k
 unfold spec_l4Rest.f
 repeat' first
   | (with_reducible exact ih0 _ _)
   | (with_reducible exact LeO.refl _)
   | (with_reducible exact LeO.none _)
   | (with_reducible refine LeO.ite ?_ ?_)
   | (with_reducible refine LeO.bind ?_ (fun _ => ?_))
   | exact ih0 _ _
   | exact LeO.none _
   | refine LeO.ite ?_ ?_
   | refine LeO.bind ?_ (fun _ => ?_)
set_option maxHeartbeats 8000000 in
set_option maxRecDepth 100000 in
theorem spec_l4Rest.calls (k : Nat) (A0 : Option Addr) (c0 : Nat) (l0 : List Int) (a1 : Int) (r : Bool) (w : World) (hr0 : Kd.C (Kd.int .u8) w A0 l0.length l0) (aL : l0.length ≤ c0) (h : spec_l4Rest.f k l0 a1 = some r) :
  Calls Try.prog 48 #[.slice A0 l0.length c0, .int .i64 a1] w fun e w' => e = .returned (.bool r) ∧ Drawn0 w w' := by
 have aK := Aside0.mk hr0
 have aT := Aside0.mk aL
 clear hr0 aL
 have H : (spec_l4Rest.l0 k l0 a1) = some r := h
 clear h
 have H' := Aside0.mk H
 clear H
 go_enter Try.func48, Try.ntmps48
 go_wp2
 go_loopg [5] k (fun kq v5 w' => ∃ (aA : Int), v5 = .int .i64 aA ∧ Aside0 (spec_l4Rest.l0 kq l0 aA = some r) ∧ Aside0 (kq ≤ k) ∧ Drawn0 w w')
 case atStart => exact ⟨(a1), oU, H', ⟨Nat.le_refl _⟩, by repeat (first | exact Drawn0.refl _ | apply Drawn0.step)⟩
 case round =>
  clear H'
  try clear p2
  obtain ⟨aA, rfl, HA, HK1, ⟨m1, rfl⟩⟩ := hrel
  cases gk with
  | zero => exact nomatch (show none = some _ from HA.out)
  | succ k1 =>
   have H := HA.out
   clear HA
   simp only [spec_l4Rest.l0] at H
   by_cases c3 : aA < (wrap64 (8 * (l0.length : Int)))
   ·rw [if_pos c3] at H
    have aJ : decide (aA < (wrap64 (8 * (l0.length : Int)))) = true := decide_eq_true c3
    clear c3
    obtain ⟨ji4, hji4⟩ : ∃ j_ : Int, (wrap64 (Int.tdiv aA 8)) = j_ := ⟨_, rfl⟩
    replace H : (if 0 ≤ (ji4) then (if (ji4) < (l0.length : Int) then (if 0 ≤ (Int.tmod aA 8) then (if (Int.tmod (shr .u8 (rd l0 (ji4)) (Int.tmod aA 8)) 2) = 1 then (some false) else (spec_l4Rest.l0 k1 l0 (wrap64 (aA + 1)))) else (none)) else (none)) else (none)) = some r := by first | (rw [hji4] at H; exact H) | (simp only [hji4] at H ⊢; exact H)
    have aM : (IntKind.i64.wrap (Int.tdiv aA 8)) = ji4 := (i64_w _).trans hji4
    by_cases c5 : 0 ≤ (ji4)
    ·rw [if_pos c5] at H
     have aP : decide (0 ≤ (ji4)) = true := decide_eq_true c5
     clear c5
     by_cases c6 : (ji4) < (l0.length : Int)
     ·rw [if_pos c6] at H
      have aQ : decide ((ji4) < (l0.length : Int)) = true := decide_eq_true c6
      clear c6
      obtain ⟨ji7, hji7⟩ : ∃ j_ : Int, (Int.tmod aA 8) = j_ := ⟨_, rfl⟩
      replace H : (if 0 ≤ (ji7) then (if (Int.tmod (shr .u8 (rd l0 (ji4)) (ji7)) 2) = 1 then (some false) else (spec_l4Rest.l0 k1 l0 (wrap64 (aA + 1)))) else (none)) = some r := by first | (rw [hji7] at H; exact H) | (simp only [hji7] at H ⊢; exact H)
      by_cases c8 : 0 ≤ (ji7)
      ·rw [if_pos c8] at H
       have aR := eq_true c8
       have aS : decide (0 ≤ (ji7)) = true := decide_eq_true c8
       clear c8
       obtain ⟨ji9, hji9⟩ : ∃ j_ : Int, (shr .u8 (rd l0 (ji4)) (ji7)) = j_ := ⟨_, rfl⟩
       replace H : (if (Int.tmod (ji9) 2) = 1 then (some false) else (spec_l4Rest.l0 k1 l0 (wrap64 (aA + 1)))) = some r := by first | (rw [hji9] at H; exact H) | (simp only [hji9] at H ⊢; exact H)
       have aN : ((rd l0 (ji4)) / 2 ^ min (ji7).toNat 8) = ji9 := hji9
       have aO : (ji7) ≤ 8 → ((rd l0 (ji4)) / 2 ^ (ji7).toNat) = ji9 := shr_small hji9
       by_cases aE : (Int.tmod (ji9) 2) = 1
       ·rw [if_pos aE] at H
        have aH : ((Int.tmod (ji9) 2) == 1) = true := beq_iff_eq.mpr aE
        have aI : ((Int.tmod (ji9) 2) != 1) = false := bne_eq_false_iff_eq.mpr aE
        clear aE
        obtain rfl := Option.some.inj H
        have aB : 0 ≤ ((ji4) : Int) := of_decide_eq_true oM
        have aC : (ji4) < (l0.length : Int) := of_decide_eq_true oM
        obtain ⟨aG, aF, aD⟩ := Kd.at_int aK.out (ji4) aB aC
        cases aF
        replace aB := eq_true aB
        replace aC := eq_true aC
        go_wp2
        go_ret
        exact ⟨by first | rfl | (simp; done) | (simp only [← hji4, ← hji7, ← hji9] <;> (first | rfl | simp)) | (simp [*]; done), by repeat (first | exact Drawn0.refl _ | apply Drawn0.step)⟩
       ·rw [if_neg aE] at H
        have aH : ((Int.tmod (ji9) 2) == 1) = false := beq_eq_false_iff_ne.mpr aE
        have aI : ((Int.tmod (ji9) 2) != 1) = true := bne_iff_ne.mpr aE
        have H' := Aside0.mk H
        clear H
        have aB : 0 ≤ ((ji4) : Int) := of_decide_eq_true oM
        have aC : (ji4) < (l0.length : Int) := of_decide_eq_true oM
        obtain ⟨aG, aF, aD⟩ := Kd.at_int aK.out (ji4) aB aC
        cases aF
        replace aB := eq_true aB
        replace aC := eq_true aC
        go_wp2
        go_roundg k1
        case measure => have := HK1.out; omega
        case rel => exact ⟨(wrap64 (aA + 1)), oU, H', ⟨(by have := HK1.out; omega)⟩, by repeat (first | exact Drawn0.refl _ | apply Drawn0.step)⟩
      ·rw [if_neg c8] at H
       exact absurd H (by simp)
     ·rw [if_neg c6] at H
      exact absurd H (by simp)
    ·rw [if_neg c5] at H
     exact absurd H (by simp)
   ·rw [if_neg c3] at H
    have aJ : decide (aA < (wrap64 (8 * (l0.length : Int)))) = false := decide_eq_false c3
    clear c3
    obtain rfl := Option.some.inj H
    go_wp2
    go_ret
    exact ⟨by first | rfl | (simp; done) | (simp [*]; done), by repeat (first | exact Drawn0.refl _ | apply Drawn0.step)⟩

end Go.Proofs.Ytfnkaccncmjnaaa.X
