/- What functions of the program come to, each with its proof. No condition but what each theorem states. -/
import Derived.Test.YtjkaalcocgioaaaX0
namespace Go.Proofs.Ytjkaalcocgioaaa.X
open Go.RowKit Go.Proofs.YtjkaalcocgioaaaW.PrintWords Go.Proofs.YtjkaalcocgioaaaW.PrintLast Go.Proofs.YtjkaalcocgioaaaW.PrintMore Go.Proofs.Ytjkaalcocgioaaa.Hyb
attribute [local go_sem] max2_int min2_int max_two min_two max_three min_three max_four min_four
set_option linter.unusedVariables false
set_option linter.unusedSimpArgs false

/-! ### laws_heldOpOpS: function 19 -/
def laws_heldOpOpS.l0 : Nat → List (S25) → Int → Int → Option (Int)
 | 0, _, _, _ => none
 | k + 1, x0, x1, x5 => if x5 < (x0.length : Int) then (if 0 ≤ x5 then (if ((rd_T25 x0 x5).f0) = x1 then (if ((rd_T25 x0 x5).f1) = (wrap64 (x1 + 1)) then (if ((rd_T25 x0 x5).f2) = (wrap64 ((wrap64 (x1 + 1)) + 1)) then (if ((rd_T25 x0 x5).f3) = (wrap64 ((wrap64 ((wrap64 (x1 + 1)) + 1)) + 1)) then (if ((rd_T25 x0 x5).f4) = (wrap64 ((wrap64 ((wrap64 ((wrap64 (x1 + 1)) + 1)) + 1)) + 1)) then (laws_heldOpOpS.l0 k x0 (wrap64 ((wrap64 ((wrap64 ((wrap64 ((wrap64 (x1 + 1)) + 1)) + 1)) + 1)) + 1)) (wrap64 (x5 + 1))) else (some (-1))) else (some (-1))) else (some (-1))) else (some (-1))) else (some (-1))) else (none)) else (some x1)
def laws_heldOpOpS.f (k : Nat) (l0 : List (S25)) (a1 : Int) : Option (Int) := laws_heldOpOpS.l0 k l0 a1 0
theorem laws_heldOpOpS.mono_l : ∀ k, (∀ y0 y1 y2, LeO (laws_heldOpOpS.l0 k y0 y1 y2) (laws_heldOpOpS.l0 (k + 1) y0 y1 y2))
 | 0 => (fun _ _ _ r h => nomatch (show none = some r from h))
 | k + 1 => by
  have ih0 := laws_heldOpOpS.mono_l k
  ·intro y0 y1 y2
   unfold laws_heldOpOpS.l0
   repeat' first
   | (with_reducible exact ih0 _ _ _)
   | (with_reducible exact LeO.refl _)
   | (with_reducible exact LeO.none _)
   | (with_reducible refine LeO.ite ?_ ?_)
   | (with_reducible refine LeO.bind ?_ (fun _ => ?_))
   | exact ih0 _ _ _
   | exact LeO.none _
   | refine LeO.ite ?_ ?_
   | refine LeO.bind ?_ (fun _ => ?_)
theorem laws_heldOpOpS.mono : ∀ a0 a1 k, LeO (laws_heldOpOpS.f k a0 a1) (laws_heldOpOpS.f (k + 1) a0 a1) := by
 intro a0 a1 k
 have ih0 := laws_heldOpOpS.mono_l k
 unfold laws_heldOpOpS.f
 repeat' first
   | (with_reducible exact ih0 _ _ _)
   | (with_reducible exact LeO.refl _)
   | (with_reducible exact LeO.none _)
   | (with_reducible refine LeO.ite ?_ ?_)
   | (with_reducible refine LeO.bind ?_ (fun _ => ?_))
   | exact ih0 _ _ _
   | exact LeO.none _
   | refine LeO.ite ?_ ?_
   | refine LeO.bind ?_ (fun _ => ?_)
set_option maxHeartbeats 8000000 in
set_option maxRecDepth 100000 in
theorem laws_heldOpOpS.calls (k : Nat) (A0 : Option Addr) (c0 : Nat) (l0 : List (S25)) (a1 : Int) (r : Int) (w : World) (hr0 : Kd.C k25 w A0 l0.length l0) (cH : l0.length ≤ c0) (h : laws_heldOpOpS.f k l0 a1 = some r) :
  Calls Try.prog 19 #[.slice A0 l0.length c0, .int .i64 a1] w fun e w' => e = .returned (.int .i64 r) ∧ Drawn0 w w' := by
 have aY := Aside0.mk hr0
 have cJ := Aside0.mk cH
 clear hr0 cH
 have H : (laws_heldOpOpS.l0 k l0 a1 0) = some r := h
 clear h
 have H' := Aside0.mk H
 clear H
 go_enter Try.func19, Try.ntmps19
 go_wp2
 go_loopg [1, 5] k (fun kq v1 v5 w' => ∃ (aC : Int) (aA : Int), v1 = .int .i64 aC ∧ v5 = .int .i64 aA ∧ Aside0 (laws_heldOpOpS.l0 kq l0 aC aA = some r) ∧ Aside0 (kq ≤ k) ∧ Drawn0 w w')
 case atStart => exact ⟨(a1), (0), oU, oU, H', ⟨Nat.le_refl _⟩, by repeat (first | exact Drawn0.refl _ | apply Drawn0.step)⟩
 case round =>
  clear H'
  try clear c1
  try clear p2
  obtain ⟨aC, aA, rfl, rfl, HA, HK1, ⟨m1, rfl⟩⟩ := hrel
  cases gk with
  | zero => exact nomatch (show none = some _ from HA.out)
  | succ k1 =>
   have H := HA.out
   clear HA
   simp only [laws_heldOpOpS.l0] at H
   by_cases c3 : aA < (l0.length : Int)
   ·rw [if_pos c3] at H
    have bW : decide (aA < (l0.length : Int)) = true := decide_eq_true c3
    clear c3
    by_cases c4 : 0 ≤ aA
    ·rw [if_pos c4] at H
     have cI : decide (0 ≤ aA) = true := decide_eq_true c4
     clear c4
     by_cases c5 : ((rd_T25 l0 aA).f0) = aC
     ·rw [if_pos c5] at H
      have bX : (((rd_T25 l0 aA).f0) == aC) = true := beq_iff_eq.mpr c5
      have bY : (((rd_T25 l0 aA).f0) != aC) = false := bne_eq_false_iff_eq.mpr c5
      clear c5
      by_cases c6 : ((rd_T25 l0 aA).f1) = (wrap64 (aC + 1))
      ·rw [if_pos c6] at H
       have bZ : (((rd_T25 l0 aA).f1) == (wrap64 (aC + 1))) = true := beq_iff_eq.mpr c6
       have cA : (((rd_T25 l0 aA).f1) != (wrap64 (aC + 1))) = false := bne_eq_false_iff_eq.mpr c6
       clear c6
       by_cases c7 : ((rd_T25 l0 aA).f2) = (wrap64 ((wrap64 (aC + 1)) + 1))
       ·rw [if_pos c7] at H
        have cB : (((rd_T25 l0 aA).f2) == (wrap64 ((wrap64 (aC + 1)) + 1))) = true := beq_iff_eq.mpr c7
        have cC : (((rd_T25 l0 aA).f2) != (wrap64 ((wrap64 (aC + 1)) + 1))) = false := bne_eq_false_iff_eq.mpr c7
        clear c7
        by_cases c8 : ((rd_T25 l0 aA).f3) = (wrap64 ((wrap64 ((wrap64 (aC + 1)) + 1)) + 1))
        ·rw [if_pos c8] at H
         have cD : (((rd_T25 l0 aA).f3) == (wrap64 ((wrap64 ((wrap64 (aC + 1)) + 1)) + 1))) = true := beq_iff_eq.mpr c8
         have cE : (((rd_T25 l0 aA).f3) != (wrap64 ((wrap64 ((wrap64 (aC + 1)) + 1)) + 1))) = false := bne_eq_false_iff_eq.mpr c8
         clear c8
         by_cases c9 : ((rd_T25 l0 aA).f4) = (wrap64 ((wrap64 ((wrap64 ((wrap64 (aC + 1)) + 1)) + 1)) + 1))
         ·rw [if_pos c9] at H
          have cF : (((rd_T25 l0 aA).f4) == (wrap64 ((wrap64 ((wrap64 ((wrap64 (aC + 1)) + 1)) + 1)) + 1))) = true := beq_iff_eq.mpr c9
          have cG : (((rd_T25 l0 aA).f4) != (wrap64 ((wrap64 ((wrap64 ((wrap64 (aC + 1)) + 1)) + 1)) + 1))) = false := bne_eq_false_iff_eq.mpr c9
          clear c9
          have H' := Aside0.mk H
          clear H
          have aD : 0 ≤ (aA : Int) := of_decide_eq_true oM
          have aE : aA < (l0.length : Int) := of_decide_eq_true oM
          obtain ⟨aB, aV, aK, aL, aM, aN, aO⟩ := at_T25 aY.out aA aD aE
          cases aV
          replace aD := eq_true aD
          replace aE := eq_true aE
          have aF : 0 ≤ (aA : Int) := of_decide_eq_true oM
          have aG : aA < (l0.length : Int) := of_decide_eq_true oM
          obtain ⟨aJ, aZ, aP, aQ, aR, aS, aT⟩ := at_T25 aY.out aA aF aG
          obtain rfl : aB = aJ := (by injection aZ)
          replace aF := eq_true aF
          replace aG := eq_true aG
          have aH : 0 ≤ (aA : Int) := of_decide_eq_true oM
          have aI : aA < (l0.length : Int) := of_decide_eq_true oM
          obtain ⟨aU, bG, bA, bB, bC, bD, bE⟩ := at_T25 aY.out aA aH aI
          obtain rfl : aB = aU := (by injection bG)
          replace aH := eq_true aH
          replace aI := eq_true aI
          have aW : 0 ≤ (aA : Int) := of_decide_eq_true oM
          have aX : aA < (l0.length : Int) := of_decide_eq_true oM
          obtain ⟨bF, bP, bJ, bK, bL, bM, bN⟩ := at_T25 aY.out aA aW aX
          obtain rfl : aB = bF := (by injection bP)
          replace aW := eq_true aW
          replace aX := eq_true aX
          have bH : 0 ≤ (aA : Int) := of_decide_eq_true oM
          have bI : aA < (l0.length : Int) := of_decide_eq_true oM
          obtain ⟨bO, bV, bQ, bR, bS, bT, bU⟩ := at_T25 aY.out aA bH bI
          obtain rfl : aB = bO := (by injection bV)
          replace bH := eq_true bH
          replace bI := eq_true bI
          go_wp2
          go_roundg k1
          case measure => have := HK1.out; omega
          case rel => exact ⟨(wrap64 ((wrap64 ((wrap64 ((wrap64 ((wrap64 (aC + 1)) + 1)) + 1)) + 1)) + 1)), (wrap64 (aA + 1)), oU, oU, H', ⟨(by have := HK1.out; omega)⟩, by repeat (first | exact Drawn0.refl _ | apply Drawn0.step)⟩
         ·rw [if_neg c9] at H
          have cF : (((rd_T25 l0 aA).f4) == (wrap64 ((wrap64 ((wrap64 ((wrap64 (aC + 1)) + 1)) + 1)) + 1))) = false := beq_eq_false_iff_ne.mpr c9
          have cG : (((rd_T25 l0 aA).f4) != (wrap64 ((wrap64 ((wrap64 ((wrap64 (aC + 1)) + 1)) + 1)) + 1))) = true := bne_iff_ne.mpr c9
          obtain rfl := Option.some.inj H
          have aD : 0 ≤ (aA : Int) := of_decide_eq_true oM
          have aE : aA < (l0.length : Int) := of_decide_eq_true oM
          obtain ⟨aB, aV, aK, aL, aM, aN, aO⟩ := at_T25 aY.out aA aD aE
          cases aV
          replace aD := eq_true aD
          replace aE := eq_true aE
          have aF : 0 ≤ (aA : Int) := of_decide_eq_true oM
          have aG : aA < (l0.length : Int) := of_decide_eq_true oM
          obtain ⟨aJ, aZ, aP, aQ, aR, aS, aT⟩ := at_T25 aY.out aA aF aG
          obtain rfl : aB = aJ := (by injection aZ)
          replace aF := eq_true aF
          replace aG := eq_true aG
          have aH : 0 ≤ (aA : Int) := of_decide_eq_true oM
          have aI : aA < (l0.length : Int) := of_decide_eq_true oM
          obtain ⟨aU, bG, bA, bB, bC, bD, bE⟩ := at_T25 aY.out aA aH aI
          obtain rfl : aB = aU := (by injection bG)
          replace aH := eq_true aH
          replace aI := eq_true aI
          have aW : 0 ≤ (aA : Int) := of_decide_eq_true oM
          have aX : aA < (l0.length : Int) := of_decide_eq_true oM
          obtain ⟨bF, bP, bJ, bK, bL, bM, bN⟩ := at_T25 aY.out aA aW aX
          obtain rfl : aB = bF := (by injection bP)
          replace aW := eq_true aW
          replace aX := eq_true aX
          have bH : 0 ≤ (aA : Int) := of_decide_eq_true oM
          have bI : aA < (l0.length : Int) := of_decide_eq_true oM
          obtain ⟨bO, bV, bQ, bR, bS, bT, bU⟩ := at_T25 aY.out aA bH bI
          obtain rfl : aB = bO := (by injection bV)
          replace bH := eq_true bH
          replace bI := eq_true bI
          go_wp2
          go_ret
          exact ⟨by first | rfl | (simp; done) | (simp [*]; done), by repeat (first | exact Drawn0.refl _ | apply Drawn0.step)⟩
        ·rw [if_neg c8] at H
         have cD : (((rd_T25 l0 aA).f3) == (wrap64 ((wrap64 ((wrap64 (aC + 1)) + 1)) + 1))) = false := beq_eq_false_iff_ne.mpr c8
         have cE : (((rd_T25 l0 aA).f3) != (wrap64 ((wrap64 ((wrap64 (aC + 1)) + 1)) + 1))) = true := bne_iff_ne.mpr c8
         obtain rfl := Option.some.inj H
         have aD : 0 ≤ (aA : Int) := of_decide_eq_true oM
         have aE : aA < (l0.length : Int) := of_decide_eq_true oM
         obtain ⟨aB, aV, aK, aL, aM, aN, aO⟩ := at_T25 aY.out aA aD aE
         cases aV
         replace aD := eq_true aD
         replace aE := eq_true aE
         have aF : 0 ≤ (aA : Int) := of_decide_eq_true oM
         have aG : aA < (l0.length : Int) := of_decide_eq_true oM
         obtain ⟨aJ, aZ, aP, aQ, aR, aS, aT⟩ := at_T25 aY.out aA aF aG
         obtain rfl : aB = aJ := (by injection aZ)
         replace aF := eq_true aF
         replace aG := eq_true aG
         have aH : 0 ≤ (aA : Int) := of_decide_eq_true oM
         have aI : aA < (l0.length : Int) := of_decide_eq_true oM
         obtain ⟨aU, bG, bA, bB, bC, bD, bE⟩ := at_T25 aY.out aA aH aI
         obtain rfl : aB = aU := (by injection bG)
         replace aH := eq_true aH
         replace aI := eq_true aI
         have aW : 0 ≤ (aA : Int) := of_decide_eq_true oM
         have aX : aA < (l0.length : Int) := of_decide_eq_true oM
         obtain ⟨bF, bP, bJ, bK, bL, bM, bN⟩ := at_T25 aY.out aA aW aX
         obtain rfl : aB = bF := (by injection bP)
         replace aW := eq_true aW
         replace aX := eq_true aX
         go_wp2
         go_ret
         exact ⟨by first | rfl | (simp; done) | (simp [*]; done), by repeat (first | exact Drawn0.refl _ | apply Drawn0.step)⟩
       ·rw [if_neg c7] at H
        have cB : (((rd_T25 l0 aA).f2) == (wrap64 ((wrap64 (aC + 1)) + 1))) = false := beq_eq_false_iff_ne.mpr c7
        have cC : (((rd_T25 l0 aA).f2) != (wrap64 ((wrap64 (aC + 1)) + 1))) = true := bne_iff_ne.mpr c7
        obtain rfl := Option.some.inj H
        have aD : 0 ≤ (aA : Int) := of_decide_eq_true oM
        have aE : aA < (l0.length : Int) := of_decide_eq_true oM
        obtain ⟨aB, aV, aK, aL, aM, aN, aO⟩ := at_T25 aY.out aA aD aE
        cases aV
        replace aD := eq_true aD
        replace aE := eq_true aE
        have aF : 0 ≤ (aA : Int) := of_decide_eq_true oM
        have aG : aA < (l0.length : Int) := of_decide_eq_true oM
        obtain ⟨aJ, aZ, aP, aQ, aR, aS, aT⟩ := at_T25 aY.out aA aF aG
        obtain rfl : aB = aJ := (by injection aZ)
        replace aF := eq_true aF
        replace aG := eq_true aG
        have aH : 0 ≤ (aA : Int) := of_decide_eq_true oM
        have aI : aA < (l0.length : Int) := of_decide_eq_true oM
        obtain ⟨aU, bG, bA, bB, bC, bD, bE⟩ := at_T25 aY.out aA aH aI
        obtain rfl : aB = aU := (by injection bG)
        replace aH := eq_true aH
        replace aI := eq_true aI
        go_wp2
        go_ret
        exact ⟨by first | rfl | (simp; done) | (simp [*]; done), by repeat (first | exact Drawn0.refl _ | apply Drawn0.step)⟩
      ·rw [if_neg c6] at H
       have bZ : (((rd_T25 l0 aA).f1) == (wrap64 (aC + 1))) = false := beq_eq_false_iff_ne.mpr c6
       have cA : (((rd_T25 l0 aA).f1) != (wrap64 (aC + 1))) = true := bne_iff_ne.mpr c6
       obtain rfl := Option.some.inj H
       have aD : 0 ≤ (aA : Int) := of_decide_eq_true oM
       have aE : aA < (l0.length : Int) := of_decide_eq_true oM
       obtain ⟨aB, aV, aK, aL, aM, aN, aO⟩ := at_T25 aY.out aA aD aE
       cases aV
       replace aD := eq_true aD
       replace aE := eq_true aE
       have aF : 0 ≤ (aA : Int) := of_decide_eq_true oM
       have aG : aA < (l0.length : Int) := of_decide_eq_true oM
       obtain ⟨aJ, aZ, aP, aQ, aR, aS, aT⟩ := at_T25 aY.out aA aF aG
       obtain rfl : aB = aJ := (by injection aZ)
       replace aF := eq_true aF
       replace aG := eq_true aG
       go_wp2
       go_ret
       exact ⟨by first | rfl | (simp; done) | (simp [*]; done), by repeat (first | exact Drawn0.refl _ | apply Drawn0.step)⟩
     ·rw [if_neg c5] at H
      have bX : (((rd_T25 l0 aA).f0) == aC) = false := beq_eq_false_iff_ne.mpr c5
      have bY : (((rd_T25 l0 aA).f0) != aC) = true := bne_iff_ne.mpr c5
      obtain rfl := Option.some.inj H
      have aD : 0 ≤ (aA : Int) := of_decide_eq_true oM
      have aE : aA < (l0.length : Int) := of_decide_eq_true oM
      obtain ⟨aB, aV, aK, aL, aM, aN, aO⟩ := at_T25 aY.out aA aD aE
      cases aV
      replace aD := eq_true aD
      replace aE := eq_true aE
      go_wp2
      go_ret
      exact ⟨by first | rfl | (simp; done) | (simp [*]; done), by repeat (first | exact Drawn0.refl _ | apply Drawn0.step)⟩
    ·rw [if_neg c4] at H
     exact absurd H (by simp)
   ·rw [if_neg c3] at H
    have bW : decide (aA < (l0.length : Int)) = false := decide_eq_false c3
    clear c3
    obtain rfl := Option.some.inj H
    go_wp2
    go_ret
    exact ⟨by first | rfl | (simp; done) | (simp [*]; done), by repeat (first | exact Drawn0.refl _ | apply Drawn0.step)⟩

end Go.Proofs.Ytjkaalcocgioaaa.X
