/- What functions of the program come to, each with its proof. No condition but what each theorem states. -/
import Derived.Test.YtmkiajoanblkbaaX0
namespace Go.Proofs.Ytmkiajoanblkbaa.X
open Go.RowKit Go.Proofs.YtmkiajoanblkbaaW.PrintWords Go.Proofs.YtmkiajoanblkbaaW.PrintLast Go.Proofs.YtmkiajoanblkbaaW.PrintMore Go.Proofs.Ytmkiajoanblkbaa.Hyb
attribute [local go_sem] max2_int min2_int max_two min_two max_three min_three max_four min_four
set_option linter.unusedVariables false
set_option linter.unusedSimpArgs false

/-! ### laws_eqPixPix: function 38 -/
def laws_eqPixPix.f (a0_0 : Int) (a0_1 : Int) (a0_2 : Int) (a0_3 : Int) (a1_0 : Int) (a1_1 : Int) (a1_2 : Int) (a1_3 : Int) : Option (Bool) := if a0_0 = a1_0 then (if a0_1 = a1_1 then (if a0_2 = a1_2 then (if a0_3 = a1_3 then (some true) else (some false)) else (some false)) else (some false)) else (some false)
set_option maxHeartbeats 8000000 in
set_option maxRecDepth 100000 in
theorem laws_eqPixPix.calls (a0_0 : Int) (a0_1 : Int) (a0_2 : Int) (a0_3 : Int) (a1_0 : Int) (a1_1 : Int) (a1_2 : Int) (a1_3 : Int) (r : Bool) (w : World) (h : laws_eqPixPix.f a0_0 a0_1 a0_2 a0_3 a1_0 a1_1 a1_2 a1_3 = some r) :
  Calls Try.prog 38 #[.agg #[.int .i64 a0_0, .int .i64 a0_1, .int .i64 a0_2, .int .i64 a0_3], .agg #[.int .i64 a1_0, .int .i64 a1_1, .int .i64 a1_2, .int .i64 a1_3]] w fun e w' => e = .returned (.bool r) ∧ Below w.heap.size w w' := by
 have hu39 := Try.underlying39
 have HB := Aside0.mk (Below.refl w.heap.size w)
 have H : (if a0_0 = a1_0 then (if a0_1 = a1_1 then (if a0_2 = a1_2 then (if a0_3 = a1_3 then (some true) else (some false)) else (some false)) else (some false)) else (some false)) = some r := h
 clear h
 by_cases c3 : a0_0 = a1_0
 ·rw [if_pos c3] at H
  have dQ : (a0_0 == a1_0) = true := beq_iff_eq.mpr c3
  have dR : (a0_0 != a1_0) = false := bne_eq_false_iff_eq.mpr c3
  clear c3
  by_cases c4 : a0_1 = a1_1
  ·rw [if_pos c4] at H
   have dS : (a0_1 == a1_1) = true := beq_iff_eq.mpr c4
   have dT : (a0_1 != a1_1) = false := bne_eq_false_iff_eq.mpr c4
   clear c4
   by_cases c5 : a0_2 = a1_2
   ·rw [if_pos c5] at H
    have dU : (a0_2 == a1_2) = true := beq_iff_eq.mpr c5
    have dV : (a0_2 != a1_2) = false := bne_eq_false_iff_eq.mpr c5
    clear c5
    by_cases c6 : a0_3 = a1_3
    ·rw [if_pos c6] at H
     have dW : (a0_3 == a1_3) = true := beq_iff_eq.mpr c6
     have dX : (a0_3 != a1_3) = false := bne_eq_false_iff_eq.mpr c6
     clear c6
     obtain rfl := Option.some.inj H
     go_enter Try.func38, Try.ntmps38
     go_wp2_with (first | ((with_reducible refine gate_dst (N := 2) rfl ?_); refine box_event rfl (N := 2) rfl (cs := #[.int .i64 a0_0, .int .i64 a0_1, .int .i64 a0_2, .int .i64 a0_3]) (t := 39) oS ?_; intro aC hg w7 hbox hb; have n_ := o2_ (below_step (oB HB) hb) (o2_ (hbox) (o2_ ((oG hg (below_size (oB HB)) : w.heap.size ≤ aC)) (o1_ ((oG hg (below_size (oB HB)) : w.heap.size ≤ aC))))); clear HB; obtain ⟨HB, aA, aI, aG⟩ := n_; clear hb hbox hg) | ((with_reducible refine gate_dst (N := 3) rfl ?_); refine box_event rfl (N := 3) rfl (cs := #[.int .i64 a1_0, .int .i64 a1_1, .int .i64 a1_2, .int .i64 a1_3]) (t := 39) oS ?_; intro aD hg w8 hbox hb; have n_ := o2_ (blk_below (oP aA) hb) (o2_ (below_step (oB HB) hb) (o2_ (hbox) (o2_ ((oG hg (below_size (oB HB)) : w.heap.size ≤ aD)) (o2_ ((oG hg (below_size (oB HB)) : w.heap.size ≤ aD)) (o2_ ((oL hg (blk_lt (oP aA)))) (o1_ ((oN hg (blk_lt (oP aA)))))))))); clear aA HB; obtain ⟨aA, HB, aB, aJ, aH, aE, aF⟩ := n_; clear hb hbox hg; have eG := aE.out; have eH := aF.out; have aO : w8.cell? ⟨aC, 0, none⟩ = some (.int .i64 a0_0) := (blk_cell aA.out 0).trans rfl; have aP : w8.cell? ⟨aC, 1, none⟩ = some (.int .i64 a0_1) := (blk_cell aA.out 1).trans rfl; have aQ : w8.cell? ⟨aC, 2, none⟩ = some (.int .i64 a0_2) := (blk_cell aA.out 2).trans rfl; have aR : w8.cell? ⟨aC, 3, none⟩ = some (.int .i64 a0_3) := (blk_cell aA.out 3).trans rfl; have cC := blk_frozen aA.out 0; have cD := blk_frozen aA.out 1; have cE := blk_frozen aA.out 2; have cF := blk_frozen aA.out 3; have aS : w8.cell? ⟨aD, 0, none⟩ = some (.int .i64 a1_0) := (blk_cell aB.out 0).trans rfl; have aT : w8.cell? ⟨aD, 1, none⟩ = some (.int .i64 a1_1) := (blk_cell aB.out 1).trans rfl; have aU : w8.cell? ⟨aD, 2, none⟩ = some (.int .i64 a1_2) := (blk_cell aB.out 2).trans rfl; have aV : w8.cell? ⟨aD, 3, none⟩ = some (.int .i64 a1_3) := (blk_cell aB.out 3).trans rfl; have cG := blk_frozen aB.out 0; have cH := blk_frozen aB.out 1; have cI := blk_frozen aB.out 2; have cJ := blk_frozen aB.out 3))
     go_ret
     exact ⟨by first | rfl | (simp [errW_none, errW_some] <;> rfl) | (simp [*, errW_none, errW_some] <;> rfl), oB HB⟩
    ·rw [if_neg c6] at H
     have dW : (a0_3 == a1_3) = false := beq_eq_false_iff_ne.mpr c6
     have dX : (a0_3 != a1_3) = true := bne_iff_ne.mpr c6
     obtain rfl := Option.some.inj H
     go_enter Try.func38, Try.ntmps38
     go_wp2_with (first | ((with_reducible refine gate_dst (N := 2) rfl ?_); refine box_event rfl (N := 2) rfl (cs := #[.int .i64 a0_0, .int .i64 a0_1, .int .i64 a0_2, .int .i64 a0_3]) (t := 39) oS ?_; intro aC hg eI hbox hb; have n_ := o2_ (below_step (oB HB) hb) (o2_ (hbox) (o2_ ((oG hg (below_size (oB HB)) : w.heap.size ≤ aC)) (o1_ ((oG hg (below_size (oB HB)) : w.heap.size ≤ aC))))); clear HB; obtain ⟨HB, aA, aI, aG⟩ := n_; clear hb hbox hg) | ((with_reducible refine gate_dst (N := 3) rfl ?_); refine box_event rfl (N := 3) rfl (cs := #[.int .i64 a1_0, .int .i64 a1_1, .int .i64 a1_2, .int .i64 a1_3]) (t := 39) oS ?_; intro aD hg aK hbox hb; have n_ := o2_ (blk_below (oP aA) hb) (o2_ (below_step (oB HB) hb) (o2_ (hbox) (o2_ ((oG hg (below_size (oB HB)) : w.heap.size ≤ aD)) (o2_ ((oG hg (below_size (oB HB)) : w.heap.size ≤ aD)) (o2_ ((oL hg (blk_lt (oP aA)))) (o1_ ((oN hg (blk_lt (oP aA)))))))))); clear aA HB; obtain ⟨aA, HB, aB, aJ, aH, aE, aF⟩ := n_; clear hb hbox hg; have dY := aE.out; have eC := aF.out; have aW : aK.cell? ⟨aC, 0, none⟩ = some (.int .i64 a0_0) := (blk_cell aA.out 0).trans rfl; have aX : aK.cell? ⟨aC, 1, none⟩ = some (.int .i64 a0_1) := (blk_cell aA.out 1).trans rfl; have aY : aK.cell? ⟨aC, 2, none⟩ = some (.int .i64 a0_2) := (blk_cell aA.out 2).trans rfl; have aZ : aK.cell? ⟨aC, 3, none⟩ = some (.int .i64 a0_3) := (blk_cell aA.out 3).trans rfl; have cK := blk_frozen aA.out 0; have cL := blk_frozen aA.out 1; have cM := blk_frozen aA.out 2; have cN := blk_frozen aA.out 3; have bA : aK.cell? ⟨aD, 0, none⟩ = some (.int .i64 a1_0) := (blk_cell aB.out 0).trans rfl; have bB : aK.cell? ⟨aD, 1, none⟩ = some (.int .i64 a1_1) := (blk_cell aB.out 1).trans rfl; have bC : aK.cell? ⟨aD, 2, none⟩ = some (.int .i64 a1_2) := (blk_cell aB.out 2).trans rfl; have bD : aK.cell? ⟨aD, 3, none⟩ = some (.int .i64 a1_3) := (blk_cell aB.out 3).trans rfl; have cO := blk_frozen aB.out 0; have cP := blk_frozen aB.out 1; have cQ := blk_frozen aB.out 2; have cR := blk_frozen aB.out 3))
     go_ret
     exact ⟨by first | rfl | (simp [errW_none, errW_some] <;> rfl) | (simp [*, errW_none, errW_some] <;> rfl), oB HB⟩
   ·rw [if_neg c5] at H
    have dU : (a0_2 == a1_2) = false := beq_eq_false_iff_ne.mpr c5
    have dV : (a0_2 != a1_2) = true := bne_iff_ne.mpr c5
    obtain rfl := Option.some.inj H
    go_enter Try.func38, Try.ntmps38
    go_wp2_with (first | ((with_reducible refine gate_dst (N := 2) rfl ?_); refine box_event rfl (N := 2) rfl (cs := #[.int .i64 a0_0, .int .i64 a0_1, .int .i64 a0_2, .int .i64 a0_3]) (t := 39) oS ?_; intro aC hg eJ hbox hb; have n_ := o2_ (below_step (oB HB) hb) (o2_ (hbox) (o2_ ((oG hg (below_size (oB HB)) : w.heap.size ≤ aC)) (o1_ ((oG hg (below_size (oB HB)) : w.heap.size ≤ aC))))); clear HB; obtain ⟨HB, aA, aI, aG⟩ := n_; clear hb hbox hg) | ((with_reducible refine gate_dst (N := 3) rfl ?_); refine box_event rfl (N := 3) rfl (cs := #[.int .i64 a1_0, .int .i64 a1_1, .int .i64 a1_2, .int .i64 a1_3]) (t := 39) oS ?_; intro aD hg aL hbox hb; have n_ := o2_ (blk_below (oP aA) hb) (o2_ (below_step (oB HB) hb) (o2_ (hbox) (o2_ ((oG hg (below_size (oB HB)) : w.heap.size ≤ aD)) (o2_ ((oG hg (below_size (oB HB)) : w.heap.size ≤ aD)) (o2_ ((oL hg (blk_lt (oP aA)))) (o1_ ((oN hg (blk_lt (oP aA)))))))))); clear aA HB; obtain ⟨aA, HB, aB, aJ, aH, aE, aF⟩ := n_; clear hb hbox hg; have dZ := aE.out; have eD := aF.out; have bE : aL.cell? ⟨aC, 0, none⟩ = some (.int .i64 a0_0) := (blk_cell aA.out 0).trans rfl; have bF : aL.cell? ⟨aC, 1, none⟩ = some (.int .i64 a0_1) := (blk_cell aA.out 1).trans rfl; have bG : aL.cell? ⟨aC, 2, none⟩ = some (.int .i64 a0_2) := (blk_cell aA.out 2).trans rfl; have bH : aL.cell? ⟨aC, 3, none⟩ = some (.int .i64 a0_3) := (blk_cell aA.out 3).trans rfl; have cS := blk_frozen aA.out 0; have cT := blk_frozen aA.out 1; have cU := blk_frozen aA.out 2; have cV := blk_frozen aA.out 3; have bI : aL.cell? ⟨aD, 0, none⟩ = some (.int .i64 a1_0) := (blk_cell aB.out 0).trans rfl; have bJ : aL.cell? ⟨aD, 1, none⟩ = some (.int .i64 a1_1) := (blk_cell aB.out 1).trans rfl; have bK : aL.cell? ⟨aD, 2, none⟩ = some (.int .i64 a1_2) := (blk_cell aB.out 2).trans rfl; have bL : aL.cell? ⟨aD, 3, none⟩ = some (.int .i64 a1_3) := (blk_cell aB.out 3).trans rfl; have cW := blk_frozen aB.out 0; have cX := blk_frozen aB.out 1; have cY := blk_frozen aB.out 2; have cZ := blk_frozen aB.out 3))
    go_ret
    exact ⟨by first | rfl | (simp [errW_none, errW_some] <;> rfl) | (simp [*, errW_none, errW_some] <;> rfl), oB HB⟩
  ·rw [if_neg c4] at H
   have dS : (a0_1 == a1_1) = false := beq_eq_false_iff_ne.mpr c4
   have dT : (a0_1 != a1_1) = true := bne_iff_ne.mpr c4
   obtain rfl := Option.some.inj H
   go_enter Try.func38, Try.ntmps38
   go_wp2_with (first | ((with_reducible refine gate_dst (N := 2) rfl ?_); refine box_event rfl (N := 2) rfl (cs := #[.int .i64 a0_0, .int .i64 a0_1, .int .i64 a0_2, .int .i64 a0_3]) (t := 39) oS ?_; intro aC hg eK hbox hb; have n_ := o2_ (below_step (oB HB) hb) (o2_ (hbox) (o2_ ((oG hg (below_size (oB HB)) : w.heap.size ≤ aC)) (o1_ ((oG hg (below_size (oB HB)) : w.heap.size ≤ aC))))); clear HB; obtain ⟨HB, aA, aI, aG⟩ := n_; clear hb hbox hg) | ((with_reducible refine gate_dst (N := 3) rfl ?_); refine box_event rfl (N := 3) rfl (cs := #[.int .i64 a1_0, .int .i64 a1_1, .int .i64 a1_2, .int .i64 a1_3]) (t := 39) oS ?_; intro aD hg aM hbox hb; have n_ := o2_ (blk_below (oP aA) hb) (o2_ (below_step (oB HB) hb) (o2_ (hbox) (o2_ ((oG hg (below_size (oB HB)) : w.heap.size ≤ aD)) (o2_ ((oG hg (below_size (oB HB)) : w.heap.size ≤ aD)) (o2_ ((oL hg (blk_lt (oP aA)))) (o1_ ((oN hg (blk_lt (oP aA)))))))))); clear aA HB; obtain ⟨aA, HB, aB, aJ, aH, aE, aF⟩ := n_; clear hb hbox hg; have eA := aE.out; have eE := aF.out; have bM : aM.cell? ⟨aC, 0, none⟩ = some (.int .i64 a0_0) := (blk_cell aA.out 0).trans rfl; have bN : aM.cell? ⟨aC, 1, none⟩ = some (.int .i64 a0_1) := (blk_cell aA.out 1).trans rfl; have bO : aM.cell? ⟨aC, 2, none⟩ = some (.int .i64 a0_2) := (blk_cell aA.out 2).trans rfl; have bP : aM.cell? ⟨aC, 3, none⟩ = some (.int .i64 a0_3) := (blk_cell aA.out 3).trans rfl; have dA := blk_frozen aA.out 0; have dB := blk_frozen aA.out 1; have dC := blk_frozen aA.out 2; have dD := blk_frozen aA.out 3; have bQ : aM.cell? ⟨aD, 0, none⟩ = some (.int .i64 a1_0) := (blk_cell aB.out 0).trans rfl; have bR : aM.cell? ⟨aD, 1, none⟩ = some (.int .i64 a1_1) := (blk_cell aB.out 1).trans rfl; have bS : aM.cell? ⟨aD, 2, none⟩ = some (.int .i64 a1_2) := (blk_cell aB.out 2).trans rfl; have bT : aM.cell? ⟨aD, 3, none⟩ = some (.int .i64 a1_3) := (blk_cell aB.out 3).trans rfl; have dE := blk_frozen aB.out 0; have dF := blk_frozen aB.out 1; have dG := blk_frozen aB.out 2; have dH := blk_frozen aB.out 3))
   go_ret
   exact ⟨by first | rfl | (simp [errW_none, errW_some] <;> rfl) | (simp [*, errW_none, errW_some] <;> rfl), oB HB⟩
 ·rw [if_neg c3] at H
  have dQ : (a0_0 == a1_0) = false := beq_eq_false_iff_ne.mpr c3
  have dR : (a0_0 != a1_0) = true := bne_iff_ne.mpr c3
  obtain rfl := Option.some.inj H
  go_enter Try.func38, Try.ntmps38
  go_wp2_with (first | ((with_reducible refine gate_dst (N := 2) rfl ?_); refine box_event rfl (N := 2) rfl (cs := #[.int .i64 a0_0, .int .i64 a0_1, .int .i64 a0_2, .int .i64 a0_3]) (t := 39) oS ?_; intro aC hg eL hbox hb; have n_ := o2_ (below_step (oB HB) hb) (o2_ (hbox) (o2_ ((oG hg (below_size (oB HB)) : w.heap.size ≤ aC)) (o1_ ((oG hg (below_size (oB HB)) : w.heap.size ≤ aC))))); clear HB; obtain ⟨HB, aA, aI, aG⟩ := n_; clear hb hbox hg) | ((with_reducible refine gate_dst (N := 3) rfl ?_); refine box_event rfl (N := 3) rfl (cs := #[.int .i64 a1_0, .int .i64 a1_1, .int .i64 a1_2, .int .i64 a1_3]) (t := 39) oS ?_; intro aD hg aN hbox hb; have n_ := o2_ (blk_below (oP aA) hb) (o2_ (below_step (oB HB) hb) (o2_ (hbox) (o2_ ((oG hg (below_size (oB HB)) : w.heap.size ≤ aD)) (o2_ ((oG hg (below_size (oB HB)) : w.heap.size ≤ aD)) (o2_ ((oL hg (blk_lt (oP aA)))) (o1_ ((oN hg (blk_lt (oP aA)))))))))); clear aA HB; obtain ⟨aA, HB, aB, aJ, aH, aE, aF⟩ := n_; clear hb hbox hg; have eB := aE.out; have eF := aF.out; have bU : aN.cell? ⟨aC, 0, none⟩ = some (.int .i64 a0_0) := (blk_cell aA.out 0).trans rfl; have bV : aN.cell? ⟨aC, 1, none⟩ = some (.int .i64 a0_1) := (blk_cell aA.out 1).trans rfl; have bW : aN.cell? ⟨aC, 2, none⟩ = some (.int .i64 a0_2) := (blk_cell aA.out 2).trans rfl; have bX : aN.cell? ⟨aC, 3, none⟩ = some (.int .i64 a0_3) := (blk_cell aA.out 3).trans rfl; have dI := blk_frozen aA.out 0; have dJ := blk_frozen aA.out 1; have dK := blk_frozen aA.out 2; have dL := blk_frozen aA.out 3; have bY : aN.cell? ⟨aD, 0, none⟩ = some (.int .i64 a1_0) := (blk_cell aB.out 0).trans rfl; have bZ : aN.cell? ⟨aD, 1, none⟩ = some (.int .i64 a1_1) := (blk_cell aB.out 1).trans rfl; have cA : aN.cell? ⟨aD, 2, none⟩ = some (.int .i64 a1_2) := (blk_cell aB.out 2).trans rfl; have cB : aN.cell? ⟨aD, 3, none⟩ = some (.int .i64 a1_3) := (blk_cell aB.out 3).trans rfl; have dM := blk_frozen aB.out 0; have dN := blk_frozen aB.out 1; have dO := blk_frozen aB.out 2; have dP := blk_frozen aB.out 3))
  go_ret
  exact ⟨by first | rfl | (simp [errW_none, errW_some] <;> rfl) | (simp [*, errW_none, errW_some] <;> rfl), oB HB⟩

end Go.Proofs.Ytmkiajoanblkbaa.X
