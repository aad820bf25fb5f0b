/- What functions of the program come to, each with its proof. No condition but what each theorem states. -/
import Derived.Test.YtmkiajoanblkbaaX0
import Derived.Test.YtmkiajoanblkbaaX39
namespace Go.Proofs.Ytmkiajoanblkbaa.X
open Go.RowKit Go.Proofs.YtmkiajoanblkbaaW.PrintWords Go.Proofs.YtmkiajoanblkbaaW.PrintLast Go.Proofs.YtmkiajoanblkbaaW.PrintMore Go.Proofs.Ytmkiajoanblkbaa.Hyb
attribute [local go_sem] max2_int min2_int max_two min_two max_three min_three max_four min_four
set_option linter.unusedVariables false
set_option linter.unusedSimpArgs false

/-! ### laws_eqRasRaster: function 28 -/
def laws_eqRasRaster.f (k : Nat) (a0_0 : Int) (a0_1 : Int) (l0_2 : List (S39)) (a1_0 : Int) (a1_1 : Int) (l1_2 : List (S39)) : Option (Bool) := if a0_0 = a1_0 then (if a0_1 = a1_1 then ((laws_eqPixPixS.f k l0_2 l1_2).bind fun aO => (if aO = true then (some true) else (some false))) else (some false)) else (some false)
theorem laws_eqRasRaster.mono : ∀ a0 a1 a2 a3 a4 a5 k, LeO (laws_eqRasRaster.f k a0 a1 a2 a3 a4 a5) (laws_eqRasRaster.f (k + 1) a0 a1 a2 a3 a4 a5) := by
 intro a0 a1 a2 a3 a4 a5 k
 unfold laws_eqRasRaster.f
 repeat' first
   | (with_reducible exact laws_eqPixPixS.mono _ _ _)
   | (with_reducible exact LeO.refl _)
   | (with_reducible exact LeO.none _)
   | (with_reducible refine LeO.ite ?_ ?_)
   | (with_reducible refine LeO.bind ?_ (fun _ => ?_))
   | exact laws_eqPixPixS.mono _ _ _
   | exact LeO.none _
   | refine LeO.ite ?_ ?_
   | refine LeO.bind ?_ (fun _ => ?_)
set_option maxHeartbeats 8000000 in
set_option maxRecDepth 100000 in
theorem laws_eqRasRaster.calls (k : Nat) (a0_0 : Int) (a0_1 : Int) (aG : Option Addr) (aI : Nat) (l0_2 : List (S39)) (a1_0 : Int) (a1_1 : Int) (aH : Option Addr) (aJ : Nat) (l1_2 : List (S39)) (r : Bool) (w : World) (hr0_2 : Kd.C k39 w aG l0_2.length l0_2) (aT : l0_2.length ≤ aI) (hr1_2 : Kd.C k39 w aH l1_2.length l1_2) (aU : l1_2.length ≤ aJ) (h : laws_eqRasRaster.f k a0_0 a0_1 l0_2 a1_0 a1_1 l1_2 = some r) :
  Calls Try.prog 28 #[.agg #[.int .i64 a0_0, .int .i64 a0_1, .slice aG l0_2.length aI], .agg #[.int .i64 a1_0, .int .i64 a1_1, .slice aH l1_2.length aJ]] w fun e w' => e = .returned (.bool r) ∧ Below w.heap.size w w' := by
 have hu36 := Try.underlying36
 have aR := Aside0.mk hr0_2
 have aP := Aside0.mk aT
 clear hr0_2 aT
 have aS := Aside0.mk hr1_2
 have aQ := Aside0.mk aU
 clear hr1_2 aU
 have HB := Aside0.mk (Below.refl w.heap.size w)
 have H : (if a0_0 = a1_0 then (if a0_1 = a1_1 then ((laws_eqPixPixS.f k l0_2 l1_2).bind fun aO => (if aO = true then (some true) else (some false))) else (some false)) else (some false)) = some r := h
 clear h
 by_cases c3 : a0_0 = a1_0
 ·rw [if_pos c3] at H
  have cU : (a0_0 == a1_0) = true := beq_iff_eq.mpr c3
  have cV : (a0_0 != a1_0) = false := bne_eq_false_iff_eq.mpr c3
  clear c3
  by_cases c4 : a0_1 = a1_1
  ·rw [if_pos c4] at H
   have cW : (a0_1 == a1_1) = true := beq_iff_eq.mpr c4
   have cX : (a0_1 != a1_1) = false := bne_eq_false_iff_eq.mpr c4
   clear c4
   replace H := Option.bind_eq_some_iff.mp H
   obtain ⟨aO, cY, H⟩ := H
   (try dsimp only at H)
   have A5 := Aside0.mk cY
   clear cY
   by_cases c6 : aO = true
   ·subst c6
    rw [if_pos rfl] at H
    obtain rfl := Option.some.inj H
    go_enter Try.func28, Try.ntmps28
    go_wp2_with (first | ((with_reducible refine gate_dst (N := 2) rfl ?_); refine box_event rfl (N := 2) rfl (cs := #[.int .i64 a0_0, .int .i64 a0_1, .slice aG l0_2.length aI]) (t := 36) oS ?_; intro aC hg w7 hbox hb; have n_ := o2_ (below_step (oB HB) hb) (o2_ (hbox) (o2_ ((oG hg (below_size (oB HB)) : w.heap.size ≤ aC)) (o1_ ((oG hg (below_size (oB HB)) : w.heap.size ≤ aC))))); clear HB; obtain ⟨HB, aA, aM, aK⟩ := n_; clear hb hbox hg) | ((with_reducible refine gate_dst (N := 3) rfl ?_); refine box_event rfl (N := 3) rfl (cs := #[.int .i64 a1_0, .int .i64 a1_1, .slice aH l1_2.length aJ]) (t := 36) oS ?_; intro aD hg w8 hbox hb; have n_ := o2_ (blk_below (oP aA) hb) (o2_ (below_step (oB HB) hb) (o2_ (hbox) (o2_ ((oG hg (below_size (oB HB)) : w.heap.size ≤ aD)) (o2_ ((oG hg (below_size (oB HB)) : w.heap.size ≤ aD)) (o2_ ((oL hg (blk_lt (oP aA)))) (o1_ ((oN hg (blk_lt (oP aA)))))))))); clear aA HB; obtain ⟨aA, HB, aB, aN, aL, aE, aF⟩ := n_; clear hb hbox hg; have dF := aE.out; have dG := aF.out; have aY : w8.cell? ⟨aC, 0, none⟩ = some (.int .i64 a0_0) := (blk_cell aA.out 0).trans rfl; have aZ : w8.cell? ⟨aC, 1, none⟩ = some (.int .i64 a0_1) := (blk_cell aA.out 1).trans rfl; have bA : w8.cell? ⟨aC, 2, none⟩ = some (.slice aG l0_2.length aI) := (blk_cell aA.out 2).trans rfl; have bW := blk_frozen aA.out 0; have bX := blk_frozen aA.out 1; have bY := blk_frozen aA.out 2; have bB : w8.cell? ⟨aD, 0, none⟩ = some (.int .i64 a1_0) := (blk_cell aB.out 0).trans rfl; have bC : w8.cell? ⟨aD, 1, none⟩ = some (.int .i64 a1_1) := (blk_cell aB.out 1).trans rfl; have bD : w8.cell? ⟨aD, 2, none⟩ = some (.slice aH l1_2.length aJ) := (blk_cell aB.out 2).trans rfl; have bZ := blk_frozen aB.out 0; have cA := blk_frozen aB.out 1; have cB := blk_frozen aB.out 2) | ((with_reducible refine gate_callee (f := 55) rfl ?_); refine goesL_ (some 19) rfl rfl Try.func55 oK rfl #[.slice aG l0_2.length aI, .slice aH l1_2.length aJ] rfl oA ?_; (with_reducible refine (laws_eqPixPixS.calls k _ _ l0_2 _ _ l1_2 true _ ?side1 ?side2 ?side3 ?side4 A5.out).mono ?_); (case side1 => repeat (first | exact (Kd.C_below aR.out HB.out) | (with_reducible refine Kd.C_alloc ?_ _) | (with_reducible refine Kd.C_drewN ?_ _) | (with_reducible refine Kd.C_drew ?_))); (case side2 => exact aP.out); (case side3 => repeat (first | exact (Kd.C_below aS.out HB.out) | (with_reducible refine Kd.C_alloc ?_ _) | (with_reducible refine Kd.C_drewN ?_ _) | (with_reducible refine Kd.C_drew ?_))); (case side4 => exact aQ.out); rintro e dH ⟨rfl, hb⟩; refine ⟨_, rfl, ?_⟩; have n_ := o2_ (blk_below (oP aA) hb) (o2_ (blk_below (oP aB) hb) (o1_ (below_step (oB HB) hb))); clear aA aB HB; obtain ⟨aA, aB, HB⟩ := n_; (try clear hb); (try clear hb2); (try clear hk); (try clear hi)))
    go_ret
    exact ⟨by first | rfl | (simp [errW_none, errW_some] <;> rfl) | (simp [*, errW_none, errW_some] <;> rfl), oB HB⟩
   ·replace c6 := Bool.eq_false_iff.mpr c6
    subst c6
    rw [if_neg (show ¬ (false = true) by decide)] at H
    obtain rfl := Option.some.inj H
    go_enter Try.func28, Try.ntmps28
    go_wp2_with (first | ((with_reducible refine gate_dst (N := 2) rfl ?_); refine box_event rfl (N := 2) rfl (cs := #[.int .i64 a0_0, .int .i64 a0_1, .slice aG l0_2.length aI]) (t := 36) oS ?_; intro aC hg dI hbox hb; have n_ := o2_ (below_step (oB HB) hb) (o2_ (hbox) (o2_ ((oG hg (below_size (oB HB)) : w.heap.size ≤ aC)) (o1_ ((oG hg (below_size (oB HB)) : w.heap.size ≤ aC))))); clear HB; obtain ⟨HB, aA, aM, aK⟩ := n_; clear hb hbox hg) | ((with_reducible refine gate_dst (N := 3) rfl ?_); refine box_event rfl (N := 3) rfl (cs := #[.int .i64 a1_0, .int .i64 a1_1, .slice aH l1_2.length aJ]) (t := 36) oS ?_; intro aD hg aV hbox hb; have n_ := o2_ (blk_below (oP aA) hb) (o2_ (below_step (oB HB) hb) (o2_ (hbox) (o2_ ((oG hg (below_size (oB HB)) : w.heap.size ≤ aD)) (o2_ ((oG hg (below_size (oB HB)) : w.heap.size ≤ aD)) (o2_ ((oL hg (blk_lt (oP aA)))) (o1_ ((oN hg (blk_lt (oP aA)))))))))); clear aA HB; obtain ⟨aA, HB, aB, aN, aL, aE, aF⟩ := n_; clear hb hbox hg; have cZ := aE.out; have dC := aF.out; have bE : aV.cell? ⟨aC, 0, none⟩ = some (.int .i64 a0_0) := (blk_cell aA.out 0).trans rfl; have bF : aV.cell? ⟨aC, 1, none⟩ = some (.int .i64 a0_1) := (blk_cell aA.out 1).trans rfl; have bG : aV.cell? ⟨aC, 2, none⟩ = some (.slice aG l0_2.length aI) := (blk_cell aA.out 2).trans rfl; have cC := blk_frozen aA.out 0; have cD := blk_frozen aA.out 1; have cE := blk_frozen aA.out 2; have bH : aV.cell? ⟨aD, 0, none⟩ = some (.int .i64 a1_0) := (blk_cell aB.out 0).trans rfl; have bI : aV.cell? ⟨aD, 1, none⟩ = some (.int .i64 a1_1) := (blk_cell aB.out 1).trans rfl; have bJ : aV.cell? ⟨aD, 2, none⟩ = some (.slice aH l1_2.length aJ) := (blk_cell aB.out 2).trans rfl; have cF := blk_frozen aB.out 0; have cG := blk_frozen aB.out 1; have cH := blk_frozen aB.out 2) | ((with_reducible refine gate_callee (f := 55) rfl ?_); refine goesL_ (some 19) rfl rfl Try.func55 oK rfl #[.slice aG l0_2.length aI, .slice aH l1_2.length aJ] rfl oA ?_; (with_reducible refine (laws_eqPixPixS.calls k _ _ l0_2 _ _ l1_2 false _ ?side1 ?side2 ?side3 ?side4 A5.out).mono ?_); (case side1 => repeat (first | exact (Kd.C_below aR.out HB.out) | (with_reducible refine Kd.C_alloc ?_ _) | (with_reducible refine Kd.C_drewN ?_ _) | (with_reducible refine Kd.C_drew ?_))); (case side2 => exact aP.out); (case side3 => repeat (first | exact (Kd.C_below aS.out HB.out) | (with_reducible refine Kd.C_alloc ?_ _) | (with_reducible refine Kd.C_drewN ?_ _) | (with_reducible refine Kd.C_drew ?_))); (case side4 => exact aQ.out); rintro e dJ ⟨rfl, hb⟩; refine ⟨_, rfl, ?_⟩; have n_ := o2_ (blk_below (oP aA) hb) (o2_ (blk_below (oP aB) hb) (o1_ (below_step (oB HB) hb))); clear aA aB HB; obtain ⟨aA, aB, HB⟩ := n_; (try clear hb); (try clear hb2); (try clear hk); (try clear hi)))
    go_ret
    exact ⟨by first | rfl | (simp [errW_none, errW_some] <;> rfl) | (simp [*, errW_none, errW_some] <;> rfl), oB HB⟩
  ·rw [if_neg c4] at H
   have cW : (a0_1 == a1_1) = false := beq_eq_false_iff_ne.mpr c4
   have cX : (a0_1 != a1_1) = true := bne_iff_ne.mpr c4
   obtain rfl := Option.some.inj H
   go_enter Try.func28, Try.ntmps28
   go_wp2_with (first | ((with_reducible refine gate_dst (N := 2) rfl ?_); refine box_event rfl (N := 2) rfl (cs := #[.int .i64 a0_0, .int .i64 a0_1, .slice aG l0_2.length aI]) (t := 36) oS ?_; intro aC hg dK hbox hb; have n_ := o2_ (below_step (oB HB) hb) (o2_ (hbox) (o2_ ((oG hg (below_size (oB HB)) : w.heap.size ≤ aC)) (o1_ ((oG hg (below_size (oB HB)) : w.heap.size ≤ aC))))); clear HB; obtain ⟨HB, aA, aM, aK⟩ := n_; clear hb hbox hg) | ((with_reducible refine gate_dst (N := 3) rfl ?_); refine box_event rfl (N := 3) rfl (cs := #[.int .i64 a1_0, .int .i64 a1_1, .slice aH l1_2.length aJ]) (t := 36) oS ?_; intro aD hg aW hbox hb; have n_ := o2_ (blk_below (oP aA) hb) (o2_ (below_step (oB HB) hb) (o2_ (hbox) (o2_ ((oG hg (below_size (oB HB)) : w.heap.size ≤ aD)) (o2_ ((oG hg (below_size (oB HB)) : w.heap.size ≤ aD)) (o2_ ((oL hg (blk_lt (oP aA)))) (o1_ ((oN hg (blk_lt (oP aA)))))))))); clear aA HB; obtain ⟨aA, HB, aB, aN, aL, aE, aF⟩ := n_; clear hb hbox hg; have dA := aE.out; have dD := aF.out; have bK : aW.cell? ⟨aC, 0, none⟩ = some (.int .i64 a0_0) := (blk_cell aA.out 0).trans rfl; have bL : aW.cell? ⟨aC, 1, none⟩ = some (.int .i64 a0_1) := (blk_cell aA.out 1).trans rfl; have bM : aW.cell? ⟨aC, 2, none⟩ = some (.slice aG l0_2.length aI) := (blk_cell aA.out 2).trans rfl; have cI := blk_frozen aA.out 0; have cJ := blk_frozen aA.out 1; have cK := blk_frozen aA.out 2; have bN : aW.cell? ⟨aD, 0, none⟩ = some (.int .i64 a1_0) := (blk_cell aB.out 0).trans rfl; have bO : aW.cell? ⟨aD, 1, none⟩ = some (.int .i64 a1_1) := (blk_cell aB.out 1).trans rfl; have bP : aW.cell? ⟨aD, 2, none⟩ = some (.slice aH l1_2.length aJ) := (blk_cell aB.out 2).trans rfl; have cL := blk_frozen aB.out 0; have cM := blk_frozen aB.out 1; have cN := blk_frozen aB.out 2))
   go_ret
   exact ⟨by first | rfl | (simp [errW_none, errW_some] <;> rfl) | (simp [*, errW_none, errW_some] <;> rfl), oB HB⟩
 ·rw [if_neg c3] at H
  have cU : (a0_0 == a1_0) = false := beq_eq_false_iff_ne.mpr c3
  have cV : (a0_0 != a1_0) = true := bne_iff_ne.mpr c3
  obtain rfl := Option.some.inj H
  go_enter Try.func28, Try.ntmps28
  go_wp2_with (first | ((with_reducible refine gate_dst (N := 2) rfl ?_); refine box_event rfl (N := 2) rfl (cs := #[.int .i64 a0_0, .int .i64 a0_1, .slice aG l0_2.length aI]) (t := 36) oS ?_; intro aC hg dL hbox hb; have n_ := o2_ (below_step (oB HB) hb) (o2_ (hbox) (o2_ ((oG hg (below_size (oB HB)) : w.heap.size ≤ aC)) (o1_ ((oG hg (below_size (oB HB)) : w.heap.size ≤ aC))))); clear HB; obtain ⟨HB, aA, aM, aK⟩ := n_; clear hb hbox hg) | ((with_reducible refine gate_dst (N := 3) rfl ?_); refine box_event rfl (N := 3) rfl (cs := #[.int .i64 a1_0, .int .i64 a1_1, .slice aH l1_2.length aJ]) (t := 36) oS ?_; intro aD hg aX hbox hb; have n_ := o2_ (blk_below (oP aA) hb) (o2_ (below_step (oB HB) hb) (o2_ (hbox) (o2_ ((oG hg (below_size (oB HB)) : w.heap.size ≤ aD)) (o2_ ((oG hg (below_size (oB HB)) : w.heap.size ≤ aD)) (o2_ ((oL hg (blk_lt (oP aA)))) (o1_ ((oN hg (blk_lt (oP aA)))))))))); clear aA HB; obtain ⟨aA, HB, aB, aN, aL, aE, aF⟩ := n_; clear hb hbox hg; have dB := aE.out; have dE := aF.out; have bQ : aX.cell? ⟨aC, 0, none⟩ = some (.int .i64 a0_0) := (blk_cell aA.out 0).trans rfl; have bR : aX.cell? ⟨aC, 1, none⟩ = some (.int .i64 a0_1) := (blk_cell aA.out 1).trans rfl; have bS : aX.cell? ⟨aC, 2, none⟩ = some (.slice aG l0_2.length aI) := (blk_cell aA.out 2).trans rfl; have cO := blk_frozen aA.out 0; have cP := blk_frozen aA.out 1; have cQ := blk_frozen aA.out 2; have bT : aX.cell? ⟨aD, 0, none⟩ = some (.int .i64 a1_0) := (blk_cell aB.out 0).trans rfl; have bU : aX.cell? ⟨aD, 1, none⟩ = some (.int .i64 a1_1) := (blk_cell aB.out 1).trans rfl; have bV : aX.cell? ⟨aD, 2, none⟩ = some (.slice aH l1_2.length aJ) := (blk_cell aB.out 2).trans rfl; have cR := blk_frozen aB.out 0; have cS := blk_frozen aB.out 1; have cT := blk_frozen aB.out 2))
  go_ret
  exact ⟨by first | rfl | (simp [errW_none, errW_some] <;> rfl) | (simp [*, errW_none, errW_some] <;> rfl), oB HB⟩

end Go.Proofs.Ytmkiajoanblkbaa.X
