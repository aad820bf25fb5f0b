/- What functions of the program come to, each with its proof. No condition but what each theorem states. -/
import Derived.Test.YthnmeogafklhnaaX0
import Derived.Test.YthnmeogafklhnaaX29
namespace Go.Proofs.Ythnmeogafklhnaa.X
open Go.RowKit Go.Proofs.YthnmeogafklhnaaW.PrintWords Go.Proofs.YthnmeogafklhnaaW.PrintLast Go.Proofs.YthnmeogafklhnaaW.PrintMore Go.Proofs.Ythnmeogafklhnaa.Hyb
attribute [local go_sem] max2_int min2_int max_two min_two max_three min_three max_four min_four
set_option linter.unusedVariables false
set_option linter.unusedSimpArgs false

/-! ### spec_OpOk: function 23 -/
def spec_OpOk.f (a0_0 : Int) (a0_1 : Int) (a0_2 : Int) (a0_3 : Int) (a0_4 : Int) : Option (Bool) := if a0_0 = 1 then (none) else (if a0_0 = 7 then (none) else (if a0_0 = 8 then (none) else ((spec_l1In.f a0_0 2 6).bind fun aE => (if aE = true then (if a0_1 = 0 then (if a0_2 = 0 then (if a0_3 = 0 then (some (a0_4 == 0)) else (some false)) else (some false)) else (some false)) else (some false)))))
set_option maxHeartbeats 8000000 in
set_option maxRecDepth 100000 in
theorem spec_OpOk.calls (a0_0 : Int) (a0_1 : Int) (a0_2 : Int) (a0_3 : Int) (a0_4 : Int) (r : Bool) (w : World) (h : spec_OpOk.f a0_0 a0_1 a0_2 a0_3 a0_4 = some r) :
  Calls Try.prog 23 #[.agg #[.int .i64 a0_0, .int .i64 a0_1, .int .i64 a0_2, .int .i64 a0_3, .int .i64 a0_4]] w fun e w' => e = .returned (.bool r) ∧ Below w.heap.size w w' := by
 have hu27 := Try.underlying27
 have HB := Aside0.mk (Below.refl w.heap.size w)
 have H : (if a0_0 = 1 then (none) else (if a0_0 = 7 then (none) else (if a0_0 = 8 then (none) else ((spec_l1In.f a0_0 2 6).bind fun aE => (if aE = true then (if a0_1 = 0 then (if a0_2 = 0 then (if a0_3 = 0 then (some (a0_4 == 0)) else (some false)) else (some false)) else (some false)) else (some false)))))) = some r := h
 clear h
 by_cases c2 : a0_0 = 1
 ·rw [if_pos c2] at H
  exact nomatch H
 ·rw [if_neg c2] at H
  have dA : (a0_0 == 1) = false := beq_eq_false_iff_ne.mpr c2
  have dB : (a0_0 != 1) = true := bne_iff_ne.mpr c2
  by_cases aV : a0_0 = 7
  ·rw [if_pos aV] at H
   exact nomatch H
  ·rw [if_neg aV] at H
   have cW : (a0_0 == 7) = false := beq_eq_false_iff_ne.mpr aV
   have cX : (a0_0 != 7) = true := bne_iff_ne.mpr aV
   by_cases aW : a0_0 = 8
   ·rw [if_pos aW] at H
    exact nomatch H
   ·rw [if_neg aW] at H
    have cY : (a0_0 == 8) = false := beq_eq_false_iff_ne.mpr aW
    have cZ : (a0_0 != 8) = true := bne_iff_ne.mpr aW
    replace H := Option.bind_eq_some_iff.mp H
    obtain ⟨aE, aJ, H⟩ := H
    (try dsimp only at H)
    have aI := Aside0.mk aJ
    clear aJ
    by_cases aX : aE = true
    ·subst aX
     rw [if_pos rfl] at H
     by_cases aF : a0_1 = 0
     ·rw [if_pos aF] at H
      have aK : (a0_1 == 0) = true := beq_iff_eq.mpr aF
      have aL : (a0_1 != 0) = false := bne_eq_false_iff_eq.mpr aF
      clear aF
      by_cases aG : a0_2 = 0
      ·rw [if_pos aG] at H
       have aM : (a0_2 == 0) = true := beq_iff_eq.mpr aG
       have aN : (a0_2 != 0) = false := bne_eq_false_iff_eq.mpr aG
       clear aG
       by_cases aH : a0_3 = 0
       ·rw [if_pos aH] at H
        have aO : (a0_3 == 0) = true := beq_iff_eq.mpr aH
        have aP : (a0_3 != 0) = false := bne_eq_false_iff_eq.mpr aH
        clear aH
        obtain rfl := Option.some.inj H
        go_enter Try.func23, Try.ntmps23
        go_wp2_with (first | ((with_reducible refine gate_dst (N := 1) rfl ?_); refine box_event rfl (N := 1) rfl (cs := #[.int .i64 a0_0, .int .i64 a0_1, .int .i64 a0_2, .int .i64 a0_3, .int .i64 a0_4]) (t := 27) oS ?_; intro aB hg aQ hbox hb; have n_ := o2_ (below_step (oB HB) hb) (o2_ (hbox) (o2_ ((oG hg (below_size (oB HB)) : w.heap.size ≤ aB)) (o1_ ((oG hg (below_size (oB HB)) : w.heap.size ≤ aB))))); clear HB; obtain ⟨HB, aA, aD, aC⟩ := n_; clear hb hbox hg; have aY : aQ.cell? ⟨aB, 0, none⟩ = some (.int .i64 a0_0) := (blk_cell aA.out 0).trans rfl; have aZ : aQ.cell? ⟨aB, 1, none⟩ = some (.int .i64 a0_1) := (blk_cell aA.out 1).trans rfl; have bA : aQ.cell? ⟨aB, 2, none⟩ = some (.int .i64 a0_2) := (blk_cell aA.out 2).trans rfl; have bB : aQ.cell? ⟨aB, 3, none⟩ = some (.int .i64 a0_3) := (blk_cell aA.out 3).trans rfl; have bC : aQ.cell? ⟨aB, 4, none⟩ = some (.int .i64 a0_4) := (blk_cell aA.out 4).trans rfl; have bX := blk_frozen aA.out 0; have bY := blk_frozen aA.out 1; have bZ := blk_frozen aA.out 2; have cA := blk_frozen aA.out 3; have cB := blk_frozen aA.out 4) | ((with_reducible refine gate_callee (f := 52) rfl ?_); refine goesL_ (some 67) rfl rfl Try.func52 oK rfl #[.int .i64 a0_0, .int .i64 2, .int .i64 6] rfl oA ?_; (with_reducible refine (spec_l1In.calls a0_0 2 6 true _ aI.out).mono ?_); rintro e w' ⟨rfl, ⟨nd, rfl⟩⟩; refine ⟨_, rfl, ?_⟩))
        go_ret
        exact ⟨by first | rfl | (simp [errW_none, errW_some] <;> rfl) | (simp [*, errW_none, errW_some] <;> rfl), oB HB⟩
       ·rw [if_neg aH] at H
        have aO : (a0_3 == 0) = false := beq_eq_false_iff_ne.mpr aH
        have aP : (a0_3 != 0) = true := bne_iff_ne.mpr aH
        obtain rfl := Option.some.inj H
        go_enter Try.func23, Try.ntmps23
        go_wp2_with (first | ((with_reducible refine gate_dst (N := 1) rfl ?_); refine box_event rfl (N := 1) rfl (cs := #[.int .i64 a0_0, .int .i64 a0_1, .int .i64 a0_2, .int .i64 a0_3, .int .i64 a0_4]) (t := 27) oS ?_; intro aB hg aR hbox hb; have n_ := o2_ (below_step (oB HB) hb) (o2_ (hbox) (o2_ ((oG hg (below_size (oB HB)) : w.heap.size ≤ aB)) (o1_ ((oG hg (below_size (oB HB)) : w.heap.size ≤ aB))))); clear HB; obtain ⟨HB, aA, aD, aC⟩ := n_; clear hb hbox hg; have bD : aR.cell? ⟨aB, 0, none⟩ = some (.int .i64 a0_0) := (blk_cell aA.out 0).trans rfl; have bE : aR.cell? ⟨aB, 1, none⟩ = some (.int .i64 a0_1) := (blk_cell aA.out 1).trans rfl; have bF : aR.cell? ⟨aB, 2, none⟩ = some (.int .i64 a0_2) := (blk_cell aA.out 2).trans rfl; have bG : aR.cell? ⟨aB, 3, none⟩ = some (.int .i64 a0_3) := (blk_cell aA.out 3).trans rfl; have bH : aR.cell? ⟨aB, 4, none⟩ = some (.int .i64 a0_4) := (blk_cell aA.out 4).trans rfl; have cC := blk_frozen aA.out 0; have cD := blk_frozen aA.out 1; have cE := blk_frozen aA.out 2; have cF := blk_frozen aA.out 3; have cG := blk_frozen aA.out 4) | ((with_reducible refine gate_callee (f := 52) rfl ?_); refine goesL_ (some 67) rfl rfl Try.func52 oK rfl #[.int .i64 a0_0, .int .i64 2, .int .i64 6] rfl oA ?_; (with_reducible refine (spec_l1In.calls a0_0 2 6 true _ aI.out).mono ?_); rintro e w' ⟨rfl, ⟨nd, rfl⟩⟩; refine ⟨_, rfl, ?_⟩))
        go_ret
        exact ⟨by first | rfl | (simp [errW_none, errW_some] <;> rfl) | (simp [*, errW_none, errW_some] <;> rfl), oB HB⟩
      ·rw [if_neg aG] at H
       have aM : (a0_2 == 0) = false := beq_eq_false_iff_ne.mpr aG
       have aN : (a0_2 != 0) = true := bne_iff_ne.mpr aG
       obtain rfl := Option.some.inj H
       go_enter Try.func23, Try.ntmps23
       go_wp2_with (first | ((with_reducible refine gate_dst (N := 1) rfl ?_); refine box_event rfl (N := 1) rfl (cs := #[.int .i64 a0_0, .int .i64 a0_1, .int .i64 a0_2, .int .i64 a0_3, .int .i64 a0_4]) (t := 27) oS ?_; intro aB hg aS hbox hb; have n_ := o2_ (below_step (oB HB) hb) (o2_ (hbox) (o2_ ((oG hg (below_size (oB HB)) : w.heap.size ≤ aB)) (o1_ ((oG hg (below_size (oB HB)) : w.heap.size ≤ aB))))); clear HB; obtain ⟨HB, aA, aD, aC⟩ := n_; clear hb hbox hg; have bI : aS.cell? ⟨aB, 0, none⟩ = some (.int .i64 a0_0) := (blk_cell aA.out 0).trans rfl; have bJ : aS.cell? ⟨aB, 1, none⟩ = some (.int .i64 a0_1) := (blk_cell aA.out 1).trans rfl; have bK : aS.cell? ⟨aB, 2, none⟩ = some (.int .i64 a0_2) := (blk_cell aA.out 2).trans rfl; have bL : aS.cell? ⟨aB, 3, none⟩ = some (.int .i64 a0_3) := (blk_cell aA.out 3).trans rfl; have bM : aS.cell? ⟨aB, 4, none⟩ = some (.int .i64 a0_4) := (blk_cell aA.out 4).trans rfl; have cH := blk_frozen aA.out 0; have cI := blk_frozen aA.out 1; have cJ := blk_frozen aA.out 2; have cK := blk_frozen aA.out 3; have cL := blk_frozen aA.out 4) | ((with_reducible refine gate_callee (f := 52) rfl ?_); refine goesL_ (some 67) rfl rfl Try.func52 oK rfl #[.int .i64 a0_0, .int .i64 2, .int .i64 6] rfl oA ?_; (with_reducible refine (spec_l1In.calls a0_0 2 6 true _ aI.out).mono ?_); rintro e w' ⟨rfl, ⟨nd, rfl⟩⟩; refine ⟨_, rfl, ?_⟩))
       go_ret
       exact ⟨by first | rfl | (simp [errW_none, errW_some] <;> rfl) | (simp [*, errW_none, errW_some] <;> rfl), oB HB⟩
     ·rw [if_neg aF] at H
      have aK : (a0_1 == 0) = false := beq_eq_false_iff_ne.mpr aF
      have aL : (a0_1 != 0) = true := bne_iff_ne.mpr aF
      obtain rfl := Option.some.inj H
      go_enter Try.func23, Try.ntmps23
      go_wp2_with (first | ((with_reducible refine gate_dst (N := 1) rfl ?_); refine box_event rfl (N := 1) rfl (cs := #[.int .i64 a0_0, .int .i64 a0_1, .int .i64 a0_2, .int .i64 a0_3, .int .i64 a0_4]) (t := 27) oS ?_; intro aB hg aT hbox hb; have n_ := o2_ (below_step (oB HB) hb) (o2_ (hbox) (o2_ ((oG hg (below_size (oB HB)) : w.heap.size ≤ aB)) (o1_ ((oG hg (below_size (oB HB)) : w.heap.size ≤ aB))))); clear HB; obtain ⟨HB, aA, aD, aC⟩ := n_; clear hb hbox hg; have bN : aT.cell? ⟨aB, 0, none⟩ = some (.int .i64 a0_0) := (blk_cell aA.out 0).trans rfl; have bO : aT.cell? ⟨aB, 1, none⟩ = some (.int .i64 a0_1) := (blk_cell aA.out 1).trans rfl; have bP : aT.cell? ⟨aB, 2, none⟩ = some (.int .i64 a0_2) := (blk_cell aA.out 2).trans rfl; have bQ : aT.cell? ⟨aB, 3, none⟩ = some (.int .i64 a0_3) := (blk_cell aA.out 3).trans rfl; have bR : aT.cell? ⟨aB, 4, none⟩ = some (.int .i64 a0_4) := (blk_cell aA.out 4).trans rfl; have cM := blk_frozen aA.out 0; have cN := blk_frozen aA.out 1; have cO := blk_frozen aA.out 2; have cP := blk_frozen aA.out 3; have cQ := blk_frozen aA.out 4) | ((with_reducible refine gate_callee (f := 52) rfl ?_); refine goesL_ (some 67) rfl rfl Try.func52 oK rfl #[.int .i64 a0_0, .int .i64 2, .int .i64 6] rfl oA ?_; (with_reducible refine (spec_l1In.calls a0_0 2 6 true _ aI.out).mono ?_); rintro e w' ⟨rfl, ⟨nd, rfl⟩⟩; refine ⟨_, rfl, ?_⟩))
      go_ret
      exact ⟨by first | rfl | (simp [errW_none, errW_some] <;> rfl) | (simp [*, errW_none, errW_some] <;> rfl), oB HB⟩
    ·replace aX := Bool.eq_false_iff.mpr aX
     subst aX
     rw [if_neg (show ¬ (false = true) by decide)] at H
     obtain rfl := Option.some.inj H
     go_enter Try.func23, Try.ntmps23
     go_wp2_with (first | ((with_reducible refine gate_dst (N := 1) rfl ?_); refine box_event rfl (N := 1) rfl (cs := #[.int .i64 a0_0, .int .i64 a0_1, .int .i64 a0_2, .int .i64 a0_3, .int .i64 a0_4]) (t := 27) oS ?_; intro aB hg aU hbox hb; have n_ := o2_ (below_step (oB HB) hb) (o2_ (hbox) (o2_ ((oG hg (below_size (oB HB)) : w.heap.size ≤ aB)) (o1_ ((oG hg (below_size (oB HB)) : w.heap.size ≤ aB))))); clear HB; obtain ⟨HB, aA, aD, aC⟩ := n_; clear hb hbox hg; have bS : aU.cell? ⟨aB, 0, none⟩ = some (.int .i64 a0_0) := (blk_cell aA.out 0).trans rfl; have bT : aU.cell? ⟨aB, 1, none⟩ = some (.int .i64 a0_1) := (blk_cell aA.out 1).trans rfl; have bU : aU.cell? ⟨aB, 2, none⟩ = some (.int .i64 a0_2) := (blk_cell aA.out 2).trans rfl; have bV : aU.cell? ⟨aB, 3, none⟩ = some (.int .i64 a0_3) := (blk_cell aA.out 3).trans rfl; have bW : aU.cell? ⟨aB, 4, none⟩ = some (.int .i64 a0_4) := (blk_cell aA.out 4).trans rfl; have cR := blk_frozen aA.out 0; have cS := blk_frozen aA.out 1; have cT := blk_frozen aA.out 2; have cU := blk_frozen aA.out 3; have cV := blk_frozen aA.out 4) | ((with_reducible refine gate_callee (f := 52) rfl ?_); refine goesL_ (some 67) rfl rfl Try.func52 oK rfl #[.int .i64 a0_0, .int .i64 2, .int .i64 6] rfl oA ?_; (with_reducible refine (spec_l1In.calls a0_0 2 6 false _ aI.out).mono ?_); rintro e w' ⟨rfl, ⟨nd, rfl⟩⟩; refine ⟨_, rfl, ?_⟩))
     go_ret
     exact ⟨by first | rfl | (simp [errW_none, errW_some] <;> rfl) | (simp [*, errW_none, errW_some] <;> rfl), oB HB⟩

end Go.Proofs.Ythnmeogafklhnaa.X
