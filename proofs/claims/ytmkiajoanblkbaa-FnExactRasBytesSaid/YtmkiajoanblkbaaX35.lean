/- What functions of the program come to, each with its proof. No condition but what each theorem states. -/
import Derived.Test.YtmkiajoanblkbaaX0
namespace Go.Proofs.Ytmkiajoanblkbaa.X
open Go.RowKit Go.Proofs.YtmkiajoanblkbaaW.PrintWords Go.Proofs.YtmkiajoanblkbaaW.PrintLast Go.Proofs.YtmkiajoanblkbaaW.PrintMore Go.Proofs.Ytmkiajoanblkbaa.Hyb
attribute [local go_sem] max2_int min2_int max_two min_two max_three min_three max_four min_four
set_option linter.unusedVariables false
set_option linter.unusedSimpArgs false

/-! ### laws_toPixPix: function 64 -/
def laws_toPixPix.f (a0_0 : Int) (a0_1 : Int) (a0_2 : Int) (a0_3 : Int) : Option (Int × Int × Int × Int) := some (a0_0, a0_1, a0_2, a0_3)
set_option maxHeartbeats 8000000 in
set_option maxRecDepth 100000 in
theorem laws_toPixPix.calls (a0_0 : Int) (a0_1 : Int) (a0_2 : Int) (a0_3 : Int) (r1 : Int) (r2 : Int) (r3 : Int) (r4 : Int) (w : World) (h : laws_toPixPix.f a0_0 a0_1 a0_2 a0_3 = some (r1, r2, r3, r4)) :
  Calls Try.prog 64 #[.agg #[.int .i64 a0_0, .int .i64 a0_1, .int .i64 a0_2, .int .i64 a0_3]] w fun e w' => e = .returned (.agg #[.int .i64 r1, .int .i64 r2, .int .i64 r3, .int .i64 r4]) ∧ Below w.heap.size w w' := by
 have hu84 := Try.underlying84
 have hu39 := Try.underlying39
 have HB := Aside0.mk (Below.refl w.heap.size w)
 have H : (some (a0_0, a0_1, a0_2, a0_3)) = some (r1, r2, r3, r4) := h
 clear h
 simp only [Option.some.injEq, Prod.mk.injEq] at H
 obtain ⟨rfl, rfl, rfl, rfl⟩ := H
 go_enter Try.func64, Try.ntmps64
 go_wp2_with (first | ((with_reducible refine gate_dst (N := 1) rfl ?_); refine box_event rfl (N := 1) rfl (cs := #[.int .i64 a0_0, .int .i64 a0_1, .int .i64 a0_2, .int .i64 a0_3]) (t := 84) oS ?_; intro aE hg w2 hbox hb; have n_ := o2_ (below_step (oB HB) hb) (o2_ (hbox) (o2_ ((oG hg (below_size (oB HB)) : w.heap.size ≤ aE)) (o1_ ((oG hg (below_size (oB HB)) : w.heap.size ≤ aE))))); clear HB; obtain ⟨HB, aA, bN, bK⟩ := n_; clear hb hbox hg) | ((with_reducible refine gate_dst (N := 2) rfl ?_); refine box_event rfl (N := 2) rfl (cs := #[.int .i64 0, .int .i64 0, .int .i64 0, .int .i64 0]) (t := 39) oS ?_; intro aD hg w3 hbox hb; have n_ := o2_ (blk_below (oP aA) hb) (o2_ (below_step (oB HB) hb) (o2_ (hbox) (o2_ ((oG hg (below_size (oB HB)) : w.heap.size ≤ aD)) (o2_ ((oG hg (below_size (oB HB)) : w.heap.size ≤ aD)) (o2_ ((oL hg (blk_lt (oP aA)))) (o1_ ((oN hg (blk_lt (oP aA)))))))))); clear aA HB; obtain ⟨aA, HB, aB, bO, bL, aG, aI⟩ := n_; clear hb hbox hg) | ((with_reducible refine gate_dst (N := 3) rfl ?_); refine box_event rfl (N := 3) rfl (cs := #[.int .i64 0, .int .i64 0, .int .i64 0, .int .i64 0]) (t := 39) oS ?_; intro aF hg w4 hbox hb; have n_ := o2_ (blk_below (oP aA) hb) (o2_ (blk_below (oP aB) hb) (o2_ (below_step (oB HB) hb) (o2_ (hbox) (o2_ ((oG hg (below_size (oB HB)) : w.heap.size ≤ aF)) (o2_ ((oG hg (below_size (oB HB)) : w.heap.size ≤ aF)) (o2_ ((oL hg (blk_lt (oP aA)))) (o2_ ((oN hg (blk_lt (oP aA)))) (o2_ ((oL hg (blk_lt (oP aB)))) (o1_ ((oN hg (blk_lt (oP aB))))))))))))); clear aA aB HB; obtain ⟨aA, aB, HB, aC, bP, bM, aH, aK, aJ, aL⟩ := n_; clear hb hbox hg; have bQ := aG.out; have bT := aI.out; have bR := aH.out; have bU := aK.out; have aU : w4.cell? ⟨aE, 0, none⟩ = some (.int .i64 a0_0) := (blk_cell aA.out 0).trans rfl; have aV : w4.cell? ⟨aE, 1, none⟩ = some (.int .i64 a0_1) := (blk_cell aA.out 1).trans rfl; have aW : w4.cell? ⟨aE, 2, none⟩ = some (.int .i64 a0_2) := (blk_cell aA.out 2).trans rfl; have aX : w4.cell? ⟨aE, 3, none⟩ = some (.int .i64 a0_3) := (blk_cell aA.out 3).trans rfl; have bC := blk_frozen aA.out 0; have bD := blk_frozen aA.out 1; have bE := blk_frozen aA.out 2; have bF := blk_frozen aA.out 3; have bS := aL.out; have bV := aJ.out; have aY : w4.cell? ⟨aF, 0, none⟩ = some (.int .i64 0) := (blk_cell aC.out 0).trans rfl; have aZ : w4.cell? ⟨aF, 1, none⟩ = some (.int .i64 0) := (blk_cell aC.out 1).trans rfl; have bA : w4.cell? ⟨aF, 2, none⟩ = some (.int .i64 0) := (blk_cell aC.out 2).trans rfl; have bB : w4.cell? ⟨aF, 3, none⟩ = some (.int .i64 0) := (blk_cell aC.out 3).trans rfl; have bG := blk_frozen aC.out 0; have bH := blk_frozen aC.out 1; have bI := blk_frozen aC.out 2; have bJ := blk_frozen aC.out 3; have aM : w4.cell? ⟨aD, 0, none⟩ = some (.int .i64 0) := (blk_cell aB.out 0).trans rfl; have aN : w4.cell? ⟨aD, 1, none⟩ = some (.int .i64 0) := (blk_cell aB.out 1).trans rfl; have aO : w4.cell? ⟨aD, 2, none⟩ = some (.int .i64 0) := (blk_cell aB.out 2).trans rfl; have aP : w4.cell? ⟨aD, 3, none⟩ = some (.int .i64 0) := (blk_cell aB.out 3).trans rfl; have aQ := blk_frozen aB.out 0; have aR := blk_frozen aB.out 1; have aS := blk_frozen aB.out 2; have aT := blk_frozen aB.out 3))
 refine bodyPost_ret (results_cell_row rfl _ _ aD 39 #[.int .i64 a0_0, .int .i64 a0_1, .int .i64 a0_2, .int .i64 a0_3] (0, 0) _ rfl (blk_put (blk_put (blk_put (blk_put (oP aB) 0 _ rfl) 1 _ rfl) 2 _ rfl) 3 _ rfl) Try.underlying39 rfl oK) rfl ?_
 exact ⟨by first | rfl | (simp [errW_none, errW_some] <;> rfl) | (simp [*, errW_none, errW_some] <;> rfl), oB HB⟩

end Go.Proofs.Ytmkiajoanblkbaa.X
