/- What functions of the program come to, each with its proof. No condition but what each theorem states. -/
import Derived.Test.YthnmeogafklhnaaX0
namespace Go.Proofs.Ythnmeogafklhnaa.X
open Go.RowKit Go.Proofs.YthnmeogafklhnaaW.PrintWords Go.Proofs.YthnmeogafklhnaaW.PrintLast Go.Proofs.YthnmeogafklhnaaW.PrintMore Go.Proofs.Ythnmeogafklhnaa.Hyb
attribute [local go_sem] max2_int min2_int max_two min_two max_three min_three max_four min_four
set_option linter.unusedVariables false
set_option linter.unusedSimpArgs false

/-! ### spec_l6Gray: function 99 -/
def spec_l6Gray.f (a0_0 : Int) (a0_1 : Int) (a0_2 : Int) (a0_3 : Int) : Option (Int × Int × Int × Int) := some (wrap64 (Int.tdiv (wrap64 ((wrap64 ((wrap64 (77 * a0_0)) + (wrap64 (150 * a0_1)))) + (wrap64 (29 * a0_2)))) 256), wrap64 (Int.tdiv (wrap64 ((wrap64 ((wrap64 (77 * a0_0)) + (wrap64 (150 * a0_1)))) + (wrap64 (29 * a0_2)))) 256), wrap64 (Int.tdiv (wrap64 ((wrap64 ((wrap64 (77 * a0_0)) + (wrap64 (150 * a0_1)))) + (wrap64 (29 * a0_2)))) 256), a0_3)
set_option maxHeartbeats 8000000 in
set_option maxRecDepth 100000 in
theorem spec_l6Gray.calls (a0_0 : Int) (a0_1 : Int) (a0_2 : Int) (a0_3 : Int) (r1 : Int) (r2 : Int) (r3 : Int) (r4 : Int) (w : World) (h : spec_l6Gray.f a0_0 a0_1 a0_2 a0_3 = some (r1, r2, r3, r4)) :
  Calls Try.prog 99 #[.agg #[.int .i64 a0_0, .int .i64 a0_1, .int .i64 a0_2, .int .i64 a0_3]] w fun e w' => e = .returned (.agg #[.int .i64 r1, .int .i64 r2, .int .i64 r3, .int .i64 r4]) ∧ Below w.heap.size w w' := by
 have hu38 := Try.underlying38
 have HB := Aside0.mk (Below.refl w.heap.size w)
 have H : (some (wrap64 (Int.tdiv (wrap64 ((wrap64 ((wrap64 (77 * a0_0)) + (wrap64 (150 * a0_1)))) + (wrap64 (29 * a0_2)))) 256), wrap64 (Int.tdiv (wrap64 ((wrap64 ((wrap64 (77 * a0_0)) + (wrap64 (150 * a0_1)))) + (wrap64 (29 * a0_2)))) 256), wrap64 (Int.tdiv (wrap64 ((wrap64 ((wrap64 (77 * a0_0)) + (wrap64 (150 * a0_1)))) + (wrap64 (29 * a0_2)))) 256), a0_3)) = some (r1, r2, r3, r4) := h
 clear h
 simp only [Option.some.injEq, Prod.mk.injEq] at H
 obtain ⟨rfl, rfl, rfl, rfl⟩ := H
 go_enter Try.func99, Try.ntmps99
 go_wp2_with (first | ((with_reducible refine gate_dst (N := 1) rfl ?_); refine box_event rfl (N := 1) rfl (cs := #[.int .i64 a0_0, .int .i64 a0_1, .int .i64 a0_2, .int .i64 a0_3]) (t := 38) oS ?_; intro aD hg w2 hbox hb; have n_ := o2_ (below_step (oB HB) hb) (o2_ (hbox) (o2_ ((oG hg (below_size (oB HB)) : w.heap.size ≤ aD)) (o1_ ((oG hg (below_size (oB HB)) : w.heap.size ≤ aD))))); clear HB; obtain ⟨HB, aA, aY, aW⟩ := n_; clear hb hbox hg) | ((with_reducible refine gate_dst (N := 2) rfl ?_); refine box_event rfl (N := 2) rfl (cs := #[.int .i64 0, .int .i64 0, .int .i64 0, .int .i64 0]) (t := 38) oS ?_; intro aC hg w3 hbox hb; have n_ := o2_ (blk_below (oP aA) hb) (o2_ (below_step (oB HB) hb) (o2_ (hbox) (o2_ ((oG hg (below_size (oB HB)) : w.heap.size ≤ aC)) (o2_ ((oG hg (below_size (oB HB)) : w.heap.size ≤ aC)) (o2_ ((oL hg (blk_lt (oP aA)))) (o1_ ((oN hg (blk_lt (oP aA)))))))))); clear aA HB; obtain ⟨aA, HB, aB, aZ, aX, aE, aF⟩ := n_; clear hb hbox hg; have bA := aE.out; have bB := aF.out; have aG : w3.cell? ⟨aD, 0, none⟩ = some (.int .i64 a0_0) := (blk_cell aA.out 0).trans rfl; have aH : w3.cell? ⟨aD, 1, none⟩ = some (.int .i64 a0_1) := (blk_cell aA.out 1).trans rfl; have aI : w3.cell? ⟨aD, 2, none⟩ = some (.int .i64 a0_2) := (blk_cell aA.out 2).trans rfl; have aJ : w3.cell? ⟨aD, 3, none⟩ = some (.int .i64 a0_3) := (blk_cell aA.out 3).trans rfl; have aO := blk_frozen aA.out 0; have aP := blk_frozen aA.out 1; have aQ := blk_frozen aA.out 2; have aR := blk_frozen aA.out 3; have aK : w3.cell? ⟨aC, 0, none⟩ = some (.int .i64 0) := (blk_cell aB.out 0).trans rfl; have aL : w3.cell? ⟨aC, 1, none⟩ = some (.int .i64 0) := (blk_cell aB.out 1).trans rfl; have aM : w3.cell? ⟨aC, 2, none⟩ = some (.int .i64 0) := (blk_cell aB.out 2).trans rfl; have aN : w3.cell? ⟨aC, 3, none⟩ = some (.int .i64 0) := (blk_cell aB.out 3).trans rfl; have aS := blk_frozen aB.out 0; have aT := blk_frozen aB.out 1; have aU := blk_frozen aB.out 2; have aV := blk_frozen aB.out 3))
 refine bodyPost_ret (results_cell_row rfl _ _ aC 38 #[.int .i64 (wrap64 (Int.tdiv (wrap64 ((wrap64 ((wrap64 (77 * a0_0)) + (wrap64 (150 * a0_1)))) + (wrap64 (29 * a0_2)))) 256)), .int .i64 (wrap64 (Int.tdiv (wrap64 ((wrap64 ((wrap64 (77 * a0_0)) + (wrap64 (150 * a0_1)))) + (wrap64 (29 * a0_2)))) 256)), .int .i64 (wrap64 (Int.tdiv (wrap64 ((wrap64 ((wrap64 (77 * a0_0)) + (wrap64 (150 * a0_1)))) + (wrap64 (29 * a0_2)))) 256)), .int .i64 a0_3] (0, 0) _ rfl (blk_put (blk_put (blk_put (blk_put aB.out 0 _ rfl) 1 _ rfl) 2 _ rfl) 3 _ rfl) Try.underlying38 rfl oK) rfl ?_
 exact ⟨by first | rfl | (simp [errW_none, errW_some] <;> rfl) | (simp [*, errW_none, errW_some] <;> rfl), oB HB⟩

end Go.Proofs.Ythnmeogafklhnaa.X
