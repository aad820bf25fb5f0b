/- What functions of the program come to, each with its proof. No condition but what each theorem states. -/
import Derived.Test.YtmkiajoanblkbaaX0
import Derived.Test.YtmkiajoanblkbaaX33
namespace Go.Proofs.Ytmkiajoanblkbaa.X
open Go.RowKit Go.Proofs.YtmkiajoanblkbaaW.PrintWords Go.Proofs.YtmkiajoanblkbaaW.PrintLast Go.Proofs.YtmkiajoanblkbaaW.PrintMore Go.Proofs.Ytmkiajoanblkbaa.Hyb
attribute [local go_sem] max2_int min2_int max_two min_two max_three min_three max_four min_four
set_option linter.unusedVariables false
set_option linter.unusedSimpArgs false

/-! ### laws_szRasRaster: function 26 -/
def laws_szRasRaster.f (a0_0 : Int) (a0_1 : Int) (l0_2 : List (S84)) (a1 : Int) : Option (Int) := (laws_szPixPixS.f l0_2 a1).bind fun aC => (if aC < 0 then (some (-1)) else (some aC))
set_option maxHeartbeats 8000000 in
set_option maxRecDepth 100000 in
theorem laws_szRasRaster.calls (a0_0 : Int) (a0_1 : Int) (aD : Option Addr) (aE : Nat) (l0_2 : List (S84)) (a1 : Int) (r : Int) (w : World) (hr0_2 : Kd.C k84 w aD l0_2.length l0_2) (aH : l0_2.length ≤ aE) (h : laws_szRasRaster.f a0_0 a0_1 l0_2 a1 = some r) :
  Calls Try.prog 26 #[.agg #[.int .i64 a0_0, .int .i64 a0_1, .slice aD l0_2.length aE], .int .i64 a1] w fun e w' => e = .returned (.int .i64 r) ∧ Below w.heap.size w w' := by
 have hu45 := Try.underlying45
 have aG := Aside0.mk hr0_2
 have aF := Aside0.mk aH
 clear hr0_2 aH
 have HB := Aside0.mk (Below.refl w.heap.size w)
 have H : ((laws_szPixPixS.f l0_2 a1).bind fun aC => (if aC < 0 then (some (-1)) else (some aC))) = some r := h
 clear h
 replace H := Option.bind_eq_some_iff.mp H
 obtain ⟨aC, aX, H⟩ := H
 (try dsimp only at H)
 have A3 := Aside0.mk aX
 clear aX
 by_cases c4 : aC < 0
 ·rw [if_pos c4] at H
  have aK : decide (aC < 0) = true := decide_eq_true c4
  clear c4
  obtain rfl := Option.some.inj H
  go_enter Try.func26, Try.ntmps26
  go_wp2_with (first | ((with_reducible refine gate_dst (N := 2) rfl ?_); refine box_event rfl (N := 2) rfl (cs := #[.int .i64 a0_0, .int .i64 a0_1, .slice aD l0_2.length aE]) (t := 45) oS ?_; intro aB hg w5 hbox hb; have n_ := o2_ (below_step (oB HB) hb) (o2_ (hbox) (o2_ ((oG hg (below_size (oB HB)) : w.heap.size ≤ aB)) (o1_ ((oG hg (below_size (oB HB)) : w.heap.size ≤ aB))))); clear HB; obtain ⟨HB, aA, aJ, aI⟩ := n_; clear hb hbox hg; have aL : w5.cell? ⟨aB, 0, none⟩ = some (.int .i64 a0_0) := (blk_cell aA.out 0).trans rfl; have aM : w5.cell? ⟨aB, 1, none⟩ = some (.int .i64 a0_1) := (blk_cell aA.out 1).trans rfl; have aN : w5.cell? ⟨aB, 2, none⟩ = some (.slice aD l0_2.length aE) := (blk_cell aA.out 2).trans rfl; have aR := blk_frozen aA.out 0; have aS := blk_frozen aA.out 1; have aT := blk_frozen aA.out 2) | ((with_reducible refine gate_callee (f := 53) rfl ?_); refine goesL_ (some 8) rfl rfl Try.func53 oK rfl #[.slice aD l0_2.length aE, .int .i64 a1] rfl oA ?_; (with_reducible refine (laws_szPixPixS.calls _ _ l0_2 a1 aC _ ?side1 ?side2 A3.out).mono ?_); (case side1 => repeat (first | exact (Kd.C_below aG.out HB.out) | (with_reducible refine Kd.C_alloc ?_ _) | (with_reducible refine Kd.C_drewN ?_ _) | (with_reducible refine Kd.C_drew ?_))); (case side2 => exact aF.out); rintro e w' ⟨rfl, ⟨nd, rfl⟩⟩; refine ⟨_, rfl, ?_⟩))
  go_ret
  exact ⟨by first | rfl | (simp [errW_none, errW_some] <;> rfl) | (simp [*, errW_none, errW_some] <;> rfl), oB HB⟩
 ·rw [if_neg c4] at H
  have aK : decide (aC < 0) = false := decide_eq_false c4
  clear c4
  obtain rfl := Option.some.inj H
  go_enter Try.func26, Try.ntmps26
  go_wp2_with (first | ((with_reducible refine gate_dst (N := 2) rfl ?_); refine box_event rfl (N := 2) rfl (cs := #[.int .i64 a0_0, .int .i64 a0_1, .slice aD l0_2.length aE]) (t := 45) oS ?_; intro aB hg w7 hbox hb; have n_ := o2_ (below_step (oB HB) hb) (o2_ (hbox) (o2_ ((oG hg (below_size (oB HB)) : w.heap.size ≤ aB)) (o1_ ((oG hg (below_size (oB HB)) : w.heap.size ≤ aB))))); clear HB; obtain ⟨HB, aA, aJ, aI⟩ := n_; clear hb hbox hg; have aO : w7.cell? ⟨aB, 0, none⟩ = some (.int .i64 a0_0) := (blk_cell aA.out 0).trans rfl; have aP : w7.cell? ⟨aB, 1, none⟩ = some (.int .i64 a0_1) := (blk_cell aA.out 1).trans rfl; have aQ : w7.cell? ⟨aB, 2, none⟩ = some (.slice aD l0_2.length aE) := (blk_cell aA.out 2).trans rfl; have aU := blk_frozen aA.out 0; have aV := blk_frozen aA.out 1; have aW := blk_frozen aA.out 2) | ((with_reducible refine gate_callee (f := 53) rfl ?_); refine goesL_ (some 8) rfl rfl Try.func53 oK rfl #[.slice aD l0_2.length aE, .int .i64 a1] rfl oA ?_; (with_reducible refine (laws_szPixPixS.calls _ _ l0_2 a1 aC _ ?side1 ?side2 A3.out).mono ?_); (case side1 => repeat (first | exact (Kd.C_below aG.out HB.out) | (with_reducible refine Kd.C_alloc ?_ _) | (with_reducible refine Kd.C_drewN ?_ _) | (with_reducible refine Kd.C_drew ?_))); (case side2 => exact aF.out); rintro e w' ⟨rfl, ⟨nd, rfl⟩⟩; refine ⟨_, rfl, ?_⟩))
  go_ret
  exact ⟨by first | rfl | (simp [errW_none, errW_some] <;> rfl) | (simp [*, errW_none, errW_some] <;> rfl), oB HB⟩

end Go.Proofs.Ytmkiajoanblkbaa.X
