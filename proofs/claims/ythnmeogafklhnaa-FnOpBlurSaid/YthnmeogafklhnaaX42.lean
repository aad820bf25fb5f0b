/- What functions of the program come to, each with its proof. No condition but what each theorem states. -/
import Derived.Test.YthnmeogafklhnaaX0
import Derived.Test.YthnmeogafklhnaaX41
namespace Go.Proofs.Ythnmeogafklhnaa.X
open Go.RowKit Go.Proofs.YthnmeogafklhnaaW.PrintWords Go.Proofs.YthnmeogafklhnaaW.PrintLast Go.Proofs.YthnmeogafklhnaaW.PrintMore Go.Proofs.Ythnmeogafklhnaa.Hyb
attribute [local go_sem] max2_int min2_int max_two min_two max_three min_three max_four min_four
set_option linter.unusedVariables false
set_option linter.unusedSimpArgs false

/-! ### spec_l6Do: function 48 -/
def spec_l6Do.f (k : Nat) (a0_0 : Int) (a0_1 : Int) (l0_2 : List (S38)) (a1_0 : Int) (a1_1 : Int) (a1_2 : Int) (a1_3 : Int) (a1_4 : Int) : Option (Int × Int × (List (S38)) × Bool) := if a1_0 = 1 then (none) else (if a1_0 = 2 then (none) else (if a1_0 = 3 then (none) else (if a1_0 = 4 then (none) else (if a1_0 = 7 then (none) else ((spec_l6Each.f k a0_0 a0_1 l0_2 a1_0 a1_1 a1_2 a1_3 a1_4).bind fun aE => (some (aE.1, aE.2.1, aE.2.2, true)))))))
theorem spec_l6Do.mono : ∀ a0 a1 a2 a3 a4 a5 a6 a7 k, LeO (spec_l6Do.f k a0 a1 a2 a3 a4 a5 a6 a7) (spec_l6Do.f (k + 1) a0 a1 a2 a3 a4 a5 a6 a7) := by
 intro a0 a1 a2 a3 a4 a5 a6 a7 k
 unfold spec_l6Do.f
 repeat' first
   | (with_reducible exact spec_l6Each.mono _ _ _ _ _ _ _ _ _)
   | (with_reducible exact LeO.refl _)
   | (with_reducible exact LeO.none _)
   | (with_reducible refine LeO.ite ?_ ?_)
   | (with_reducible refine LeO.bind ?_ (fun _ => ?_))
   | exact spec_l6Each.mono _ _ _ _ _ _ _ _ _
   | exact LeO.none _
   | refine LeO.ite ?_ ?_
   | refine LeO.bind ?_ (fun _ => ?_)
set_option maxHeartbeats 8000000 in
set_option maxRecDepth 100000 in
theorem spec_l6Do.calls (k : Nat) (a0_0 : Int) (a0_1 : Int) (aN : Option Addr) (aO : Nat) (l0_2 : List (S38)) (a1_0 : Int) (a1_1 : Int) (a1_2 : Int) (a1_3 : Int) (a1_4 : Int) (r1 : Int) (r2 : Int) (r3 : List (S38)) (r4 : Bool) (w : World) (hr0_2 : Kd.C k38 w aN l0_2.length l0_2) (aQ : l0_2.length ≤ aO) (h : spec_l6Do.f k a0_0 a0_1 l0_2 a1_0 a1_1 a1_2 a1_3 a1_4 = some (r1, r2, r3, r4)) :
  Calls Try.prog 48 #[.agg #[.int .i64 a0_0, .int .i64 a0_1, .slice aN l0_2.length aO], .agg #[.int .i64 a1_0, .int .i64 a1_1, .int .i64 a1_2, .int .i64 a1_3, .int .i64 a1_4]] w fun e w' => ∃ cW : Value, e = .returned (.tuple #[.agg #[.int .i64 r1, .int .i64 r2, cW], .bool r4]) ∧ Kd.R k38 38 w' w.heap.size (fun _ => True) cW r3 ∧ Below w.heap.size w w' := by
 have hu25 := Try.underlying25
 have hu27 := Try.underlying27
 have aY := Aside0.mk hr0_2
 have aX := Aside0.mk aQ
 clear hr0_2 aQ
 have HB := Aside0.mk (Below.refl w.heap.size w)
 have H : (if a1_0 = 1 then (none) else (if a1_0 = 2 then (none) else (if a1_0 = 3 then (none) else (if a1_0 = 4 then (none) else (if a1_0 = 7 then (none) else ((spec_l6Each.f k a0_0 a0_1 l0_2 a1_0 a1_1 a1_2 a1_3 a1_4).bind fun aE => (some (aE.1, aE.2.1, aE.2.2, true)))))))) = some (r1, r2, r3, r4) := h
 clear h
 by_cases c3 : a1_0 = 1
 ·rw [if_pos c3] at H
  exact nomatch H
 ·rw [if_neg c3] at H
  have cY : (a1_0 == 1) = false := beq_eq_false_iff_ne.mpr c3
  have cZ : (a1_0 != 1) = true := bne_iff_ne.mpr c3
  by_cases bA : a1_0 = 2
  ·rw [if_pos bA] at H
   exact nomatch H
  ·rw [if_neg bA] at H
   have cI : (a1_0 == 2) = false := beq_eq_false_iff_ne.mpr bA
   have cJ : (a1_0 != 2) = true := bne_iff_ne.mpr bA
   by_cases bB : a1_0 = 3
   ·rw [if_pos bB] at H
    exact nomatch H
   ·rw [if_neg bB] at H
    have cK : (a1_0 == 3) = false := beq_eq_false_iff_ne.mpr bB
    have cL : (a1_0 != 3) = true := bne_iff_ne.mpr bB
    by_cases bC : a1_0 = 4
    ·rw [if_pos bC] at H
     exact nomatch H
    ·rw [if_neg bC] at H
     have cM : (a1_0 == 4) = false := beq_eq_false_iff_ne.mpr bC
     have cN : (a1_0 != 4) = true := bne_iff_ne.mpr bC
     by_cases bD : a1_0 = 7
     ·rw [if_pos bD] at H
      exact nomatch H
     ·rw [if_neg bD] at H
      have cO : (a1_0 == 7) = false := beq_eq_false_iff_ne.mpr bD
      have cP : (a1_0 != 7) = true := bne_iff_ne.mpr bD
      replace H := Option.bind_eq_some_iff.mp H
      obtain ⟨⟨aS, aT, aU⟩, aV, H⟩ := H
      (try dsimp only at H)
      have cX := Aside0.mk aV
      clear aV
      simp only [Option.some.injEq, Prod.mk.injEq] at H
      obtain ⟨rfl, rfl, rfl, rfl⟩ := H
      go_enter Try.func48, Try.ntmps48
      go_wp2_with (first | ((with_reducible refine gate_dst (N := 2) rfl ?_); refine box_event rfl (N := 2) rfl (cs := #[.int .i64 a0_0, .int .i64 a0_1, .slice aN l0_2.length aO]) (t := 25) oS ?_; intro aG hg dB hbox hb; have n_ := o2_ (below_step (oB HB) hb) (o2_ (hbox) (o2_ ((oG hg (below_size (oB HB)) : w.heap.size ≤ aG)) (o1_ ((oG hg (below_size (oB HB)) : w.heap.size ≤ aG))))); clear HB; obtain ⟨HB, aA, cF, cC⟩ := n_; clear hb hbox hg) | ((with_reducible refine gate_dst (N := 3) rfl ?_); refine box_event rfl (N := 3) rfl (cs := #[.int .i64 a1_0, .int .i64 a1_1, .int .i64 a1_2, .int .i64 a1_3, .int .i64 a1_4]) (t := 27) oS ?_; intro aF hg dC hbox hb; have n_ := o2_ (blk_below (oP aA) hb) (o2_ (below_step (oB HB) hb) (o2_ (hbox) (o2_ ((oG hg (below_size (oB HB)) : w.heap.size ≤ aF)) (o2_ ((oG hg (below_size (oB HB)) : w.heap.size ≤ aF)) (o2_ ((oL hg (blk_lt (oP aA)))) (o1_ ((oN hg (blk_lt (oP aA)))))))))); clear aA HB; obtain ⟨aA, HB, aB, cG, cD, aH, aJ⟩ := n_; clear hb hbox hg) | ((with_reducible refine gate_dst (N := 4) rfl ?_); refine box_event rfl (N := 4) rfl (cs := #[.int .i64 0, .int .i64 0, .slice none 0 0]) (t := 25) oS ?_; intro aD hg aR hbox hb; have n_ := o2_ (blk_below (oP aA) hb) (o2_ (blk_below (oP aB) hb) (o2_ (below_step (oB HB) hb) (o2_ (hbox) (o2_ ((oG hg (below_size (oB HB)) : w.heap.size ≤ aD)) (o2_ ((oG hg (below_size (oB HB)) : w.heap.size ≤ aD)) (o2_ ((oL hg (blk_lt (oP aA)))) (o2_ ((oN hg (blk_lt (oP aA)))) (o2_ ((oL hg (blk_lt (oP aB)))) (o1_ ((oN hg (blk_lt (oP aB))))))))))))); clear aA aB HB; obtain ⟨aA, aB, HB, aC, cH, cE, aI, aL, aK, aM⟩ := n_; clear hb hbox hg; have cQ := aJ.out; have cT := aH.out; have cR := aK.out; have cU := aM.out; have bE : aR.cell? ⟨aF, 0, none⟩ = some (.int .i64 a1_0) := (blk_cell aB.out 0).trans rfl; have bF : aR.cell? ⟨aF, 1, none⟩ = some (.int .i64 a1_1) := (blk_cell aB.out 1).trans rfl; have bG : aR.cell? ⟨aF, 2, none⟩ = some (.int .i64 a1_2) := (blk_cell aB.out 2).trans rfl; have bH : aR.cell? ⟨aF, 3, none⟩ = some (.int .i64 a1_3) := (blk_cell aB.out 3).trans rfl; have bI : aR.cell? ⟨aF, 4, none⟩ = some (.int .i64 a1_4) := (blk_cell aB.out 4).trans rfl; have bP := blk_frozen aB.out 0; have bQ := blk_frozen aB.out 1; have bR := blk_frozen aB.out 2; have bS := blk_frozen aB.out 3; have bT := blk_frozen aB.out 4; have cS := aI.out; have cV := aL.out; have bJ : aR.cell? ⟨aG, 0, none⟩ = some (.int .i64 a0_0) := (blk_cell aA.out 0).trans rfl; have bK : aR.cell? ⟨aG, 1, none⟩ = some (.int .i64 a0_1) := (blk_cell aA.out 1).trans rfl; have bL : aR.cell? ⟨aG, 2, none⟩ = some (.slice aN l0_2.length aO) := (blk_cell aA.out 2).trans rfl; have bU := blk_frozen aA.out 0; have bV := blk_frozen aA.out 1; have bW := blk_frozen aA.out 2) | ((with_reducible refine gate_callee (f := 85) rfl ?_); refine goesL_ (some 51) rfl rfl Try.func85 oK rfl #[.agg #[.int .i64 a0_0, .int .i64 a0_1, .slice aN l0_2.length aO], .agg #[.int .i64 a1_0, .int .i64 a1_1, .int .i64 a1_2, .int .i64 a1_3, .int .i64 a1_4]] rfl oA ?_; (with_reducible refine (spec_l6Each.calls k a0_0 a0_1 _ _ l0_2 a1_0 a1_1 a1_2 a1_3 a1_4 aS aT aU _ ?side1 ?side2 cX.out).mono ?_); (case side1 => repeat (first | exact (Kd.C_below aY.out HB.out) | (with_reducible refine Kd.C_alloc ?_ _) | (with_reducible refine Kd.C_drewN ?_ _) | (with_reducible refine Kd.C_drew ?_))); (case side2 => exact aX.out); rintro e cB ⟨dA, rfl, ho0, hb⟩; refine ⟨_, rfl, ?_⟩; have n_ := o2_ (Kd.R_lower ho0 (below_size (oB HB))) (o2_ (blk_below (oP aC) hb) (o1_ (below_step (oB HB) hb))); clear aC HB; obtain ⟨aP, aC, HB⟩ := n_; (try clear hb); (try clear hb2); (try clear hk); (try clear hi); (try clear ho0); have bM : cB.cell? ⟨aD, 0, none⟩ = some (.int .i64 0) := (blk_cell aC.out 0).trans rfl; have bN : cB.cell? ⟨aD, 1, none⟩ = some (.int .i64 0) := (blk_cell aC.out 1).trans rfl; have bO : cB.cell? ⟨aD, 2, none⟩ = some (.slice none 0 0) := (blk_cell aC.out 2).trans rfl; have bX := blk_frozen aC.out 0; have bY := blk_frozen aC.out 1; have bZ := blk_frozen aC.out 2; obtain ⟨aW, aZ, cA⟩ := Kd.R_slice aP.out; subst cA))
      refine bodyPost_ret (results_ct rfl _ _ aD 25 #[.int .i64 aS, .int .i64 aT, .slice aW aU.length aZ] (0, 0) _ rfl (blk_put (blk_put (blk_put aC.out 0 _ rfl) 1 _ rfl) 2 _ rfl) Try.underlying25 rfl oK) rfl ?_
      exact ⟨_, by first | rfl | (simp [errW_none, errW_some] <;> rfl) | (simp [*, errW_none, errW_some] <;> rfl), by (with_reducible repeat (first | apply Kd.R_alloc | apply Kd.R_drewN | apply Kd.R_drew)); exact Kd.R_mono (Kd.R_far (p := ⟨aD, 2, none⟩) (Kd.R_far (p := ⟨aD, 1, none⟩) (Kd.R_far (p := ⟨aD, 0, none⟩) (Kd.R_types aP.out aC.out oD) (fun _ hk => hk.2) (.int .i64 aS)) (fun _ hk => hk.2) (.int .i64 aT)) (fun _ hk => hk.2) (.slice aW aU.length aZ)) (fun _ hk => trivial), oB HB⟩

end Go.Proofs.Ythnmeogafklhnaa.X
