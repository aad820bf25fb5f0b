/- What functions of the program come to, each with its proof. No condition but what each theorem states. -/
import Derived.Test.YtmkiajoanblkbaaX0
import Derived.Test.YtmkiajoanblkbaaX36
namespace Go.Proofs.Ytmkiajoanblkbaa.X
open Go.RowKit Go.Proofs.YtmkiajoanblkbaaW.PrintWords Go.Proofs.YtmkiajoanblkbaaW.PrintLast Go.Proofs.YtmkiajoanblkbaaW.PrintMore Go.Proofs.Ytmkiajoanblkbaa.Hyb
attribute [local go_sem] max2_int min2_int max_two min_two max_three min_three max_four min_four
set_option linter.unusedVariables false
set_option linter.unusedSimpArgs false

/-! ### laws_toRasRaster: function 27 -/
def laws_toRasRaster.f (k : Nat) (a0_0 : Int) (a0_1 : Int) (l0_2 : List (S84)) : Option (Int × Int × (List (S39))) := (laws_toPixPixS.f k l0_2).bind fun aG => (some (a0_0, a0_1, aG))
theorem laws_toRasRaster.mono : ∀ a0 a1 a2 k, LeO (laws_toRasRaster.f k a0 a1 a2) (laws_toRasRaster.f (k + 1) a0 a1 a2) := by
 intro a0 a1 a2 k
 unfold laws_toRasRaster.f
 repeat' first
   | (with_reducible exact laws_toPixPixS.mono _ _)
   | (with_reducible exact LeO.refl _)
   | (with_reducible exact LeO.none _)
   | (with_reducible refine LeO.ite ?_ ?_)
   | (with_reducible refine LeO.bind ?_ (fun _ => ?_))
   | exact laws_toPixPixS.mono _ _
   | exact LeO.none _
   | refine LeO.ite ?_ ?_
   | refine LeO.bind ?_ (fun _ => ?_)
set_option maxHeartbeats 8000000 in
set_option maxRecDepth 100000 in
theorem laws_toRasRaster.calls (k : Nat) (a0_0 : Int) (a0_1 : Int) (aN : Option Addr) (aO : Nat) (l0_2 : List (S84)) (r1 : Int) (r2 : Int) (r3 : List (S39)) (w : World) (hr0_2 : Kd.C k84 w aN l0_2.length l0_2) (aQ : l0_2.length ≤ aO) (h : laws_toRasRaster.f k a0_0 a0_1 l0_2 = some (r1, r2, r3)) :
  Calls Try.prog 27 #[.agg #[.int .i64 a0_0, .int .i64 a0_1, .slice aN l0_2.length aO]] w fun e w' => ∃ cC : Value, e = .returned (.agg #[.int .i64 r1, .int .i64 r2, cC]) ∧ Kd.R k39 39 w' w.heap.size (fun _ => True) cC r3 ∧ Below w.heap.size w w' := by
 have hu45 := Try.underlying45
 have hu36 := Try.underlying36
 have aV := Aside0.mk hr0_2
 have aU := Aside0.mk aQ
 clear hr0_2 aQ
 have HB := Aside0.mk (Below.refl w.heap.size w)
 have H : ((laws_toPixPixS.f k l0_2).bind fun aG => (some (a0_0, a0_1, aG))) = some (r1, r2, r3) := h
 clear h
 replace H := Option.bind_eq_some_iff.mp H
 obtain ⟨aG, bV, H⟩ := H
 (try dsimp only at H)
 have A2 := Aside0.mk bV
 clear bV
 simp only [Option.some.injEq, Prod.mk.injEq] at H
 obtain ⟨rfl, rfl, rfl⟩ := H
 go_enter Try.func27, Try.ntmps27
 go_wp2_with (first | ((with_reducible refine gate_dst (N := 1) rfl ?_); refine box_event rfl (N := 1) rfl (cs := #[.int .i64 a0_0, .int .i64 a0_1, .slice aN l0_2.length aO]) (t := 45) oS ?_; intro aF hg w3 hbox hb; have n_ := o2_ (below_step (oB HB) hb) (o2_ (hbox) (o2_ ((oG hg (below_size (oB HB)) : w.heap.size ≤ aF)) (o1_ ((oG hg (below_size (oB HB)) : w.heap.size ≤ aF))))); clear HB; obtain ⟨HB, aA, bZ, bW⟩ := n_; clear hb hbox hg) | ((with_reducible refine gate_dst (N := 2) rfl ?_); refine box_event rfl (N := 2) rfl (cs := #[.int .i64 0, .int .i64 0, .slice none 0 0]) (t := 36) oS ?_; intro aE hg w4 hbox hb; have n_ := o2_ (blk_below (oP aA) hb) (o2_ (below_step (oB HB) hb) (o2_ (hbox) (o2_ ((oG hg (below_size (oB HB)) : w.heap.size ≤ aE)) (o2_ ((oG hg (below_size (oB HB)) : w.heap.size ≤ aE)) (o2_ ((oL hg (blk_lt (oP aA)))) (o1_ ((oN hg (blk_lt (oP aA)))))))))); clear aA HB; obtain ⟨aA, HB, aB, cA, bX, aH, aJ⟩ := n_; clear hb hbox hg) | ((with_reducible refine gate_dst (N := 3) rfl ?_); refine box_event rfl (N := 3) rfl (cs := #[.int .i64 0, .int .i64 0, .slice none 0 0]) (t := 36) oS ?_; intro aD hg w5 hbox hb; have n_ := o2_ (blk_below (oP aA) hb) (o2_ (blk_below (oP aB) hb) (o2_ (below_step (oB HB) hb) (o2_ (hbox) (o2_ ((oG hg (below_size (oB HB)) : w.heap.size ≤ aD)) (o2_ ((oG hg (below_size (oB HB)) : w.heap.size ≤ aD)) (o2_ ((oL hg (blk_lt (oP aA)))) (o2_ ((oN hg (blk_lt (oP aA)))) (o2_ ((oL hg (blk_lt (oP aB)))) (o1_ ((oN hg (blk_lt (oP aB))))))))))))); clear aA aB HB; obtain ⟨aA, aB, HB, aC, cB, bY, aI, aL, aK, aM⟩ := n_; clear hb hbox hg; have cD := aH.out; have cG := aJ.out; have cE := aI.out; have cH := aL.out; have bP : w5.cell? ⟨aF, 0, none⟩ = some (.int .i64 a0_0) := (blk_cell aA.out 0).trans rfl; have bQ : w5.cell? ⟨aF, 1, none⟩ = some (.int .i64 a0_1) := (blk_cell aA.out 1).trans rfl; have bR : w5.cell? ⟨aF, 2, none⟩ = some (.slice aN l0_2.length aO) := (blk_cell aA.out 2).trans rfl; have bS := blk_frozen aA.out 0; have bT := blk_frozen aA.out 1; have bU := blk_frozen aA.out 2; have cF := aM.out; have cI := aK.out; have aW : w5.cell? ⟨aD, 0, none⟩ = some (.int .i64 0) := (blk_cell aC.out 0).trans rfl; have aX : w5.cell? ⟨aD, 1, none⟩ = some (.int .i64 0) := (blk_cell aC.out 1).trans rfl; have aY : w5.cell? ⟨aD, 2, none⟩ = some (.slice none 0 0) := (blk_cell aC.out 2).trans rfl; have bF := blk_frozen aC.out 0; have bG := blk_frozen aC.out 1; have bH := blk_frozen aC.out 2) | ((with_reducible refine gate_callee (f := 54) rfl ?_); refine goesL_ (some 12) rfl rfl Try.func54 oK rfl #[.slice aN l0_2.length aO] rfl oA ?_; (with_reducible refine (laws_toPixPixS.calls k _ _ l0_2 aG _ ?side1 ?side2 A2.out).mono ?_); (case side1 => exact Kd.C_below aV.out (oB HB)); (case side2 => exact aU.out); rintro e aT ⟨cJ, rfl, ho0, hb⟩; refine ⟨_, rfl, ?_⟩; have n_ := o2_ (Kd.R_lower ho0 (below_size (oB HB))) (o2_ (blk_below (oP aB) hb) (o2_ (blk_below (g := aD) (o := .cells #[.int .i64 a0_0, .int .i64 a0_1, .slice none 0 0] 36 (0, 0)) (blk_put (blk_put aC.out 0 _ rfl) 1 _ rfl) hb) (o1_ (below_step (oB HB) hb)))); clear aB aC HB; obtain ⟨aP, aB, aC, HB⟩ := n_; (try clear hb); (try clear hb2); (try clear hk); (try clear hi); (try clear ho0); obtain ⟨aR, aS, bO⟩ := Kd.R_slice aP.out; subst bO; have aZ : aT.cell? ⟨aD, 0, none⟩ = some (.int .i64 a0_0) := (blk_cell aC.out 0).trans rfl; have bA : aT.cell? ⟨aD, 1, none⟩ = some (.int .i64 a0_1) := (blk_cell aC.out 1).trans rfl; have bB : aT.cell? ⟨aD, 2, none⟩ = some (.slice none 0 0) := (blk_cell aC.out 2).trans rfl; have bI := blk_frozen aC.out 0; have bJ := blk_frozen aC.out 1; have bK := blk_frozen aC.out 2; have bC : aT.cell? ⟨aE, 0, none⟩ = some (.int .i64 0) := (blk_cell aB.out 0).trans rfl; have bD : aT.cell? ⟨aE, 1, none⟩ = some (.int .i64 0) := (blk_cell aB.out 1).trans rfl; have bE : aT.cell? ⟨aE, 2, none⟩ = some (.slice none 0 0) := (blk_cell aB.out 2).trans rfl; have bL := blk_frozen aB.out 0; have bM := blk_frozen aB.out 1; have bN := blk_frozen aB.out 2))
 refine bodyPost_ret (results_cell_row rfl _ _ aE 36 #[.int .i64 a0_0, .int .i64 a0_1, .slice aR aG.length aS] (0, 0) _ rfl (blk_put (blk_put (blk_put (oP aB) 0 _ rfl) 1 _ rfl) 2 _ rfl) Try.underlying36 rfl oK) rfl ?_
 exact ⟨_, by first | rfl | (simp [errW_none, errW_some] <;> rfl) | (simp [*, errW_none, errW_some] <;> rfl), by (with_reducible repeat (first | apply Kd.R_alloc | apply Kd.R_drewN | apply Kd.R_drew)); exact Kd.R_mono (Kd.R_far (p := ⟨aE, 2, none⟩) (Kd.R_far (p := ⟨aE, 1, none⟩) (Kd.R_far (p := ⟨aE, 0, none⟩) (Kd.R_far (p := ⟨aD, 2, none⟩) (Kd.R_types (Kd.R_types aP.out aC.out oD) aB.out oD) (fun _ hk => hk.1.2) (.slice aR aG.length aS)) (fun _ hk => hk.2) (.int .i64 a0_0)) (fun _ hk => hk.2) (.int .i64 a0_1)) (fun _ hk => hk.2) (.slice aR aG.length aS)) (fun _ hk => trivial), oB HB⟩

end Go.Proofs.Ytmkiajoanblkbaa.X
