/- What functions of the program come to, each with its proof. No condition but what each theorem states. -/
import Derived.Test.YtmkiajoanblkbaaX0
import Derived.Test.YtmkiajoanblkbaaX7
import Derived.Test.YtmkiajoanblkbaaX8
import Derived.Test.YtmkiajoanblkbaaX9
import Derived.Test.YtmkiajoanblkbaaX34
import Derived.Test.YtmkiajoanblkbaaX37
import Derived.Test.YtmkiajoanblkbaaX40
import Derived.Test.YtmkiajoanblkbaaX59
import Derived.Test.YtmkiajoanblkbaaX61
import Derived.Test.YtmkiajoanblkbaaX63
namespace Go.Proofs.Ytmkiajoanblkbaa.X
open Go.RowKit Go.Proofs.YtmkiajoanblkbaaW.PrintWords Go.Proofs.YtmkiajoanblkbaaW.PrintLast Go.Proofs.YtmkiajoanblkbaaW.PrintMore Go.Proofs.Ytmkiajoanblkbaa.Hyb
attribute [local go_sem] max2_int min2_int max_two min_two max_three min_three max_four min_four
set_option linter.unusedVariables false
set_option linter.unusedSimpArgs false

/-! ### laws_FnExactRasBytes: function 10 -/
def laws_FnExactRasBytes.j0 : Nat → List Int → List Int → Bool → Int → Int → List (S84) → Option (Bool)
 | 0, _, _, _, _, _, _ => none
 | k + 1, x4, x6, x42, x682000, x682001, x682002 => if x42 = true then (none) else ((laws_markByteS.f k x6 1).bind fun bN => ((laws_heldByteS.f k bN.2 1).bind fun bG => (if bG < 0 then (none) else (if bG = bN.1 then ((laws_toRasRaster.f k x682000 x682001 x682002).bind fun bT => ((impl_RasBytes.f k bT.1 bT.2.1 bT.2.2).bind fun bW => ((laws_eqByteS.f k bW x4).bind fun dW => (if dW = true then ((laws_heldByteS.f k bN.2 1).bind fun bH => (if bH < 0 then (none) else (if bH = bN.1 then (some true) else (none)))) else (none))))) else (none)))))
def laws_FnExactRasBytes.f (k : Nat) (a0_0 : Int) (a0_1 : Int) (l0_2 : List (S84)) : Option (Bool) := (laws_szRasRaster.f a0_0 a0_1 l0_2 1048576).bind fun bE => (if bE < 0 then (some true) else ((laws_toRasRaster.f k a0_0 a0_1 l0_2).bind fun aX => ((spec_RasBytes.f k aX.1 aX.2.1 aX.2.2).bind fun aK => ((laws_toRasRaster.f k a0_0 a0_1 l0_2).bind fun aJ => ((impl_RasBytes.f k aJ.1 aJ.2.1 aJ.2.2).bind fun aI => ((laws_eqByteS.f k aI aK).bind fun bU => (if bU = true then ((laws_toRasRaster.f k a0_0 a0_1 l0_2).bind fun aY => ((laws_eqRasRaster.f k aJ.1 aJ.2.1 aJ.2.2 aY.1 aY.2.1 aY.2.2).bind fun bV => (if bV = true then ((laws_markRasRaster.f k aJ.1 aJ.2.1 aJ.2.2 1).bind fun bS => (if bS.1 < 0 then (laws_FnExactRasBytes.j0 k aK aI true a0_0 a0_1 l0_2) else ((laws_eqByteS.f k aI aK).bind fun bO => (laws_FnExactRasBytes.j0 k aK aI (!bO) a0_0 a0_1 l0_2)))) else (none)))) else (none))))))))
theorem laws_FnExactRasBytes.mono_l : ∀ k, (∀ y0 y1 y2 y3 y4 y5, LeO (laws_FnExactRasBytes.j0 k y0 y1 y2 y3 y4 y5) (laws_FnExactRasBytes.j0 (k + 1) y0 y1 y2 y3 y4 y5))
 | 0 => (fun _ _ _ _ _ _ r h => nomatch (show none = some r from h))
 | k + 1 => by
  have ih0 := laws_FnExactRasBytes.mono_l k
  ·intro y0 y1 y2 y3 y4 y5
   unfold laws_FnExactRasBytes.j0
   repeat' first
   | (with_reducible exact ih0 _ _ _ _ _ _)
   | (with_reducible exact impl_RasBytes.mono _ _ _ _)
   | (with_reducible exact laws_eqByteS.mono _ _ _)
   | (with_reducible exact laws_eqRasRaster.mono _ _ _ _ _ _ _)
   | (with_reducible exact laws_heldByteS.mono _ _ _)
   | (with_reducible exact laws_markByteS.mono _ _ _)
   | (with_reducible exact laws_markRasRaster.mono _ _ _ _ _)
   | (with_reducible exact laws_toRasRaster.mono _ _ _ _)
   | (with_reducible exact spec_RasBytes.mono _ _ _ _)
   | (with_reducible exact LeO.refl _)
   | (with_reducible exact LeO.none _)
   | (with_reducible refine LeO.ite ?_ ?_)
   | (with_reducible refine LeO.bind ?_ (fun _ => ?_))
   | exact ih0 _ _ _ _ _ _
   | exact impl_RasBytes.mono _ _ _ _
   | exact laws_eqByteS.mono _ _ _
   | exact laws_eqRasRaster.mono _ _ _ _ _ _ _
   | exact laws_heldByteS.mono _ _ _
   | exact laws_markByteS.mono _ _ _
   | exact laws_markRasRaster.mono _ _ _ _ _
   | exact laws_toRasRaster.mono _ _ _ _
   | exact spec_RasBytes.mono _ _ _ _
   | exact LeO.none _
   | refine LeO.ite ?_ ?_
   | refine LeO.bind ?_ (fun _ => ?_)
theorem laws_FnExactRasBytes.mono : ∀ a0 a1 a2 k, LeO (laws_FnExactRasBytes.f k a0 a1 a2) (laws_FnExactRasBytes.f (k + 1) a0 a1 a2) := by
 intro a0 a1 a2 k
 have ih0 := laws_FnExactRasBytes.mono_l k
 unfold laws_FnExactRasBytes.f
 repeat' first
   | (with_reducible exact ih0 _ _ _ _ _ _)
   | (with_reducible exact impl_RasBytes.mono _ _ _ _)
   | (with_reducible exact laws_eqByteS.mono _ _ _)
   | (with_reducible exact laws_eqRasRaster.mono _ _ _ _ _ _ _)
   | (with_reducible exact laws_heldByteS.mono _ _ _)
   | (with_reducible exact laws_markByteS.mono _ _ _)
   | (with_reducible exact laws_markRasRaster.mono _ _ _ _ _)
   | (with_reducible exact laws_toRasRaster.mono _ _ _ _)
   | (with_reducible exact spec_RasBytes.mono _ _ _ _)
   | (with_reducible exact LeO.refl _)
   | (with_reducible exact LeO.none _)
   | (with_reducible refine LeO.ite ?_ ?_)
   | (with_reducible refine LeO.bind ?_ (fun _ => ?_))
   | exact ih0 _ _ _ _ _ _
   | exact impl_RasBytes.mono _ _ _ _
   | exact laws_eqByteS.mono _ _ _
   | exact laws_eqRasRaster.mono _ _ _ _ _ _ _
   | exact laws_heldByteS.mono _ _ _
   | exact laws_markByteS.mono _ _ _
   | exact laws_markRasRaster.mono _ _ _ _ _
   | exact laws_toRasRaster.mono _ _ _ _
   | exact spec_RasBytes.mono _ _ _ _
   | exact LeO.none _
   | refine LeO.ite ?_ ?_
   | refine LeO.bind ?_ (fun _ => ?_)
set_option maxHeartbeats 8000000 in
set_option maxRecDepth 100000 in
theorem laws_FnExactRasBytes.calls (k : Nat) (a0_0 : Int) (a0_1 : Int) (aP : Option Addr) (aR : Nat) (l0_2 : List (S84)) (r : Bool) (w : World) (hr0_2 : Kd.C k84 w aP l0_2.length l0_2) (dF : l0_2.length ≤ aR) (h : laws_FnExactRasBytes.f k a0_0 a0_1 l0_2 = some r) :
  Calls Try.prog 10 #[.agg #[.int .i64 a0_0, .int .i64 a0_1, .slice aP l0_2.length aR]] w fun e w' => e = .returned (.bool r) ∧ Below w.heap.size w w' := by
 have hu45 := Try.underlying45
 have hu36 := Try.underlying36
 have bA := Aside0.mk hr0_2
 have aZ := Aside0.mk dF
 clear hr0_2 dF
 have HB := Aside0.mk (Below.refl w.heap.size w)
 have H : ((laws_szRasRaster.f a0_0 a0_1 l0_2 1048576).bind fun bE => (if bE < 0 then (some true) else ((laws_toRasRaster.f k a0_0 a0_1 l0_2).bind fun aX => ((spec_RasBytes.f k aX.1 aX.2.1 aX.2.2).bind fun aK => ((laws_toRasRaster.f k a0_0 a0_1 l0_2).bind fun aJ => ((impl_RasBytes.f k aJ.1 aJ.2.1 aJ.2.2).bind fun aI => ((laws_eqByteS.f k aI aK).bind fun bU => (if bU = true then ((laws_toRasRaster.f k a0_0 a0_1 l0_2).bind fun aY => ((laws_eqRasRaster.f k aJ.1 aJ.2.1 aJ.2.2 aY.1 aY.2.1 aY.2.2).bind fun bV => (if bV = true then ((laws_markRasRaster.f k aJ.1 aJ.2.1 aJ.2.2 1).bind fun bS => (if bS.1 < 0 then (laws_FnExactRasBytes.j0 k aK aI true a0_0 a0_1 l0_2) else ((laws_eqByteS.f k aI aK).bind fun bO => (laws_FnExactRasBytes.j0 k aK aI (!bO) a0_0 a0_1 l0_2)))) else (none)))) else (none))))))))) = some r := h
 clear h
 replace H := Option.bind_eq_some_iff.mp H
 obtain ⟨bE, fU, H⟩ := H
 (try dsimp only at H)
 have A2 := Aside0.mk fU
 clear fU
 by_cases c3 : bE < 0
 ·rw [if_pos c3] at H
  have eN : decide (bE < 0) = true := decide_eq_true c3
  clear c3
  obtain rfl := Option.some.inj H
  go_enter Try.func10, Try.ntmps10
  go_wp2_with (first | ((with_reducible refine gate_dst (N := 1) rfl ?_); refine box_event rfl (N := 1) rfl (cs := #[.int .i64 a0_0, .int .i64 a0_1, .slice aP l0_2.length aR]) (t := 45) oS ?_; intro aF hg w4 hbox hb; have n_ := o2_ (below_step (oB HB) hb) (o2_ (hbox) (o2_ ((oG hg (below_size (oB HB)) : w.heap.size ≤ aF)) (o1_ ((oG hg (below_size (oB HB)) : w.heap.size ≤ aF))))); clear HB; obtain ⟨HB, aA, eK, eJ⟩ := n_; clear hb hbox hg; have dI : w4.cell? ⟨aF, 0, none⟩ = some (.int .i64 a0_0) := (blk_cell aA.out 0).trans rfl; have dJ : w4.cell? ⟨aF, 1, none⟩ = some (.int .i64 a0_1) := (blk_cell aA.out 1).trans rfl; have dK : w4.cell? ⟨aF, 2, none⟩ = some (.slice aP l0_2.length aR) := (blk_cell aA.out 2).trans rfl; have dL := blk_frozen aA.out 0; have dM := blk_frozen aA.out 1; have dN := blk_frozen aA.out 2) | ((with_reducible refine gate_callee (f := 26) rfl ?_); refine goesL_ (some 13) rfl rfl Try.func26 oK rfl #[.agg #[.int .i64 a0_0, .int .i64 a0_1, .slice aP l0_2.length aR], .int .i64 1048576] rfl oA ?_; (with_reducible refine (laws_szRasRaster.calls a0_0 a0_1 _ _ l0_2 1048576 bE _ ?side1 ?side2 A2.out).mono ?_); (case side1 => repeat (first | exact (Kd.C_below bA.out HB.out) | (with_reducible refine Kd.C_alloc ?_ _) | (with_reducible refine Kd.C_drewN ?_ _) | (with_reducible refine Kd.C_drew ?_))); (case side2 => exact aZ.out); rintro e w6 ⟨rfl, hb⟩; refine ⟨_, rfl, ?_⟩; have n_ := o2_ (blk_below (oP aA) hb) (o1_ (below_step (oB HB) hb)); clear aA HB; obtain ⟨aA, HB⟩ := n_; (try clear hb); (try clear hb2); (try clear hk); (try clear hi)))
  go_ret
  exact ⟨by first | rfl | (simp [errW_none, errW_some] <;> rfl) | (simp [*, errW_none, errW_some] <;> rfl), oB HB⟩
 ·rw [if_neg c3] at H
  have eN : decide (bE < 0) = false := decide_eq_false c3
  clear c3
  replace H := Option.bind_eq_some_iff.mp H
  obtain ⟨⟨dO, dP, bL⟩, fV, H⟩ := H
  (try dsimp only at H)
  have A7 := Aside0.mk fV
  clear fV
  replace H := Option.bind_eq_some_iff.mp H
  obtain ⟨aK, fW, H⟩ := H
  (try dsimp only at H)
  have A8 := Aside0.mk fW
  clear fW
  replace H := Option.bind_eq_some_iff.mp H
  obtain ⟨⟨aS, aT, aL⟩, fX, H⟩ := H
  (try dsimp only at H)
  have A9 := Aside0.mk fX
  clear fX
  replace H := Option.bind_eq_some_iff.mp H
  obtain ⟨aI, dX, H⟩ := H
  (try dsimp only at H)
  have gR := Aside0.mk dX
  clear dX
  replace H := Option.bind_eq_some_iff.mp H
  obtain ⟨bU, dY, H⟩ := H
  (try dsimp only at H)
  have gS := Aside0.mk dY
  clear dY
  by_cases eL : bU = true
  ·subst eL
   rw [if_pos rfl] at H
   replace H := Option.bind_eq_some_iff.mp H
   obtain ⟨⟨dQ, dR, dS⟩, dZ, H⟩ := H
   (try dsimp only at H)
   have gT := Aside0.mk dZ
   clear dZ
   replace H := Option.bind_eq_some_iff.mp H
   obtain ⟨bV, eA, H⟩ := H
   (try dsimp only at H)
   have gU := Aside0.mk eA
   clear eA
   by_cases eM : bV = true
   ·subst eM
    rw [if_pos rfl] at H
    replace H := Option.bind_eq_some_iff.mp H
    obtain ⟨⟨dE, eR⟩, eB, H⟩ := H
    (try dsimp only at H)
    have gV := Aside0.mk eB
    clear eB
    have dG := Aside0.mk H
    clear H
    go_enter Try.func10, Try.ntmps10
    try go_wp2_with (first | ((with_reducible refine gate_dst (N := 1) rfl ?_); refine box_event rfl (N := 1) rfl (cs := #[.int .i64 a0_0, .int .i64 a0_1, .slice aP l0_2.length aR]) (t := 45) oS ?_; intro aF hg fO hbox hb; have n_ := o2_ (below_step (oB HB) hb) (o2_ (hbox) (o2_ ((oG hg (below_size (oB HB)) : w.heap.size ≤ aF)) (o1_ ((oG hg (below_size (oB HB)) : w.heap.size ≤ aF))))); clear HB; obtain ⟨HB, aA, eK, eJ⟩ := n_; clear hb hbox hg; have cA : fO.cell? ⟨aF, 0, none⟩ = some (.int .i64 a0_0) := (blk_cell aA.out 0).trans rfl; have cB : fO.cell? ⟨aF, 1, none⟩ = some (.int .i64 a0_1) := (blk_cell aA.out 1).trans rfl; have cC : fO.cell? ⟨aF, 2, none⟩ = some (.slice aP l0_2.length aR) := (blk_cell aA.out 2).trans rfl; have cP := blk_frozen aA.out 0; have cQ := blk_frozen aA.out 1; have cR := blk_frozen aA.out 2) | ((with_reducible refine gate_callee (f := 26) rfl ?_); refine goesL_ (some 13) rfl rfl Try.func26 oK rfl #[.agg #[.int .i64 a0_0, .int .i64 a0_1, .slice aP l0_2.length aR], .int .i64 1048576] rfl oA ?_; (with_reducible refine (laws_szRasRaster.calls a0_0 a0_1 _ _ l0_2 1048576 bE _ ?side1 ?side2 A2.out).mono ?_); (case side1 => repeat (first | exact (Kd.C_below bA.out HB.out) | (with_reducible refine Kd.C_alloc ?_ _) | (with_reducible refine Kd.C_drewN ?_ _) | (with_reducible refine Kd.C_drew ?_))); (case side2 => exact aZ.out); rintro e fP ⟨rfl, hb⟩; refine ⟨_, rfl, ?_⟩; have n_ := o2_ (blk_below (oP aA) hb) (o1_ (below_step (oB HB) hb)); clear aA HB; obtain ⟨aA, HB⟩ := n_; (try clear hb); (try clear hb2); (try clear hk); (try clear hi); have cD : fP.cell? ⟨aF, 0, none⟩ = some (.int .i64 a0_0) := (blk_cell aA.out 0).trans rfl; have cE : fP.cell? ⟨aF, 1, none⟩ = some (.int .i64 a0_1) := (blk_cell aA.out 1).trans rfl; have cF : fP.cell? ⟨aF, 2, none⟩ = some (.slice aP l0_2.length aR) := (blk_cell aA.out 2).trans rfl; have cS := blk_frozen aA.out 0; have cT := blk_frozen aA.out 1; have cU := blk_frozen aA.out 2) | ((with_reducible refine gate_callee (f := 27) rfl ?_); refine goesL_ (some 17) rfl rfl Try.func27 oK rfl #[.agg #[.int .i64 a0_0, .int .i64 a0_1, .slice aP l0_2.length aR]] rfl oA ?_; (with_reducible refine (laws_toRasRaster.calls k a0_0 a0_1 _ _ l0_2 dO dP bL _ ?side1 ?side2 A7.out).mono ?_); (case side1 => repeat (first | exact (Kd.C_below bA.out HB.out) | (with_reducible refine Kd.C_alloc ?_ _) | (with_reducible refine Kd.C_drewN ?_ _) | (with_reducible refine Kd.C_drew ?_))); (case side2 => exact aZ.out); rintro e hN ⟨hF, rfl, ho0, hb⟩; refine ⟨_, rfl, ?_⟩; have n_ := o2_ (Kd.R_lower ho0 (below_size (oB HB))) (o2_ (blk_below (oP aA) hb) (o1_ (below_step (oB HB) hb))); clear aA HB; obtain ⟨aG, aA, HB⟩ := n_; (try clear hb); (try clear hb2); (try clear hk); (try clear hi); (try clear ho0); obtain ⟨bY, bZ, fI⟩ := Kd.R_slice aG.out; subst fI) | ((with_reducible refine gate_callee (f := 39) rfl ?_); refine goesL_ (some 18) rfl rfl Try.func39 oK rfl #[.agg #[.int .i64 dO, .int .i64 dP, .slice bY bL.length bZ]] rfl oA ?_; (with_reducible refine (spec_RasBytes.calls k dO dP _ _ bL aK _ ?side1 ?side2 A8.out).mono ?_); (case side1 => repeat (first | exact (Kd.R_reads' aG.out).2.2 | (with_reducible refine Kd.C_alloc ?_ _) | (with_reducible refine Kd.C_drewN ?_ _) | (with_reducible refine Kd.C_drew ?_))); (case side2 => exact (Kd.R_reads' aG.out).2.1); rintro e fQ ⟨hG, rfl, ho0, hb⟩; refine ⟨_, rfl, ?_⟩; have n_ := o2_ (Kd.R_below (oR aG) hb) (o2_ (Kd.R_lower ho0 (below_size (oB HB))) (o2_ (blk_below (oP aA) hb) (o1_ (below_step (oB HB) hb)))); clear aG aA HB; obtain ⟨aG, aD, aA, HB⟩ := n_; (try clear hb); (try clear hb2); (try clear hk); (try clear hi); (try clear ho0); have cG : fQ.cell? ⟨aF, 0, none⟩ = some (.int .i64 a0_0) := (blk_cell aA.out 0).trans rfl; have cH : fQ.cell? ⟨aF, 1, none⟩ = some (.int .i64 a0_1) := (blk_cell aA.out 1).trans rfl; have cI : fQ.cell? ⟨aF, 2, none⟩ = some (.slice aP l0_2.length aR) := (blk_cell aA.out 2).trans rfl; have cV := blk_frozen aA.out 0; have cW := blk_frozen aA.out 1; have cX := blk_frozen aA.out 2) | ((with_reducible refine gate_callee (f := 27) rfl ?_); refine goesL_ (some 20) rfl rfl Try.func27 oK rfl #[.agg #[.int .i64 a0_0, .int .i64 a0_1, .slice aP l0_2.length aR]] rfl oA ?_; (with_reducible refine (laws_toRasRaster.calls k a0_0 a0_1 _ _ l0_2 aS aT aL _ ?side1 ?side2 A9.out).mono ?_); (case side1 => repeat (first | exact (Kd.C_below bA.out HB.out) | (with_reducible refine Kd.C_alloc ?_ _) | (with_reducible refine Kd.C_drewN ?_ _) | (with_reducible refine Kd.C_drew ?_))); (case side2 => exact aZ.out); rintro e hO ⟨hH, rfl, ho0, hb⟩; refine ⟨_, rfl, ?_⟩; have n_ := o2_ (Kd.R_elder' (oR aG) (Kd.R_base ho0) hb) (o2_ (Kd.R_below (oR aD) hb) (o2_ (Kd.R_lower (Kd.R_new' ho0 (Kd.R_lt (oR aG))) (below_size (oB HB))) (o2_ (blk_below (oP aA) hb) (o1_ (below_step (oB HB) hb))))); clear aG aD aA HB; obtain ⟨aG, aD, aC, aA, HB⟩ := n_; (try clear hb); (try clear hb2); (try clear hk); (try clear hi); (try clear ho0)) | ((with_reducible refine gate_dst (N := 5) rfl ?_); refine box_event rfl (N := 5) rfl (cs := #[.int .i64 0, .int .i64 0, .slice none 0 0]) (t := 36) oS ?_; intro aE hg fR hbox hb; have n_ := o2_ (Kd.R_below (oR aG) hb) (o2_ (Kd.R_below (oR aD) hb) (o2_ (Kd.R_below (oR aC) hb) (o2_ (blk_below (oP aA) hb) (o2_ (below_step (oB HB) hb) (o2_ (hbox) (o2_ ((oG hg (below_size (oB HB)) : w.heap.size ≤ aE)) (o2_ ((oG hg (below_size (oB HB)) : w.heap.size ≤ aE)) (o2_ ((oL hg (blk_lt (oP aA)))) (o1_ ((oN hg (blk_lt (oP aA))))))))))))); clear aG aD aC aA HB; obtain ⟨aG, aD, aC, aA, HB, aB, fZ, fY, bB, bC⟩ := n_; clear hb hbox hg; have gG := bC.out; have gI := bB.out; have cJ : fR.cell? ⟨aE, 0, none⟩ = some (.int .i64 0) := (blk_cell aB.out 0).trans rfl; have cK : fR.cell? ⟨aE, 1, none⟩ = some (.int .i64 0) := (blk_cell aB.out 1).trans rfl; have cL : fR.cell? ⟨aE, 2, none⟩ = some (.slice none 0 0) := (blk_cell aB.out 2).trans rfl; have cY := blk_frozen aB.out 0; have cZ := blk_frozen aB.out 1; have dA := blk_frozen aB.out 2; obtain ⟨aQ, aO, fJ⟩ := Kd.R_slice aC.out; subst fJ) | ((with_reducible refine gate_callee (f := 40) rfl ?_); refine goesL_ (some 22) rfl rfl Try.func40 oK rfl #[.agg #[.int .i64 aS, .int .i64 aT, .slice aQ aL.length aO]] rfl oA ?_; (with_reducible refine (impl_RasBytes.calls k aS aT _ _ aL aI _ ?side1 ?side2 gR.out).mono ?_); (case side1 => refine (Kd.R_reads' (e := 39) (base := w.heap.size) (ok := fun k_ => (True ∧ some k_ ≠ (.slice bY bL.length bZ : Value).ownBlock)) (n := aL.length) (c := aO) ?_).2.2; exact (by (with_reducible repeat (first | apply Kd.R_alloc | apply Kd.R_drewN | apply Kd.R_drew)); exact (Kd.R_mono (Kd.R_far (p := ⟨aE, 2, none⟩) (Kd.R_far (p := ⟨aE, 1, none⟩) (Kd.R_far (p := ⟨aE, 0, none⟩) (Kd.R_types aC.out aB.out oD) oX2 (.int .i64 aS)) oX2 (.int .i64 aT)) oX2 (.slice aQ aL.length aO)) (fun _ h_ => h_.1)))); (case side2 => exact (Kd.R_reads' aC.out).2.1); rintro e bX ⟨hI, rfl, ho0, hb⟩; refine ⟨_, rfl, ?_⟩; have n_ := o2_ (Kd.R_below (by (with_reducible repeat (first | apply Kd.R_alloc | apply Kd.R_drewN | apply Kd.R_drew)); exact (Kd.R_mono (Kd.R_far (p := ⟨aE, 2, none⟩) (Kd.R_far (p := ⟨aE, 1, none⟩) (Kd.R_far (p := ⟨aE, 0, none⟩) (Kd.R_types aG.out aB.out oD) oX2 (.int .i64 aS)) oX2 (.int .i64 aT)) oX2 (.slice aQ aL.length aO)) (fun _ h_ => h_.1))) hb) (o2_ (Kd.R_elder' (by (with_reducible repeat (first | apply Kd.R_alloc | apply Kd.R_drewN | apply Kd.R_drew)); exact (Kd.R_mono (Kd.R_far (p := ⟨aE, 2, none⟩) (Kd.R_far (p := ⟨aE, 1, none⟩) (Kd.R_far (p := ⟨aE, 0, none⟩) (Kd.R_types aD.out aB.out oD) oX2 (.int .i64 aS)) oX2 (.int .i64 aT)) oX2 (.slice aQ aL.length aO)) (fun _ h_ => h_.1))) (Kd.R_base ho0) hb) (o2_ (Kd.R_below (by (with_reducible repeat (first | apply Kd.R_alloc | apply Kd.R_drewN | apply Kd.R_drew)); exact (Kd.R_mono (Kd.R_far (p := ⟨aE, 2, none⟩) (Kd.R_far (p := ⟨aE, 1, none⟩) (Kd.R_far (p := ⟨aE, 0, none⟩) (Kd.R_types aC.out aB.out oD) oX2 (.int .i64 aS)) oX2 (.int .i64 aT)) oX2 (.slice aQ aL.length aO)) (fun _ h_ => h_.1))) hb) (o2_ (Kd.R_lower (Kd.R_new' ho0 (Kd.R_lt (by (with_reducible repeat (first | apply Kd.R_alloc | apply Kd.R_drewN | apply Kd.R_drew)); exact (Kd.R_mono (Kd.R_far (p := ⟨aE, 2, none⟩) (Kd.R_far (p := ⟨aE, 1, none⟩) (Kd.R_far (p := ⟨aE, 0, none⟩) (Kd.R_types aD.out aB.out oD) oX2 (.int .i64 aS)) oX2 (.int .i64 aT)) oX2 (.slice aQ aL.length aO)) (fun _ h_ => h_.1))))) (below_size (oB HB))) (o2_ (blk_below (oP aA) hb) (o2_ (blk_below (g := aE) (o := .cells #[.int .i64 aS, .int .i64 aT, .slice aQ aL.length aO] 36 (0, 0)) (blk_put (blk_put (blk_put aB.out 0 _ rfl) 1 _ rfl) 2 _ rfl) hb) (o1_ (below_step (oB HB) hb))))))); clear aG aD aC aA aB HB; obtain ⟨aG, aD, aC, aH, aA, aB, HB⟩ := n_; (try clear hb); (try clear hb2); (try clear hk); (try clear hi); (try clear ho0); obtain ⟨aV, aW, fK⟩ := Kd.R_slice aH.out; subst fK; obtain ⟨bJ, bK, fL⟩ := Kd.R_slice aD.out; subst fL) | ((with_reducible refine gate_callee (f := 13) rfl ?_); refine goesL_ (some 25) rfl rfl Try.func13 oK rfl #[.slice aV aI.length aW, .slice bJ aK.length bK] rfl oA ?_; (with_reducible refine (laws_eqByteS.calls k _ _ aI _ _ aK true _ ?side1 ?side2 ?side3 ?side4 gS.out).mono ?_); (case side1 => repeat (first | exact (Kd.R_reads' aH.out).2.2 | (with_reducible refine Kd.C_alloc ?_ _) | (with_reducible refine Kd.C_drewN ?_ _) | (with_reducible refine Kd.C_drew ?_))); (case side2 => exact (Kd.R_reads' aH.out).2.1); (case side3 => repeat (first | exact (Kd.R_reads' aD.out).2.2 | (with_reducible refine Kd.C_alloc ?_ _) | (with_reducible refine Kd.C_drewN ?_ _) | (with_reducible refine Kd.C_drew ?_))); (case side4 => exact (Kd.R_reads' aD.out).2.1); rintro e w' ⟨rfl, ⟨nd, rfl⟩⟩; refine ⟨_, rfl, ?_⟩))
    (try (rw [drewN_self bX]; generalize hq_ : World.drewN bX _ = bX; have gK : Aside0 (Kd.R k39 39 bX w.heap.size (fun k_ => some k_ ≠ (.slice aQ aL.length aO : Value).ownBlock) (.slice bY bL.length bZ) bL) := ⟨(by rw [← hq_]; exact (by (with_reducible repeat (first | apply Kd.R_alloc | apply Kd.R_drewN | apply Kd.R_drew)); exact Kd.R_mono aG.out oX2))⟩; have gL : Aside0 (Kd.R (Kd.int .u8) 5 bX w.heap.size (fun k_ => some k_ ≠ (.slice aV aI.length aW : Value).ownBlock) (.slice bJ aK.length bK) aK) := ⟨(by rw [← hq_]; exact (by (with_reducible repeat (first | apply Kd.R_alloc | apply Kd.R_drewN | apply Kd.R_drew)); exact Kd.R_mono aD.out oX2))⟩; have gM : Aside0 (Kd.R k39 39 bX w.heap.size (fun k_ => some k_ ≠ (.slice bY bL.length bZ : Value).ownBlock) (.slice aQ aL.length aO) aL) := ⟨(by rw [← hq_]; exact (by (with_reducible repeat (first | apply Kd.R_alloc | apply Kd.R_drewN | apply Kd.R_drew)); exact Kd.R_mono aC.out oX2))⟩; have gN : Aside0 (Kd.R (Kd.int .u8) 5 bX w.heap.size (fun k_ => some k_ ≠ (.slice bJ aK.length bK : Value).ownBlock) (.slice aV aI.length aW) aI) := ⟨(by rw [← hq_]; exact (by (with_reducible repeat (first | apply Kd.R_alloc | apply Kd.R_drewN | apply Kd.R_drew)); exact Kd.R_mono aH.out oX2))⟩; have gO : Aside0 (bX.heap[aF]? = some (.cells #[.int .i64 a0_0, .int .i64 a0_1, .slice aP l0_2.length aR] 45 (0, 0))) := ⟨(by rw [← hq_]; exact (oP aA))⟩; have gP : Aside0 (bX.heap[aE]? = some (.cells #[.int .i64 aS, .int .i64 aT, .slice aQ aL.length aO] 36 (0, 0))) := ⟨(by rw [← hq_]; exact (oP aB))⟩; have gQ : Aside0 (Below w.heap.size w bX) := ⟨(by rw [← hq_]; exact (oB HB))⟩; clear aG aD aC aH aA aB HB hq_; have aG := gK; have aD := gL; have aC := gM; have aH := gN; have aA := gO; have aB := gP; have HB := gQ; clear gK gL gM gN gO gP gQ))
    have n_ := o2_ (Kd.R_drew aG.out) (o2_ (Kd.R_drew aD.out) (o2_ (Kd.R_drew aC.out) (o2_ (Kd.R_drew aH.out) (o2_ (blk_drew aA.out) (o2_ (blk_drew aB.out) (o1_ (below_drew1 HB.out)))))))
    clear aG aD aC aH aA aB HB
    obtain ⟨aG, aD, aC, aH, aA, aB, HB⟩ := n_
    refine start_ (n := 5) (S := fun w' => w'.cell? ⟨aE, 0, none⟩ = some (.int .i64 aS) ∧ w'.cell? ⟨aE, 1, none⟩ = some (.int .i64 aT) ∧ w'.cell? ⟨aE, 2, none⟩ = some (.slice aQ aL.length aO) ∧ w'.cell? ⟨aF, 0, none⟩ = some (.int .i64 a0_0) ∧ w'.cell? ⟨aF, 1, none⟩ = some (.int .i64 a0_1) ∧ w'.cell? ⟨aF, 2, none⟩ = some (.slice aP l0_2.length aR)) (ds := []) #[false, false, false, false, false] oK rfl rfl ⟨(blk_cell aB.out 0).trans rfl, (blk_cell aB.out 1).trans rfl, (blk_cell aB.out 2).trans rfl, (blk_cell aA.out 0).trans rfl, (blk_cell aA.out 1).trans rfl, (blk_cell aA.out 2).trans rfl⟩ (fun hHeld => ?_)
    generalize bX.drew = hP at aG aD aC aH aA aB HB hHeld ⊢
    refine take_ (i := 0) (N := some 27) (v := ?_) (a' := ?_) #[true, false, false, false, false] rfl rfl oK (fun _ _ _ h => h) (Or.inl ⟨by rfl, ?_⟩) hHeld ?_ ?_
    rotate_left
    ·rintro w' ⟨s0, s1, s2, s3, s4, s5⟩
     go_simp
     with_reducible rfl
    rotate_left
    ·exact oT
    refine take_ (i := 1) (N := some 28) (v := ?_) (a' := ?_) #[true, true, false, false, false] rfl rfl oK (fun _ _ _ h => h) (Or.inl ⟨by rfl, ?_⟩) hHeld ?_ ?_
    rotate_left
    ·rintro w' ⟨s0, s1, s2, s3, s4, s5⟩
     go_simp
     with_reducible rfl
    rotate_left
    ·exact oT
    refine one_ (i := 2) (N := some 29) #[true, true, true, false, false] rfl rfl oK oD (fun K hK => ?_)
    refine goes_ Try.func27 oK rfl #[.agg #[.int .i64 a0_0, .int .i64 a0_1, .slice aP l0_2.length aR]] (by rfl) rfl rfl oA ?_
    with_reducible refine (laws_toRasRaster.calls k a0_0 a0_1 _ _ l0_2 dQ dR dS _ ?side1 ?side2 gT.out).mono ?_
    (case side1 => repeat (first | exact (Kd.C_below bA.out HB.out) | (with_reducible refine Kd.C_alloc ?_ _) | (with_reducible refine Kd.C_drewN ?_ _) | (with_reducible refine Kd.C_drew ?_)))
    (case side2 => exact aZ.out)
    rintro e hQ ⟨hJ, rfl, ho0, hb⟩
    refine ⟨_, rfl, ?_⟩
    have n_ := o2_ (Kd.R_below (oR aD) hb) (o2_ (Kd.R_elder' (oR aC) (Kd.R_base ho0) hb) (o2_ (Kd.R_below (oR aH) hb) (o2_ (Kd.R_lower (Kd.R_new' (Kd.R_new' ho0 (Kd.R_lt (oR aG))) (Kd.R_lt (oR aC))) (below_size (oB HB))) (o2_ (blk_below (oP aA) hb) (o2_ (blk_below (oP aB) hb) (o1_ (below_step (oB HB) hb)))))))
    clear aD aC aH aA aB HB
    obtain ⟨aD, aC, aH, bP, aA, aB, HB⟩ := n_
    (try clear hb)
    (try clear hb2)
    (try clear hk)
    (try clear hi)
    (try clear ho0)
    obtain ⟨fC, fF, eQ⟩ := Kd.R_slice bP.out
    (first | subst eQ | (injection eQ with f1_ f2_ f3_; have f4_ := f1_.symm; have f5_ := f3_.symm; clear f1_ f2_ f3_; subst f4_; subst f5_))
    refine hK.out _ _ ⟨(blk_cell aB.out 0).trans rfl, (blk_cell aB.out 1).trans rfl, (blk_cell aB.out 2).trans rfl, (blk_cell aA.out 0).trans rfl, (blk_cell aA.out 1).trans rfl, (blk_cell aA.out 2).trans rfl⟩ (fun hHeld => ?_)
    clear hK K
    refine norm_ (a' := ?_) ?_ ?_
    rotate_left
    ·show Act.put _ (some 29) _ = _
     exact oT
    refine one_ (i := 3) (N := some 30) #[true, true, true, true, false] rfl rfl oK oD (fun K hK => ?_)
    refine goes_ Try.func28 oK rfl #[.agg #[.int .i64 aS, .int .i64 aT, .slice aQ aL.length aO], .agg #[.int .i64 dQ, .int .i64 dR, .slice fC dS.length fF]] (by rfl) rfl rfl oA ?_
    with_reducible refine (laws_eqRasRaster.calls k aS aT _ _ aL dQ dR _ _ dS true _ ?side1 ?side2 ?side3 ?side4 gU.out).mono ?_
    (case side1 => repeat (first | exact (Kd.R_reads' aC.out).2.2 | (with_reducible refine Kd.C_alloc ?_ _) | (with_reducible refine Kd.C_drewN ?_ _) | (with_reducible refine Kd.C_drew ?_)))
    (case side2 => exact (Kd.R_reads' aC.out).2.1)
    (case side3 => repeat (first | exact (Kd.R_reads' bP.out).2.2 | (with_reducible refine Kd.C_alloc ?_ _) | (with_reducible refine Kd.C_drewN ?_ _) | (with_reducible refine Kd.C_drew ?_)))
    (case side4 => exact (Kd.R_reads' bP.out).2.1)
    rintro e fS ⟨rfl, hb⟩
    refine ⟨_, rfl, ?_⟩
    have n_ := o2_ (Kd.R_below (oR aD) hb) (o2_ (Kd.R_below (oR aC) hb) (o2_ (Kd.R_below (oR aH) hb) (o2_ (blk_below (oP aA) hb) (o2_ (blk_below (oP aB) hb) (o1_ (below_step (oB HB) hb))))))
    clear aD aC aH aA aB HB
    obtain ⟨aD, aC, aH, aA, aB, HB⟩ := n_
    (try clear hb)
    (try clear hb2)
    (try clear hk)
    (try clear hi)
    refine hK.out _ _ ⟨(blk_cell aB.out 0).trans rfl, (blk_cell aB.out 1).trans rfl, (blk_cell aB.out 2).trans rfl, (blk_cell aA.out 0).trans rfl, (blk_cell aA.out 1).trans rfl, (blk_cell aA.out 2).trans rfl⟩ (fun hHeld => ?_)
    clear hK K
    refine norm_ (a' := ?_) ?_ ?_
    rotate_left
    ·show Act.put _ (some 30) _ = _
     exact oT
    refine pure_ (i := 4) (N := some 31) (v := ?_) (a' := ?_) #[true, true, true, true, true] rfl rfl oK (fun _ _ _ h => h) (Or.inl ⟨by rfl, ?_⟩) ?_ ?_
    rotate_left
    ·intro w'
     go_simp
     with_reducible rfl
    rotate_left
    ·exact oT
    refine done_ oK ?_
    have cM : fS.cell? ⟨aE, 0, none⟩ = some (.int .i64 aS) := (blk_cell aB.out 0).trans rfl
    have cN : fS.cell? ⟨aE, 1, none⟩ = some (.int .i64 aT) := (blk_cell aB.out 1).trans rfl
    have cO : fS.cell? ⟨aE, 2, none⟩ = some (.slice aQ aL.length aO) := (blk_cell aB.out 2).trans rfl
    have dB := blk_frozen aB.out 0
    have dC := blk_frozen aB.out 1
    have dD := blk_frozen aB.out 2
    go_upto_region 14 with (first | ((with_reducible refine gate_callee (f := 41) rfl ?_); refine goesL_ (some 34) rfl rfl Try.func41 oK rfl #[.agg #[.int .i64 aS, .int .i64 aT, .slice aQ aL.length aO], .int .i64 1] rfl oA ?_; (with_reducible refine (laws_markRasRaster.calls k aS aT (fun k_ => some k_ = (.slice aQ aL.length aO : Value).ownBlock) (.slice aQ aL.length aO) aL 1 dE eR w _ ?side1 ?side2 gV.out).mono ?_); (case side1 => exact oB HB); (case side2 => exact Kd.R_tight rfl aC.out); rintro e hR ⟨rfl, hy0, hb, hkp⟩; refine ⟨_, rfl, ?_⟩; have n_ := o2_ (blk_kept (oP aA) hkp (fun hs_ => (fun e_ => (Kd.R_ne aC.out aA.out oD) e_) hs_)) (o2_ (Kd.R_mono (ok' := fun k_ => some k_ ≠ (.slice aV aI.length aW : Value).ownBlock) (Kd.R_keptB ((Kd.R_apart' aD.out (Kd.R_typed aC.out) oD)) hkp (fun k_ hk_ hs_ => (hk_.2) hs_)) (fun k_ hk_ => by first | exact hk_.1.1.2 | exact hk_.1.1 | exact hk_.1 | exact hk_.2 | exact hk_.1.2 | (simp_all; done))) (o2_ (Kd.R_reok rfl hy0 (fun k_ e_ => aC.out.1 k_ e_)) (o2_ (blk_kept (oP aB) hkp (fun hs_ => (fun e_ => (Kd.R_ne aC.out aB.out oD) e_) hs_)) (o2_ (Kd.R_mono (ok' := fun k_ => some k_ ≠ (.slice bJ aK.length bK : Value).ownBlock) (Kd.R_keptB ((Kd.R_apart' aH.out (Kd.R_typed aC.out) oD)) hkp (fun k_ hk_ hs_ => (hk_.2) hs_)) (fun k_ hk_ => by first | exact hk_.1.1.2 | exact hk_.1.1 | exact hk_.1 | exact hk_.2 | exact hk_.1.2 | (simp_all; done))) (o1_ (hb)))))); clear aA aD aC aB aH HB; obtain ⟨aA, aD, aC, aB, aH, HB⟩ := n_; (try clear hb); (try clear hkp); (try clear hy0)))
    (try simp only [Act.put, List.setIfInBounds_toArray, List.set_cons_zero, List.set_cons_succ])
    go_cut [42] (fun hE wc => ∃ (kq : Nat) (bI : Bool), hE = .bool bI ∧ Aside0 (laws_FnExactRasBytes.j0 kq aK aI bI a0_0 a0_1 l0_2 = some r) ∧ Aside0 (kq ≤ k) ∧ Aside0 (Kd.R (Kd.int .u8) 5 wc w.heap.size (fun k_ => some k_ ≠ ((.slice aV aI.length aW) : Value).ownBlock) (.slice bJ aK.length bK) aK) ∧ Aside0 (Kd.R (Kd.int .u8) 5 wc w.heap.size (fun k_ => some k_ ≠ ((.slice bJ aK.length bK) : Value).ownBlock) (.slice aV aI.length aW) aI) ∧ Aside0 (Kd.R k39 39 wc w.heap.size (fun _ => True) (.slice aQ aL.length aO) eR) ∧ Aside0 (wc.heap[aF]? = some (.cells #[.int .i64 a0_0, .int .i64 a0_1, (.slice aP l0_2.length aR)] 45 (0, 0))) ∧ Aside0 (wc.heap[aE]? = some (.cells #[.int .i64 aS, .int .i64 aT, (.slice aQ aL.length aO)] 36 (0, 0))) ∧ Aside0 (Below w.heap.size w wc))
    case first =>
     have H := dG.out
     clear dG
     by_cases dH : dE < 0
     ·rw [if_pos dH] at H
      have bD : decide (dE < 0) = true := decide_eq_true dH
      clear dH
      (first | rw [bD] | (simp only [i64_w, i32_w]; rw [bD]) | skip)
      have H' := Aside0.mk H
      clear H
      go_wp2
      go_meet
      case rel => exact ⟨_, (true), oU, H', ⟨(by first | omega | exact Nat.le_refl _)⟩, ⟨(oR aD)⟩, ⟨(oR aH)⟩, ⟨(by (with_reducible repeat (first | apply Kd.R_alloc | apply Kd.R_drewN | apply Kd.R_drew)); exact Kd.R_mono aC.out (fun _ hk => trivial))⟩, ⟨(oP aA)⟩, ⟨(oP aB)⟩, ⟨(oB HB)⟩⟩
     ·rw [if_neg dH] at H
      have bD : decide (dE < 0) = false := decide_eq_false dH
      clear dH
      (first | rw [bD] | (simp only [i64_w, i32_w]; rw [bD]) | skip)
      replace H := Option.bind_eq_some_iff.mp H
      obtain ⟨bO, eC, H⟩ := H
      (try dsimp only at H)
      have gW := Aside0.mk eC
      clear eC
      have H' := Aside0.mk H
      clear H
      go_wp2_with (first | (go_at_call 13; (with_reducible refine (laws_eqByteS.calls k _ _ aI _ _ aK bO _ ?side1 ?side2 ?side3 ?side4 gW.out).mono ?_); (case side1 => repeat (first | exact (Kd.R_reads' aH.out).2.2 | (with_reducible refine Kd.C_alloc ?_ _) | (with_reducible refine Kd.C_drewN ?_ _) | (with_reducible refine Kd.C_drew ?_))); (case side2 => exact (Kd.R_reads' aH.out).2.1); (case side3 => repeat (first | exact (Kd.R_reads' aD.out).2.2 | (with_reducible refine Kd.C_alloc ?_ _) | (with_reducible refine Kd.C_drewN ?_ _) | (with_reducible refine Kd.C_drew ?_))); (case side4 => exact (Kd.R_reads' aD.out).2.1); rintro e w' ⟨rfl, ⟨nd, rfl⟩⟩))
      go_meet
      case rel => exact ⟨_, (!bO), oU, H', ⟨(by first | omega | exact Nat.le_refl _)⟩, ⟨(oR aD)⟩, ⟨(oR aH)⟩, ⟨(by (with_reducible repeat (first | apply Kd.R_alloc | apply Kd.R_drewN | apply Kd.R_drew)); exact Kd.R_mono aC.out (fun _ hk => trivial))⟩, ⟨(oP aA)⟩, ⟨(oP aB)⟩, ⟨(oB HB)⟩⟩
    case rest =>
     clear dG
     try clear c1
     try clear c2
     try clear p2
     try clear c3
     try clear eN
     try clear c4
     try clear c10
     try clear eL
     try clear c13
     try clear eM
     try clear c26
     try clear c27
     try clear c28
     try clear c39
     try clear dH
     try clear bD
     try clear c41
     try clear cA
     try clear cB
     try clear cC
     try clear cD
     try clear cE
     try clear cF
     try clear cG
     try clear cH
     try clear cI
     try clear cJ
     try clear cK
     try clear cL
     try clear cM
     try clear cN
     try clear cO
     try clear dI
     try clear dJ
     try clear dK
     try clear cP
     try clear cQ
     try clear cR
     try clear cS
     try clear cT
     try clear cU
     try clear cV
     try clear cW
     try clear cX
     try clear cY
     try clear cZ
     try clear dA
     try clear dB
     try clear dC
     try clear dD
     try clear dL
     try clear dM
     try clear dN
     obtain ⟨kq, bI, rfl, HA, hD, aU, aN, aM, aA, aB, HB⟩ := hcut
     have hl697002_16 := (Kd.R_reads' aM.out).1
     rw [hl697002_16] at aM
     (try simp only [hl697002_16])
     (try simp only [hl697002_16] at aA)
     (try simp only [hl697002_16] at aB)
     (try simp only [hl697002_16] at aU)
     (try simp only [hl697002_16] at aN)
     cases kq with
     | zero => exact nomatch (show none = some _ from HA.out)
     | succ kj16 =>
      have H := HA.out
      clear HA
      simp only [laws_FnExactRasBytes.j0] at H
      by_cases eS : bI = true
      ·subst eS
       rw [if_pos rfl] at H
       exact absurd H (by simp)
      ·replace eS := Bool.eq_false_iff.mpr eS
       subst eS
       rw [if_neg (show ¬ (false = true) by decide)] at H
       replace H := Option.bind_eq_some_iff.mp H
       obtain ⟨⟨bM, bF⟩, eD, H⟩ := H
       (try dsimp only at H)
       have gX := Aside0.mk eD
       clear eD
       replace H := Option.bind_eq_some_iff.mp H
       obtain ⟨bG, eE, H⟩ := H
       (try dsimp only at H)
       have gY := Aside0.mk eE
       clear eE
       by_cases eT : bG < 0
       ·rw [if_pos eT] at H
        exact absurd H (by simp)
       ·rw [if_neg eT] at H
        have gA : decide (bG < 0) = false := decide_eq_false eT
        clear eT
        by_cases eO : bG = bM
        ·rw [if_pos eO] at H
         have gB : (bG == bM) = true := beq_iff_eq.mpr eO
         have gC : (bG != bM) = false := bne_eq_false_iff_eq.mpr eO
         clear eO
         replace H := Option.bind_eq_some_iff.mp H
         obtain ⟨⟨dT, dU, dV⟩, eF, H⟩ := H
         (try dsimp only at H)
         have gZ := Aside0.mk eF
         clear eF
         replace H := Option.bind_eq_some_iff.mp H
         obtain ⟨bW, eG, H⟩ := H
         (try dsimp only at H)
         have hA := Aside0.mk eG
         clear eG
         replace H := Option.bind_eq_some_iff.mp H
         obtain ⟨dW, eH, H⟩ := H
         (try dsimp only at H)
         have hB := Aside0.mk eH
         clear eH
         by_cases eU : dW = true
         ·subst eU
          rw [if_pos rfl] at H
          replace H := Option.bind_eq_some_iff.mp H
          obtain ⟨bH, eI, H⟩ := H
          (try dsimp only at H)
          have hC := Aside0.mk eI
          clear eI
          by_cases eV : bH < 0
          ·rw [if_pos eV] at H
           exact absurd H (by simp)
          ·rw [if_neg eV] at H
           have gD : decide (bH < 0) = false := decide_eq_false eV
           clear eV
           by_cases eP : bH = bM
           ·rw [if_pos eP] at H
            have gE : (bH == bM) = true := beq_iff_eq.mpr eP
            have gF : (bH != bM) = false := bne_eq_false_iff_eq.mpr eP
            clear eP
            obtain rfl := Option.some.inj H
            go_wp2_with (first | ((with_reducible refine gate_callee (f := 14) rfl ?_); refine goesL_ (some 45) rfl rfl Try.func14 oK rfl #[.slice aV aI.length aW, .int .i64 1] rfl oA ?_; (with_reducible refine (laws_markByteS.calls kj16 (fun k_ => some k_ = (.slice aV aI.length aW : Value).ownBlock) (.slice aV aI.length aW) aI 1 bM bF w _ ?side1 ?side2 gX.out).mono ?_); (case side1 => exact oB HB); (case side2 => exact Kd.R_tight rfl aN.out); rintro e fT ⟨rfl, hy0, hb, hkp⟩; refine ⟨_, rfl, ?_⟩; have n_ := o2_ (Kd.R_mono (ok' := fun k_ => some k_ ≠ (.slice aV aI.length aW : Value).ownBlock) (Kd.R_keptB (aU.out) hkp (fun k_ hk_ hs_ => (hk_) hs_)) (fun k_ hk_ => by first | exact hk_.1 | exact hk_.1.1 | exact hk_.1 | exact hk_.2 | exact hk_.1.2 | (simp_all; done))) (o2_ (Kd.R_reok rfl hy0 (fun k_ e_ => aN.out.1 k_ e_)) (o2_ (Kd.R_mono (ok' := fun k_ => True) (Kd.R_keptB ((Kd.R_apart' aM.out (Kd.R_typed aN.out) oD)) hkp (fun k_ hk_ hs_ => (hk_.2) hs_)) (fun k_ hk_ => trivial)) (o2_ (blk_kept (oP aA) hkp (fun hs_ => (fun e_ => (Kd.R_ne aN.out aA.out oD) e_) hs_)) (o1_ (hb))))); clear aU aN aM aA HB; obtain ⟨aU, aN, aM, aA, HB⟩ := n_; (try clear hb); (try clear hkp); (try clear hy0)) | ((with_reducible refine gate_callee (f := 15) rfl ?_); refine goesL_ (some 48) rfl rfl Try.func15 oK rfl #[.slice aV bF.length aW, .int .i64 1] rfl (by (try simp only [List.map_toArray, List.map_cons, List.map_nil]); first | done | (rw [show bF.length = aI.length from (Kd.R_reads' aN.out).1.symm] <;> rfl) | rfl | (simp only [List.length_drop, List.length_take]; rfl)) ?_; (with_reducible refine (laws_heldByteS.calls kj16 _ _ bF 1 bG _ ?side1 ?side2 gY.out).mono ?_); (case side1 => repeat (first | exact (Kd.R_reads' aN.out).2.2 | (with_reducible refine Kd.C_alloc ?_ _) | (with_reducible refine Kd.C_drewN ?_ _) | (with_reducible refine Kd.C_drew ?_))); (case side2 => rw [show bF.length = aI.length from (Kd.R_reads' aN.out).1.symm]; exact (Kd.R_reads' aN.out).2.1); rintro e w' ⟨rfl, ⟨nd, rfl⟩⟩; refine ⟨_, rfl, ?_⟩; have gH := bB.out; have gJ := bC.out; have eW : fT.cell? ⟨aF, 0, none⟩ = some (.int .i64 a0_0) := (blk_cell aA.out 0).trans rfl; have eX : fT.cell? ⟨aF, 1, none⟩ = some (.int .i64 a0_1) := (blk_cell aA.out 1).trans rfl; have eY : fT.cell? ⟨aF, 2, none⟩ = some (.slice aP l0_2.length aR) := (blk_cell aA.out 2).trans rfl; have eZ := blk_frozen aA.out 0; have fA := blk_frozen aA.out 1; have fB := blk_frozen aA.out 2) | ((with_reducible refine gate_callee (f := 27) rfl ?_); refine goesL_ (some 55) rfl rfl Try.func27 oK rfl #[.agg #[.int .i64 a0_0, .int .i64 a0_1, .slice aP l0_2.length aR]] rfl oA ?_; (with_reducible refine (laws_toRasRaster.calls kj16 a0_0 a0_1 _ _ l0_2 dT dU dV _ ?side1 ?side2 gZ.out).mono ?_); (case side1 => repeat (first | exact (Kd.C_below bA.out (oB HB)) | (with_reducible refine Kd.C_alloc ?_ _) | (with_reducible refine Kd.C_drewN ?_ _) | (with_reducible refine Kd.C_drew ?_))); (case side2 => exact aZ.out); rintro e hS ⟨hL, rfl, ho0, hb⟩; refine ⟨_, rfl, ?_⟩; have n_ := o2_ (Kd.R_below (oR aU) hb) (o2_ (Kd.R_below (oR aN) hb) (o2_ (Kd.R_lower (Kd.R_new' ho0 (Kd.R_lt (oR aM))) (below_size (oB HB))) (o1_ (below_step (oB HB) hb)))); clear aU aN HB; obtain ⟨aU, aN, bQ, HB⟩ := n_; (try clear hb); (try clear hb2); (try clear hk); (try clear hi); (try clear ho0); obtain ⟨fD, fG, fM⟩ := Kd.R_slice bQ.out; subst fM) | ((with_reducible refine gate_callee (f := 40) rfl ?_); refine goesL_ (some 56) rfl rfl Try.func40 oK rfl #[.agg #[.int .i64 dT, .int .i64 dU, .slice fD dV.length fG]] rfl oA ?_; (with_reducible refine (impl_RasBytes.calls kj16 dT dU _ _ dV bW _ ?side1 ?side2 hA.out).mono ?_); (case side1 => repeat (first | exact (Kd.R_reads' bQ.out).2.2 | (with_reducible refine Kd.C_alloc ?_ _) | (with_reducible refine Kd.C_drewN ?_ _) | (with_reducible refine Kd.C_drew ?_))); (case side2 => exact (Kd.R_reads' bQ.out).2.1); rintro e hT ⟨hM, rfl, ho0, hb⟩; refine ⟨_, rfl, ?_⟩; have n_ := o2_ (Kd.R_elder' (oR aU) (Kd.R_base ho0) hb) (o2_ (Kd.R_elder' (oR aN) (Kd.R_base ho0) hb) (o2_ (Kd.R_lower (Kd.R_new' (Kd.R_new' ho0 (Kd.R_lt (oR aU))) (Kd.R_lt (oR aN))) (below_size (oB HB))) (o1_ (below_step (oB HB) hb)))); clear aU aN HB; obtain ⟨aU, aN, bR, HB⟩ := n_; (try clear hb); (try clear hb2); (try clear hk); (try clear hi); (try clear ho0); obtain ⟨fE, fH, fN⟩ := Kd.R_slice bR.out; subst fN) | ((with_reducible refine gate_callee (f := 13) rfl ?_); refine goesL_ (some 59) rfl rfl Try.func13 oK rfl #[.slice fE bW.length fH, .slice bJ aK.length bK] rfl oA ?_; (with_reducible refine (laws_eqByteS.calls kj16 _ _ bW _ _ aK true _ ?side1 ?side2 ?side3 ?side4 hB.out).mono ?_); (case side1 => repeat (first | exact (Kd.R_reads' bR.out).2.2 | (with_reducible refine Kd.C_alloc ?_ _) | (with_reducible refine Kd.C_drewN ?_ _) | (with_reducible refine Kd.C_drew ?_))); (case side2 => exact (Kd.R_reads' bR.out).2.1); (case side3 => repeat (first | exact (Kd.R_reads' aU.out).2.2 | (with_reducible refine Kd.C_alloc ?_ _) | (with_reducible refine Kd.C_drewN ?_ _) | (with_reducible refine Kd.C_drew ?_))); (case side4 => exact (Kd.R_reads' aU.out).2.1); rintro e w' ⟨rfl, ⟨nd, rfl⟩⟩; refine ⟨_, rfl, ?_⟩) | ((with_reducible refine gate_callee (f := 15) rfl ?_); refine goesL_ (some 63) rfl rfl Try.func15 oK rfl #[.slice aV bF.length aW, .int .i64 1] rfl (by (try simp only [List.map_toArray, List.map_cons, List.map_nil]); first | done | (rw [show bF.length = aI.length from (Kd.R_reads' aN.out).1.symm] <;> rfl) | rfl | (simp only [List.length_drop, List.length_take]; rfl)) ?_; (with_reducible refine (laws_heldByteS.calls kj16 _ _ bF 1 bH _ ?side1 ?side2 hC.out).mono ?_); (case side1 => repeat (first | exact (Kd.R_reads' aN.out).2.2 | (with_reducible refine Kd.C_alloc ?_ _) | (with_reducible refine Kd.C_drewN ?_ _) | (with_reducible refine Kd.C_drew ?_))); (case side2 => rw [show bF.length = aI.length from (Kd.R_reads' aN.out).1.symm]; exact (Kd.R_reads' aN.out).2.1); rintro e w' ⟨rfl, ⟨nd, rfl⟩⟩; refine ⟨_, rfl, ?_⟩))
            go_ret
            exact ⟨by first | rfl | (simp [errW_none, errW_some] <;> rfl) | (simp [*, errW_none, errW_some] <;> rfl), oB HB⟩
           ·rw [if_neg eP] at H
            exact absurd H (by simp)
         ·replace eU := Bool.eq_false_iff.mpr eU
          subst eU
          rw [if_neg (show ¬ (false = true) by decide)] at H
          exact absurd H (by simp)
        ·rw [if_neg eO] at H
         exact absurd H (by simp)
   ·replace eM := Bool.eq_false_iff.mpr eM
    subst eM
    rw [if_neg (show ¬ (false = true) by decide)] at H
    exact absurd H (by simp)
  ·replace eL := Bool.eq_false_iff.mpr eL
   subst eL
   rw [if_neg (show ¬ (false = true) by decide)] at H
   exact absurd H (by simp)
def laws_FnExactRasBytes.Pure : Prop := ∀ (a0_0 : Int) (a0_1 : Int) (l0_2 : List (S84)), (Lit.int .i64 a0_0).wf = true → (Lit.int .i64 a0_1).wf = true → l0_2.length ≤ maxLen → (∀ x ∈ l0_2, (Lit.int .i64 x.f0).wf = true ∧ (Lit.int .i64 x.f1).wf = true ∧ (Lit.int .i64 x.f2).wf = true ∧ (Lit.int .i64 x.f3).wf = true) → ∃ k, laws_FnExactRasBytes.f k a0_0 a0_1 l0_2 = some true

end Go.Proofs.Ytmkiajoanblkbaa.X
