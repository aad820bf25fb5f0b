/- What functions of the program come to, each with its proof. No condition but what each theorem states. -/
import Derived.Test.YthnmeogafklhnaaX0
import Derived.Test.YthnmeogafklhnaaX2
import Derived.Test.YthnmeogafklhnaaX9
import Derived.Test.YthnmeogafklhnaaX28
import Derived.Test.YthnmeogafklhnaaX43
import Derived.Test.YthnmeogafklhnaaX44
import Derived.Test.YthnmeogafklhnaaX45
namespace Go.Proofs.Ythnmeogafklhnaa.X
open Go.RowKit Go.Proofs.YthnmeogafklhnaaW.PrintWords Go.Proofs.YthnmeogafklhnaaW.PrintLast Go.Proofs.YthnmeogafklhnaaW.PrintMore Go.Proofs.Ythnmeogafklhnaa.Hyb
attribute [local go_sem] max2_int min2_int max_two min_two max_three min_three max_four min_four
set_option linter.unusedVariables false
set_option linter.unusedSimpArgs false

attribute [local go_sem high] eqA38
/-! ### laws_FnOpMoves: function 4 -/
mutual
def laws_FnOpMoves.j0 : Nat → Bool → Bool → Int → Int → List (S38) → Int → Int → Int → Int → Int → Int → Int → List (S38) → Option (Bool)
 | 0, _, _, _, _, _, _, _, _, _, _, _, _, _ => none
 | k + 1, x6, x41, x487000, x487001, x487002, x488000, x488001, x488002, x488003, x488004, x495000, x495001, x495002 => if x41 = true then (none) else (if x6 = true then (if x488000 = 2 then (laws_FnOpMoves.j1 k false x487000 x487001 x487002 x495000 x495001 x495002) else (if x488000 = 3 then (laws_FnOpMoves.j1 k false x487000 x487001 x487002 x495000 x495001 x495002) else (laws_FnOpMoves.j1 k (x488000 != 4) x487000 x487001 x487002 x495000 x495001 x495002))) else (laws_FnOpMoves.j1 k true x487000 x487001 x487002 x495000 x495001 x495002))
def laws_FnOpMoves.j1 : Nat → Bool → Int → Int → List (S38) → Int → Int → List (S38) → Option (Bool)
 | 0, _, _, _, _, _, _, _ => none
 | k + 1, x58, x487000, x487001, x487002, x495000, x495001, x495002 => if x58 = true then ((laws_eaOk.f).bind fun iV => (some iV)) else (laws_FnOpMoves.l0 k 0 x487000 x487001 x487002 x495000 x495001 x495002)
def laws_FnOpMoves.l0 : Nat → Int → Int → Int → List (S38) → Int → Int → List (S38) → Option (Bool)
 | 0, _, _, _, _, _, _, _ => none
 | k + 1, x9, x487000, x487001, x487002, x495000, x495001, x495002 => if x9 < (x487002.length : Int) then (laws_FnOpMoves.l1 k x9 0 0 0 x487000 x487001 x487002 x495000 x495001 x495002) else (some true)
def laws_FnOpMoves.l1 : Nat → Int → Int → Int → Int → Int → Int → List (S38) → Int → Int → List (S38) → Option (Bool)
 | 0, _, _, _, _, _, _, _, _, _, _ => none
 | k + 1, x9, x10, x11, x12, x487000, x487001, x487002, x495000, x495001, x495002 => if x12 < (x487002.length : Int) then (if 0 ≤ x12 then (if 0 ≤ x9 then (if x9 < (x487002.length : Int) then (if (((rd_T38 x487002 x12).f0) == ((rd_T38 x487002 x9).f0) && (((rd_T38 x487002 x12).f1) == ((rd_T38 x487002 x9).f1) && (((rd_T38 x487002 x12).f2) == ((rd_T38 x487002 x9).f2) && (((rd_T38 x487002 x12).f3) == ((rd_T38 x487002 x9).f3))))) = true then (if x12 < (x495002.length : Int) then (if (((rd_T38 x495002 x12).f0) == ((rd_T38 x487002 x9).f0) && (((rd_T38 x495002 x12).f1) == ((rd_T38 x487002 x9).f1) && (((rd_T38 x495002 x12).f2) == ((rd_T38 x487002 x9).f2) && (((rd_T38 x495002 x12).f3) == ((rd_T38 x487002 x9).f3))))) = true then (laws_FnOpMoves.l1 k x9 (wrap64 (x10 + 1)) (wrap64 (x11 + 1)) (wrap64 (x12 + 1)) x487000 x487001 x487002 x495000 x495001 x495002) else (laws_FnOpMoves.l1 k x9 (wrap64 (x10 + 1)) x11 (wrap64 (x12 + 1)) x487000 x487001 x487002 x495000 x495001 x495002)) else (none)) else (if x12 < (x495002.length : Int) then (if (((rd_T38 x495002 x12).f0) == ((rd_T38 x487002 x9).f0) && (((rd_T38 x495002 x12).f1) == ((rd_T38 x487002 x9).f1) && (((rd_T38 x495002 x12).f2) == ((rd_T38 x487002 x9).f2) && (((rd_T38 x495002 x12).f3) == ((rd_T38 x487002 x9).f3))))) = true then (laws_FnOpMoves.l1 k x9 x10 (wrap64 (x11 + 1)) (wrap64 (x12 + 1)) x487000 x487001 x487002 x495000 x495001 x495002) else (laws_FnOpMoves.l1 k x9 x10 x11 (wrap64 (x12 + 1)) x487000 x487001 x487002 x495000 x495001 x495002)) else (none))) else (none)) else (none)) else (none)) else (if x10 = x11 then (laws_FnOpMoves.l0 k (wrap64 (x9 + 1)) x487000 x487001 x487002 x495000 x495001 x495002) else (none))
end
def laws_FnOpMoves.f (k : Nat) (l0 : List Int) : Option (Bool) := if (l0.length : Int) > 1048576 then (some true) else ((spec_DrawOpDo.f k l0).bind fun aI => ((impl_OpDo.f k aI.1 aI.2.1 aI.2.2.1 aI.2.2.2.1 aI.2.2.2.2.1 aI.2.2.2.2.2.1 aI.2.2.2.2.2.2.1 aI.2.2.2.2.2.2.2).bind fun aU => ((spec_OpDo.f k aI.1 aI.2.1 aI.2.2.1 aI.2.2.2.1 aI.2.2.2.2.1 aI.2.2.2.2.2.1 aI.2.2.2.2.2.2.1 aI.2.2.2.2.2.2.2).bind fun cF => ((laws_eaRas.f k aU.1 aU.2.1 aU.2.2.1 cF.1 cF.2.1 cF.2.2.1).bind fun hK => (if hK = true then (laws_FnOpMoves.j0 k aU.2.2.2 (aU.2.2.2 != cF.2.2.2) aI.1 aI.2.1 aI.2.2.1 aI.2.2.2.1 aI.2.2.2.2.1 aI.2.2.2.2.2.1 aI.2.2.2.2.2.2.1 aI.2.2.2.2.2.2.2 aU.1 aU.2.1 aU.2.2.1) else (laws_FnOpMoves.j0 k aU.2.2.2 true aI.1 aI.2.1 aI.2.2.1 aI.2.2.2.1 aI.2.2.2.2.1 aI.2.2.2.2.2.1 aI.2.2.2.2.2.2.1 aI.2.2.2.2.2.2.2 aU.1 aU.2.1 aU.2.2.1))))))
theorem laws_FnOpMoves.mono_l : ∀ k, (∀ y0 y1 y2 y3 y4 y5 y6 y7 y8 y9 nF nG nH, LeO (laws_FnOpMoves.j0 k y0 y1 y2 y3 y4 y5 y6 y7 y8 y9 nF nG nH) (laws_FnOpMoves.j0 (k + 1) y0 y1 y2 y3 y4 y5 y6 y7 y8 y9 nF nG nH)) ∧ (∀ y0 y1 y2 y3 y4 y5 y6, LeO (laws_FnOpMoves.j1 k y0 y1 y2 y3 y4 y5 y6) (laws_FnOpMoves.j1 (k + 1) y0 y1 y2 y3 y4 y5 y6)) ∧ (∀ y0 y1 y2 y3 y4 y5 y6, LeO (laws_FnOpMoves.l0 k y0 y1 y2 y3 y4 y5 y6) (laws_FnOpMoves.l0 (k + 1) y0 y1 y2 y3 y4 y5 y6)) ∧ (∀ y0 y1 y2 y3 y4 y5 y6 y7 y8 y9, LeO (laws_FnOpMoves.l1 k y0 y1 y2 y3 y4 y5 y6 y7 y8 y9) (laws_FnOpMoves.l1 (k + 1) y0 y1 y2 y3 y4 y5 y6 y7 y8 y9))
 | 0 => ⟨(fun _ _ _ _ _ _ _ _ _ _ _ _ _ r h => nomatch (show none = some r from h)), (fun _ _ _ _ _ _ _ r h => nomatch (show none = some r from h)), (fun _ _ _ _ _ _ _ r h => nomatch (show none = some r from h)), (fun _ _ _ _ _ _ _ _ _ _ r h => nomatch (show none = some r from h))⟩
 | k + 1 => by
  obtain ⟨ih0, ih1, ih2, ih3⟩ := laws_FnOpMoves.mono_l k
  refine ⟨?_, ?_, ?_, ?_⟩
  ·intro y0 y1 y2 y3 y4 y5 y6 y7 y8 y9 nF nG nH
   unfold laws_FnOpMoves.j0
   repeat' first
   | (with_reducible exact ih0 _ _ _ _ _ _ _ _ _ _ _ _ _)
   | (with_reducible exact ih1 _ _ _ _ _ _ _)
   | (with_reducible exact ih2 _ _ _ _ _ _ _)
   | (with_reducible exact ih3 _ _ _ _ _ _ _ _ _ _)
   | (with_reducible exact impl_OpDo.mono _ _ _ _ _ _ _ _ _)
   | (with_reducible exact laws_eaRas.mono _ _ _ _ _ _ _)
   | (with_reducible exact spec_DrawOpDo.mono _ _)
   | (with_reducible exact spec_OpDo.mono _ _ _ _ _ _ _ _ _)
   | (with_reducible exact LeO.refl _)
   | (with_reducible exact LeO.none _)
   | (with_reducible refine LeO.ite ?_ ?_)
   | (with_reducible refine LeO.bind ?_ (fun _ => ?_))
   | exact ih0 _ _ _ _ _ _ _ _ _ _ _ _ _
   | exact ih1 _ _ _ _ _ _ _
   | exact ih2 _ _ _ _ _ _ _
   | exact ih3 _ _ _ _ _ _ _ _ _ _
   | exact impl_OpDo.mono _ _ _ _ _ _ _ _ _
   | exact laws_eaRas.mono _ _ _ _ _ _ _
   | exact spec_DrawOpDo.mono _ _
   | exact spec_OpDo.mono _ _ _ _ _ _ _ _ _
   | exact LeO.none _
   | refine LeO.ite ?_ ?_
   | refine LeO.bind ?_ (fun _ => ?_)
  ·intro y0 y1 y2 y3 y4 y5 y6
   unfold laws_FnOpMoves.j1
   repeat' first
   | (with_reducible exact ih0 _ _ _ _ _ _ _ _ _ _ _ _ _)
   | (with_reducible exact ih1 _ _ _ _ _ _ _)
   | (with_reducible exact ih2 _ _ _ _ _ _ _)
   | (with_reducible exact ih3 _ _ _ _ _ _ _ _ _ _)
   | (with_reducible exact impl_OpDo.mono _ _ _ _ _ _ _ _ _)
   | (with_reducible exact laws_eaRas.mono _ _ _ _ _ _ _)
   | (with_reducible exact spec_DrawOpDo.mono _ _)
   | (with_reducible exact spec_OpDo.mono _ _ _ _ _ _ _ _ _)
   | (with_reducible exact LeO.refl _)
   | (with_reducible exact LeO.none _)
   | (with_reducible refine LeO.ite ?_ ?_)
   | (with_reducible refine LeO.bind ?_ (fun _ => ?_))
   | exact ih0 _ _ _ _ _ _ _ _ _ _ _ _ _
   | exact ih1 _ _ _ _ _ _ _
   | exact ih2 _ _ _ _ _ _ _
   | exact ih3 _ _ _ _ _ _ _ _ _ _
   | exact impl_OpDo.mono _ _ _ _ _ _ _ _ _
   | exact laws_eaRas.mono _ _ _ _ _ _ _
   | exact spec_DrawOpDo.mono _ _
   | exact spec_OpDo.mono _ _ _ _ _ _ _ _ _
   | exact LeO.none _
   | refine LeO.ite ?_ ?_
   | refine LeO.bind ?_ (fun _ => ?_)
  ·intro y0 y1 y2 y3 y4 y5 y6
   unfold laws_FnOpMoves.l0
   repeat' first
   | (with_reducible exact ih0 _ _ _ _ _ _ _ _ _ _ _ _ _)
   | (with_reducible exact ih1 _ _ _ _ _ _ _)
   | (with_reducible exact ih2 _ _ _ _ _ _ _)
   | (with_reducible exact ih3 _ _ _ _ _ _ _ _ _ _)
   | (with_reducible exact impl_OpDo.mono _ _ _ _ _ _ _ _ _)
   | (with_reducible exact laws_eaRas.mono _ _ _ _ _ _ _)
   | (with_reducible exact spec_DrawOpDo.mono _ _)
   | (with_reducible exact spec_OpDo.mono _ _ _ _ _ _ _ _ _)
   | (with_reducible exact LeO.refl _)
   | (with_reducible exact LeO.none _)
   | (with_reducible refine LeO.ite ?_ ?_)
   | (with_reducible refine LeO.bind ?_ (fun _ => ?_))
   | exact ih0 _ _ _ _ _ _ _ _ _ _ _ _ _
   | exact ih1 _ _ _ _ _ _ _
   | exact ih2 _ _ _ _ _ _ _
   | exact ih3 _ _ _ _ _ _ _ _ _ _
   | exact impl_OpDo.mono _ _ _ _ _ _ _ _ _
   | exact laws_eaRas.mono _ _ _ _ _ _ _
   | exact spec_DrawOpDo.mono _ _
   | exact spec_OpDo.mono _ _ _ _ _ _ _ _ _
   | exact LeO.none _
   | refine LeO.ite ?_ ?_
   | refine LeO.bind ?_ (fun _ => ?_)
  ·intro y0 y1 y2 y3 y4 y5 y6 y7 y8 y9
   unfold laws_FnOpMoves.l1
   repeat' first
   | (with_reducible exact ih0 _ _ _ _ _ _ _ _ _ _ _ _ _)
   | (with_reducible exact ih1 _ _ _ _ _ _ _)
   | (with_reducible exact ih2 _ _ _ _ _ _ _)
   | (with_reducible exact ih3 _ _ _ _ _ _ _ _ _ _)
   | (with_reducible exact impl_OpDo.mono _ _ _ _ _ _ _ _ _)
   | (with_reducible exact laws_eaRas.mono _ _ _ _ _ _ _)
   | (with_reducible exact spec_DrawOpDo.mono _ _)
   | (with_reducible exact spec_OpDo.mono _ _ _ _ _ _ _ _ _)
   | (with_reducible exact LeO.refl _)
   | (with_reducible exact LeO.none _)
   | (with_reducible refine LeO.ite ?_ ?_)
   | (with_reducible refine LeO.bind ?_ (fun _ => ?_))
   | exact ih0 _ _ _ _ _ _ _ _ _ _ _ _ _
   | exact ih1 _ _ _ _ _ _ _
   | exact ih2 _ _ _ _ _ _ _
   | exact ih3 _ _ _ _ _ _ _ _ _ _
   | exact impl_OpDo.mono _ _ _ _ _ _ _ _ _
   | exact laws_eaRas.mono _ _ _ _ _ _ _
   | exact spec_DrawOpDo.mono _ _
   | exact spec_OpDo.mono _ _ _ _ _ _ _ _ _
   | exact LeO.none _
   | refine LeO.ite ?_ ?_
   | refine LeO.bind ?_ (fun _ => ?_)
theorem laws_FnOpMoves.mono : ∀ a0 k, LeO (laws_FnOpMoves.f k a0) (laws_FnOpMoves.f (k + 1) a0) := by
 intro a0 k
 obtain ⟨ih0, ih1, ih2, ih3⟩ := laws_FnOpMoves.mono_l k
 unfold laws_FnOpMoves.f
 repeat' first
   | (with_reducible exact ih0 _ _ _ _ _ _ _ _ _ _ _ _ _)
   | (with_reducible exact ih1 _ _ _ _ _ _ _)
   | (with_reducible exact ih2 _ _ _ _ _ _ _)
   | (with_reducible exact ih3 _ _ _ _ _ _ _ _ _ _)
   | (with_reducible exact impl_OpDo.mono _ _ _ _ _ _ _ _ _)
   | (with_reducible exact laws_eaRas.mono _ _ _ _ _ _ _)
   | (with_reducible exact spec_DrawOpDo.mono _ _)
   | (with_reducible exact spec_OpDo.mono _ _ _ _ _ _ _ _ _)
   | (with_reducible exact LeO.refl _)
   | (with_reducible exact LeO.none _)
   | (with_reducible refine LeO.ite ?_ ?_)
   | (with_reducible refine LeO.bind ?_ (fun _ => ?_))
   | exact ih0 _ _ _ _ _ _ _ _ _ _ _ _ _
   | exact ih1 _ _ _ _ _ _ _
   | exact ih2 _ _ _ _ _ _ _
   | exact ih3 _ _ _ _ _ _ _ _ _ _
   | exact impl_OpDo.mono _ _ _ _ _ _ _ _ _
   | exact laws_eaRas.mono _ _ _ _ _ _ _
   | exact spec_DrawOpDo.mono _ _
   | exact spec_OpDo.mono _ _ _ _ _ _ _ _ _
   | exact LeO.none _
   | refine LeO.ite ?_ ?_
   | refine LeO.bind ?_ (fun _ => ?_)
set_option maxHeartbeats 8000000 in
set_option maxRecDepth 100000 in
theorem laws_FnOpMoves.calls (k : Nat) (A0 : Option Addr) (c0 : Nat) (l0 : List Int) (r : Bool) (w : World) (hr0 : Kd.C (Kd.int .u8) w A0 l0.length l0) (kW : l0.length ≤ c0) (h : laws_FnOpMoves.f k l0 = some r) :
  Calls Try.prog 4 #[.slice A0 l0.length c0] w fun e w' => e = .returned (.bool r) ∧ Below w.heap.size w w' := by
 have hu25 := Try.underlying25
 have hu27 := Try.underlying27
 have hu38 := Try.underlying38
 have sJ := Aside0.mk hr0
 have sI := Aside0.mk kW
 clear hr0 kW
 have HB := Aside0.mk (Below.refl w.heap.size w)
 have H : (if (l0.length : Int) > 1048576 then (some true) else ((spec_DrawOpDo.f k l0).bind fun aI => ((impl_OpDo.f k aI.1 aI.2.1 aI.2.2.1 aI.2.2.2.1 aI.2.2.2.2.1 aI.2.2.2.2.2.1 aI.2.2.2.2.2.2.1 aI.2.2.2.2.2.2.2).bind fun aU => ((spec_OpDo.f k aI.1 aI.2.1 aI.2.2.1 aI.2.2.2.1 aI.2.2.2.2.1 aI.2.2.2.2.2.1 aI.2.2.2.2.2.2.1 aI.2.2.2.2.2.2.2).bind fun cF => ((laws_eaRas.f k aU.1 aU.2.1 aU.2.2.1 cF.1 cF.2.1 cF.2.2.1).bind fun hK => (if hK = true then (laws_FnOpMoves.j0 k aU.2.2.2 (aU.2.2.2 != cF.2.2.2) aI.1 aI.2.1 aI.2.2.1 aI.2.2.2.1 aI.2.2.2.2.1 aI.2.2.2.2.2.1 aI.2.2.2.2.2.2.1 aI.2.2.2.2.2.2.2 aU.1 aU.2.1 aU.2.2.1) else (laws_FnOpMoves.j0 k aU.2.2.2 true aI.1 aI.2.1 aI.2.2.1 aI.2.2.2.1 aI.2.2.2.2.1 aI.2.2.2.2.2.1 aI.2.2.2.2.2.2.1 aI.2.2.2.2.2.2.2 aU.1 aU.2.1 aU.2.2.1))))))) = some r := h
 clear h
 by_cases c2 : (l0.length : Int) > 1048576
 ·rw [if_pos c2] at H
  have hF : decide (1048576 < (l0.length : Int)) = true := decide_eq_true c2
  have hG : decide (1048576 < l0.length) = true := decide_eq_true (by omega)
  clear c2
  obtain rfl := Option.some.inj H
  go_enter Try.func4, Try.ntmps4
  go_wp2
  repeat (go_quiet (fail); try go_wp2)
  go_ret
  exact ⟨by first | rfl | (simp [errW_none, errW_some] <;> rfl) | (simp [*, errW_none, errW_some] <;> rfl), oB HB⟩
 ·rw [if_neg c2] at H
  have hF : decide (1048576 < (l0.length : Int)) = false := decide_eq_false c2
  have hG : decide (1048576 < l0.length) = false := decide_eq_false (by omega)
  clear c2
  replace H := Option.bind_eq_some_iff.mp H
  obtain ⟨⟨bO, bP, aB, bK, bV, bW, bX, bY⟩, nJ, H⟩ := H
  (try dsimp only at H)
  have A3 := Aside0.mk nJ
  clear nJ
  replace H := Option.bind_eq_some_iff.mp H
  obtain ⟨⟨bQ, bR, aG, iK⟩, nK, H⟩ := H
  (try dsimp only at H)
  have A4 := Aside0.mk nK
  clear nK
  replace H := Option.bind_eq_some_iff.mp H
  obtain ⟨⟨bS, bT, aT, kQ⟩, nL, H⟩ := H
  (try dsimp only at H)
  have A5 := Aside0.mk nL
  clear nL
  have mB := Aside0.mk H
  clear H
  go_enter Try.func4, Try.ntmps4
  go_upto_region 6 with (first | (go_at_call 18; (with_reducible refine (spec_DrawOpDo.calls k _ _ l0 bO bP aB bK bV bW bX bY _ ?side1 ?side2 A3.out).mono ?_); (case side1 => repeat (first | exact sJ.out | (with_reducible refine Kd.C_alloc ?_ _) | (with_reducible refine Kd.C_drewN ?_ _) | (with_reducible refine Kd.C_drew ?_))); (case side2 => exact sI.out); rintro e w7 ⟨sO, rfl, ho0, hb⟩; have n_ := o2_ (Kd.Q_lower ho0 (below_size (oB HB))) (o1_ (below_step (oB HB) hb)); clear HB; obtain ⟨aR, HB⟩ := n_; (try clear hb); (try clear hb2); (try clear hk); (try clear hi); (try clear ho0)) | ((with_reducible refine gate_dst (N := 3) rfl ?_); refine box_event rfl (N := 3) rfl (cs := #[.int .i64 0, .int .i64 0, .slice none 0 0]) (t := 25) oS ?_; intro aN hg w8 hbox hb; have n_ := o2_ (Kd.Q_below (oQ aR) hb) (o2_ (below_step (oB HB) hb) (o2_ (hbox) (o2_ ((oG hg (below_size (oB HB)) : w.heap.size ≤ aN)) (o1_ ((oG hg (below_size (oB HB)) : w.heap.size ≤ aN)))))); clear aR HB; obtain ⟨aR, HB, aC, nQ, nM⟩ := n_; clear hb hbox hg) | ((with_reducible refine gate_dst (N := 4) rfl ?_); refine box_event rfl (N := 4) rfl (cs := #[.int .i64 0, .int .i64 0, .int .i64 0, .int .i64 0, .int .i64 0]) (t := 27) oS ?_; intro aL hg w9 hbox hb; have n_ := o2_ (Kd.Q_below (oQ aR) hb) (o2_ (blk_below (oP aC) hb) (o2_ (below_step (oB HB) hb) (o2_ (hbox) (o2_ ((oG hg (below_size (oB HB)) : w.heap.size ≤ aL)) (o2_ ((oG hg (below_size (oB HB)) : w.heap.size ≤ aL)) (o2_ ((oL hg (blk_lt (oP aC)))) (o1_ ((oN hg (blk_lt (oP aC))))))))))); clear aR aC HB; obtain ⟨aR, aC, HB, aD, nR, nN, aQ, aS⟩ := n_; clear hb hbox hg; have pB := aQ.out; have qR := aS.out; have cH : w9.cell? ⟨aN, 0, none⟩ = some (.int .i64 0) := (blk_cell aC.out 0).trans rfl; have cI : w9.cell? ⟨aN, 1, none⟩ = some (.int .i64 0) := (blk_cell aC.out 1).trans rfl; have cJ : w9.cell? ⟨aN, 2, none⟩ = some (.slice none 0 0) := (blk_cell aC.out 2).trans rfl; have dP := blk_frozen aC.out 0; have dQ := blk_frozen aC.out 1; have dR := blk_frozen aC.out 2; obtain ⟨bE, bC, mE, _⟩ := Kd.Q_slice aR.out; subst mE; have cK : w9.cell? ⟨aL, 0, none⟩ = some (.int .i64 0) := (blk_cell aD.out 0).trans rfl; have cL : w9.cell? ⟨aL, 1, none⟩ = some (.int .i64 0) := (blk_cell aD.out 1).trans rfl; have cM : w9.cell? ⟨aL, 2, none⟩ = some (.int .i64 0) := (blk_cell aD.out 2).trans rfl; have cN : w9.cell? ⟨aL, 3, none⟩ = some (.int .i64 0) := (blk_cell aD.out 3).trans rfl; have cO : w9.cell? ⟨aL, 4, none⟩ = some (.int .i64 0) := (blk_cell aD.out 4).trans rfl; have dS := blk_frozen aD.out 0; have dT := blk_frozen aD.out 1; have dU := blk_frozen aD.out 2; have dV := blk_frozen aD.out 3; have dW := blk_frozen aD.out 4) | (go_at_call 19; (with_reducible refine (impl_OpDo.calls k bO bP _ _ aB bK bV bW bX bY bQ bR aG iK _ ?side1 ?side2 A4.out).mono ?_); (case side1 => refine (Kd.Q_reads' (e := 38) (base := w.heap.size) (ok := fun k_ => True) (n := aB.length) (c := bC) ?_).2.2; exact (by (with_reducible repeat (first | apply Kd.Q_alloc | apply Kd.Q_drewN | apply Kd.Q_drew)); exact (Kd.Q_mono (Kd.Q_mono (Kd.Q_far (p := ⟨aL, 4, none⟩) (Kd.Q_far (p := ⟨aL, 3, none⟩) (Kd.Q_far (p := ⟨aL, 2, none⟩) (Kd.Q_far (p := ⟨aL, 1, none⟩) (Kd.Q_far (p := ⟨aL, 0, none⟩) (Kd.Q_far (p := ⟨aN, 2, none⟩) (Kd.Q_far (p := ⟨aN, 1, none⟩) (Kd.Q_far (p := ⟨aN, 0, none⟩) (Kd.Q_types (Kd.Q_types aR.out aC.out oD) aD.out oD) (fun _ hk => by first | exact hk.1.2 | exact trivial | (revert hk; simp; done) | (simp_all; done)) (.int .i64 bO)) (fun _ hk => by first | exact hk.1.2 | exact trivial | (revert hk; simp; done) | (simp_all; done)) (.int .i64 bP)) (fun _ hk => by first | exact hk.1.2 | exact trivial | (revert hk; simp; done) | (simp_all; done)) (.slice bE aB.length bC)) oX2 (.int .i64 bK)) oX2 (.int .i64 bV)) oX2 (.int .i64 bW)) oX2 (.int .i64 bX)) oX2 (.int .i64 bY)) (fun _ h_ => h_.1)) (fun _ h_ => h_.1)))); (case side2 => exact (Kd.Q_reads' aR.out).2.1); rintro e sS ⟨sP, rfl, ho0, hb⟩; have n_ := o2_ (Kd.Q_elder' (by (with_reducible repeat (first | apply Kd.Q_alloc | apply Kd.Q_drewN | apply Kd.Q_drew)); exact (Kd.Q_mono (Kd.Q_mono (Kd.Q_far (p := ⟨aL, 4, none⟩) (Kd.Q_far (p := ⟨aL, 3, none⟩) (Kd.Q_far (p := ⟨aL, 2, none⟩) (Kd.Q_far (p := ⟨aL, 1, none⟩) (Kd.Q_far (p := ⟨aL, 0, none⟩) (Kd.Q_far (p := ⟨aN, 2, none⟩) (Kd.Q_far (p := ⟨aN, 1, none⟩) (Kd.Q_far (p := ⟨aN, 0, none⟩) (Kd.Q_types (Kd.Q_types aR.out aC.out oD) aD.out oD) (fun _ hk => by first | exact hk.1.2 | exact trivial | (revert hk; simp; done) | (simp_all; done)) (.int .i64 bO)) (fun _ hk => by first | exact hk.1.2 | exact trivial | (revert hk; simp; done) | (simp_all; done)) (.int .i64 bP)) (fun _ hk => by first | exact hk.1.2 | exact trivial | (revert hk; simp; done) | (simp_all; done)) (.slice bE aB.length bC)) oX2 (.int .i64 bK)) oX2 (.int .i64 bV)) oX2 (.int .i64 bW)) oX2 (.int .i64 bX)) oX2 (.int .i64 bY)) (fun _ h_ => h_.1)) (fun _ h_ => h_.1))) (Kd.R_base ho0) hb) (o2_ (Kd.R_lower (Kd.R_new' ho0 (Kd.Q_lt (by (with_reducible repeat (first | apply Kd.Q_alloc | apply Kd.Q_drewN | apply Kd.Q_drew)); exact (Kd.Q_mono (Kd.Q_mono (Kd.Q_far (p := ⟨aL, 4, none⟩) (Kd.Q_far (p := ⟨aL, 3, none⟩) (Kd.Q_far (p := ⟨aL, 2, none⟩) (Kd.Q_far (p := ⟨aL, 1, none⟩) (Kd.Q_far (p := ⟨aL, 0, none⟩) (Kd.Q_far (p := ⟨aN, 2, none⟩) (Kd.Q_far (p := ⟨aN, 1, none⟩) (Kd.Q_far (p := ⟨aN, 0, none⟩) (Kd.Q_types (Kd.Q_types aR.out aC.out oD) aD.out oD) (fun _ hk => by first | exact hk.1.2 | exact trivial | (revert hk; simp; done) | (simp_all; done)) (.int .i64 bO)) (fun _ hk => by first | exact hk.1.2 | exact trivial | (revert hk; simp; done) | (simp_all; done)) (.int .i64 bP)) (fun _ hk => by first | exact hk.1.2 | exact trivial | (revert hk; simp; done) | (simp_all; done)) (.slice bE aB.length bC)) oX2 (.int .i64 bK)) oX2 (.int .i64 bV)) oX2 (.int .i64 bW)) oX2 (.int .i64 bX)) oX2 (.int .i64 bY)) (fun _ h_ => h_.1)) (fun _ h_ => h_.1))))) (below_size (oB HB))) (o2_ (blk_below (g := aN) (o := .cells #[.int .i64 bO, .int .i64 bP, .slice bE aB.length bC] 25 (0, 0)) (blk_far (blk_far (blk_far (blk_far (blk_far (blk_put (blk_put (blk_put (oP aC) 0 _ rfl) 1 _ rfl) 2 _ rfl) aQ.out _) aQ.out _) aQ.out _) aQ.out _) aQ.out _) hb) (o2_ (blk_below (g := aL) (o := .cells #[.int .i64 bK, .int .i64 bV, .int .i64 bW, .int .i64 bX, .int .i64 bY] 27 (0, 0)) (blk_put (blk_put (blk_put (blk_put (blk_put (oP aD) 0 _ rfl) 1 _ rfl) 2 _ rfl) 3 _ rfl) 4 _ rfl) hb) (o1_ (below_step (oB HB) hb))))); clear aR aC aD HB; obtain ⟨aR, bB, aC, aD, HB⟩ := n_; (try clear hb); (try clear hb2); (try clear hk); (try clear hi); (try clear ho0)) | ((with_reducible refine gate_dst (N := 5) rfl ?_); refine box_event rfl (N := 5) rfl (cs := #[.int .i64 0, .int .i64 0, .slice none 0 0]) (t := 25) oS ?_; intro aO hg hL hbox hb; have n_ := o2_ (Kd.Q_below (oQ aR) hb) (o2_ (Kd.R_below (oR bB) hb) (o2_ (blk_below (oP aC) hb) (o2_ (blk_below (oP aD) hb) (o2_ (below_step (oB HB) hb) (o2_ (hbox) (o2_ ((oG hg (below_size (oB HB)) : w.heap.size ≤ aO)) (o2_ ((oG hg (below_size (oB HB)) : w.heap.size ≤ aO)) (o2_ ((oL hg (blk_lt (oP aC)))) (o2_ ((oN hg (blk_lt (oP aC)))) (o2_ ((oL hg (blk_lt (oP aD)))) (o1_ ((oN hg (blk_lt (oP aD))))))))))))))); clear aR bB aC aD HB; obtain ⟨aR, bB, aC, aD, HB, aF, nS, nO, aV, aY, aX, aZ⟩ := n_; clear hb hbox hg; have pC := aY.out; have qS := aV.out; have pD := aZ.out; have qT := aX.out; have cP : hL.cell? ⟨aO, 0, none⟩ = some (.int .i64 0) := (blk_cell aF.out 0).trans rfl; have cQ : hL.cell? ⟨aO, 1, none⟩ = some (.int .i64 0) := (blk_cell aF.out 1).trans rfl; have cR : hL.cell? ⟨aO, 2, none⟩ = some (.slice none 0 0) := (blk_cell aF.out 2).trans rfl; have dX := blk_frozen aF.out 0; have dY := blk_frozen aF.out 1; have dZ := blk_frozen aF.out 2; obtain ⟨bG, bD, mF⟩ := Kd.R_slice bB.out; subst mF; have cS : hL.cell? ⟨aN, 0, none⟩ = some (.int .i64 bO) := (blk_cell aC.out 0).trans rfl; have cT : hL.cell? ⟨aN, 1, none⟩ = some (.int .i64 bP) := (blk_cell aC.out 1).trans rfl; have cU : hL.cell? ⟨aN, 2, none⟩ = some (.slice bE aB.length bC) := (blk_cell aC.out 2).trans rfl; have eA := blk_frozen aC.out 0; have eB := blk_frozen aC.out 1; have eC := blk_frozen aC.out 2; have cV : hL.cell? ⟨aL, 0, none⟩ = some (.int .i64 bK) := (blk_cell aD.out 0).trans rfl; have cW : hL.cell? ⟨aL, 1, none⟩ = some (.int .i64 bV) := (blk_cell aD.out 1).trans rfl; have cX : hL.cell? ⟨aL, 2, none⟩ = some (.int .i64 bW) := (blk_cell aD.out 2).trans rfl; have cY : hL.cell? ⟨aL, 3, none⟩ = some (.int .i64 bX) := (blk_cell aD.out 3).trans rfl; have cZ : hL.cell? ⟨aL, 4, none⟩ = some (.int .i64 bY) := (blk_cell aD.out 4).trans rfl; have eD := blk_frozen aD.out 0; have eE := blk_frozen aD.out 1; have eF := blk_frozen aD.out 2; have eG := blk_frozen aD.out 3; have eH := blk_frozen aD.out 4) | (go_at_call 20; (with_reducible refine (spec_OpDo.calls k bO bP _ _ aB bK bV bW bX bY bS bT aT kQ _ ?side1 ?side2 A5.out).mono ?_); (case side1 => refine (Kd.Q_reads' (e := 38) (base := w.heap.size) (ok := fun k_ => (True ∧ some k_ ≠ (.slice bG aG.length bD : Value).ownBlock)) (n := aB.length) (c := bC) ?_).2.2; exact (by (with_reducible repeat (first | apply Kd.Q_alloc | apply Kd.Q_drewN | apply Kd.Q_drew)); exact (Kd.Q_mono (Kd.Q_far (p := ⟨aO, 2, none⟩) (Kd.Q_far (p := ⟨aO, 1, none⟩) (Kd.Q_far (p := ⟨aO, 0, none⟩) (Kd.Q_types aR.out aF.out oD) oX2 (.int .i64 bQ)) oX2 (.int .i64 bR)) oX2 (.slice bG aG.length bD)) (fun _ h_ => h_.1)))); (case side2 => exact (Kd.Q_reads' aR.out).2.1); rintro e sT ⟨sQ, rfl, ho0, hb⟩; have n_ := o2_ (Kd.Q_elder' (by (with_reducible repeat (first | apply Kd.Q_alloc | apply Kd.Q_drewN | apply Kd.Q_drew)); exact (Kd.Q_mono (Kd.Q_far (p := ⟨aO, 2, none⟩) (Kd.Q_far (p := ⟨aO, 1, none⟩) (Kd.Q_far (p := ⟨aO, 0, none⟩) (Kd.Q_types aR.out aF.out oD) oX2 (.int .i64 bQ)) oX2 (.int .i64 bR)) oX2 (.slice bG aG.length bD)) (fun _ h_ => h_.1))) (Kd.R_base ho0) hb) (o2_ (Kd.R_elder' (by (with_reducible repeat (first | apply Kd.R_alloc | apply Kd.R_drewN | apply Kd.R_drew)); exact (Kd.R_mono (Kd.R_far (p := ⟨aO, 2, none⟩) (Kd.R_far (p := ⟨aO, 1, none⟩) (Kd.R_far (p := ⟨aO, 0, none⟩) (Kd.R_types bB.out aF.out oD) oX2 (.int .i64 bQ)) oX2 (.int .i64 bR)) oX2 (.slice bG aG.length bD)) (fun _ h_ => h_.1))) (Kd.R_base ho0) hb) (o2_ (Kd.R_lower (Kd.R_new' (Kd.R_new' ho0 (Kd.Q_lt (by (with_reducible repeat (first | apply Kd.Q_alloc | apply Kd.Q_drewN | apply Kd.Q_drew)); exact (Kd.Q_mono (Kd.Q_far (p := ⟨aO, 2, none⟩) (Kd.Q_far (p := ⟨aO, 1, none⟩) (Kd.Q_far (p := ⟨aO, 0, none⟩) (Kd.Q_types aR.out aF.out oD) oX2 (.int .i64 bQ)) oX2 (.int .i64 bR)) oX2 (.slice bG aG.length bD)) (fun _ h_ => h_.1))))) (Kd.R_lt (by (with_reducible repeat (first | apply Kd.R_alloc | apply Kd.R_drewN | apply Kd.R_drew)); exact (Kd.R_mono (Kd.R_far (p := ⟨aO, 2, none⟩) (Kd.R_far (p := ⟨aO, 1, none⟩) (Kd.R_far (p := ⟨aO, 0, none⟩) (Kd.R_types bB.out aF.out oD) oX2 (.int .i64 bQ)) oX2 (.int .i64 bR)) oX2 (.slice bG aG.length bD)) (fun _ h_ => h_.1))))) (below_size (oB HB))) (o2_ (blk_below (oP aC) hb) (o2_ (blk_below (oP aD) hb) (o2_ (blk_below (g := aO) (o := .cells #[.int .i64 bQ, .int .i64 bR, .slice bG aG.length bD] 25 (0, 0)) (blk_put (blk_put (blk_put aF.out 0 _ rfl) 1 _ rfl) 2 _ rfl) hb) (o1_ (below_step (oB HB) hb))))))); clear aR bB aC aD aF HB; obtain ⟨aR, bB, bL, aC, aD, aF, HB⟩ := n_; (try clear hb); (try clear hb2); (try clear hk); (try clear hi); (try clear ho0)) | ((with_reducible refine gate_dst (N := 7) rfl ?_); refine box_event rfl (N := 7) rfl (cs := #[.int .i64 0, .int .i64 0, .slice none 0 0]) (t := 25) oS ?_; intro aM hg gW hbox hb; have n_ := o2_ (Kd.Q_below (oQ aR) hb) (o2_ (Kd.R_below (oR bB) hb) (o2_ (Kd.R_below (oR bL) hb) (o2_ (blk_below (oP aC) hb) (o2_ (blk_below (oP aD) hb) (o2_ (blk_below (oP aF) hb) (o2_ (below_step (oB HB) hb) (o2_ (hbox) (o2_ ((oG hg (below_size (oB HB)) : w.heap.size ≤ aM)) (o2_ ((oG hg (below_size (oB HB)) : w.heap.size ≤ aM)) (o2_ ((oL hg (blk_lt (oP aC)))) (o2_ ((oN hg (blk_lt (oP aC)))) (o2_ ((oL hg (blk_lt (oP aD)))) (o2_ ((oN hg (blk_lt (oP aD)))) (o2_ ((oL hg (blk_lt (oP aF)))) (o1_ ((oN hg (blk_lt (oP aF))))))))))))))))))); clear aR bB bL aC aD aF HB; obtain ⟨aR, bB, bL, aC, aD, aF, HB, aJ, nT, nP, aW, bA, bM, bN, bI, bJ⟩ := n_; clear hb hbox hg; have pE := bA.out; have qU := aW.out; have pF := bN.out; have qV := bM.out; have pG := bJ.out; have qW := bI.out; have dA : gW.cell? ⟨aM, 0, none⟩ = some (.int .i64 0) := (blk_cell aJ.out 0).trans rfl; have dB : gW.cell? ⟨aM, 1, none⟩ = some (.int .i64 0) := (blk_cell aJ.out 1).trans rfl; have dC : gW.cell? ⟨aM, 2, none⟩ = some (.slice none 0 0) := (blk_cell aJ.out 2).trans rfl; have eI := blk_frozen aJ.out 0; have eJ := blk_frozen aJ.out 1; have eK := blk_frozen aJ.out 2; obtain ⟨bH, bF, mG⟩ := Kd.R_slice bL.out; subst mG))
  repeat (go_quiet (fail); try go_wp2)
  (try simp only [Act.put, List.setIfInBounds_toArray, List.set_cons_zero, List.set_cons_succ])
  go_cut [41] (fun sN wc => ∃ (kq : Nat) (hB : Bool), sN = .bool hB ∧ Aside0 (laws_FnOpMoves.j0 kq iK hB bO bP aB bK bV bW bX bY bQ bR aG = some r) ∧ Aside0 (kq ≤ k) ∧ Aside0 (Kd.Q k38 38 wc w.heap.size (fun k_ => some k_ ≠ ((.slice bG aG.length bD) : Value).ownBlock ∧ some k_ ≠ ((.slice bH aT.length bF) : Value).ownBlock) (.slice bE aB.length bC) aB) ∧ Aside0 (Kd.Q k38 38 wc w.heap.size (fun k_ => some k_ ≠ ((.slice bE aB.length bC) : Value).ownBlock ∧ some k_ ≠ ((.slice bH aT.length bF) : Value).ownBlock) (.slice bG aG.length bD) aG) ∧ Aside0 (Kd.Q k38 38 wc w.heap.size (fun k_ => some k_ ≠ ((.slice bE aB.length bC) : Value).ownBlock ∧ some k_ ≠ ((.slice bG aG.length bD) : Value).ownBlock) (.slice bH aT.length bF) aT) ∧ Aside0 (wc.heap[aN]? = some (.cells #[.int .i64 bO, .int .i64 bP, (.slice bE aB.length bC)] 25 (0, 0))) ∧ Aside0 (wc.heap[aL]? = some (.cells #[.int .i64 bK, .int .i64 bV, .int .i64 bW, .int .i64 bX, .int .i64 bY] 27 (0, 0))) ∧ Aside0 (wc.heap[aO]? = some (.cells #[.int .i64 bQ, .int .i64 bR, (.slice bG aG.length bD)] 25 (0, 0))) ∧ Aside0 (wc.heap[aM]? = some (.cells #[.int .i64 bS, .int .i64 bT, (.slice bH aT.length bF)] 25 (0, 0))) ∧ Aside0 (Below w.heap.size w wc))
  case first =>
   have H := mB.out
   clear mB
   replace H := Option.bind_eq_some_iff.mp H
   obtain ⟨hK, iY, H⟩ := H
   (try dsimp only at H)
   have nI := Aside0.mk iY
   clear iY
   by_cases iL : hK = true
   ·subst iL
    rw [if_pos rfl] at H
    have H' := Aside0.mk H
    clear H
    have pH := aY.out
    have qX := aV.out
    have pI := aZ.out
    have qY := aX.out
    have pJ := bI.out
    have qZ := bJ.out
    have dD : gW.cell? ⟨aO, 0, none⟩ = some (.int .i64 bQ) := (blk_cell aF.out 0).trans rfl
    have dE : gW.cell? ⟨aO, 1, none⟩ = some (.int .i64 bR) := (blk_cell aF.out 1).trans rfl
    have dF : gW.cell? ⟨aO, 2, none⟩ = some (.slice bG aG.length bD) := (blk_cell aF.out 2).trans rfl
    have eL := blk_frozen aF.out 0
    have eM := blk_frozen aF.out 1
    have eN := blk_frozen aF.out 2
    have pK := bA.out
    have rA := aW.out
    have pL := bN.out
    have rB := bM.out
    have dG : gW.cell? ⟨aM, 0, none⟩ = some (.int .i64 0) := (blk_cell aJ.out 0).trans rfl
    have dH : gW.cell? ⟨aM, 1, none⟩ = some (.int .i64 0) := (blk_cell aJ.out 1).trans rfl
    have dI : gW.cell? ⟨aM, 2, none⟩ = some (.slice none 0 0) := (blk_cell aJ.out 2).trans rfl
    have eO := blk_frozen aJ.out 0
    have eP := blk_frozen aJ.out 1
    have eQ := blk_frozen aJ.out 2
    go_wp2_with (first | (go_at_call 21; (with_reducible refine (laws_eaRas.calls k bQ bR _ _ aG bS bT _ _ aT true _ ?side1 ?side2 ?side3 ?side4 nI.out).mono ?_); (case side1 => refine (Kd.R_reads' (e := 38) (base := w.heap.size) (ok := fun k_ => ((True ∧ some k_ ≠ (.slice bE aB.length bC : Value).ownBlock) ∧ some k_ ≠ (.slice bH aT.length bF : Value).ownBlock)) (n := aG.length) (c := bD) ?_).2.2; exact (by (with_reducible repeat (first | apply Kd.R_alloc | apply Kd.R_drewN | apply Kd.R_drew)); exact (Kd.R_mono (Kd.R_far (p := ⟨aM, 2, none⟩) (Kd.R_far (p := ⟨aM, 1, none⟩) (Kd.R_far (p := ⟨aM, 0, none⟩) (Kd.R_types bB.out aJ.out oD) oX2 (.int .i64 bS)) oX2 (.int .i64 bT)) oX2 (.slice bH aT.length bF)) (fun _ h_ => h_.1)))); (case side2 => exact (Kd.R_reads' bB.out).2.1); (case side3 => refine (Kd.R_reads' (e := 38) (base := w.heap.size) (ok := fun k_ => ((True ∧ some k_ ≠ (.slice bE aB.length bC : Value).ownBlock) ∧ some k_ ≠ (.slice bG aG.length bD : Value).ownBlock)) (n := aT.length) (c := bF) ?_).2.2; exact (by (with_reducible repeat (first | apply Kd.R_alloc | apply Kd.R_drewN | apply Kd.R_drew)); exact (Kd.R_mono (Kd.R_far (p := ⟨aM, 2, none⟩) (Kd.R_far (p := ⟨aM, 1, none⟩) (Kd.R_far (p := ⟨aM, 0, none⟩) (Kd.R_types bL.out aJ.out oD) oX2 (.int .i64 bS)) oX2 (.int .i64 bT)) oX2 (.slice bH aT.length bF)) (fun _ h_ => h_.1)))); (case side4 => exact (Kd.R_reads' bL.out).2.1); rintro e sU ⟨rfl, hb⟩; have n_ := o2_ (Kd.Q_below (by (with_reducible repeat (first | apply Kd.Q_alloc | apply Kd.Q_drewN | apply Kd.Q_drew)); exact (Kd.Q_mono (Kd.Q_far (p := ⟨aM, 2, none⟩) (Kd.Q_far (p := ⟨aM, 1, none⟩) (Kd.Q_far (p := ⟨aM, 0, none⟩) (Kd.Q_types aR.out aJ.out oD) oX2 (.int .i64 bS)) oX2 (.int .i64 bT)) oX2 (.slice bH aT.length bF)) (fun _ h_ => h_.1))) hb) (o2_ (Kd.R_below (by (with_reducible repeat (first | apply Kd.R_alloc | apply Kd.R_drewN | apply Kd.R_drew)); exact (Kd.R_mono (Kd.R_far (p := ⟨aM, 2, none⟩) (Kd.R_far (p := ⟨aM, 1, none⟩) (Kd.R_far (p := ⟨aM, 0, none⟩) (Kd.R_types bB.out aJ.out oD) oX2 (.int .i64 bS)) oX2 (.int .i64 bT)) oX2 (.slice bH aT.length bF)) (fun _ h_ => h_.1))) hb) (o2_ (Kd.R_below (by (with_reducible repeat (first | apply Kd.R_alloc | apply Kd.R_drewN | apply Kd.R_drew)); exact (Kd.R_mono (Kd.R_far (p := ⟨aM, 2, none⟩) (Kd.R_far (p := ⟨aM, 1, none⟩) (Kd.R_far (p := ⟨aM, 0, none⟩) (Kd.R_types bL.out aJ.out oD) oX2 (.int .i64 bS)) oX2 (.int .i64 bT)) oX2 (.slice bH aT.length bF)) (fun _ h_ => h_.1))) hb) (o2_ (blk_below (oP aC) hb) (o2_ (blk_below (oP aD) hb) (o2_ (blk_below (oP aF) hb) (o2_ (blk_below (g := aM) (o := .cells #[.int .i64 bS, .int .i64 bT, .slice bH aT.length bF] 25 (0, 0)) (blk_put (blk_put (blk_put aJ.out 0 _ rfl) 1 _ rfl) 2 _ rfl) hb) (o1_ (below_step (oB HB) hb)))))))); clear aR bB bL aC aD aF aJ HB; obtain ⟨aR, bB, bL, aC, aD, aF, aJ, HB⟩ := n_; (try clear hb); (try clear hb2); (try clear hk); (try clear hi)))
    repeat (go_quiet (fail); try go_wp2)
    go_meet
    case rel => exact ⟨_, ((iK != kQ)), oU, H', ⟨(by first | omega | exact Nat.le_refl _)⟩, ⟨(by (with_reducible repeat (first | apply Kd.Q_alloc | apply Kd.Q_drewN | apply Kd.Q_drew)); exact Kd.Q_mono aR.out (fun _ hk => by first | exact ⟨hk.1.2, hk.2⟩ | exact trivial | (revert hk; simp; done) | (simp_all; done)))⟩, ⟨Kd.Q_of_R (by (with_reducible repeat (first | apply Kd.R_alloc | apply Kd.R_drewN | apply Kd.R_drew)); exact Kd.R_mono bB.out (fun _ hk => by first | exact ⟨hk.1.2, hk.2⟩ | exact trivial | (revert hk; simp; done) | (simp_all; done)))⟩, ⟨Kd.Q_of_R (by (with_reducible repeat (first | apply Kd.R_alloc | apply Kd.R_drewN | apply Kd.R_drew)); exact Kd.R_mono bL.out (fun _ hk => by first | exact ⟨hk.1.2, hk.2⟩ | exact trivial | (revert hk; simp; done) | (simp_all; done)))⟩, ⟨(oP aC)⟩, ⟨(oP aD)⟩, ⟨(oP aF)⟩, ⟨(oP aJ)⟩, ⟨(oB HB)⟩⟩
   ·replace iL := Bool.eq_false_iff.mpr iL
    subst iL
    rw [if_neg (show ¬ (false = true) by decide)] at H
    have H' := Aside0.mk H
    clear H
    have pM := aY.out
    have rC := aV.out
    have pN := aZ.out
    have rD := aX.out
    have pO := bI.out
    have rE := bJ.out
    have dJ : gW.cell? ⟨aO, 0, none⟩ = some (.int .i64 bQ) := (blk_cell aF.out 0).trans rfl
    have dK : gW.cell? ⟨aO, 1, none⟩ = some (.int .i64 bR) := (blk_cell aF.out 1).trans rfl
    have dL : gW.cell? ⟨aO, 2, none⟩ = some (.slice bG aG.length bD) := (blk_cell aF.out 2).trans rfl
    have eR := blk_frozen aF.out 0
    have eS := blk_frozen aF.out 1
    have eT := blk_frozen aF.out 2
    have pP := bA.out
    have rF := aW.out
    have pQ := bN.out
    have rG := bM.out
    have dM : gW.cell? ⟨aM, 0, none⟩ = some (.int .i64 0) := (blk_cell aJ.out 0).trans rfl
    have dN : gW.cell? ⟨aM, 1, none⟩ = some (.int .i64 0) := (blk_cell aJ.out 1).trans rfl
    have dO : gW.cell? ⟨aM, 2, none⟩ = some (.slice none 0 0) := (blk_cell aJ.out 2).trans rfl
    have eU := blk_frozen aJ.out 0
    have eV := blk_frozen aJ.out 1
    have eW := blk_frozen aJ.out 2
    go_wp2_with (first | (go_at_call 21; (with_reducible refine (laws_eaRas.calls k bQ bR _ _ aG bS bT _ _ aT false _ ?side1 ?side2 ?side3 ?side4 nI.out).mono ?_); (case side1 => refine (Kd.R_reads' (e := 38) (base := w.heap.size) (ok := fun k_ => ((True ∧ some k_ ≠ (.slice bE aB.length bC : Value).ownBlock) ∧ some k_ ≠ (.slice bH aT.length bF : Value).ownBlock)) (n := aG.length) (c := bD) ?_).2.2; exact (by (with_reducible repeat (first | apply Kd.R_alloc | apply Kd.R_drewN | apply Kd.R_drew)); exact (Kd.R_mono (Kd.R_far (p := ⟨aM, 2, none⟩) (Kd.R_far (p := ⟨aM, 1, none⟩) (Kd.R_far (p := ⟨aM, 0, none⟩) (Kd.R_types bB.out aJ.out oD) oX2 (.int .i64 bS)) oX2 (.int .i64 bT)) oX2 (.slice bH aT.length bF)) (fun _ h_ => h_.1)))); (case side2 => exact (Kd.R_reads' bB.out).2.1); (case side3 => refine (Kd.R_reads' (e := 38) (base := w.heap.size) (ok := fun k_ => ((True ∧ some k_ ≠ (.slice bE aB.length bC : Value).ownBlock) ∧ some k_ ≠ (.slice bG aG.length bD : Value).ownBlock)) (n := aT.length) (c := bF) ?_).2.2; exact (by (with_reducible repeat (first | apply Kd.R_alloc | apply Kd.R_drewN | apply Kd.R_drew)); exact (Kd.R_mono (Kd.R_far (p := ⟨aM, 2, none⟩) (Kd.R_far (p := ⟨aM, 1, none⟩) (Kd.R_far (p := ⟨aM, 0, none⟩) (Kd.R_types bL.out aJ.out oD) oX2 (.int .i64 bS)) oX2 (.int .i64 bT)) oX2 (.slice bH aT.length bF)) (fun _ h_ => h_.1)))); (case side4 => exact (Kd.R_reads' bL.out).2.1); rintro e sV ⟨rfl, hb⟩; have n_ := o2_ (Kd.Q_below (by (with_reducible repeat (first | apply Kd.Q_alloc | apply Kd.Q_drewN | apply Kd.Q_drew)); exact (Kd.Q_mono (Kd.Q_far (p := ⟨aM, 2, none⟩) (Kd.Q_far (p := ⟨aM, 1, none⟩) (Kd.Q_far (p := ⟨aM, 0, none⟩) (Kd.Q_types aR.out aJ.out oD) oX2 (.int .i64 bS)) oX2 (.int .i64 bT)) oX2 (.slice bH aT.length bF)) (fun _ h_ => h_.1))) hb) (o2_ (Kd.R_below (by (with_reducible repeat (first | apply Kd.R_alloc | apply Kd.R_drewN | apply Kd.R_drew)); exact (Kd.R_mono (Kd.R_far (p := ⟨aM, 2, none⟩) (Kd.R_far (p := ⟨aM, 1, none⟩) (Kd.R_far (p := ⟨aM, 0, none⟩) (Kd.R_types bB.out aJ.out oD) oX2 (.int .i64 bS)) oX2 (.int .i64 bT)) oX2 (.slice bH aT.length bF)) (fun _ h_ => h_.1))) hb) (o2_ (Kd.R_below (by (with_reducible repeat (first | apply Kd.R_alloc | apply Kd.R_drewN | apply Kd.R_drew)); exact (Kd.R_mono (Kd.R_far (p := ⟨aM, 2, none⟩) (Kd.R_far (p := ⟨aM, 1, none⟩) (Kd.R_far (p := ⟨aM, 0, none⟩) (Kd.R_types bL.out aJ.out oD) oX2 (.int .i64 bS)) oX2 (.int .i64 bT)) oX2 (.slice bH aT.length bF)) (fun _ h_ => h_.1))) hb) (o2_ (blk_below (oP aC) hb) (o2_ (blk_below (oP aD) hb) (o2_ (blk_below (oP aF) hb) (o2_ (blk_below (g := aM) (o := .cells #[.int .i64 bS, .int .i64 bT, .slice bH aT.length bF] 25 (0, 0)) (blk_put (blk_put (blk_put aJ.out 0 _ rfl) 1 _ rfl) 2 _ rfl) hb) (o1_ (below_step (oB HB) hb)))))))); clear aR bB bL aC aD aF aJ HB; obtain ⟨aR, bB, bL, aC, aD, aF, aJ, HB⟩ := n_; (try clear hb); (try clear hb2); (try clear hk); (try clear hi)))
    repeat (go_quiet (fail); try go_wp2)
    go_meet
    case rel => exact ⟨_, (true), oU, H', ⟨(by first | omega | exact Nat.le_refl _)⟩, ⟨(by (with_reducible repeat (first | apply Kd.Q_alloc | apply Kd.Q_drewN | apply Kd.Q_drew)); exact Kd.Q_mono aR.out (fun _ hk => by first | exact ⟨hk.1.2, hk.2⟩ | exact trivial | (revert hk; simp; done) | (simp_all; done)))⟩, ⟨Kd.Q_of_R (by (with_reducible repeat (first | apply Kd.R_alloc | apply Kd.R_drewN | apply Kd.R_drew)); exact Kd.R_mono bB.out (fun _ hk => by first | exact ⟨hk.1.2, hk.2⟩ | exact trivial | (revert hk; simp; done) | (simp_all; done)))⟩, ⟨Kd.Q_of_R (by (with_reducible repeat (first | apply Kd.R_alloc | apply Kd.R_drewN | apply Kd.R_drew)); exact Kd.R_mono bL.out (fun _ hk => by first | exact ⟨hk.1.2, hk.2⟩ | exact trivial | (revert hk; simp; done) | (simp_all; done)))⟩, ⟨(oP aC)⟩, ⟨(oP aD)⟩, ⟨(oP aF)⟩, ⟨(oP aJ)⟩, ⟨(oB HB)⟩⟩
  case rest =>
   clear mB
   try clear c1
   try clear c2
   try clear hF
   try clear hG
   try clear p2
   try clear c3
   try clear c4
   try clear c10
   try clear c16
   try clear c17
   try clear c24
   try clear c25
   try clear c26
   try clear iL
   try clear c31
   try clear c32
   try clear c33
   try clear c35
   try clear c36
   try clear c39
   try clear c40
   try clear c41
   try clear c43
   try clear c44
   try clear cH
   try clear cI
   try clear cJ
   try clear cK
   try clear cL
   try clear cM
   try clear cN
   try clear cO
   try clear cP
   try clear cQ
   try clear cR
   try clear cS
   try clear cT
   try clear cU
   try clear cV
   try clear cW
   try clear cX
   try clear cY
   try clear cZ
   try clear dA
   try clear dB
   try clear dC
   try clear dD
   try clear dE
   try clear dF
   try clear dG
   try clear dH
   try clear dI
   try clear dJ
   try clear dK
   try clear dL
   try clear dM
   try clear dN
   try clear dO
   try clear dP
   try clear dQ
   try clear dR
   try clear dS
   try clear dT
   try clear dU
   try clear dV
   try clear dW
   try clear dX
   try clear dY
   try clear dZ
   try clear eA
   try clear eB
   try clear eC
   try clear eD
   try clear eE
   try clear eF
   try clear eG
   try clear eH
   try clear eI
   try clear eJ
   try clear eK
   try clear eL
   try clear eM
   try clear eN
   try clear eO
   try clear eP
   try clear eQ
   try clear eR
   try clear eS
   try clear eT
   try clear eU
   try clear eV
   try clear eW
   obtain ⟨kq, hB, rfl, HA, gX, aH, aK, aP, aC, aD, aF, aJ, HB⟩ := hcut
   cases kq with
   | zero => exact nomatch (show none = some _ from HA.out)
   | succ kj5 =>
    have H := HA.out
    clear HA
    simp only [laws_FnOpMoves.j0] at H
    by_cases iO : hB = true
    ·subst iO
     rw [if_pos rfl] at H
     exact absurd H (by simp)
    ·replace iO := Bool.eq_false_iff.mpr iO
     subst iO
     rw [if_neg (show ¬ (false = true) by decide)] at H
     have iN := Aside0.mk H
     clear H
     go_upto_region 8 with (fail)
     repeat (go_quiet (fail); go_upto_region 8 with (fail))
     go_cut [58] (fun sR wc => ∃ (kq : Nat) (gL : Bool), sR = .bool gL ∧ Aside0 (laws_FnOpMoves.j1 kq gL bO bP aB bQ bR aG = some r) ∧ Aside0 (kq ≤ kj5) ∧ Aside0 (Kd.Q k38 38 wc w.heap.size (fun k_ => some k_ ≠ ((.slice bG aG.length bD) : Value).ownBlock ∧ some k_ ≠ ((.slice bH aT.length bF) : Value).ownBlock) (.slice bE aB.length bC) aB) ∧ Aside0 (Kd.Q k38 38 wc w.heap.size (fun k_ => some k_ ≠ ((.slice bE aB.length bC) : Value).ownBlock ∧ some k_ ≠ ((.slice bH aT.length bF) : Value).ownBlock) (.slice bG aG.length bD) aG) ∧ Aside0 (Kd.Q k38 38 wc w.heap.size (fun k_ => some k_ ≠ ((.slice bE aB.length bC) : Value).ownBlock ∧ some k_ ≠ ((.slice bG aG.length bD) : Value).ownBlock) (.slice bH aT.length bF) aT) ∧ Aside0 (wc.heap[aN]? = some (.cells #[.int .i64 bO, .int .i64 bP, (.slice bE aB.length bC)] 25 (0, 0))) ∧ Aside0 (wc.heap[aL]? = some (.cells #[.int .i64 bK, .int .i64 bV, .int .i64 bW, .int .i64 bX, .int .i64 bY] 27 (0, 0))) ∧ Aside0 (wc.heap[aO]? = some (.cells #[.int .i64 bQ, .int .i64 bR, (.slice bG aG.length bD)] 25 (0, 0))) ∧ Aside0 (wc.heap[aM]? = some (.cells #[.int .i64 bS, .int .i64 bT, (.slice bH aT.length bF)] 25 (0, 0))) ∧ Aside0 (Below w.heap.size w wc))
     case first =>
      have H := iN.out
      clear iN
      by_cases iP : iK = true
      ·subst iP
       rw [if_pos rfl] at H
       by_cases hM : bK = 2
       ·rw [if_pos hM] at H
        have cG : (bK == 2) = true := beq_iff_eq.mpr hM
        have gY : (bK != 2) = false := bne_eq_false_iff_eq.mpr hM
        clear hM
        (first | rw [cG] | (simp only [i64_w, i32_w]; rw [cG]) | skip)
        have H' := Aside0.mk H
        clear H
        have pR := aS.out
        have rH := aQ.out
        have pS := aX.out
        have rI := aZ.out
        have pT := bM.out
        have rJ := bN.out
        have eZ : wc.cell? ⟨aL, 0, none⟩ = some (.int .i64 bK) := (blk_cell aD.out 0).trans rfl
        have fA : wc.cell? ⟨aL, 1, none⟩ = some (.int .i64 bV) := (blk_cell aD.out 1).trans rfl
        have fB : wc.cell? ⟨aL, 2, none⟩ = some (.int .i64 bW) := (blk_cell aD.out 2).trans rfl
        have fC : wc.cell? ⟨aL, 3, none⟩ = some (.int .i64 bX) := (blk_cell aD.out 3).trans rfl
        have fD : wc.cell? ⟨aL, 4, none⟩ = some (.int .i64 bY) := (blk_cell aD.out 4).trans rfl
        have fO := blk_frozen aD.out 0
        have fP := blk_frozen aD.out 1
        have fQ := blk_frozen aD.out 2
        have fR := blk_frozen aD.out 3
        have fS := blk_frozen aD.out 4
        go_wp2
        repeat (go_quiet (fail); try go_wp2)
        go_meet
        case rel => exact ⟨_, (false), oU, H', ⟨(by have := gX.out; first | omega | exact Nat.le_refl _)⟩, ⟨(oQ aH)⟩, ⟨(oQ aK)⟩, ⟨(oQ aP)⟩, ⟨(oP aC)⟩, ⟨(oP aD)⟩, ⟨(oP aF)⟩, ⟨(oP aJ)⟩, ⟨(oB HB)⟩⟩
       ·rw [if_neg hM] at H
        have cG : (bK == 2) = false := beq_eq_false_iff_ne.mpr hM
        have gY : (bK != 2) = true := bne_iff_ne.mpr hM
        (first | rw [cG] | (simp only [i64_w, i32_w]; rw [cG]) | skip)
        by_cases hN : bK = 3
        ·rw [if_pos hN] at H
         have gZ : (bK == 3) = true := beq_iff_eq.mpr hN
         have hA : (bK != 3) = false := bne_eq_false_iff_eq.mpr hN
         clear hN
         have H' := Aside0.mk H
         clear H
         have pU := aS.out
         have rK := aQ.out
         have pV := aX.out
         have rL := aZ.out
         have pW := bM.out
         have rM := bN.out
         have fE : wc.cell? ⟨aL, 0, none⟩ = some (.int .i64 bK) := (blk_cell aD.out 0).trans rfl
         have fF : wc.cell? ⟨aL, 1, none⟩ = some (.int .i64 bV) := (blk_cell aD.out 1).trans rfl
         have fG : wc.cell? ⟨aL, 2, none⟩ = some (.int .i64 bW) := (blk_cell aD.out 2).trans rfl
         have fH : wc.cell? ⟨aL, 3, none⟩ = some (.int .i64 bX) := (blk_cell aD.out 3).trans rfl
         have fI : wc.cell? ⟨aL, 4, none⟩ = some (.int .i64 bY) := (blk_cell aD.out 4).trans rfl
         have fT := blk_frozen aD.out 0
         have fU := blk_frozen aD.out 1
         have fV := blk_frozen aD.out 2
         have fW := blk_frozen aD.out 3
         have fX := blk_frozen aD.out 4
         go_wp2
         repeat (go_quiet (fail); try go_wp2)
         go_meet
         case rel => exact ⟨_, (false), oU, H', ⟨(by have := gX.out; first | omega | exact Nat.le_refl _)⟩, ⟨(oQ aH)⟩, ⟨(oQ aK)⟩, ⟨(oQ aP)⟩, ⟨(oP aC)⟩, ⟨(oP aD)⟩, ⟨(oP aF)⟩, ⟨(oP aJ)⟩, ⟨(oB HB)⟩⟩
        ·rw [if_neg hN] at H
         have gZ : (bK == 3) = false := beq_eq_false_iff_ne.mpr hN
         have hA : (bK != 3) = true := bne_iff_ne.mpr hN
         have H' := Aside0.mk H
         clear H
         have pX := aS.out
         have rN := aQ.out
         have pY := aX.out
         have rO := aZ.out
         have pZ := bM.out
         have rP := bN.out
         have fJ : wc.cell? ⟨aL, 0, none⟩ = some (.int .i64 bK) := (blk_cell aD.out 0).trans rfl
         have fK : wc.cell? ⟨aL, 1, none⟩ = some (.int .i64 bV) := (blk_cell aD.out 1).trans rfl
         have fL : wc.cell? ⟨aL, 2, none⟩ = some (.int .i64 bW) := (blk_cell aD.out 2).trans rfl
         have fM : wc.cell? ⟨aL, 3, none⟩ = some (.int .i64 bX) := (blk_cell aD.out 3).trans rfl
         have fN : wc.cell? ⟨aL, 4, none⟩ = some (.int .i64 bY) := (blk_cell aD.out 4).trans rfl
         have fY := blk_frozen aD.out 0
         have fZ := blk_frozen aD.out 1
         have gA := blk_frozen aD.out 2
         have gB := blk_frozen aD.out 3
         have gC := blk_frozen aD.out 4
         go_wp2
         repeat (go_quiet (fail); try go_wp2)
         go_meet
         case rel => exact ⟨_, ((bK != 4)), oU, H', ⟨(by have := gX.out; first | omega | exact Nat.le_refl _)⟩, ⟨(oQ aH)⟩, ⟨(oQ aK)⟩, ⟨(oQ aP)⟩, ⟨(oP aC)⟩, ⟨(oP aD)⟩, ⟨(oP aF)⟩, ⟨(oP aJ)⟩, ⟨(oB HB)⟩⟩
      ·replace iP := Bool.eq_false_iff.mpr iP
       subst iP
       rw [if_neg (show ¬ (false = true) by decide)] at H
       have H' := Aside0.mk H
       clear H
       go_wp2
       repeat (go_quiet (fail); try go_wp2)
       go_meet
       case rel => exact ⟨_, (true), oU, H', ⟨(by have := gX.out; first | omega | exact Nat.le_refl _)⟩, ⟨(oQ aH)⟩, ⟨(oQ aK)⟩, ⟨(oQ aP)⟩, ⟨(oP aC)⟩, ⟨(oP aD)⟩, ⟨(oP aF)⟩, ⟨(oP aJ)⟩, ⟨(oB HB)⟩⟩
     case rest =>
      clear iN
      try clear c1
      try clear c2
      try clear hF
      try clear hG
      try clear p2
      try clear c3
      try clear c4
      try clear c5
      try clear c6
      try clear c10
      try clear c16
      try clear c17
      try clear c24
      try clear c25
      try clear c26
      try clear iL
      try clear c31
      try clear c32
      try clear c33
      try clear c35
      try clear c36
      try clear c39
      try clear c40
      try clear c41
      try clear c43
      try clear c44
      try clear iO
      try clear iP
      try clear hM
      try clear cG
      try clear gY
      try clear c51
      try clear c52
      try clear c53
      try clear hN
      try clear gZ
      try clear hA
      try clear c56
      try clear c57
      try clear c58
      try clear c60
      try clear c61
      try clear c62
      try clear cH
      try clear cI
      try clear cJ
      try clear cK
      try clear cL
      try clear cM
      try clear cN
      try clear cO
      try clear cP
      try clear cQ
      try clear cR
      try clear cS
      try clear cT
      try clear cU
      try clear cV
      try clear cW
      try clear cX
      try clear cY
      try clear cZ
      try clear dA
      try clear dB
      try clear dC
      try clear dD
      try clear dE
      try clear dF
      try clear dG
      try clear dH
      try clear dI
      try clear dJ
      try clear dK
      try clear dL
      try clear dM
      try clear dN
      try clear dO
      try clear eZ
      try clear fA
      try clear fB
      try clear fC
      try clear fD
      try clear fE
      try clear fF
      try clear fG
      try clear fH
      try clear fI
      try clear fJ
      try clear fK
      try clear fL
      try clear fM
      try clear fN
      try clear dP
      try clear dQ
      try clear dR
      try clear dS
      try clear dT
      try clear dU
      try clear dV
      try clear dW
      try clear dX
      try clear dY
      try clear dZ
      try clear eA
      try clear eB
      try clear eC
      try clear eD
      try clear eE
      try clear eF
      try clear eG
      try clear eH
      try clear eI
      try clear eJ
      try clear eK
      try clear eL
      try clear eM
      try clear eN
      try clear eO
      try clear eP
      try clear eQ
      try clear eR
      try clear eS
      try clear eT
      try clear eU
      try clear eV
      try clear eW
      try clear fO
      try clear fP
      try clear fQ
      try clear fR
      try clear fS
      try clear fT
      try clear fU
      try clear fV
      try clear fW
      try clear fX
      try clear fY
      try clear fZ
      try clear gA
      try clear gB
      try clear gC
      try clear p2
      obtain ⟨kq, gL, rfl, HA, eY, aH, aK, aP, aC, aD, aF, aJ, HB⟩ := hcut
      cases kq with
      | zero => exact nomatch (show none = some _ from HA.out)
      | succ kj47 =>
       have H := HA.out
       clear HA
       simp only [laws_FnOpMoves.j1] at H
       by_cases iW : gL = true
       ·subst iW
        rw [if_pos rfl] at H
        replace H := Option.bind_eq_some_iff.mp H
        obtain ⟨iV, iZ, H⟩ := H
        (try dsimp only at H)
        have sH := Aside0.mk iZ
        clear iZ
        obtain rfl := Option.some.inj H
        go_wp2_with (first | (go_at_call 25; (with_reducible refine (laws_eaOk.calls  iV _ sH.out).mono ?_); rintro e sW ⟨rfl, hb⟩; have n_ := o2_ (Kd.Q_below (oQ aH) hb) (o2_ (Kd.Q_below (oQ aK) hb) (o2_ (Kd.Q_below (oQ aP) hb) (o2_ (blk_below (oP aC) hb) (o2_ (blk_below (oP aD) hb) (o2_ (blk_below (oP aF) hb) (o2_ (blk_below (oP aJ) hb) (o1_ (below_step (oB HB) hb)))))))); clear aH aK aP aC aD aF aJ HB; obtain ⟨aH, aK, aP, aC, aD, aF, aJ, HB⟩ := n_; (try clear hb); (try clear hb2); (try clear hk); (try clear hi)))
        repeat (go_quiet (fail); try go_wp2)
        go_ret
        exact ⟨by first | rfl | (simp [errW_none, errW_some] <;> rfl) | (simp [*, errW_none, errW_some] <;> rfl), oB HB⟩
       ·replace iW := Bool.eq_false_iff.mpr iW
        subst iW
        rw [if_neg (show ¬ (false = true) by decide)] at H
        have H' := Aside0.mk H
        clear H
        go_wp2
        repeat (go_quiet (fail); try go_wp2)
        go_loopg [9] kj47 (fun kq v9 w' => ∃ (aE : Int), v9 = .int .i64 aE ∧ Aside0 (laws_FnOpMoves.l0 kq aE bO bP aB bQ bR aG = some r) ∧ Aside0 (kq ≤ kj47) ∧ Aside0 (Kd.Q k38 38 w' w.heap.size (fun k_ => some k_ ≠ ((.slice bG aG.length bD) : Value).ownBlock ∧ some k_ ≠ ((.slice bH aT.length bF) : Value).ownBlock) (.slice bE aB.length bC) aB) ∧ Aside0 (Kd.Q k38 38 w' w.heap.size (fun k_ => some k_ ≠ ((.slice bE aB.length bC) : Value).ownBlock ∧ some k_ ≠ ((.slice bH aT.length bF) : Value).ownBlock) (.slice bG aG.length bD) aG) ∧ Aside0 (Kd.Q k38 38 w' w.heap.size (fun k_ => some k_ ≠ ((.slice bE aB.length bC) : Value).ownBlock ∧ some k_ ≠ ((.slice bG aG.length bD) : Value).ownBlock) (.slice bH aT.length bF) aT) ∧ Aside0 (w'.heap[aN]? = some (.cells #[.int .i64 bO, .int .i64 bP, (.slice bE aB.length bC)] 25 (0, 0))) ∧ Aside0 (w'.heap[aL]? = some (.cells #[.int .i64 bK, .int .i64 bV, .int .i64 bW, .int .i64 bX, .int .i64 bY] 27 (0, 0))) ∧ Aside0 (w'.heap[aO]? = some (.cells #[.int .i64 bQ, .int .i64 bR, (.slice bG aG.length bD)] 25 (0, 0))) ∧ Aside0 (w'.heap[aM]? = some (.cells #[.int .i64 bS, .int .i64 bT, (.slice bH aT.length bF)] 25 (0, 0))) ∧ Aside0 (Below w.heap.size w w'))
        case atStart => exact ⟨(0), oU, H', ⟨Nat.le_refl _⟩, ⟨(oQ aH)⟩, ⟨(oQ aK)⟩, ⟨(oQ aP)⟩, ⟨(oP aC)⟩, ⟨(oP aD)⟩, ⟨(oP aF)⟩, ⟨(oP aJ)⟩, ⟨(oB HB)⟩⟩
        case round =>
         clear H'
         try clear c1
         try clear c2
         try clear hF
         try clear hG
         try clear p2
         try clear c3
         try clear c4
         try clear c5
         try clear c6
         try clear c10
         try clear c16
         try clear c17
         try clear c24
         try clear c25
         try clear c26
         try clear iL
         try clear c31
         try clear c32
         try clear c33
         try clear c35
         try clear c36
         try clear c39
         try clear c40
         try clear c41
         try clear c43
         try clear c44
         try clear iO
         try clear iP
         try clear hM
         try clear cG
         try clear gY
         try clear c51
         try clear c52
         try clear c53
         try clear hN
         try clear gZ
         try clear hA
         try clear c56
         try clear c57
         try clear c58
         try clear c60
         try clear c61
         try clear c62
         try clear iW
         try clear cH
         try clear cI
         try clear cJ
         try clear cK
         try clear cL
         try clear cM
         try clear cN
         try clear cO
         try clear cP
         try clear cQ
         try clear cR
         try clear cS
         try clear cT
         try clear cU
         try clear cV
         try clear cW
         try clear cX
         try clear cY
         try clear cZ
         try clear dA
         try clear dB
         try clear dC
         try clear dD
         try clear dE
         try clear dF
         try clear dG
         try clear dH
         try clear dI
         try clear dJ
         try clear dK
         try clear dL
         try clear dM
         try clear dN
         try clear dO
         try clear eZ
         try clear fA
         try clear fB
         try clear fC
         try clear fD
         try clear fE
         try clear fF
         try clear fG
         try clear fH
         try clear fI
         try clear fJ
         try clear fK
         try clear fL
         try clear fM
         try clear fN
         try clear dP
         try clear dQ
         try clear dR
         try clear dS
         try clear dT
         try clear dU
         try clear dV
         try clear dW
         try clear dX
         try clear dY
         try clear dZ
         try clear eA
         try clear eB
         try clear eC
         try clear eD
         try clear eE
         try clear eF
         try clear eG
         try clear eH
         try clear eI
         try clear eJ
         try clear eK
         try clear eL
         try clear eM
         try clear eN
         try clear eO
         try clear eP
         try clear eQ
         try clear eR
         try clear eS
         try clear eT
         try clear eU
         try clear eV
         try clear eW
         try clear fO
         try clear fP
         try clear fQ
         try clear fR
         try clear fS
         try clear fT
         try clear fU
         try clear fV
         try clear fW
         try clear fX
         try clear fY
         try clear fZ
         try clear gA
         try clear gB
         try clear gC
         try clear p2
         obtain ⟨aE, rfl, HA, HK3, aH, aK, aP, aC, aD, aF, aJ, HB⟩ := hrel
         cases gk with
         | zero => exact nomatch (show none = some _ from HA.out)
         | succ k3 =>
          have H := HA.out
          clear HA
          simp only [laws_FnOpMoves.l0] at H
          by_cases iQ : aE < (aB.length : Int)
          ·rw [if_pos iQ] at H
           have iM : decide (aE < (aB.length : Int)) = true := decide_eq_true iQ
           clear iQ
           have H' := Aside0.mk H
           clear H
           have qA := aQ.out
           have rQ := aS.out
           have qB := aV.out
           have rR := aY.out
           have qC := aW.out
           have rS := bA.out
           have hO : wr.cell? ⟨aN, 0, none⟩ = some (.int .i64 bO) := (blk_cell aC.out 0).trans rfl
           have hP : wr.cell? ⟨aN, 1, none⟩ = some (.int .i64 bP) := (blk_cell aC.out 1).trans rfl
           have hQ : wr.cell? ⟨aN, 2, none⟩ = some (.slice bE aB.length bC) := (blk_cell aC.out 2).trans rfl
           have hR := blk_frozen aC.out 0
           have hS := blk_frozen aC.out 1
           have hT := blk_frozen aC.out 2
           go_wp2
           repeat (go_quiet (fail); try go_wp2)
           go_loopg [10, 11, 12] k3 (fun kq sK sL sM w' => ∃ (bZ : Int) (cA : Int) (aA : Int), sK = .int .i64 bZ ∧ sL = .int .i64 cA ∧ sM = .int .i64 aA ∧ Aside0 (laws_FnOpMoves.l1 kq aE bZ cA aA bO bP aB bQ bR aG = some r) ∧ Aside0 (kq ≤ k3) ∧ Aside0 (Kd.Q k38 38 w' w.heap.size (fun k_ => some k_ ≠ ((.slice bG aG.length bD) : Value).ownBlock ∧ some k_ ≠ ((.slice bH aT.length bF) : Value).ownBlock) (.slice bE aB.length bC) aB) ∧ Aside0 (Kd.Q k38 38 w' w.heap.size (fun k_ => some k_ ≠ ((.slice bE aB.length bC) : Value).ownBlock ∧ some k_ ≠ ((.slice bH aT.length bF) : Value).ownBlock) (.slice bG aG.length bD) aG) ∧ Aside0 (Kd.Q k38 38 w' w.heap.size (fun k_ => some k_ ≠ ((.slice bE aB.length bC) : Value).ownBlock ∧ some k_ ≠ ((.slice bG aG.length bD) : Value).ownBlock) (.slice bH aT.length bF) aT) ∧ Aside0 (w'.heap[aN]? = some (.cells #[.int .i64 bO, .int .i64 bP, (.slice bE aB.length bC)] 25 (0, 0))) ∧ Aside0 (w'.heap[aL]? = some (.cells #[.int .i64 bK, .int .i64 bV, .int .i64 bW, .int .i64 bX, .int .i64 bY] 27 (0, 0))) ∧ Aside0 (w'.heap[aO]? = some (.cells #[.int .i64 bQ, .int .i64 bR, (.slice bG aG.length bD)] 25 (0, 0))) ∧ Aside0 (w'.heap[aM]? = some (.cells #[.int .i64 bS, .int .i64 bT, (.slice bH aT.length bF)] 25 (0, 0))) ∧ Aside0 (Below w.heap.size w w'))
           case atStart => exact ⟨(0), (0), (0), oU, oU, oU, H', ⟨Nat.le_refl _⟩, ⟨(oQ aH)⟩, ⟨(oQ aK)⟩, ⟨(oQ aP)⟩, ⟨(oP aC)⟩, ⟨(oP aD)⟩, ⟨(oP aF)⟩, ⟨(oP aJ)⟩, ⟨(oB HB)⟩⟩
           case round =>
            clear H'
            try clear c1
            try clear c2
            try clear hF
            try clear hG
            try clear p2
            try clear c3
            try clear c4
            try clear c5
            try clear c6
            try clear c7
            try clear c10
            try clear c16
            try clear c17
            try clear c24
            try clear c25
            try clear c26
            try clear iL
            try clear c31
            try clear c32
            try clear c33
            try clear c35
            try clear c36
            try clear c39
            try clear c40
            try clear c41
            try clear c43
            try clear c44
            try clear iO
            try clear iP
            try clear hM
            try clear cG
            try clear gY
            try clear c51
            try clear c52
            try clear c53
            try clear hN
            try clear gZ
            try clear hA
            try clear c56
            try clear c57
            try clear c58
            try clear c60
            try clear c61
            try clear c62
            try clear iW
            try clear iQ
            try clear iM
            try clear c68
            try clear c69
            try clear c70
            try clear cH
            try clear cI
            try clear cJ
            try clear cK
            try clear cL
            try clear cM
            try clear cN
            try clear cO
            try clear cP
            try clear cQ
            try clear cR
            try clear cS
            try clear cT
            try clear cU
            try clear cV
            try clear cW
            try clear cX
            try clear cY
            try clear cZ
            try clear dA
            try clear dB
            try clear dC
            try clear dD
            try clear dE
            try clear dF
            try clear dG
            try clear dH
            try clear dI
            try clear dJ
            try clear dK
            try clear dL
            try clear dM
            try clear dN
            try clear dO
            try clear eZ
            try clear fA
            try clear fB
            try clear fC
            try clear fD
            try clear fE
            try clear fF
            try clear fG
            try clear fH
            try clear fI
            try clear fJ
            try clear fK
            try clear fL
            try clear fM
            try clear fN
            try clear hO
            try clear hP
            try clear hQ
            try clear dP
            try clear dQ
            try clear dR
            try clear dS
            try clear dT
            try clear dU
            try clear dV
            try clear dW
            try clear dX
            try clear dY
            try clear dZ
            try clear eA
            try clear eB
            try clear eC
            try clear eD
            try clear eE
            try clear eF
            try clear eG
            try clear eH
            try clear eI
            try clear eJ
            try clear eK
            try clear eL
            try clear eM
            try clear eN
            try clear eO
            try clear eP
            try clear eQ
            try clear eR
            try clear eS
            try clear eT
            try clear eU
            try clear eV
            try clear eW
            try clear fO
            try clear fP
            try clear fQ
            try clear fR
            try clear fS
            try clear fT
            try clear fU
            try clear fV
            try clear fW
            try clear fX
            try clear fY
            try clear fZ
            try clear gA
            try clear gB
            try clear gC
            try clear hR
            try clear hS
            try clear hT
            try clear p2
            obtain ⟨bZ, cA, aA, rfl, rfl, rfl, HA, HK4, aH, aK, aP, aC, aD, aF, aJ, HB⟩ := hrel
            cases gk with
            | zero => exact nomatch (show none = some _ from HA.out)
            | succ k4 =>
             have H := HA.out
             clear HA
             simp only [laws_FnOpMoves.l1] at H
             by_cases iX : aA < (aB.length : Int)
             ·rw [if_pos iX] at H
              have jC : decide (aA < (aB.length : Int)) = true := decide_eq_true iX
              clear iX
              by_cases kR : 0 ≤ aA
              ·rw [if_pos kR] at H
               have nU : decide (0 ≤ aA) = true := decide_eq_true kR
               clear kR
               by_cases kS : 0 ≤ aE
               ·rw [if_pos kS] at H
                have nV : decide (0 ≤ aE) = true := decide_eq_true kS
                clear kS
                by_cases kT : aE < (aB.length : Int)
                ·rw [if_pos kT] at H
                 have nW : decide (aE < (aB.length : Int)) = true := decide_eq_true kT
                 clear kT
                 by_cases hH : (((rd_T38 aB aA).f0) == ((rd_T38 aB aE).f0) && (((rd_T38 aB aA).f1) == ((rd_T38 aB aE).f1) && (((rd_T38 aB aA).f2) == ((rd_T38 aB aE).f2) && (((rd_T38 aB aA).f3) == ((rd_T38 aB aE).f3))))) = true
                 ·rw [if_pos hH] at H
                  have jD : (((rd_T38 aB aA).f0) == ((rd_T38 aB aE).f0) && (((rd_T38 aB aA).f1) == ((rd_T38 aB aE).f1) && (((rd_T38 aB aA).f2) == ((rd_T38 aB aE).f2) && (((rd_T38 aB aA).f3) == ((rd_T38 aB aE).f3))))) = true := hH
                  (try (have jE : decide (((rd_T38 aB aA).f0) = ((rd_T38 aB aE).f0) && (((rd_T38 aB aA).f1) == ((rd_T38 aB aE).f1) && (((rd_T38 aB aA).f2) == ((rd_T38 aB aE).f2) && (((rd_T38 aB aA).f3) == ((rd_T38 aB aE).f3))))) = true := by simpa using hH))
                  (try (have jF : (((rd_T38 aB aA).f0) == ((rd_T38 aB aE).f0) && (((rd_T38 aB aA).f1) == ((rd_T38 aB aE).f1) && (((rd_T38 aB aA).f2) == ((rd_T38 aB aE).f2) && (((rd_T38 aB aA).f3) == ((rd_T38 aB aE).f3))))) = true := by simpa using hH))
                  clear hH
                  by_cases kU : aA < (aG.length : Int)
                  ·rw [if_pos kU] at H
                   have nY : decide (aA < (aG.length : Int)) = true := decide_eq_true kU
                   clear kU
                   by_cases hI : (((rd_T38 aG aA).f0) == ((rd_T38 aB aE).f0) && (((rd_T38 aG aA).f1) == ((rd_T38 aB aE).f1) && (((rd_T38 aG aA).f2) == ((rd_T38 aB aE).f2) && (((rd_T38 aG aA).f3) == ((rd_T38 aB aE).f3))))) = true
                   ·rw [if_pos hI] at H
                    have jG : (((rd_T38 aG aA).f0) == ((rd_T38 aB aE).f0) && (((rd_T38 aG aA).f1) == ((rd_T38 aB aE).f1) && (((rd_T38 aG aA).f2) == ((rd_T38 aB aE).f2) && (((rd_T38 aG aA).f3) == ((rd_T38 aB aE).f3))))) = true := hI
                    (try (have jH : decide (((rd_T38 aG aA).f0) = ((rd_T38 aB aE).f0) && (((rd_T38 aG aA).f1) == ((rd_T38 aB aE).f1) && (((rd_T38 aG aA).f2) == ((rd_T38 aB aE).f2) && (((rd_T38 aG aA).f3) == ((rd_T38 aB aE).f3))))) = true := by simpa using hI))
                    (try (have jI : (((rd_T38 aG aA).f0) == ((rd_T38 aB aE).f0) && (((rd_T38 aG aA).f1) == ((rd_T38 aB aE).f1) && (((rd_T38 aG aA).f2) == ((rd_T38 aB aE).f2) && (((rd_T38 aG aA).f3) == ((rd_T38 aB aE).f3))))) = true := by simpa using hI))
                    clear hI
                    have H' := Aside0.mk H
                    clear H
                    have qD := aQ.out
                    have rT := aS.out
                    have qE := aV.out
                    have rU := aY.out
                    have qF := aW.out
                    have rV := bA.out
                    have kX : wr.cell? ⟨aN, 0, none⟩ = some (.int .i64 bO) := (blk_cell aC.out 0).trans rfl
                    have kY : wr.cell? ⟨aN, 1, none⟩ = some (.int .i64 bP) := (blk_cell aC.out 1).trans rfl
                    have kZ : wr.cell? ⟨aN, 2, none⟩ = some (.slice bE aB.length bC) := (blk_cell aC.out 2).trans rfl
                    have lM := blk_frozen aC.out 0
                    have lN := blk_frozen aC.out 1
                    have lO := blk_frozen aC.out 2
                    have cB : 0 ≤ (aA : Int) := of_decide_eq_true oM
                    have cD : aA < (aB.length : Int) := of_decide_eq_true oM
                    obtain ⟨bU, gM, gD, gE, gF, gG⟩ := at_T38 (Kd.Q_reads' aH.out).2.2 aA cB cD
                    cases gM
                    replace cB := eq_true cB
                    replace cD := eq_true cD
                    have cC : 0 ≤ (aE : Int) := of_decide_eq_true oM
                    have cE : aE < (aB.length : Int) := of_decide_eq_true oM
                    obtain ⟨eX, gN, gH, gI, gJ, gK⟩ := at_T38 (Kd.Q_reads' aH.out).2.2 aE cC cE
                    obtain rfl : bU = eX := (by injection gN)
                    replace cC := eq_true cC
                    replace cE := eq_true cE
                    have qG := aZ.out
                    have rW := aX.out
                    have qH := bI.out
                    have rX := bJ.out
                    have lA : wr.cell? ⟨aO, 0, none⟩ = some (.int .i64 bQ) := (blk_cell aF.out 0).trans rfl
                    have lB : wr.cell? ⟨aO, 1, none⟩ = some (.int .i64 bR) := (blk_cell aF.out 1).trans rfl
                    have lC : wr.cell? ⟨aO, 2, none⟩ = some (.slice bG aG.length bD) := (blk_cell aF.out 2).trans rfl
                    have lP := blk_frozen aF.out 0
                    have lQ := blk_frozen aF.out 1
                    have lR := blk_frozen aF.out 2
                    have gO : 0 ≤ (aA : Int) := of_decide_eq_true oM
                    have gS : aA < (aG.length : Int) := of_decide_eq_true oM
                    obtain ⟨jA, iR, hU, hV, hW, hX⟩ := at_T38 (Kd.Q_reads' aK.out).2.2 aA gO gS
                    cases iR
                    replace gO := eq_true gO
                    replace gS := eq_true gS
                    have gP : 0 ≤ (aE : Int) := of_decide_eq_true oM
                    have gT : aE < (aB.length : Int) := of_decide_eq_true oM
                    obtain ⟨hC, iS, hY, hZ, iA, iB⟩ := at_T38 (Kd.Q_reads' aH.out).2.2 aE gP gT
                    obtain rfl : bU = hC := (by injection iS)
                    replace gP := eq_true gP
                    replace gT := eq_true gT
                    go_wp2
                    repeat (go_quiet (fail); try go_wp2)
                    go_roundg k4
                    case measure => have := gX.out; have := eY.out; have := HK3.out; have := HK4.out; omega
                    case rel => exact ⟨(wrap64 (bZ + 1)), (wrap64 (cA + 1)), (wrap64 (aA + 1)), oU, oU, oU, H', ⟨(by have := gX.out; have := eY.out; have := HK3.out; have := HK4.out; omega)⟩, ⟨(oQ aH)⟩, ⟨(oQ aK)⟩, ⟨(oQ aP)⟩, ⟨(oP aC)⟩, ⟨(oP aD)⟩, ⟨(oP aF)⟩, ⟨(oP aJ)⟩, ⟨(oB HB)⟩⟩
                   ·rw [if_neg hI] at H
                    have jG : (((rd_T38 aG aA).f0) == ((rd_T38 aB aE).f0) && (((rd_T38 aG aA).f1) == ((rd_T38 aB aE).f1) && (((rd_T38 aG aA).f2) == ((rd_T38 aB aE).f2) && (((rd_T38 aG aA).f3) == ((rd_T38 aB aE).f3))))) = false := by simpa using hI
                    (try (have jH : decide (((rd_T38 aG aA).f0) = ((rd_T38 aB aE).f0) && (((rd_T38 aG aA).f1) == ((rd_T38 aB aE).f1) && (((rd_T38 aG aA).f2) == ((rd_T38 aB aE).f2) && (((rd_T38 aG aA).f3) == ((rd_T38 aB aE).f3))))) = false := by simpa using hI))
                    (try (have jI : (((rd_T38 aG aA).f0) == ((rd_T38 aB aE).f0) && (((rd_T38 aG aA).f1) == ((rd_T38 aB aE).f1) && (((rd_T38 aG aA).f2) == ((rd_T38 aB aE).f2) && (((rd_T38 aG aA).f3) == ((rd_T38 aB aE).f3))))) = false := by simpa using hI))
                    (try (have nZ : ¬ (((rd_T38 aG aA).f0) = ((rd_T38 aB aE).f0) && (((rd_T38 aG aA).f1) == ((rd_T38 aB aE).f1) && (((rd_T38 aG aA).f2) == ((rd_T38 aB aE).f2) && (((rd_T38 aG aA).f3) == ((rd_T38 aB aE).f3))))) := by simpa using hI))
                    clear hI
                    have H' := Aside0.mk H
                    clear H
                    have qI := aQ.out
                    have rY := aS.out
                    have qJ := aV.out
                    have rZ := aY.out
                    have qK := aW.out
                    have sA := bA.out
                    have lD : wr.cell? ⟨aN, 0, none⟩ = some (.int .i64 bO) := (blk_cell aC.out 0).trans rfl
                    have lE : wr.cell? ⟨aN, 1, none⟩ = some (.int .i64 bP) := (blk_cell aC.out 1).trans rfl
                    have lF : wr.cell? ⟨aN, 2, none⟩ = some (.slice bE aB.length bC) := (blk_cell aC.out 2).trans rfl
                    have lS := blk_frozen aC.out 0
                    have lT := blk_frozen aC.out 1
                    have lU := blk_frozen aC.out 2
                    have cB : 0 ≤ (aA : Int) := of_decide_eq_true oM
                    have cD : aA < (aB.length : Int) := of_decide_eq_true oM
                    obtain ⟨bU, gM, gD, gE, gF, gG⟩ := at_T38 (Kd.Q_reads' aH.out).2.2 aA cB cD
                    cases gM
                    replace cB := eq_true cB
                    replace cD := eq_true cD
                    have cC : 0 ≤ (aE : Int) := of_decide_eq_true oM
                    have cE : aE < (aB.length : Int) := of_decide_eq_true oM
                    obtain ⟨eX, gN, gH, gI, gJ, gK⟩ := at_T38 (Kd.Q_reads' aH.out).2.2 aE cC cE
                    obtain rfl : bU = eX := (by injection gN)
                    replace cC := eq_true cC
                    replace cE := eq_true cE
                    have qL := aZ.out
                    have sB := aX.out
                    have qM := bI.out
                    have sC := bJ.out
                    have lG : wr.cell? ⟨aO, 0, none⟩ = some (.int .i64 bQ) := (blk_cell aF.out 0).trans rfl
                    have lH : wr.cell? ⟨aO, 1, none⟩ = some (.int .i64 bR) := (blk_cell aF.out 1).trans rfl
                    have lI : wr.cell? ⟨aO, 2, none⟩ = some (.slice bG aG.length bD) := (blk_cell aF.out 2).trans rfl
                    have lV := blk_frozen aF.out 0
                    have lW := blk_frozen aF.out 1
                    have lX := blk_frozen aF.out 2
                    have gO : 0 ≤ (aA : Int) := of_decide_eq_true oM
                    have gS : aA < (aG.length : Int) := of_decide_eq_true oM
                    obtain ⟨jA, iR, hU, hV, hW, hX⟩ := at_T38 (Kd.Q_reads' aK.out).2.2 aA gO gS
                    cases iR
                    replace gO := eq_true gO
                    replace gS := eq_true gS
                    have gP : 0 ≤ (aE : Int) := of_decide_eq_true oM
                    have gT : aE < (aB.length : Int) := of_decide_eq_true oM
                    obtain ⟨hC, iS, hY, hZ, iA, iB⟩ := at_T38 (Kd.Q_reads' aH.out).2.2 aE gP gT
                    obtain rfl : bU = hC := (by injection iS)
                    replace gP := eq_true gP
                    replace gT := eq_true gT
                    go_wp2
                    repeat (go_quiet (fail); try go_wp2)
                    go_roundg k4
                    case measure => have := gX.out; have := eY.out; have := HK3.out; have := HK4.out; omega
                    case rel => exact ⟨(wrap64 (bZ + 1)), (cA), (wrap64 (aA + 1)), oU, oU, oU, H', ⟨(by have := gX.out; have := eY.out; have := HK3.out; have := HK4.out; omega)⟩, ⟨(oQ aH)⟩, ⟨(oQ aK)⟩, ⟨(oQ aP)⟩, ⟨(oP aC)⟩, ⟨(oP aD)⟩, ⟨(oP aF)⟩, ⟨(oP aJ)⟩, ⟨(oB HB)⟩⟩
                  ·rw [if_neg kU] at H
                   exact absurd H (by simp)
                 ·rw [if_neg hH] at H
                  have jD : (((rd_T38 aB aA).f0) == ((rd_T38 aB aE).f0) && (((rd_T38 aB aA).f1) == ((rd_T38 aB aE).f1) && (((rd_T38 aB aA).f2) == ((rd_T38 aB aE).f2) && (((rd_T38 aB aA).f3) == ((rd_T38 aB aE).f3))))) = false := by simpa using hH
                  (try (have jE : decide (((rd_T38 aB aA).f0) = ((rd_T38 aB aE).f0) && (((rd_T38 aB aA).f1) == ((rd_T38 aB aE).f1) && (((rd_T38 aB aA).f2) == ((rd_T38 aB aE).f2) && (((rd_T38 aB aA).f3) == ((rd_T38 aB aE).f3))))) = false := by simpa using hH))
                  (try (have jF : (((rd_T38 aB aA).f0) == ((rd_T38 aB aE).f0) && (((rd_T38 aB aA).f1) == ((rd_T38 aB aE).f1) && (((rd_T38 aB aA).f2) == ((rd_T38 aB aE).f2) && (((rd_T38 aB aA).f3) == ((rd_T38 aB aE).f3))))) = false := by simpa using hH))
                  (try (have nX : ¬ (((rd_T38 aB aA).f0) = ((rd_T38 aB aE).f0) && (((rd_T38 aB aA).f1) == ((rd_T38 aB aE).f1) && (((rd_T38 aB aA).f2) == ((rd_T38 aB aE).f2) && (((rd_T38 aB aA).f3) == ((rd_T38 aB aE).f3))))) := by simpa using hH))
                  clear hH
                  by_cases kV : aA < (aG.length : Int)
                  ·rw [if_pos kV] at H
                   have oO : decide (aA < (aG.length : Int)) = true := decide_eq_true kV
                   clear kV
                   by_cases hJ : (((rd_T38 aG aA).f0) == ((rd_T38 aB aE).f0) && (((rd_T38 aG aA).f1) == ((rd_T38 aB aE).f1) && (((rd_T38 aG aA).f2) == ((rd_T38 aB aE).f2) && (((rd_T38 aG aA).f3) == ((rd_T38 aB aE).f3))))) = true
                   ·rw [if_pos hJ] at H
                    have jJ : (((rd_T38 aG aA).f0) == ((rd_T38 aB aE).f0) && (((rd_T38 aG aA).f1) == ((rd_T38 aB aE).f1) && (((rd_T38 aG aA).f2) == ((rd_T38 aB aE).f2) && (((rd_T38 aG aA).f3) == ((rd_T38 aB aE).f3))))) = true := hJ
                    (try (have jK : decide (((rd_T38 aG aA).f0) = ((rd_T38 aB aE).f0) && (((rd_T38 aG aA).f1) == ((rd_T38 aB aE).f1) && (((rd_T38 aG aA).f2) == ((rd_T38 aB aE).f2) && (((rd_T38 aG aA).f3) == ((rd_T38 aB aE).f3))))) = true := by simpa using hJ))
                    (try (have jL : (((rd_T38 aG aA).f0) == ((rd_T38 aB aE).f0) && (((rd_T38 aG aA).f1) == ((rd_T38 aB aE).f1) && (((rd_T38 aG aA).f2) == ((rd_T38 aB aE).f2) && (((rd_T38 aG aA).f3) == ((rd_T38 aB aE).f3))))) = true := by simpa using hJ))
                    clear hJ
                    have H' := Aside0.mk H
                    clear H
                    have qN := aQ.out
                    have sD := aS.out
                    have qO := aV.out
                    have sE := aY.out
                    have qP := aW.out
                    have sF := bA.out
                    have lJ : wr.cell? ⟨aN, 0, none⟩ = some (.int .i64 bO) := (blk_cell aC.out 0).trans rfl
                    have lK : wr.cell? ⟨aN, 1, none⟩ = some (.int .i64 bP) := (blk_cell aC.out 1).trans rfl
                    have lL : wr.cell? ⟨aN, 2, none⟩ = some (.slice bE aB.length bC) := (blk_cell aC.out 2).trans rfl
                    have lY := blk_frozen aC.out 0
                    have lZ := blk_frozen aC.out 1
                    have mA := blk_frozen aC.out 2
                    have cB : 0 ≤ (aA : Int) := of_decide_eq_true oM
                    have cD : aA < (aB.length : Int) := of_decide_eq_true oM
                    obtain ⟨bU, gM, gD, gE, gF, gG⟩ := at_T38 (Kd.Q_reads' aH.out).2.2 aA cB cD
                    cases gM
                    replace cB := eq_true cB
                    replace cD := eq_true cD
                    have cC : 0 ≤ (aE : Int) := of_decide_eq_true oM
                    have cE : aE < (aB.length : Int) := of_decide_eq_true oM
                    obtain ⟨eX, gN, gH, gI, gJ, gK⟩ := at_T38 (Kd.Q_reads' aH.out).2.2 aE cC cE
                    obtain rfl : bU = eX := (by injection gN)
                    replace cC := eq_true cC
                    replace cE := eq_true cE
                    have qQ := aZ.out
                    have sG := aX.out
                    have mH := bI.out
                    have mT := bJ.out
                    have jM : wr.cell? ⟨aO, 0, none⟩ = some (.int .i64 bQ) := (blk_cell aF.out 0).trans rfl
                    have jN : wr.cell? ⟨aO, 1, none⟩ = some (.int .i64 bR) := (blk_cell aF.out 1).trans rfl
                    have jO : wr.cell? ⟨aO, 2, none⟩ = some (.slice bG aG.length bD) := (blk_cell aF.out 2).trans rfl
                    have kB := blk_frozen aF.out 0
                    have kC := blk_frozen aF.out 1
                    have kD := blk_frozen aF.out 2
                    have gQ : 0 ≤ (aA : Int) := of_decide_eq_true oM
                    have gU : aA < (aG.length : Int) := of_decide_eq_true oM
                    obtain ⟨jB, iT, iC, iD, iE, iF⟩ := at_T38 (Kd.Q_reads' aK.out).2.2 aA gQ gU
                    cases iT
                    replace gQ := eq_true gQ
                    replace gU := eq_true gU
                    have gR : 0 ≤ (aE : Int) := of_decide_eq_true oM
                    have gV : aE < (aB.length : Int) := of_decide_eq_true oM
                    obtain ⟨hD, iU, iG, iH, iI, iJ⟩ := at_T38 (Kd.Q_reads' aH.out).2.2 aE gR gV
                    obtain rfl : bU = hD := (by injection iU)
                    replace gR := eq_true gR
                    replace gV := eq_true gV
                    go_wp2
                    repeat (go_quiet (fail); try go_wp2)
                    go_roundg k4
                    case measure => have := gX.out; have := eY.out; have := HK3.out; have := HK4.out; omega
                    case rel => exact ⟨(bZ), (wrap64 (cA + 1)), (wrap64 (aA + 1)), oU, oU, oU, H', ⟨(by have := gX.out; have := eY.out; have := HK3.out; have := HK4.out; omega)⟩, ⟨(oQ aH)⟩, ⟨(oQ aK)⟩, ⟨(oQ aP)⟩, ⟨(oP aC)⟩, ⟨(oP aD)⟩, ⟨(oP aF)⟩, ⟨(oP aJ)⟩, ⟨(oB HB)⟩⟩
                   ·rw [if_neg hJ] at H
                    have jJ : (((rd_T38 aG aA).f0) == ((rd_T38 aB aE).f0) && (((rd_T38 aG aA).f1) == ((rd_T38 aB aE).f1) && (((rd_T38 aG aA).f2) == ((rd_T38 aB aE).f2) && (((rd_T38 aG aA).f3) == ((rd_T38 aB aE).f3))))) = false := by simpa using hJ
                    (try (have jK : decide (((rd_T38 aG aA).f0) = ((rd_T38 aB aE).f0) && (((rd_T38 aG aA).f1) == ((rd_T38 aB aE).f1) && (((rd_T38 aG aA).f2) == ((rd_T38 aB aE).f2) && (((rd_T38 aG aA).f3) == ((rd_T38 aB aE).f3))))) = false := by simpa using hJ))
                    (try (have jL : (((rd_T38 aG aA).f0) == ((rd_T38 aB aE).f0) && (((rd_T38 aG aA).f1) == ((rd_T38 aB aE).f1) && (((rd_T38 aG aA).f2) == ((rd_T38 aB aE).f2) && (((rd_T38 aG aA).f3) == ((rd_T38 aB aE).f3))))) = false := by simpa using hJ))
                    (try (have pA : ¬ (((rd_T38 aG aA).f0) = ((rd_T38 aB aE).f0) && (((rd_T38 aG aA).f1) == ((rd_T38 aB aE).f1) && (((rd_T38 aG aA).f2) == ((rd_T38 aB aE).f2) && (((rd_T38 aG aA).f3) == ((rd_T38 aB aE).f3))))) := by simpa using hJ))
                    clear hJ
                    have H' := Aside0.mk H
                    clear H
                    have mI := aQ.out
                    have mU := aS.out
                    have mJ := aV.out
                    have mV := aY.out
                    have mK := aW.out
                    have mW := bA.out
                    have jP : wr.cell? ⟨aN, 0, none⟩ = some (.int .i64 bO) := (blk_cell aC.out 0).trans rfl
                    have jQ : wr.cell? ⟨aN, 1, none⟩ = some (.int .i64 bP) := (blk_cell aC.out 1).trans rfl
                    have jR : wr.cell? ⟨aN, 2, none⟩ = some (.slice bE aB.length bC) := (blk_cell aC.out 2).trans rfl
                    have kE := blk_frozen aC.out 0
                    have kF := blk_frozen aC.out 1
                    have kG := blk_frozen aC.out 2
                    have cB : 0 ≤ (aA : Int) := of_decide_eq_true oM
                    have cD : aA < (aB.length : Int) := of_decide_eq_true oM
                    obtain ⟨bU, gM, gD, gE, gF, gG⟩ := at_T38 (Kd.Q_reads' aH.out).2.2 aA cB cD
                    cases gM
                    replace cB := eq_true cB
                    replace cD := eq_true cD
                    have cC : 0 ≤ (aE : Int) := of_decide_eq_true oM
                    have cE : aE < (aB.length : Int) := of_decide_eq_true oM
                    obtain ⟨eX, gN, gH, gI, gJ, gK⟩ := at_T38 (Kd.Q_reads' aH.out).2.2 aE cC cE
                    obtain rfl : bU = eX := (by injection gN)
                    replace cC := eq_true cC
                    replace cE := eq_true cE
                    have mL := aZ.out
                    have mX := aX.out
                    have mM := bI.out
                    have mY := bJ.out
                    have jS : wr.cell? ⟨aO, 0, none⟩ = some (.int .i64 bQ) := (blk_cell aF.out 0).trans rfl
                    have jT : wr.cell? ⟨aO, 1, none⟩ = some (.int .i64 bR) := (blk_cell aF.out 1).trans rfl
                    have jU : wr.cell? ⟨aO, 2, none⟩ = some (.slice bG aG.length bD) := (blk_cell aF.out 2).trans rfl
                    have kH := blk_frozen aF.out 0
                    have kI := blk_frozen aF.out 1
                    have kJ := blk_frozen aF.out 2
                    have gQ : 0 ≤ (aA : Int) := of_decide_eq_true oM
                    have gU : aA < (aG.length : Int) := of_decide_eq_true oM
                    obtain ⟨jB, iT, iC, iD, iE, iF⟩ := at_T38 (Kd.Q_reads' aK.out).2.2 aA gQ gU
                    cases iT
                    replace gQ := eq_true gQ
                    replace gU := eq_true gU
                    have gR : 0 ≤ (aE : Int) := of_decide_eq_true oM
                    have gV : aE < (aB.length : Int) := of_decide_eq_true oM
                    obtain ⟨hD, iU, iG, iH, iI, iJ⟩ := at_T38 (Kd.Q_reads' aH.out).2.2 aE gR gV
                    obtain rfl : bU = hD := (by injection iU)
                    replace gR := eq_true gR
                    replace gV := eq_true gV
                    go_wp2
                    repeat (go_quiet (fail); try go_wp2)
                    go_roundg k4
                    case measure => have := gX.out; have := eY.out; have := HK3.out; have := HK4.out; omega
                    case rel => exact ⟨(bZ), (cA), (wrap64 (aA + 1)), oU, oU, oU, H', ⟨(by have := gX.out; have := eY.out; have := HK3.out; have := HK4.out; omega)⟩, ⟨(oQ aH)⟩, ⟨(oQ aK)⟩, ⟨(oQ aP)⟩, ⟨(oP aC)⟩, ⟨(oP aD)⟩, ⟨(oP aF)⟩, ⟨(oP aJ)⟩, ⟨(oB HB)⟩⟩
                  ·rw [if_neg kV] at H
                   exact absurd H (by simp)
                ·rw [if_neg kT] at H
                 exact absurd H (by simp)
               ·rw [if_neg kS] at H
                exact absurd H (by simp)
              ·rw [if_neg kR] at H
               exact absurd H (by simp)
             ·rw [if_neg iX] at H
              have jC : decide (aA < (aB.length : Int)) = false := decide_eq_false iX
              clear iX
              by_cases hE : bZ = cA
              ·rw [if_pos hE] at H
               have mC : (bZ == cA) = true := beq_iff_eq.mpr hE
               have mD : (bZ != cA) = false := bne_eq_false_iff_eq.mpr hE
               clear hE
               have H' := Aside0.mk H
               clear H
               have mN := aQ.out
               have mZ := aS.out
               have mO := aV.out
               have nA := aY.out
               have mP := aW.out
               have nB := bA.out
               have jV : wr.cell? ⟨aN, 0, none⟩ = some (.int .i64 bO) := (blk_cell aC.out 0).trans rfl
               have jW : wr.cell? ⟨aN, 1, none⟩ = some (.int .i64 bP) := (blk_cell aC.out 1).trans rfl
               have jX : wr.cell? ⟨aN, 2, none⟩ = some (.slice bE aB.length bC) := (blk_cell aC.out 2).trans rfl
               have kK := blk_frozen aC.out 0
               have kL := blk_frozen aC.out 1
               have kM := blk_frozen aC.out 2
               go_wp2
               repeat (go_quiet (fail); try go_wp2)
               go_roundg k4
               case measure => have := gX.out; have := eY.out; have := HK3.out; have := HK4.out; omega
               case rel => exact ⟨(wrap64 (aE + 1)), oU, H', ⟨(by have := gX.out; have := eY.out; have := HK3.out; have := HK4.out; omega)⟩, ⟨(oQ aH)⟩, ⟨(oQ aK)⟩, ⟨(oQ aP)⟩, ⟨(oP aC)⟩, ⟨(oP aD)⟩, ⟨(oP aF)⟩, ⟨(oP aJ)⟩, ⟨(oB HB)⟩⟩
              ·rw [if_neg hE] at H
               exact absurd H (by simp)
          ·rw [if_neg iQ] at H
           have iM : decide (aE < (aB.length : Int)) = false := decide_eq_false iQ
           clear iQ
           obtain rfl := Option.some.inj H
           have mQ := aQ.out
           have nC := aS.out
           have mR := aV.out
           have nD := aY.out
           have mS := aW.out
           have nE := bA.out
           have jY : wr.cell? ⟨aN, 0, none⟩ = some (.int .i64 bO) := (blk_cell aC.out 0).trans rfl
           have jZ : wr.cell? ⟨aN, 1, none⟩ = some (.int .i64 bP) := (blk_cell aC.out 1).trans rfl
           have kA : wr.cell? ⟨aN, 2, none⟩ = some (.slice bE aB.length bC) := (blk_cell aC.out 2).trans rfl
           have kN := blk_frozen aC.out 0
           have kO := blk_frozen aC.out 1
           have kP := blk_frozen aC.out 2
           go_wp2
           repeat (go_quiet (fail); try go_wp2)
           go_ret
           exact ⟨by first | rfl | (simp [errW_none, errW_some] <;> rfl) | (simp [*, errW_none, errW_some] <;> rfl), oB HB⟩

/-- THE ONE PURE STATEMENT of laws_FnOpMoves: yours. -/
def laws_FnOpMoves.Pure : Prop := ∀ (l0 : List Int), l0.length ≤ maxLen → l0.length * 1 ≤ 140737488351232 → (∀ x ∈ l0, (Lit.int .u8 x).wf = true) → ∃ k, laws_FnOpMoves.f k l0 = some true
theorem laws_FnOpMoves.walk (P : laws_FnOpMoves.Pure) (a0 : Option Addr) (len0 cap0 : Nat) (z0 : List Int) (w : World) (w0 : (a0 = none ∧ len0 = 0 ∧ cap0 = 0 ∧ z0 = []) ∨ ∃ x, a0 = some x ∧ len0 ≤ cap0 ∧ cap0 ≤ maxLen ∧ z0.length = cap0 ∧ (∀ i, i < z0.length → w.cell? (x.add i) = some (.int .u8 (z0.getD i 0))) ∧ ∀ n ∈ z0, (Lit.int .u8 n).wf = true) (y0 : len0 * 1 ≤ 140737488351232) :
  Calls Try.prog 4 #[.slice a0 len0 cap0] w fun e w' => e = .returned (.bool true) ∧ Below w.heap.size w w' := by
 obtain ⟨l0, rfl, hr0, hm0, hw0, kW⟩ := ReadsInt.ofRowC w0
 obtain ⟨k, h⟩ := P l0 hm0 y0 hw0
 refine (laws_FnOpMoves.calls k _ _ l0 true w (Kd.C_of_reads (d := (0 : Int)) (h1 := fun _ => rfl) hr0) kW h).mono ?_
 rintro e w' ⟨rfl, hd⟩
 exact ⟨rfl, hd⟩

end Go.Proofs.Ythnmeogafklhnaa.X
