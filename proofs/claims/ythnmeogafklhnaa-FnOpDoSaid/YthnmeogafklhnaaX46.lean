/- What functions of the program come to, each with its proof. No condition but what each theorem states. -/
import Derived.Test.YthnmeogafklhnaaX0
import Derived.Test.YthnmeogafklhnaaX9
import Derived.Test.YthnmeogafklhnaaX13
import Derived.Test.YthnmeogafklhnaaX15
import Derived.Test.YthnmeogafklhnaaX28
import Derived.Test.YthnmeogafklhnaaX30
import Derived.Test.YthnmeogafklhnaaX32
import Derived.Test.YthnmeogafklhnaaX43
import Derived.Test.YthnmeogafklhnaaX44
import Derived.Test.YthnmeogafklhnaaX45
namespace Go.Proofs.Ythnmeogafklhnaa.X
open Go.RowKit Go.Proofs.YthnmeogafklhnaaW.PrintWords Go.Proofs.YthnmeogafklhnaaW.PrintLast Go.Proofs.YthnmeogafklhnaaW.PrintMore Go.Proofs.Ythnmeogafklhnaa.Hyb
attribute [local go_sem] max2_int min2_int max_two min_two max_three min_three max_four min_four
set_option linter.unusedVariables false
set_option linter.unusedSimpArgs false

/-! ### laws_FnOpDo: function 3 -/
mutual
def laws_FnOpDo.j0 : Nat → Bool → Bool → Int → Int → List (S38) → Int → Int → Int → Int → Int → Int → Int → List (S38) → Option (Bool)
 | 0, _, _, _, _, _, _, _, _, _, _, _, _, _ => none
 | k + 1, x6, x46, x451000, x451001, x451002, x452000, x452001, x452002, x452003, x452004, x459000, x459001, x459002 => if x46 = true then (none) else ((spec_RasOk.f k x451000 x451001 x451002).bind fun eJ => (if eJ = true then ((spec_OpOk.f x452000 x452001 x452002 x452003 x452004).bind fun dZ => (laws_FnOpDo.j1 k x6 (!dZ) x451000 x451001 x451002 x452000 x452001 x452002 x452003 x452004 x459000 x459001 x459002)) else (laws_FnOpDo.j1 k x6 true x451000 x451001 x451002 x452000 x452001 x452002 x452003 x452004 x459000 x459001 x459002)))
def laws_FnOpDo.j1 : Nat → Bool → Bool → Int → Int → List (S38) → Int → Int → Int → Int → Int → Int → Int → List (S38) → Option (Bool)
 | 0, _, _, _, _, _, _, _, _, _, _, _, _, _ => none
 | k + 1, x6, x54, x451000, x451001, x451002, x452000, x452001, x452002, x452003, x452004, x459000, x459001, x459002 => if x54 = true then (if x6 = true then (none) else (if (x459002.length : Int) = 0 then ((laws_eaOk.f).bind fun eK => (some eK)) else (none))) else (if x452000 = 1 then (if (wrap64 (x452001 + x452003)) > x451000 then (if x6 = true then (none) else (some ((x459002.length : Int) == 0))) else (if (wrap64 (x452002 + x452004)) > x451001 then (if x6 = true then (none) else (some ((x459002.length : Int) == 0))) else (if x6 = true then ((impl_RasOk.f k x459000 x459001 x459002).bind fun eL => (if eL = true then (if x459000 = x452003 then (some (x459001 == x452004)) else (none)) else (none))) else (none)))) else (if x452000 = 4 then (if x6 = true then ((impl_RasOk.f k x459000 x459001 x459002).bind fun eM => (if eM = true then (if x459000 = x451001 then (some (x459001 == x451000)) else (none)) else (none))) else (none)) else (if x452000 = 7 then (if x6 = true then ((impl_RasOk.f k x459000 x459001 x459002).bind fun eN => (if eN = true then (if x459000 = x452001 then (some (x459001 == x452002)) else (none)) else (none))) else (none)) else (if x6 = true then ((impl_RasOk.f k x459000 x459001 x459002).bind fun eO => (if eO = true then (if x459000 = x451000 then (some (x459001 == x451001)) else (none)) else (none))) else (none)))))
end
def laws_FnOpDo.f (k : Nat) (l0 : List Int) : Option (Bool) := if (l0.length : Int) > 1048576 then (some true) else ((spec_DrawOpDo.f k l0).bind fun aE => ((impl_OpDo.f k aE.1 aE.2.1 aE.2.2.1 aE.2.2.2.1 aE.2.2.2.2.1 aE.2.2.2.2.2.1 aE.2.2.2.2.2.2.1 aE.2.2.2.2.2.2.2).bind fun aW => ((spec_OpDo.f k aE.1 aE.2.1 aE.2.2.1 aE.2.2.2.1 aE.2.2.2.2.1 aE.2.2.2.2.2.1 aE.2.2.2.2.2.2.1 aE.2.2.2.2.2.2.2).bind fun bY => ((laws_eaRas.f k aW.1 aW.2.1 aW.2.2.1 bY.1 bY.2.1 bY.2.2.1).bind fun cV => (if cV = true then (if (aW.2.2.2 != bY.2.2.2) = true then (laws_FnOpDo.j0 k aW.2.2.2 true aE.1 aE.2.1 aE.2.2.1 aE.2.2.2.1 aE.2.2.2.2.1 aE.2.2.2.2.2.1 aE.2.2.2.2.2.2.1 aE.2.2.2.2.2.2.2 aW.1 aW.2.1 aW.2.2.1) else ((impl_OpOk.f k aE.2.2.2.1 aE.2.2.2.2.1 aE.2.2.2.2.2.1 aE.2.2.2.2.2.2.1 aE.2.2.2.2.2.2.2).bind fun cG => ((spec_OpOk.f aE.2.2.2.1 aE.2.2.2.2.1 aE.2.2.2.2.2.1 aE.2.2.2.2.2.2.1 aE.2.2.2.2.2.2.2).bind fun cH => (laws_FnOpDo.j0 k aW.2.2.2 (cG != cH) aE.1 aE.2.1 aE.2.2.1 aE.2.2.2.1 aE.2.2.2.2.1 aE.2.2.2.2.2.1 aE.2.2.2.2.2.2.1 aE.2.2.2.2.2.2.2 aW.1 aW.2.1 aW.2.2.1)))) else (laws_FnOpDo.j0 k aW.2.2.2 true aE.1 aE.2.1 aE.2.2.1 aE.2.2.2.1 aE.2.2.2.2.1 aE.2.2.2.2.2.1 aE.2.2.2.2.2.2.1 aE.2.2.2.2.2.2.2 aW.1 aW.2.1 aW.2.2.1))))))
theorem laws_FnOpDo.mono_l : ∀ k, (∀ y0 y1 y2 y3 y4 y5 y6 y7 y8 y9 eT eU eV, LeO (laws_FnOpDo.j0 k y0 y1 y2 y3 y4 y5 y6 y7 y8 y9 eT eU eV) (laws_FnOpDo.j0 (k + 1) y0 y1 y2 y3 y4 y5 y6 y7 y8 y9 eT eU eV)) ∧ (∀ y0 y1 y2 y3 y4 y5 y6 y7 y8 y9 eT eU eV, LeO (laws_FnOpDo.j1 k y0 y1 y2 y3 y4 y5 y6 y7 y8 y9 eT eU eV) (laws_FnOpDo.j1 (k + 1) y0 y1 y2 y3 y4 y5 y6 y7 y8 y9 eT eU eV))
 | 0 => ⟨(fun _ _ _ _ _ _ _ _ _ _ _ _ _ r h => nomatch (show none = some r from h)), (fun _ _ _ _ _ _ _ _ _ _ _ _ _ r h => nomatch (show none = some r from h))⟩
 | k + 1 => by
  obtain ⟨ih0, ih1⟩ := laws_FnOpDo.mono_l k
  refine ⟨?_, ?_⟩
  ·intro y0 y1 y2 y3 y4 y5 y6 y7 y8 y9 eT eU eV
   unfold laws_FnOpDo.j0
   repeat' first
   | (with_reducible exact ih0 _ _ _ _ _ _ _ _ _ _ _ _ _)
   | (with_reducible exact ih1 _ _ _ _ _ _ _ _ _ _ _ _ _)
   | (with_reducible exact impl_OpDo.mono _ _ _ _ _ _ _ _ _)
   | (with_reducible exact impl_OpOk.mono _ _ _ _ _ _)
   | (with_reducible exact impl_RasOk.mono _ _ _ _)
   | (with_reducible exact laws_eaRas.mono _ _ _ _ _ _ _)
   | (with_reducible exact spec_DrawOpDo.mono _ _)
   | (with_reducible exact spec_OpDo.mono _ _ _ _ _ _ _ _ _)
   | (with_reducible exact spec_RasOk.mono _ _ _ _)
   | (with_reducible exact LeO.refl _)
   | (with_reducible exact LeO.none _)
   | (with_reducible refine LeO.ite ?_ ?_)
   | (with_reducible refine LeO.bind ?_ (fun _ => ?_))
   | exact ih0 _ _ _ _ _ _ _ _ _ _ _ _ _
   | exact ih1 _ _ _ _ _ _ _ _ _ _ _ _ _
   | exact impl_OpDo.mono _ _ _ _ _ _ _ _ _
   | exact impl_OpOk.mono _ _ _ _ _ _
   | exact impl_RasOk.mono _ _ _ _
   | exact laws_eaRas.mono _ _ _ _ _ _ _
   | exact spec_DrawOpDo.mono _ _
   | exact spec_OpDo.mono _ _ _ _ _ _ _ _ _
   | exact spec_RasOk.mono _ _ _ _
   | exact LeO.none _
   | refine LeO.ite ?_ ?_
   | refine LeO.bind ?_ (fun _ => ?_)
  ·intro y0 y1 y2 y3 y4 y5 y6 y7 y8 y9 eT eU eV
   unfold laws_FnOpDo.j1
   repeat' first
   | (with_reducible exact ih0 _ _ _ _ _ _ _ _ _ _ _ _ _)
   | (with_reducible exact ih1 _ _ _ _ _ _ _ _ _ _ _ _ _)
   | (with_reducible exact impl_OpDo.mono _ _ _ _ _ _ _ _ _)
   | (with_reducible exact impl_OpOk.mono _ _ _ _ _ _)
   | (with_reducible exact impl_RasOk.mono _ _ _ _)
   | (with_reducible exact laws_eaRas.mono _ _ _ _ _ _ _)
   | (with_reducible exact spec_DrawOpDo.mono _ _)
   | (with_reducible exact spec_OpDo.mono _ _ _ _ _ _ _ _ _)
   | (with_reducible exact spec_RasOk.mono _ _ _ _)
   | (with_reducible exact LeO.refl _)
   | (with_reducible exact LeO.none _)
   | (with_reducible refine LeO.ite ?_ ?_)
   | (with_reducible refine LeO.bind ?_ (fun _ => ?_))
   | exact ih0 _ _ _ _ _ _ _ _ _ _ _ _ _
   | exact ih1 _ _ _ _ _ _ _ _ _ _ _ _ _
   | exact impl_OpDo.mono _ _ _ _ _ _ _ _ _
   | exact impl_OpOk.mono _ _ _ _ _ _
   | exact impl_RasOk.mono _ _ _ _
   | exact laws_eaRas.mono _ _ _ _ _ _ _
   | exact spec_DrawOpDo.mono _ _
   | exact spec_OpDo.mono _ _ _ _ _ _ _ _ _
   | exact spec_RasOk.mono _ _ _ _
   | exact LeO.none _
   | refine LeO.ite ?_ ?_
   | refine LeO.bind ?_ (fun _ => ?_)
theorem laws_FnOpDo.mono : ∀ a0 k, LeO (laws_FnOpDo.f k a0) (laws_FnOpDo.f (k + 1) a0) := by
 intro a0 k
 obtain ⟨ih0, ih1⟩ := laws_FnOpDo.mono_l k
 unfold laws_FnOpDo.f
 repeat' first
   | (with_reducible exact ih0 _ _ _ _ _ _ _ _ _ _ _ _ _)
   | (with_reducible exact ih1 _ _ _ _ _ _ _ _ _ _ _ _ _)
   | (with_reducible exact impl_OpDo.mono _ _ _ _ _ _ _ _ _)
   | (with_reducible exact impl_OpOk.mono _ _ _ _ _ _)
   | (with_reducible exact impl_RasOk.mono _ _ _ _)
   | (with_reducible exact laws_eaRas.mono _ _ _ _ _ _ _)
   | (with_reducible exact spec_DrawOpDo.mono _ _)
   | (with_reducible exact spec_OpDo.mono _ _ _ _ _ _ _ _ _)
   | (with_reducible exact spec_RasOk.mono _ _ _ _)
   | (with_reducible exact LeO.refl _)
   | (with_reducible exact LeO.none _)
   | (with_reducible refine LeO.ite ?_ ?_)
   | (with_reducible refine LeO.bind ?_ (fun _ => ?_))
   | exact ih0 _ _ _ _ _ _ _ _ _ _ _ _ _
   | exact ih1 _ _ _ _ _ _ _ _ _ _ _ _ _
   | exact impl_OpDo.mono _ _ _ _ _ _ _ _ _
   | exact impl_OpOk.mono _ _ _ _ _ _
   | exact impl_RasOk.mono _ _ _ _
   | exact laws_eaRas.mono _ _ _ _ _ _ _
   | exact spec_DrawOpDo.mono _ _
   | exact spec_OpDo.mono _ _ _ _ _ _ _ _ _
   | exact spec_RasOk.mono _ _ _ _
   | exact LeO.none _
   | refine LeO.ite ?_ ?_
   | refine LeO.bind ?_ (fun _ => ?_)
def laws_FnOpDo.T6 : Bool × List (List Nat × List Nat) := (true, [([], []), ([], []), ([0, 1], [0, 1]), ([2], [2]), ([3, 2], [3]), ([4], [4]), ([4], [4]), ([5, 6, 4], [4, 5, 6]), ([4, 7], [4, 7]), ([8, 4], [8]), ([9], [9]), ([10, 9, 9], [9, 10]), ([9], [9]), ([12, 11, 9], [9, 12]), ([11, 13, 9], [9, 11, 13]), ([9, 14], [9, 14])])
def laws_FnOpDo.B6 : List Nat := [0, 0, 3, 7, 15, 31, 31, 127, 255, 511, 1023, 2047, 1023, 8191, 16383, 32767]
theorem laws_FnOpDo.tab6 : rtab .any (opsOf Try.f3 6) = laws_FnOpDo.T6 := by kernel_rfl
theorem laws_FnOpDo.bits6 : waitsOk laws_FnOpDo.T6.2 laws_FnOpDo.B6 = true := by kernel_rfl
set_option maxHeartbeats 8000000 in
set_option maxRecDepth 100000 in
theorem laws_FnOpDo.calls (k : Nat) (A0 : Option Addr) (c0 : Nat) (l0 : List Int) (r : Bool) (w : World) (hr0 : Kd.C (Kd.int .u8) w A0 l0.length l0) (kE : l0.length ≤ c0) (h : laws_FnOpDo.f k l0 = some r) :
  Calls Try.prog 3 #[.slice A0 l0.length c0] w fun e w' => e = .returned (.bool r) ∧ Below w.heap.size w w' := by
 have hu25 := Try.underlying25
 have hu27 := Try.underlying27
 have uM := Aside0.mk hr0
 have uK := Aside0.mk kE
 clear hr0 kE
 have HB := Aside0.mk (Below.refl w.heap.size w)
 have H : (if (l0.length : Int) > 1048576 then (some true) else ((spec_DrawOpDo.f k l0).bind fun aE => ((impl_OpDo.f k aE.1 aE.2.1 aE.2.2.1 aE.2.2.2.1 aE.2.2.2.2.1 aE.2.2.2.2.2.1 aE.2.2.2.2.2.2.1 aE.2.2.2.2.2.2.2).bind fun aW => ((spec_OpDo.f k aE.1 aE.2.1 aE.2.2.1 aE.2.2.2.1 aE.2.2.2.2.1 aE.2.2.2.2.2.1 aE.2.2.2.2.2.2.1 aE.2.2.2.2.2.2.2).bind fun bY => ((laws_eaRas.f k aW.1 aW.2.1 aW.2.2.1 bY.1 bY.2.1 bY.2.2.1).bind fun cV => (if cV = true then (if (aW.2.2.2 != bY.2.2.2) = true then (laws_FnOpDo.j0 k aW.2.2.2 true aE.1 aE.2.1 aE.2.2.1 aE.2.2.2.1 aE.2.2.2.2.1 aE.2.2.2.2.2.1 aE.2.2.2.2.2.2.1 aE.2.2.2.2.2.2.2 aW.1 aW.2.1 aW.2.2.1) else ((impl_OpOk.f k aE.2.2.2.1 aE.2.2.2.2.1 aE.2.2.2.2.2.1 aE.2.2.2.2.2.2.1 aE.2.2.2.2.2.2.2).bind fun cG => ((spec_OpOk.f aE.2.2.2.1 aE.2.2.2.2.1 aE.2.2.2.2.2.1 aE.2.2.2.2.2.2.1 aE.2.2.2.2.2.2.2).bind fun cH => (laws_FnOpDo.j0 k aW.2.2.2 (cG != cH) aE.1 aE.2.1 aE.2.2.1 aE.2.2.2.1 aE.2.2.2.2.1 aE.2.2.2.2.2.1 aE.2.2.2.2.2.2.1 aE.2.2.2.2.2.2.2 aW.1 aW.2.1 aW.2.2.1)))) else (laws_FnOpDo.j0 k aW.2.2.2 true aE.1 aE.2.1 aE.2.2.1 aE.2.2.2.1 aE.2.2.2.2.1 aE.2.2.2.2.2.1 aE.2.2.2.2.2.2.1 aE.2.2.2.2.2.2.2 aW.1 aW.2.1 aW.2.2.1))))))) = some r := h
 clear h
 by_cases c2 : (l0.length : Int) > 1048576
 ·rw [if_pos c2] at H
  have pF : decide (1048576 < (l0.length : Int)) = true := decide_eq_true c2
  have pG : decide (1048576 < l0.length) = true := decide_eq_true (by omega)
  clear c2
  obtain rfl := Option.some.inj H
  go_enter Try.func3, Try.ntmps3
  go_wp2
  go_ret
  exact ⟨by first | rfl | (simp [errW_none, errW_some] <;> rfl) | (simp [*, errW_none, errW_some] <;> rfl), oB HB⟩
 ·rw [if_neg c2] at H
  have pF : decide (1048576 < (l0.length : Int)) = false := decide_eq_false c2
  have pG : decide (1048576 < l0.length) = false := decide_eq_false (by omega)
  clear c2
  replace H := Option.bind_eq_some_iff.mp H
  obtain ⟨⟨bJ, bK, aT, aY, bH, bQ, bI, bR⟩, rG, H⟩ := H
  (try dsimp only at H)
  have A3 := Aside0.mk rG
  clear rG
  replace H := Option.bind_eq_some_iff.mp H
  obtain ⟨⟨aX, bD, aQ, bW⟩, rH, H⟩ := H
  (try dsimp only at H)
  have A4 := Aside0.mk rH
  clear rH
  replace H := Option.bind_eq_some_iff.mp H
  obtain ⟨⟨aU, aV, aN, cA⟩, rJ, H⟩ := H
  (try dsimp only at H)
  have A5 := Aside0.mk rJ
  clear rJ
  have nZ := Aside0.mk H
  clear H
  go_enter Try.func3, Try.ntmps3
  go_upto_region 6 with (first | ((with_reducible refine gate_callee (f := 18) rfl ?_); refine goesL_ (some 16) rfl rfl Try.func18 oK rfl #[.slice A0 l0.length c0] rfl oA ?_; (with_reducible refine (spec_DrawOpDo.calls k _ _ l0 bJ bK aT aY bH bQ bI bR _ ?side1 ?side2 A3.out).mono ?_); (case side1 => repeat (first | exact uM.out | (with_reducible refine Kd.C_alloc ?_ _) | (with_reducible refine Kd.C_drewN ?_ _) | (with_reducible refine Kd.C_drew ?_))); (case side2 => exact uK.out); rintro e w7 ⟨uN, rfl, ho0, hb⟩; refine ⟨_, rfl, ?_⟩; have n_ := o2_ (Kd.Q_lower ho0 (below_size (oB HB))) (o1_ (below_step (oB HB) hb)); clear HB; obtain ⟨aJ, HB⟩ := n_; (try clear hb); (try clear hb2); (try clear hk); (try clear hi); (try clear ho0)) | ((with_reducible refine gate_dst (N := 3) rfl ?_); (try (refine gate_guard (by rfl) ?_; dsimp only)); refine box_event rfl (N := 3) rfl (cs := #[.int .i64 0, .int .i64 0, .slice none 0 0]) (t := 25) oS ?_; intro aM hg w8 hbox hb; have n_ := o2_ (Kd.Q_below (oQ aJ) hb) (o2_ (below_step (oB HB) hb) (o2_ (hbox) (o2_ ((oG hg (below_size (oB HB)) : w.heap.size ≤ aM)) (o1_ ((oG hg (below_size (oB HB)) : w.heap.size ≤ aM)))))); clear aJ HB; obtain ⟨aJ, HB, aC, rO, rK⟩ := n_; clear hb hbox hg) | ((with_reducible refine gate_dst (N := 4) rfl ?_); (try (refine gate_guard (by rfl) ?_; dsimp only)); refine box_event rfl (N := 4) rfl (cs := #[.int .i64 0, .int .i64 0, .int .i64 0, .int .i64 0, .int .i64 0]) (t := 27) oS ?_; intro aH hg w9 hbox hb; have n_ := o2_ (Kd.Q_below (oQ aJ) hb) (o2_ (blk_below (oP aC) hb) (o2_ (below_step (oB HB) hb) (o2_ (hbox) (o2_ ((oG hg (below_size (oB HB)) : w.heap.size ≤ aH)) (o2_ ((oG hg (below_size (oB HB)) : w.heap.size ≤ aH)) (o2_ ((oL hg (blk_lt (oP aC)))) (o1_ ((oN hg (blk_lt (oP aC))))))))))); clear aJ aC HB; obtain ⟨aJ, aC, HB, aA, rP, rL, aS, bM⟩ := n_; clear hb hbox hg; have rY := aS.out; have tB := bM.out; have kF : w9.cell? ⟨aM, 0, none⟩ = some (.int .i64 0) := (blk_cell aC.out 0).trans rfl; have kG : w9.cell? ⟨aM, 1, none⟩ = some (.int .i64 0) := (blk_cell aC.out 1).trans rfl; have kH : w9.cell? ⟨aM, 2, none⟩ = some (.slice none 0 0) := (blk_cell aC.out 2).trans rfl; have mA := blk_frozen aC.out 0; have mB := blk_frozen aC.out 1; have mC := blk_frozen aC.out 2; obtain ⟨bG, bC, pH, _⟩ := Kd.Q_slice aJ.out; subst pH; have kI : w9.cell? ⟨aH, 0, none⟩ = some (.int .i64 0) := (blk_cell aA.out 0).trans rfl; have kJ : w9.cell? ⟨aH, 1, none⟩ = some (.int .i64 0) := (blk_cell aA.out 1).trans rfl; have kK : w9.cell? ⟨aH, 2, none⟩ = some (.int .i64 0) := (blk_cell aA.out 2).trans rfl; have kL : w9.cell? ⟨aH, 3, none⟩ = some (.int .i64 0) := (blk_cell aA.out 3).trans rfl; have kM : w9.cell? ⟨aH, 4, none⟩ = some (.int .i64 0) := (blk_cell aA.out 4).trans rfl; have mD := blk_frozen aA.out 0; have mE := blk_frozen aA.out 1; have mF := blk_frozen aA.out 2; have mG := blk_frozen aA.out 3; have mH := blk_frozen aA.out 4) | ((with_reducible refine gate_callee (f := 19) rfl ?_); refine goesL_ (some 22) rfl rfl Try.func19 oK rfl #[.agg #[.int .i64 bJ, .int .i64 bK, .slice bG aT.length bC], .agg #[.int .i64 aY, .int .i64 bH, .int .i64 bQ, .int .i64 bI, .int .i64 bR]] rfl oA ?_; (with_reducible refine (impl_OpDo.calls k bJ bK _ _ aT aY bH bQ bI bR aX bD aQ bW _ ?side1 ?side2 A4.out).mono ?_); (case side1 => refine (Kd.Q_reads' (e := 38) (base := w.heap.size) (ok := fun k_ => True) (n := aT.length) (c := bC) ?_).2.2; exact (by (with_reducible repeat (first | apply Kd.Q_alloc | apply Kd.Q_drewN | apply Kd.Q_drew)); exact (Kd.Q_mono (Kd.Q_mono (Kd.Q_far (p := ⟨aH, 4, none⟩) (Kd.Q_far (p := ⟨aH, 3, none⟩) (Kd.Q_far (p := ⟨aH, 2, none⟩) (Kd.Q_far (p := ⟨aH, 1, none⟩) (Kd.Q_far (p := ⟨aH, 0, none⟩) (Kd.Q_far (p := ⟨aM, 2, none⟩) (Kd.Q_far (p := ⟨aM, 1, none⟩) (Kd.Q_far (p := ⟨aM, 0, none⟩) (Kd.Q_types (Kd.Q_types aJ.out aC.out oD) aA.out oD) (fun _ hk => hk.1.2) (.int .i64 bJ)) (fun _ hk => hk.1.2) (.int .i64 bK)) (fun _ hk => hk.1.2) (.slice bG aT.length bC)) (fun _ hk => hk.2) (.int .i64 aY)) (fun _ hk => hk.2) (.int .i64 bH)) (fun _ hk => hk.2) (.int .i64 bQ)) (fun _ hk => hk.2) (.int .i64 bI)) (fun _ hk => hk.2) (.int .i64 bR)) (fun _ h_ => h_.1)) (fun _ h_ => h_.1)))); (case side2 => exact (Kd.Q_reads' aJ.out).2.1); rintro e uY ⟨uO, rfl, ho0, hb⟩; refine ⟨_, rfl, ?_⟩; have n_ := o2_ (Kd.Q_elder' (by (with_reducible repeat (first | apply Kd.Q_alloc | apply Kd.Q_drewN | apply Kd.Q_drew)); exact (Kd.Q_mono (Kd.Q_mono (Kd.Q_far (p := ⟨aH, 4, none⟩) (Kd.Q_far (p := ⟨aH, 3, none⟩) (Kd.Q_far (p := ⟨aH, 2, none⟩) (Kd.Q_far (p := ⟨aH, 1, none⟩) (Kd.Q_far (p := ⟨aH, 0, none⟩) (Kd.Q_far (p := ⟨aM, 2, none⟩) (Kd.Q_far (p := ⟨aM, 1, none⟩) (Kd.Q_far (p := ⟨aM, 0, none⟩) (Kd.Q_types (Kd.Q_types aJ.out aC.out oD) aA.out oD) (fun _ hk => hk.1.2) (.int .i64 bJ)) (fun _ hk => hk.1.2) (.int .i64 bK)) (fun _ hk => hk.1.2) (.slice bG aT.length bC)) (fun _ hk => hk.2) (.int .i64 aY)) (fun _ hk => hk.2) (.int .i64 bH)) (fun _ hk => hk.2) (.int .i64 bQ)) (fun _ hk => hk.2) (.int .i64 bI)) (fun _ hk => hk.2) (.int .i64 bR)) (fun _ h_ => h_.1)) (fun _ h_ => h_.1))) (Kd.R_base ho0) hb) (o2_ (Kd.R_lower (Kd.R_new' ho0 (Kd.Q_lt (by (with_reducible repeat (first | apply Kd.Q_alloc | apply Kd.Q_drewN | apply Kd.Q_drew)); exact (Kd.Q_mono (Kd.Q_mono (Kd.Q_far (p := ⟨aH, 4, none⟩) (Kd.Q_far (p := ⟨aH, 3, none⟩) (Kd.Q_far (p := ⟨aH, 2, none⟩) (Kd.Q_far (p := ⟨aH, 1, none⟩) (Kd.Q_far (p := ⟨aH, 0, none⟩) (Kd.Q_far (p := ⟨aM, 2, none⟩) (Kd.Q_far (p := ⟨aM, 1, none⟩) (Kd.Q_far (p := ⟨aM, 0, none⟩) (Kd.Q_types (Kd.Q_types aJ.out aC.out oD) aA.out oD) (fun _ hk => hk.1.2) (.int .i64 bJ)) (fun _ hk => hk.1.2) (.int .i64 bK)) (fun _ hk => hk.1.2) (.slice bG aT.length bC)) (fun _ hk => hk.2) (.int .i64 aY)) (fun _ hk => hk.2) (.int .i64 bH)) (fun _ hk => hk.2) (.int .i64 bQ)) (fun _ hk => hk.2) (.int .i64 bI)) (fun _ hk => hk.2) (.int .i64 bR)) (fun _ h_ => h_.1)) (fun _ h_ => h_.1))))) (below_size (oB HB))) (o2_ (blk_below (g := aM) (o := .cells #[.int .i64 bJ, .int .i64 bK, .slice bG aT.length bC] 25 (0, 0)) (blk_far (blk_far (blk_far (blk_far (blk_far (blk_put (blk_put (blk_put (oP aC) 0 _ rfl) 1 _ rfl) 2 _ rfl) aS.out _) aS.out _) aS.out _) aS.out _) aS.out _) hb) (o2_ (blk_below (g := aH) (o := .cells #[.int .i64 aY, .int .i64 bH, .int .i64 bQ, .int .i64 bI, .int .i64 bR] 27 (0, 0)) (blk_put (blk_put (blk_put (blk_put (blk_put (oP aA) 0 _ rfl) 1 _ rfl) 2 _ rfl) 3 _ rfl) 4 _ rfl) hb) (o1_ (below_step (oB HB) hb))))); clear aJ aC aA HB; obtain ⟨aJ, aK, aC, aA, HB⟩ := n_; (try clear hb); (try clear hb2); (try clear hk); (try clear hi); (try clear ho0)) | ((with_reducible refine gate_dst (N := 5) rfl ?_); (try (refine gate_guard (by rfl) ?_; dsimp only)); refine box_event rfl (N := 5) rfl (cs := #[.int .i64 0, .int .i64 0, .slice none 0 0]) (t := 25) oS ?_; intro aI hg cW hbox hb; have n_ := o2_ (Kd.Q_below (oQ aJ) hb) (o2_ (Kd.R_below (oR aK) hb) (o2_ (blk_below (oP aC) hb) (o2_ (blk_below (oP aA) hb) (o2_ (below_step (oB HB) hb) (o2_ (hbox) (o2_ ((oG hg (below_size (oB HB)) : w.heap.size ≤ aI)) (o2_ ((oG hg (below_size (oB HB)) : w.heap.size ≤ aI)) (o2_ ((oL hg (blk_lt (oP aC)))) (o2_ ((oN hg (blk_lt (oP aC)))) (o2_ ((oL hg (blk_lt (oP aA)))) (o1_ ((oN hg (blk_lt (oP aA))))))))))))))); clear aJ aK aC aA HB; obtain ⟨aJ, aK, aC, aA, HB, aB, rQ, rM, bE, bF, bN, bO⟩ := n_; clear hb hbox hg; have rZ := bF.out; have tC := bE.out; have sA := bO.out; have tD := bN.out; have kN : cW.cell? ⟨aI, 0, none⟩ = some (.int .i64 0) := (blk_cell aB.out 0).trans rfl; have kO : cW.cell? ⟨aI, 1, none⟩ = some (.int .i64 0) := (blk_cell aB.out 1).trans rfl; have kP : cW.cell? ⟨aI, 2, none⟩ = some (.slice none 0 0) := (blk_cell aB.out 2).trans rfl; have mI := blk_frozen aB.out 0; have mJ := blk_frozen aB.out 1; have mK := blk_frozen aB.out 2; obtain ⟨bA, bB, pI⟩ := Kd.R_slice aK.out; subst pI; have kQ : cW.cell? ⟨aM, 0, none⟩ = some (.int .i64 bJ) := (blk_cell aC.out 0).trans rfl; have kR : cW.cell? ⟨aM, 1, none⟩ = some (.int .i64 bK) := (blk_cell aC.out 1).trans rfl; have kS : cW.cell? ⟨aM, 2, none⟩ = some (.slice bG aT.length bC) := (blk_cell aC.out 2).trans rfl; have mL := blk_frozen aC.out 0; have mM := blk_frozen aC.out 1; have mN := blk_frozen aC.out 2; have kT : cW.cell? ⟨aH, 0, none⟩ = some (.int .i64 aY) := (blk_cell aA.out 0).trans rfl; have kU : cW.cell? ⟨aH, 1, none⟩ = some (.int .i64 bH) := (blk_cell aA.out 1).trans rfl; have kV : cW.cell? ⟨aH, 2, none⟩ = some (.int .i64 bQ) := (blk_cell aA.out 2).trans rfl; have kW : cW.cell? ⟨aH, 3, none⟩ = some (.int .i64 bI) := (blk_cell aA.out 3).trans rfl; have kX : cW.cell? ⟨aH, 4, none⟩ = some (.int .i64 bR) := (blk_cell aA.out 4).trans rfl; have mO := blk_frozen aA.out 0; have mP := blk_frozen aA.out 1; have mQ := blk_frozen aA.out 2; have mR := blk_frozen aA.out 3; have mS := blk_frozen aA.out 4) | ((with_reducible refine gate_callee (f := 20) rfl ?_); refine goesL_ (some 28) rfl rfl Try.func20 oK rfl #[.agg #[.int .i64 bJ, .int .i64 bK, .slice bG aT.length bC], .agg #[.int .i64 aY, .int .i64 bH, .int .i64 bQ, .int .i64 bI, .int .i64 bR]] rfl oA ?_; (with_reducible refine (spec_OpDo.calls k bJ bK _ _ aT aY bH bQ bI bR aU aV aN cA _ ?side1 ?side2 A5.out).mono ?_); (case side1 => refine (Kd.Q_reads' (e := 38) (base := w.heap.size) (ok := fun k_ => (True ∧ some k_ ≠ (.slice bA aQ.length bB : Value).ownBlock)) (n := aT.length) (c := bC) ?_).2.2; exact (by (with_reducible repeat (first | apply Kd.Q_alloc | apply Kd.Q_drewN | apply Kd.Q_drew)); exact (Kd.Q_mono (Kd.Q_far (p := ⟨aI, 2, none⟩) (Kd.Q_far (p := ⟨aI, 1, none⟩) (Kd.Q_far (p := ⟨aI, 0, none⟩) (Kd.Q_types aJ.out aB.out oD) (fun _ hk => hk.2) (.int .i64 aX)) (fun _ hk => hk.2) (.int .i64 bD)) (fun _ hk => hk.2) (.slice bA aQ.length bB)) (fun _ h_ => h_.1)))); (case side2 => exact (Kd.Q_reads' aJ.out).2.1); rintro e uZ ⟨uS, rfl, ho0, hb⟩; refine ⟨_, rfl, ?_⟩; have n_ := o2_ (Kd.Q_elder' (by (with_reducible repeat (first | apply Kd.Q_alloc | apply Kd.Q_drewN | apply Kd.Q_drew)); exact (Kd.Q_mono (Kd.Q_far (p := ⟨aI, 2, none⟩) (Kd.Q_far (p := ⟨aI, 1, none⟩) (Kd.Q_far (p := ⟨aI, 0, none⟩) (Kd.Q_types aJ.out aB.out oD) (fun _ hk => hk.2) (.int .i64 aX)) (fun _ hk => hk.2) (.int .i64 bD)) (fun _ hk => hk.2) (.slice bA aQ.length bB)) (fun _ h_ => h_.1))) (Kd.R_base ho0) hb) (o2_ (Kd.R_elder' (by (with_reducible repeat (first | apply Kd.R_alloc | apply Kd.R_drewN | apply Kd.R_drew)); exact (Kd.R_mono (Kd.R_far (p := ⟨aI, 2, none⟩) (Kd.R_far (p := ⟨aI, 1, none⟩) (Kd.R_far (p := ⟨aI, 0, none⟩) (Kd.R_types aK.out aB.out oD) (fun _ hk => hk.2) (.int .i64 aX)) (fun _ hk => hk.2) (.int .i64 bD)) (fun _ hk => hk.2) (.slice bA aQ.length bB)) (fun _ h_ => h_.1))) (Kd.R_base ho0) hb) (o2_ (Kd.R_lower (Kd.R_new' (Kd.R_new' ho0 (Kd.Q_lt (by (with_reducible repeat (first | apply Kd.Q_alloc | apply Kd.Q_drewN | apply Kd.Q_drew)); exact (Kd.Q_mono (Kd.Q_far (p := ⟨aI, 2, none⟩) (Kd.Q_far (p := ⟨aI, 1, none⟩) (Kd.Q_far (p := ⟨aI, 0, none⟩) (Kd.Q_types aJ.out aB.out oD) (fun _ hk => hk.2) (.int .i64 aX)) (fun _ hk => hk.2) (.int .i64 bD)) (fun _ hk => hk.2) (.slice bA aQ.length bB)) (fun _ h_ => h_.1))))) (Kd.R_lt (by (with_reducible repeat (first | apply Kd.R_alloc | apply Kd.R_drewN | apply Kd.R_drew)); exact (Kd.R_mono (Kd.R_far (p := ⟨aI, 2, none⟩) (Kd.R_far (p := ⟨aI, 1, none⟩) (Kd.R_far (p := ⟨aI, 0, none⟩) (Kd.R_types aK.out aB.out oD) (fun _ hk => hk.2) (.int .i64 aX)) (fun _ hk => hk.2) (.int .i64 bD)) (fun _ hk => hk.2) (.slice bA aQ.length bB)) (fun _ h_ => h_.1))))) (below_size (oB HB))) (o2_ (blk_below (oP aC) hb) (o2_ (blk_below (oP aA) hb) (o2_ (blk_below (g := aI) (o := .cells #[.int .i64 aX, .int .i64 bD, .slice bA aQ.length bB] 25 (0, 0)) (blk_put (blk_put (blk_put aB.out 0 _ rfl) 1 _ rfl) 2 _ rfl) hb) (o1_ (below_step (oB HB) hb))))))); clear aJ aK aC aA aB HB; obtain ⟨aJ, aK, aL, aC, aA, aB, HB⟩ := n_; (try clear hb); (try clear hb2); (try clear hk); (try clear hi); (try clear ho0)) | ((with_reducible refine gate_dst (N := 7) rfl ?_); (try (refine gate_guard (by rfl) ?_; dsimp only)); refine box_event rfl (N := 7) rfl (cs := #[.int .i64 0, .int .i64 0, .slice none 0 0]) (t := 25) oS ?_; intro aD hg bX hbox hb; have n_ := o2_ (Kd.Q_below (oQ aJ) hb) (o2_ (Kd.R_below (oR aK) hb) (o2_ (Kd.R_below (oR aL) hb) (o2_ (blk_below (oP aC) hb) (o2_ (blk_below (oP aA) hb) (o2_ (blk_below (oP aB) hb) (o2_ (below_step (oB HB) hb) (o2_ (hbox) (o2_ ((oG hg (below_size (oB HB)) : w.heap.size ≤ aD)) (o2_ ((oG hg (below_size (oB HB)) : w.heap.size ≤ aD)) (o2_ ((oL hg (blk_lt (oP aC)))) (o2_ ((oN hg (blk_lt (oP aC)))) (o2_ ((oL hg (blk_lt (oP aA)))) (o2_ ((oN hg (blk_lt (oP aA)))) (o2_ ((oL hg (blk_lt (oP aB)))) (o1_ ((oN hg (blk_lt (oP aB))))))))))))))))))); clear aJ aK aL aC aA aB HB; obtain ⟨aJ, aK, aL, aC, aA, aB, HB, aF, rR, rN, bL, bP, bS, bU, bT, bV⟩ := n_; clear hb hbox hg; have sB := bP.out; have tE := bL.out; have sC := bU.out; have tF := bS.out; have sD := bV.out; have tG := bT.out; have kY : bX.cell? ⟨aD, 0, none⟩ = some (.int .i64 0) := (blk_cell aF.out 0).trans rfl; have kZ : bX.cell? ⟨aD, 1, none⟩ = some (.int .i64 0) := (blk_cell aF.out 1).trans rfl; have lA : bX.cell? ⟨aD, 2, none⟩ = some (.slice none 0 0) := (blk_cell aF.out 2).trans rfl; have mT := blk_frozen aF.out 0; have mU := blk_frozen aF.out 1; have mV := blk_frozen aF.out 2; obtain ⟨aO, aP, pJ⟩ := Kd.R_slice aL.out; subst pJ))
  (try simp only [Act.put, List.setIfInBounds_toArray, List.set_cons_zero, List.set_cons_succ])
  go_cut [46] (fun uP wc => ∃ (kq : Nat) (cE : Bool), uP = .bool cE ∧ Aside0 (laws_FnOpDo.j0 kq bW cE bJ bK aT aY bH bQ bI bR aX bD aQ = some r) ∧ Aside0 (kq ≤ k) ∧ Aside0 (Kd.Q k38 38 wc w.heap.size (fun k_ => some k_ ≠ ((.slice bA aQ.length bB) : Value).ownBlock ∧ some k_ ≠ ((.slice aO aN.length aP) : Value).ownBlock) (.slice bG aT.length bC) aT) ∧ Aside0 (Kd.Q k38 38 wc w.heap.size (fun k_ => some k_ ≠ ((.slice bG aT.length bC) : Value).ownBlock ∧ some k_ ≠ ((.slice aO aN.length aP) : Value).ownBlock) (.slice bA aQ.length bB) aQ) ∧ Aside0 (Kd.Q k38 38 wc w.heap.size (fun k_ => some k_ ≠ ((.slice bG aT.length bC) : Value).ownBlock ∧ some k_ ≠ ((.slice bA aQ.length bB) : Value).ownBlock) (.slice aO aN.length aP) aN) ∧ Aside0 (wc.heap[aM]? = some (.cells #[.int .i64 bJ, .int .i64 bK, (.slice bG aT.length bC)] 25 (0, 0))) ∧ Aside0 (wc.heap[aH]? = some (.cells #[.int .i64 aY, .int .i64 bH, .int .i64 bQ, .int .i64 bI, .int .i64 bR] 27 (0, 0))) ∧ Aside0 (wc.heap[aI]? = some (.cells #[.int .i64 aX, .int .i64 bD, (.slice bA aQ.length bB)] 25 (0, 0))) ∧ Aside0 (wc.heap[aD]? = some (.cells #[.int .i64 aU, .int .i64 aV, (.slice aO aN.length aP)] 25 (0, 0))) ∧ Aside0 (Below w.heap.size w wc))
  case first =>
   have H := nZ.out
   clear nZ
   replace H := Option.bind_eq_some_iff.mp H
   obtain ⟨cV, eZ, H⟩ := H
   (try dsimp only at H)
   have nY := Aside0.mk eZ
   clear eZ
   by_cases eW : cV = true
   ·subst eW
    rw [if_pos rfl] at H
    by_cases cF : (bW != cA) = true
    ·rw [if_pos cF] at H
     have bZ : (bW != cA) = true := cF
     (try (have cL : decide (bW = cA) = false := by simpa using cF))
     (try (have cM : (bW == cA) = false := by simpa using cF))
     (try (have rT : ¬ (bW = cA) := by simpa using cF))
     clear cF
     (first | rw [bZ] | (simp only [i64_w, i32_w]; rw [bZ]) | skip)
     have H' := Aside0.mk H
     clear H
     try go_wp2
     have cN : Aside0 (Kd.Q k38 38 (((bX.setCell ⟨aD, 0, none⟩ (.int .i64 aU)).setCell ⟨aD, 1, none⟩ (.int .i64 aV)).setCell ⟨aD, 2, none⟩ (.slice aO aN.length aP)) w.heap.size (fun k_ => some k_ ≠ (.slice bA aQ.length bB : Value).ownBlock ∧ some k_ ≠ (.slice aO aN.length aP : Value).ownBlock) (.slice bG aT.length bC) aT) := ⟨(by (with_reducible repeat (first | apply Kd.Q_alloc | apply Kd.Q_drewN | apply Kd.Q_drew)); exact Kd.Q_mono (Kd.Q_far (p := ⟨aD, 2, none⟩) (Kd.Q_far (p := ⟨aD, 1, none⟩) (Kd.Q_far (p := ⟨aD, 0, none⟩) (Kd.Q_types aJ.out aF.out oD) (fun _ hk => hk.2) (.int .i64 aU)) (fun _ hk => hk.2) (.int .i64 aV)) (fun _ hk => hk.2) (.slice aO aN.length aP)) (fun _ hk => ⟨hk.1.1.2, hk.1.2⟩))⟩
     have cO : Aside0 (Kd.R k38 38 (((bX.setCell ⟨aD, 0, none⟩ (.int .i64 aU)).setCell ⟨aD, 1, none⟩ (.int .i64 aV)).setCell ⟨aD, 2, none⟩ (.slice aO aN.length aP)) w.heap.size (fun k_ => some k_ ≠ (.slice bG aT.length bC : Value).ownBlock ∧ some k_ ≠ (.slice aO aN.length aP : Value).ownBlock) (.slice bA aQ.length bB) aQ) := ⟨(by (with_reducible repeat (first | apply Kd.R_alloc | apply Kd.R_drewN | apply Kd.R_drew)); exact Kd.R_mono (Kd.R_far (p := ⟨aD, 2, none⟩) (Kd.R_far (p := ⟨aD, 1, none⟩) (Kd.R_far (p := ⟨aD, 0, none⟩) (Kd.R_types aK.out aF.out oD) (fun _ hk => hk.2) (.int .i64 aU)) (fun _ hk => hk.2) (.int .i64 aV)) (fun _ hk => hk.2) (.slice aO aN.length aP)) (fun _ hk => ⟨hk.1.1.2, hk.1.2⟩))⟩
     have cP : Aside0 (Kd.R k38 38 (((bX.setCell ⟨aD, 0, none⟩ (.int .i64 aU)).setCell ⟨aD, 1, none⟩ (.int .i64 aV)).setCell ⟨aD, 2, none⟩ (.slice aO aN.length aP)) w.heap.size (fun k_ => some k_ ≠ (.slice bG aT.length bC : Value).ownBlock ∧ some k_ ≠ (.slice bA aQ.length bB : Value).ownBlock) (.slice aO aN.length aP) aN) := ⟨(by (with_reducible repeat (first | apply Kd.R_alloc | apply Kd.R_drewN | apply Kd.R_drew)); exact Kd.R_mono (Kd.R_far (p := ⟨aD, 2, none⟩) (Kd.R_far (p := ⟨aD, 1, none⟩) (Kd.R_far (p := ⟨aD, 0, none⟩) (Kd.R_types aL.out aF.out oD) (fun _ hk => hk.2) (.int .i64 aU)) (fun _ hk => hk.2) (.int .i64 aV)) (fun _ hk => hk.2) (.slice aO aN.length aP)) (fun _ hk => ⟨hk.1.1.2, hk.1.2⟩))⟩
     have cQ : Aside0 ((((bX.setCell ⟨aD, 0, none⟩ (.int .i64 aU)).setCell ⟨aD, 1, none⟩ (.int .i64 aV)).setCell ⟨aD, 2, none⟩ (.slice aO aN.length aP)).heap[aM]? = some (.cells #[.int .i64 bJ, .int .i64 bK, .slice bG aT.length bC] 25 (0, 0))) := ⟨(oP aC)⟩
     have cR : Aside0 ((((bX.setCell ⟨aD, 0, none⟩ (.int .i64 aU)).setCell ⟨aD, 1, none⟩ (.int .i64 aV)).setCell ⟨aD, 2, none⟩ (.slice aO aN.length aP)).heap[aH]? = some (.cells #[.int .i64 aY, .int .i64 bH, .int .i64 bQ, .int .i64 bI, .int .i64 bR] 27 (0, 0))) := ⟨(oP aA)⟩
     have cS : Aside0 ((((bX.setCell ⟨aD, 0, none⟩ (.int .i64 aU)).setCell ⟨aD, 1, none⟩ (.int .i64 aV)).setCell ⟨aD, 2, none⟩ (.slice aO aN.length aP)).heap[aI]? = some (.cells #[.int .i64 aX, .int .i64 bD, .slice bA aQ.length bB] 25 (0, 0))) := ⟨(oP aB)⟩
     have cT : Aside0 ((((bX.setCell ⟨aD, 0, none⟩ (.int .i64 aU)).setCell ⟨aD, 1, none⟩ (.int .i64 aV)).setCell ⟨aD, 2, none⟩ (.slice aO aN.length aP)).heap[aD]? = some (.cells #[.int .i64 aU, .int .i64 aV, .slice aO aN.length aP] 25 (0, 0))) := ⟨(blk_put (blk_put (blk_put aF.out 0 _ rfl) 1 _ rfl) 2 _ rfl)⟩
     have cU : Aside0 (Below w.heap.size w (((bX.setCell ⟨aD, 0, none⟩ (.int .i64 aU)).setCell ⟨aD, 1, none⟩ (.int .i64 aV)).setCell ⟨aD, 2, none⟩ (.slice aO aN.length aP))) := ⟨(oB HB)⟩
     (try clear aJ)
     (try clear aK)
     (try clear aL)
     (try clear aC)
     (try clear aA)
     (try clear aB)
     (try clear aF)
     (try clear HB)
     generalize (((bX.setCell ⟨aD, 0, none⟩ (.int .i64 aU)).setCell ⟨aD, 1, none⟩ (.int .i64 aV)).setCell ⟨aD, 2, none⟩ (.slice aO aN.length aP)) = uU at cN cO cP cQ cR cS cT cU ⊢
     have aJ := cN
     have aK := cO
     have aL := cP
     have aC := cQ
     have aA := cR
     have aB := cS
     have aF := cT
     have HB := cU
     clear cN cO cP cQ cR cS cT cU
     have n_ := o2_ (Kd.Q_drew aJ.out) (o2_ (Kd.R_drew aK.out) (o2_ (Kd.R_drew aL.out) (o2_ (blk_drew aC.out) (o2_ (blk_drew aA.out) (o2_ (blk_drew aB.out) (o2_ (blk_drew aF.out) (o1_ (below_drew1 HB.out))))))))
     clear aJ aK aL aC aA aB aF HB
     obtain ⟨aJ, aK, aL, aC, aA, aB, aF, HB⟩ := n_
     refine start_ (n := 16) (S := fun w' => w'.cell? ⟨aI, 0, none⟩ = some (.int .i64 aX) ∧ w'.cell? ⟨aI, 1, none⟩ = some (.int .i64 bD) ∧ w'.cell? ⟨aI, 2, none⟩ = some (.slice bA aQ.length bB) ∧ w'.cell? ⟨aD, 0, none⟩ = some (.int .i64 aU) ∧ w'.cell? ⟨aD, 1, none⟩ = some (.int .i64 aV) ∧ w'.cell? ⟨aD, 2, none⟩ = some (.slice aO aN.length aP)) (ds := []) #[false, false, false, false, false, false, false, false, false, false, false, false, false, false, false, false] oK rfl rfl ⟨(blk_cell aB.out 0).trans rfl, (blk_cell aB.out 1).trans rfl, (blk_cell aB.out 2).trans rfl, (blk_cell aF.out 0).trans rfl, (blk_cell aF.out 1).trans rfl, (blk_cell aF.out 2).trans rfl⟩ (fun hHeld => ?_); refine with_tabW laws_FnOpDo.tab6 laws_FnOpDo.bits6 (fun HT_ HW_ => ?_)
     generalize uU.drew = vA at aJ aK aL aC aA aB aF HB hHeld ⊢
     refine take_ (i := 0) (N := some 31) (v := ?_) (a' := ?_) #[true, false, false, false, false, false, false, false, false, false, false, false, false, false, false, false] rfl rfl (take_ofW HT_.out HW_.out oK) (fun _ _ _ h => h) (Or.inl ⟨by rfl, ?_⟩) hHeld ?_ ?_
     rotate_left
     ·rintro w' ⟨s0, s1, s2, s3, s4, s5⟩
      go_simp
      with_reducible rfl
     rotate_left
     ·exact oT
     refine take_ (i := 1) (N := some 32) (v := ?_) (a' := ?_) #[true, true, false, false, false, false, false, false, false, false, false, false, false, false, false, false] rfl rfl (take_ofW HT_.out HW_.out oK) (fun _ _ _ h => h) (Or.inl ⟨by rfl, ?_⟩) hHeld ?_ ?_
     rotate_left
     ·rintro w' ⟨s0, s1, s2, s3, s4, s5⟩
      go_simp
      with_reducible rfl
     rotate_left
     ·exact oT
     refine one_ (i := 2) (N := some 33) #[true, true, true, false, false, false, false, false, false, false, false, false, false, false, false, false] rfl rfl (one_of HT_.out oK) oD (fun K hK => ?_)
     refine goes_ Try.func21 oK rfl #[.agg #[.int .i64 aX, .int .i64 bD, .slice bA aQ.length bB], .agg #[.int .i64 aU, .int .i64 aV, .slice aO aN.length aP]] (by rfl) rfl rfl oA ?_
     with_reducible refine (laws_eaRas.calls k aX bD _ _ aQ aU aV _ _ aN true _ ?side1 ?side2 ?side3 ?side4 nY.out).mono ?_
     (case side1 => repeat (first | exact (Kd.R_reads' aK.out).2.2 | (with_reducible refine Kd.C_alloc ?_ _) | (with_reducible refine Kd.C_drewN ?_ _) | (with_reducible refine Kd.C_drew ?_)))
     (case side2 => exact (Kd.R_reads' aK.out).2.1)
     (case side3 => repeat (first | exact (Kd.R_reads' aL.out).2.2 | (with_reducible refine Kd.C_alloc ?_ _) | (with_reducible refine Kd.C_drewN ?_ _) | (with_reducible refine Kd.C_drew ?_)))
     (case side4 => exact (Kd.R_reads' aL.out).2.1)
     rintro e vB ⟨rfl, hb⟩
     refine ⟨_, rfl, ?_⟩
     have n_ := o2_ (Kd.Q_below (oQ aJ) hb) (o2_ (Kd.R_below (oR aK) hb) (o2_ (Kd.R_below (oR aL) hb) (o2_ (blk_below (oP aC) hb) (o2_ (blk_below (oP aA) hb) (o2_ (blk_below (oP aB) hb) (o2_ (blk_below (oP aF) hb) (o1_ (below_step (oB HB) hb))))))))
     clear aJ aK aL aC aA aB aF HB
     obtain ⟨aJ, aK, aL, aC, aA, aB, aF, HB⟩ := n_
     (try clear hb)
     (try clear hb2)
     (try clear hk)
     (try clear hi)
     refine hK.out _ _ ⟨(blk_cell aB.out 0).trans rfl, (blk_cell aB.out 1).trans rfl, (blk_cell aB.out 2).trans rfl, (blk_cell aF.out 0).trans rfl, (blk_cell aF.out 1).trans rfl, (blk_cell aF.out 2).trans rfl⟩ (fun hHeld => ?_)
     clear hK K
     refine norm_ (a' := ?_) ?_ ?_
     rotate_left
     ·show Act.put _ (some 33) _ = _
      exact oT
     refine pure_ (i := 3) (N := some 34) (v := ?_) (a' := ?_) #[true, true, true, true, false, false, false, false, false, false, false, false, false, false, false, false] rfl rfl (any_of HT_.out oK) (fun _ _ _ h => h) (Or.inl ⟨by rfl, ?_⟩) ?_ ?_
     rotate_left
     ·intro w'
      go_simp
      with_reducible rfl
     rotate_left
     ·exact oT
     refine pure_ (i := 4) (N := some 35) (v := ?_) (a' := ?_) #[true, true, true, true, true, false, false, false, false, false, false, false, false, false, false, false] rfl rfl (any_of HT_.out oK) (fun _ _ _ h => h) (Or.inl ⟨by rfl, ?_⟩) ?_ ?_
     rotate_left
     ·intro w'
      go_simp
      with_reducible rfl
     rotate_left
     ·exact oT
     refine pure_ (i := 5) (N := some 36) (v := ?_) (a' := ?_) #[true, true, true, true, true, true, false, false, false, false, false, false, false, false, false, false] rfl rfl (any_of HT_.out oK) (fun _ _ _ h => h) (Or.inl ⟨by rfl, ?_⟩) ?_ ?_
     rotate_left
     ·intro w'
      go_simp
      with_reducible rfl
     rotate_left
     ·exact oT
     refine pure_ (i := 6) (N := some 37) (v := ?_) (a' := ?_) #[true, true, true, true, true, true, true, false, false, false, false, false, false, false, false, false] rfl rfl (any_of HT_.out oK) (fun _ _ _ h => h) (Or.inl ⟨by rfl, ?_⟩) ?_ ?_
     rotate_left
     ·intro w'
      go_simp
      with_reducible rfl
     rotate_left
     ·exact oT
     refine pure_ (i := 7) (N := some 38) (v := ?_) (a' := ?_) #[true, true, true, true, true, true, true, true, false, false, false, false, false, false, false, false] rfl rfl (any_of HT_.out oK) (fun _ _ _ h => h) (Or.inl ⟨by rfl, ?_⟩) ?_ ?_
     rotate_left
     ·intro w'
      go_simp
      with_reducible rfl
     rotate_left
     ·exact oT
     refine pure_ (i := 8) (N := some 39) (v := ?_) (a' := ?_) #[true, true, true, true, true, true, true, true, true, false, false, false, false, false, false, false] rfl rfl (any_of HT_.out oK) (fun _ _ _ h => h) (Or.inl ⟨by rfl, ?_⟩) ?_ ?_
     rotate_left
     ·intro w'
      go_simp
      with_reducible rfl
     rotate_left
     ·exact oT
     refine pure_ (i := 9) (N := some 40) (v := ?_) (a' := ?_) #[true, true, true, true, true, true, true, true, true, true, false, false, false, false, false, false] rfl rfl (any_of HT_.out oK) (fun _ _ _ h => h) (Or.inl ⟨by rfl, ?_⟩) ?_ ?_
     rotate_left
     ·intro w'
      go_simp
      with_reducible rfl
     rotate_left
     ·exact oT
     refine pure_ (i := 10) (N := some 41) (v := undef) (a' := ?_) #[true, true, true, true, true, true, true, true, true, true, true, false, false, false, false, false] rfl rfl (any_of HT_.out oK) (fun _ _ _ h => h) (Or.inr ⟨by rfl, rfl⟩) ?_ ?_
     rotate_left
     ·exact oT
     refine pure_ (i := 11) (N := some 42) (v := undef) (a' := ?_) #[true, true, true, true, true, true, true, true, true, true, true, true, false, false, false, false] rfl rfl (any_of HT_.out oK) (fun _ _ _ h => h) (Or.inr ⟨by rfl, rfl⟩) ?_ ?_
     rotate_left
     ·exact oT
     refine pure_ (i := 12) (N := some 43) (v := undef) (a' := ?_) #[true, true, true, true, true, true, true, true, true, true, true, true, true, false, false, false] rfl rfl (any_of HT_.out oK) (fun _ _ _ h => h) (Or.inr ⟨by rfl, rfl⟩) ?_ ?_
     rotate_left
     ·exact oT
     refine pure_ (i := 13) (N := some 44) (v := undef) (a' := ?_) #[true, true, true, true, true, true, true, true, true, true, true, true, true, true, false, false] rfl rfl (any_of HT_.out oK) (fun _ _ _ h => h) (Or.inr ⟨by rfl, rfl⟩) ?_ ?_
     rotate_left
     ·exact oT
     refine pure_ (i := 14) (N := some 45) (v := undef) (a' := ?_) #[true, true, true, true, true, true, true, true, true, true, true, true, true, true, true, false] rfl rfl (any_of HT_.out oK) (fun _ _ _ h => h) (Or.inr ⟨by rfl, rfl⟩) ?_ ?_
     rotate_left
     ·exact oT
     refine pure_ (i := 15) (N := some 46) (v := ?_) (a' := ?_) #[true, true, true, true, true, true, true, true, true, true, true, true, true, true, true, true] rfl rfl (any_of HT_.out oK) (fun _ _ _ h => h) (Or.inl ⟨by rfl, ?_⟩) ?_ ?_
     rotate_left
     ·intro w'
      go_simp
      with_reducible rfl
     rotate_left
     ·exact oT
     refine done_ (done_of HT_.out oK) ?_
     try go_wp2
     go_meet
     case rel => exact ⟨_, (true), oU, H', ⟨(by first | omega | exact Nat.le_refl _)⟩, ⟨(oQ aJ)⟩, ⟨Kd.Q_of_R (oR aK)⟩, ⟨Kd.Q_of_R (oR aL)⟩, ⟨(oP aC)⟩, ⟨(oP aA)⟩, ⟨(oP aB)⟩, ⟨(oP aF)⟩, ⟨(oB HB)⟩⟩
    ·rw [if_neg cF] at H
     have bZ : (bW != cA) = false := by simpa using cF
     (try (have cL : decide (bW = cA) = true := by simpa using cF))
     (try (have cM : (bW == cA) = true := by simpa using cF))
     clear cF
     (first | rw [bZ] | (simp only [i64_w, i32_w]; rw [bZ]) | skip)
     replace H := Option.bind_eq_some_iff.mp H
     obtain ⟨cG, fA, H⟩ := H
     (try dsimp only at H)
     have uF := Aside0.mk fA
     clear fA
     replace H := Option.bind_eq_some_iff.mp H
     obtain ⟨cH, fB, H⟩ := H
     (try dsimp only at H)
     have uG := Aside0.mk fB
     clear fB
     have H' := Aside0.mk H
     clear H
     try go_wp2
     have cN : Aside0 (Kd.Q k38 38 (((bX.setCell ⟨aD, 0, none⟩ (.int .i64 aU)).setCell ⟨aD, 1, none⟩ (.int .i64 aV)).setCell ⟨aD, 2, none⟩ (.slice aO aN.length aP)) w.heap.size (fun k_ => some k_ ≠ (.slice bA aQ.length bB : Value).ownBlock ∧ some k_ ≠ (.slice aO aN.length aP : Value).ownBlock) (.slice bG aT.length bC) aT) := ⟨(by (with_reducible repeat (first | apply Kd.Q_alloc | apply Kd.Q_drewN | apply Kd.Q_drew)); exact Kd.Q_mono (Kd.Q_far (p := ⟨aD, 2, none⟩) (Kd.Q_far (p := ⟨aD, 1, none⟩) (Kd.Q_far (p := ⟨aD, 0, none⟩) (Kd.Q_types aJ.out aF.out oD) (fun _ hk => hk.2) (.int .i64 aU)) (fun _ hk => hk.2) (.int .i64 aV)) (fun _ hk => hk.2) (.slice aO aN.length aP)) (fun _ hk => ⟨hk.1.1.2, hk.1.2⟩))⟩
     have cO : Aside0 (Kd.R k38 38 (((bX.setCell ⟨aD, 0, none⟩ (.int .i64 aU)).setCell ⟨aD, 1, none⟩ (.int .i64 aV)).setCell ⟨aD, 2, none⟩ (.slice aO aN.length aP)) w.heap.size (fun k_ => some k_ ≠ (.slice bG aT.length bC : Value).ownBlock ∧ some k_ ≠ (.slice aO aN.length aP : Value).ownBlock) (.slice bA aQ.length bB) aQ) := ⟨(by (with_reducible repeat (first | apply Kd.R_alloc | apply Kd.R_drewN | apply Kd.R_drew)); exact Kd.R_mono (Kd.R_far (p := ⟨aD, 2, none⟩) (Kd.R_far (p := ⟨aD, 1, none⟩) (Kd.R_far (p := ⟨aD, 0, none⟩) (Kd.R_types aK.out aF.out oD) (fun _ hk => hk.2) (.int .i64 aU)) (fun _ hk => hk.2) (.int .i64 aV)) (fun _ hk => hk.2) (.slice aO aN.length aP)) (fun _ hk => ⟨hk.1.1.2, hk.1.2⟩))⟩
     have cP : Aside0 (Kd.R k38 38 (((bX.setCell ⟨aD, 0, none⟩ (.int .i64 aU)).setCell ⟨aD, 1, none⟩ (.int .i64 aV)).setCell ⟨aD, 2, none⟩ (.slice aO aN.length aP)) w.heap.size (fun k_ => some k_ ≠ (.slice bG aT.length bC : Value).ownBlock ∧ some k_ ≠ (.slice bA aQ.length bB : Value).ownBlock) (.slice aO aN.length aP) aN) := ⟨(by (with_reducible repeat (first | apply Kd.R_alloc | apply Kd.R_drewN | apply Kd.R_drew)); exact Kd.R_mono (Kd.R_far (p := ⟨aD, 2, none⟩) (Kd.R_far (p := ⟨aD, 1, none⟩) (Kd.R_far (p := ⟨aD, 0, none⟩) (Kd.R_types aL.out aF.out oD) (fun _ hk => hk.2) (.int .i64 aU)) (fun _ hk => hk.2) (.int .i64 aV)) (fun _ hk => hk.2) (.slice aO aN.length aP)) (fun _ hk => ⟨hk.1.1.2, hk.1.2⟩))⟩
     have cQ : Aside0 ((((bX.setCell ⟨aD, 0, none⟩ (.int .i64 aU)).setCell ⟨aD, 1, none⟩ (.int .i64 aV)).setCell ⟨aD, 2, none⟩ (.slice aO aN.length aP)).heap[aM]? = some (.cells #[.int .i64 bJ, .int .i64 bK, .slice bG aT.length bC] 25 (0, 0))) := ⟨(oP aC)⟩
     have cR : Aside0 ((((bX.setCell ⟨aD, 0, none⟩ (.int .i64 aU)).setCell ⟨aD, 1, none⟩ (.int .i64 aV)).setCell ⟨aD, 2, none⟩ (.slice aO aN.length aP)).heap[aH]? = some (.cells #[.int .i64 aY, .int .i64 bH, .int .i64 bQ, .int .i64 bI, .int .i64 bR] 27 (0, 0))) := ⟨(oP aA)⟩
     have cS : Aside0 ((((bX.setCell ⟨aD, 0, none⟩ (.int .i64 aU)).setCell ⟨aD, 1, none⟩ (.int .i64 aV)).setCell ⟨aD, 2, none⟩ (.slice aO aN.length aP)).heap[aI]? = some (.cells #[.int .i64 aX, .int .i64 bD, .slice bA aQ.length bB] 25 (0, 0))) := ⟨(oP aB)⟩
     have cT : Aside0 ((((bX.setCell ⟨aD, 0, none⟩ (.int .i64 aU)).setCell ⟨aD, 1, none⟩ (.int .i64 aV)).setCell ⟨aD, 2, none⟩ (.slice aO aN.length aP)).heap[aD]? = some (.cells #[.int .i64 aU, .int .i64 aV, .slice aO aN.length aP] 25 (0, 0))) := ⟨(blk_put (blk_put (blk_put aF.out 0 _ rfl) 1 _ rfl) 2 _ rfl)⟩
     have cU : Aside0 (Below w.heap.size w (((bX.setCell ⟨aD, 0, none⟩ (.int .i64 aU)).setCell ⟨aD, 1, none⟩ (.int .i64 aV)).setCell ⟨aD, 2, none⟩ (.slice aO aN.length aP))) := ⟨(oB HB)⟩
     (try clear aJ)
     (try clear aK)
     (try clear aL)
     (try clear aC)
     (try clear aA)
     (try clear aB)
     (try clear aF)
     (try clear HB)
     generalize (((bX.setCell ⟨aD, 0, none⟩ (.int .i64 aU)).setCell ⟨aD, 1, none⟩ (.int .i64 aV)).setCell ⟨aD, 2, none⟩ (.slice aO aN.length aP)) = uW at cN cO cP cQ cR cS cT cU ⊢
     have aJ := cN
     have aK := cO
     have aL := cP
     have aC := cQ
     have aA := cR
     have aB := cS
     have aF := cT
     have HB := cU
     clear cN cO cP cQ cR cS cT cU
     have n_ := o2_ (Kd.Q_drew aJ.out) (o2_ (Kd.R_drew aK.out) (o2_ (Kd.R_drew aL.out) (o2_ (blk_drew aC.out) (o2_ (blk_drew aA.out) (o2_ (blk_drew aB.out) (o2_ (blk_drew aF.out) (o1_ (below_drew1 HB.out))))))))
     clear aJ aK aL aC aA aB aF HB
     obtain ⟨aJ, aK, aL, aC, aA, aB, aF, HB⟩ := n_
     refine start_ (n := 16) (S := fun w' => w'.cell? ⟨aI, 0, none⟩ = some (.int .i64 aX) ∧ w'.cell? ⟨aI, 1, none⟩ = some (.int .i64 bD) ∧ w'.cell? ⟨aI, 2, none⟩ = some (.slice bA aQ.length bB) ∧ w'.cell? ⟨aD, 0, none⟩ = some (.int .i64 aU) ∧ w'.cell? ⟨aD, 1, none⟩ = some (.int .i64 aV) ∧ w'.cell? ⟨aD, 2, none⟩ = some (.slice aO aN.length aP) ∧ w'.cell? ⟨aH, 0, none⟩ = some (.int .i64 aY) ∧ w'.cell? ⟨aH, 1, none⟩ = some (.int .i64 bH) ∧ w'.cell? ⟨aH, 2, none⟩ = some (.int .i64 bQ) ∧ w'.cell? ⟨aH, 3, none⟩ = some (.int .i64 bI) ∧ w'.cell? ⟨aH, 4, none⟩ = some (.int .i64 bR)) (ds := []) #[false, false, false, false, false, false, false, false, false, false, false, false, false, false, false, false] oK rfl rfl ⟨(blk_cell aB.out 0).trans rfl, (blk_cell aB.out 1).trans rfl, (blk_cell aB.out 2).trans rfl, (blk_cell aF.out 0).trans rfl, (blk_cell aF.out 1).trans rfl, (blk_cell aF.out 2).trans rfl, (blk_cell aA.out 0).trans rfl, (blk_cell aA.out 1).trans rfl, (blk_cell aA.out 2).trans rfl, (blk_cell aA.out 3).trans rfl, (blk_cell aA.out 4).trans rfl⟩ (fun hHeld => ?_); refine with_tabW laws_FnOpDo.tab6 laws_FnOpDo.bits6 (fun HT_ HW_ => ?_)
     generalize uW.drew = vC at aJ aK aL aC aA aB aF HB hHeld ⊢
     refine take_ (i := 0) (N := some 31) (v := ?_) (a' := ?_) #[true, false, false, false, false, false, false, false, false, false, false, false, false, false, false, false] rfl rfl (take_ofW HT_.out HW_.out oK) (fun _ _ _ h => h) (Or.inl ⟨by rfl, ?_⟩) hHeld ?_ ?_
     rotate_left
     ·rintro w' ⟨s0, s1, s2, s3, s4, s5, s6, s7, s8, s9, s10⟩
      go_simp
      with_reducible rfl
     rotate_left
     ·exact oT
     refine take_ (i := 1) (N := some 32) (v := ?_) (a' := ?_) #[true, true, false, false, false, false, false, false, false, false, false, false, false, false, false, false] rfl rfl (take_ofW HT_.out HW_.out oK) (fun _ _ _ h => h) (Or.inl ⟨by rfl, ?_⟩) hHeld ?_ ?_
     rotate_left
     ·rintro w' ⟨s0, s1, s2, s3, s4, s5, s6, s7, s8, s9, s10⟩
      go_simp
      with_reducible rfl
     rotate_left
     ·exact oT
     refine one_ (i := 2) (N := some 33) #[true, true, true, false, false, false, false, false, false, false, false, false, false, false, false, false] rfl rfl (one_of HT_.out oK) oD (fun K hK => ?_)
     refine goes_ Try.func21 oK rfl #[.agg #[.int .i64 aX, .int .i64 bD, .slice bA aQ.length bB], .agg #[.int .i64 aU, .int .i64 aV, .slice aO aN.length aP]] (by rfl) rfl rfl oA ?_
     with_reducible refine (laws_eaRas.calls k aX bD _ _ aQ aU aV _ _ aN true _ ?side1 ?side2 ?side3 ?side4 nY.out).mono ?_
     (case side1 => repeat (first | exact (Kd.R_reads' aK.out).2.2 | (with_reducible refine Kd.C_alloc ?_ _) | (with_reducible refine Kd.C_drewN ?_ _) | (with_reducible refine Kd.C_drew ?_)))
     (case side2 => exact (Kd.R_reads' aK.out).2.1)
     (case side3 => repeat (first | exact (Kd.R_reads' aL.out).2.2 | (with_reducible refine Kd.C_alloc ?_ _) | (with_reducible refine Kd.C_drewN ?_ _) | (with_reducible refine Kd.C_drew ?_)))
     (case side4 => exact (Kd.R_reads' aL.out).2.1)
     rintro e vD ⟨rfl, hb⟩
     refine ⟨_, rfl, ?_⟩
     have n_ := o2_ (Kd.Q_below (oQ aJ) hb) (o2_ (Kd.R_below (oR aK) hb) (o2_ (Kd.R_below (oR aL) hb) (o2_ (blk_below (oP aC) hb) (o2_ (blk_below (oP aA) hb) (o2_ (blk_below (oP aB) hb) (o2_ (blk_below (oP aF) hb) (o1_ (below_step (oB HB) hb))))))))
     clear aJ aK aL aC aA aB aF HB
     obtain ⟨aJ, aK, aL, aC, aA, aB, aF, HB⟩ := n_
     (try clear hb)
     (try clear hb2)
     (try clear hk)
     (try clear hi)
     refine hK.out _ _ ⟨(blk_cell aB.out 0).trans rfl, (blk_cell aB.out 1).trans rfl, (blk_cell aB.out 2).trans rfl, (blk_cell aF.out 0).trans rfl, (blk_cell aF.out 1).trans rfl, (blk_cell aF.out 2).trans rfl, (blk_cell aA.out 0).trans rfl, (blk_cell aA.out 1).trans rfl, (blk_cell aA.out 2).trans rfl, (blk_cell aA.out 3).trans rfl, (blk_cell aA.out 4).trans rfl⟩ (fun hHeld => ?_)
     clear hK K
     refine norm_ (a' := ?_) ?_ ?_
     rotate_left
     ·show Act.put _ (some 33) _ = _
      exact oT
     refine pure_ (i := 3) (N := some 34) (v := ?_) (a' := ?_) #[true, true, true, true, false, false, false, false, false, false, false, false, false, false, false, false] rfl rfl (any_of HT_.out oK) (fun _ _ _ h => h) (Or.inl ⟨by rfl, ?_⟩) ?_ ?_
     rotate_left
     ·intro w'
      go_simp
      with_reducible rfl
     rotate_left
     ·exact oT
     refine pure_ (i := 4) (N := some 35) (v := ?_) (a' := ?_) #[true, true, true, true, true, false, false, false, false, false, false, false, false, false, false, false] rfl rfl (any_of HT_.out oK) (fun _ _ _ h => h) (Or.inl ⟨by rfl, ?_⟩) ?_ ?_
     rotate_left
     ·intro w'
      go_simp
      with_reducible rfl
     rotate_left
     ·exact oT
     refine pure_ (i := 5) (N := some 36) (v := ?_) (a' := ?_) #[true, true, true, true, true, true, false, false, false, false, false, false, false, false, false, false] rfl rfl (any_of HT_.out oK) (fun _ _ _ h => h) (Or.inl ⟨by rfl, ?_⟩) ?_ ?_
     rotate_left
     ·intro w'
      go_simp
      with_reducible rfl
     rotate_left
     ·exact oT
     refine pure_ (i := 6) (N := some 37) (v := ?_) (a' := ?_) #[true, true, true, true, true, true, true, false, false, false, false, false, false, false, false, false] rfl rfl (any_of HT_.out oK) (fun _ _ _ h => h) (Or.inl ⟨by rfl, ?_⟩) ?_ ?_
     rotate_left
     ·intro w'
      go_simp
      with_reducible rfl
     rotate_left
     ·exact oT
     refine pure_ (i := 7) (N := some 38) (v := ?_) (a' := ?_) #[true, true, true, true, true, true, true, true, false, false, false, false, false, false, false, false] rfl rfl (any_of HT_.out oK) (fun _ _ _ h => h) (Or.inl ⟨by rfl, ?_⟩) ?_ ?_
     rotate_left
     ·intro w'
      go_simp
      with_reducible rfl
     rotate_left
     ·exact oT
     refine pure_ (i := 8) (N := some 39) (v := ?_) (a' := ?_) #[true, true, true, true, true, true, true, true, true, false, false, false, false, false, false, false] rfl rfl (any_of HT_.out oK) (fun _ _ _ h => h) (Or.inl ⟨by rfl, ?_⟩) ?_ ?_
     rotate_left
     ·intro w'
      go_simp
      with_reducible rfl
     rotate_left
     ·exact oT
     refine pure_ (i := 9) (N := some 40) (v := ?_) (a' := ?_) #[true, true, true, true, true, true, true, true, true, true, false, false, false, false, false, false] rfl rfl (any_of HT_.out oK) (fun _ _ _ h => h) (Or.inl ⟨by rfl, ?_⟩) ?_ ?_
     rotate_left
     ·intro w'
      go_simp
      with_reducible rfl
     rotate_left
     ·exact oT
     refine take_ (i := 10) (N := some 41) (v := ?_) (a' := ?_) #[true, true, true, true, true, true, true, true, true, true, true, false, false, false, false, false] rfl rfl (take_ofW HT_.out HW_.out oK) (fun _ _ _ h => h) (Or.inl ⟨by rfl, ?_⟩) hHeld ?_ ?_
     rotate_left
     ·rintro w' ⟨s0, s1, s2, s3, s4, s5, s6, s7, s8, s9, s10⟩
      go_simp
      with_reducible rfl
     rotate_left
     ·exact oT
     refine take_ (i := 12) (N := some 43) (v := ?_) (a' := ?_) #[true, true, true, true, true, true, true, true, true, true, true, false, true, false, false, false] rfl rfl (take_ofW HT_.out HW_.out oK) (fun _ _ _ h => h) (Or.inl ⟨by rfl, ?_⟩) hHeld ?_ ?_
     rotate_left
     ·rintro w' ⟨s0, s1, s2, s3, s4, s5, s6, s7, s8, s9, s10⟩
      go_simp
      with_reducible rfl
     rotate_left
     ·exact oT
     refine one_ (i := 11) (N := some 42) #[true, true, true, true, true, true, true, true, true, true, true, true, true, false, false, false] rfl rfl (one_of HT_.out oK) oD (fun K hK => ?_)
     refine goes_ Try.func22 oK rfl #[.agg #[.int .i64 aY, .int .i64 bH, .int .i64 bQ, .int .i64 bI, .int .i64 bR]] (by rfl) rfl rfl oA ?_
     with_reducible refine (impl_OpOk.calls k aY bH bQ bI bR cG _ uF.out).mono ?_
     rintro e vE ⟨rfl, hb⟩
     refine ⟨_, rfl, ?_⟩
     have n_ := o2_ (Kd.Q_below (oQ aJ) hb) (o2_ (Kd.R_below (oR aK) hb) (o2_ (Kd.R_below (oR aL) hb) (o2_ (blk_below (oP aC) hb) (o2_ (blk_below (oP aA) hb) (o2_ (blk_below (oP aB) hb) (o2_ (blk_below (oP aF) hb) (o1_ (below_step (oB HB) hb))))))))
     clear aJ aK aL aC aA aB aF HB
     obtain ⟨aJ, aK, aL, aC, aA, aB, aF, HB⟩ := n_
     (try clear hb)
     (try clear hb2)
     (try clear hk)
     (try clear hi)
     refine hK.out _ _ ⟨(blk_cell aB.out 0).trans rfl, (blk_cell aB.out 1).trans rfl, (blk_cell aB.out 2).trans rfl, (blk_cell aF.out 0).trans rfl, (blk_cell aF.out 1).trans rfl, (blk_cell aF.out 2).trans rfl, (blk_cell aA.out 0).trans rfl, (blk_cell aA.out 1).trans rfl, (blk_cell aA.out 2).trans rfl, (blk_cell aA.out 3).trans rfl, (blk_cell aA.out 4).trans rfl⟩ (fun hHeld => ?_)
     clear hK K
     refine norm_ (a' := ?_) ?_ ?_
     rotate_left
     ·show Act.put _ (some 42) _ = _
      exact oT
     refine one_ (i := 13) (N := some 44) #[true, true, true, true, true, true, true, true, true, true, true, true, true, true, false, false] rfl rfl (one_of HT_.out oK) oD (fun K hK => ?_)
     refine goes_ Try.func23 oK rfl #[.agg #[.int .i64 aY, .int .i64 bH, .int .i64 bQ, .int .i64 bI, .int .i64 bR]] (by rfl) rfl rfl oA ?_
     with_reducible refine (spec_OpOk.calls aY bH bQ bI bR cH _ uG.out).mono ?_
     rintro e vF ⟨rfl, hb⟩
     refine ⟨_, rfl, ?_⟩
     have n_ := o2_ (Kd.Q_below (oQ aJ) hb) (o2_ (Kd.R_below (oR aK) hb) (o2_ (Kd.R_below (oR aL) hb) (o2_ (blk_below (oP aC) hb) (o2_ (blk_below (oP aA) hb) (o2_ (blk_below (oP aB) hb) (o2_ (blk_below (oP aF) hb) (o1_ (below_step (oB HB) hb))))))))
     clear aJ aK aL aC aA aB aF HB
     obtain ⟨aJ, aK, aL, aC, aA, aB, aF, HB⟩ := n_
     (try clear hb)
     (try clear hb2)
     (try clear hk)
     (try clear hi)
     refine hK.out _ _ ⟨(blk_cell aB.out 0).trans rfl, (blk_cell aB.out 1).trans rfl, (blk_cell aB.out 2).trans rfl, (blk_cell aF.out 0).trans rfl, (blk_cell aF.out 1).trans rfl, (blk_cell aF.out 2).trans rfl, (blk_cell aA.out 0).trans rfl, (blk_cell aA.out 1).trans rfl, (blk_cell aA.out 2).trans rfl, (blk_cell aA.out 3).trans rfl, (blk_cell aA.out 4).trans rfl⟩ (fun hHeld => ?_)
     clear hK K
     refine norm_ (a' := ?_) ?_ ?_
     rotate_left
     ·show Act.put _ (some 44) _ = _
      exact oT
     refine pure_ (i := 14) (N := some 45) (v := ?_) (a' := ?_) #[true, true, true, true, true, true, true, true, true, true, true, true, true, true, true, false] rfl rfl (any_of HT_.out oK) (fun _ _ _ h => h) (Or.inl ⟨by rfl, ?_⟩) ?_ ?_
     rotate_left
     ·intro w'
      go_simp
      with_reducible rfl
     rotate_left
     ·exact oT
     refine pure_ (i := 15) (N := some 46) (v := ?_) (a' := ?_) #[true, true, true, true, true, true, true, true, true, true, true, true, true, true, true, true] rfl rfl (any_of HT_.out oK) (fun _ _ _ h => h) (Or.inl ⟨by rfl, ?_⟩) ?_ ?_
     rotate_left
     ·intro w'
      go_simp
      with_reducible rfl
     rotate_left
     ·exact oT
     refine done_ (done_of HT_.out oK) ?_
     try go_wp2
     go_meet
     case rel => exact ⟨_, ((cG != cH)), oU, H', ⟨(by first | omega | exact Nat.le_refl _)⟩, ⟨(oQ aJ)⟩, ⟨Kd.Q_of_R (oR aK)⟩, ⟨Kd.Q_of_R (oR aL)⟩, ⟨(oP aC)⟩, ⟨(oP aA)⟩, ⟨(oP aB)⟩, ⟨(oP aF)⟩, ⟨(oB HB)⟩⟩
   ·replace eW := Bool.eq_false_iff.mpr eW
    subst eW
    rw [if_neg (show ¬ (false = true) by decide)] at H
    have H' := Aside0.mk H
    clear H
    try go_wp2
    have cN : Aside0 (Kd.Q k38 38 (((bX.setCell ⟨aD, 0, none⟩ (.int .i64 aU)).setCell ⟨aD, 1, none⟩ (.int .i64 aV)).setCell ⟨aD, 2, none⟩ (.slice aO aN.length aP)) w.heap.size (fun k_ => some k_ ≠ (.slice bA aQ.length bB : Value).ownBlock ∧ some k_ ≠ (.slice aO aN.length aP : Value).ownBlock) (.slice bG aT.length bC) aT) := ⟨(by (with_reducible repeat (first | apply Kd.Q_alloc | apply Kd.Q_drewN | apply Kd.Q_drew)); exact Kd.Q_mono (Kd.Q_far (p := ⟨aD, 2, none⟩) (Kd.Q_far (p := ⟨aD, 1, none⟩) (Kd.Q_far (p := ⟨aD, 0, none⟩) (Kd.Q_types aJ.out aF.out oD) (fun _ hk => hk.2) (.int .i64 aU)) (fun _ hk => hk.2) (.int .i64 aV)) (fun _ hk => hk.2) (.slice aO aN.length aP)) (fun _ hk => ⟨hk.1.1.2, hk.1.2⟩))⟩
    have cO : Aside0 (Kd.R k38 38 (((bX.setCell ⟨aD, 0, none⟩ (.int .i64 aU)).setCell ⟨aD, 1, none⟩ (.int .i64 aV)).setCell ⟨aD, 2, none⟩ (.slice aO aN.length aP)) w.heap.size (fun k_ => some k_ ≠ (.slice bG aT.length bC : Value).ownBlock ∧ some k_ ≠ (.slice aO aN.length aP : Value).ownBlock) (.slice bA aQ.length bB) aQ) := ⟨(by (with_reducible repeat (first | apply Kd.R_alloc | apply Kd.R_drewN | apply Kd.R_drew)); exact Kd.R_mono (Kd.R_far (p := ⟨aD, 2, none⟩) (Kd.R_far (p := ⟨aD, 1, none⟩) (Kd.R_far (p := ⟨aD, 0, none⟩) (Kd.R_types aK.out aF.out oD) (fun _ hk => hk.2) (.int .i64 aU)) (fun _ hk => hk.2) (.int .i64 aV)) (fun _ hk => hk.2) (.slice aO aN.length aP)) (fun _ hk => ⟨hk.1.1.2, hk.1.2⟩))⟩
    have cP : Aside0 (Kd.R k38 38 (((bX.setCell ⟨aD, 0, none⟩ (.int .i64 aU)).setCell ⟨aD, 1, none⟩ (.int .i64 aV)).setCell ⟨aD, 2, none⟩ (.slice aO aN.length aP)) w.heap.size (fun k_ => some k_ ≠ (.slice bG aT.length bC : Value).ownBlock ∧ some k_ ≠ (.slice bA aQ.length bB : Value).ownBlock) (.slice aO aN.length aP) aN) := ⟨(by (with_reducible repeat (first | apply Kd.R_alloc | apply Kd.R_drewN | apply Kd.R_drew)); exact Kd.R_mono (Kd.R_far (p := ⟨aD, 2, none⟩) (Kd.R_far (p := ⟨aD, 1, none⟩) (Kd.R_far (p := ⟨aD, 0, none⟩) (Kd.R_types aL.out aF.out oD) (fun _ hk => hk.2) (.int .i64 aU)) (fun _ hk => hk.2) (.int .i64 aV)) (fun _ hk => hk.2) (.slice aO aN.length aP)) (fun _ hk => ⟨hk.1.1.2, hk.1.2⟩))⟩
    have cQ : Aside0 ((((bX.setCell ⟨aD, 0, none⟩ (.int .i64 aU)).setCell ⟨aD, 1, none⟩ (.int .i64 aV)).setCell ⟨aD, 2, none⟩ (.slice aO aN.length aP)).heap[aM]? = some (.cells #[.int .i64 bJ, .int .i64 bK, .slice bG aT.length bC] 25 (0, 0))) := ⟨(oP aC)⟩
    have cR : Aside0 ((((bX.setCell ⟨aD, 0, none⟩ (.int .i64 aU)).setCell ⟨aD, 1, none⟩ (.int .i64 aV)).setCell ⟨aD, 2, none⟩ (.slice aO aN.length aP)).heap[aH]? = some (.cells #[.int .i64 aY, .int .i64 bH, .int .i64 bQ, .int .i64 bI, .int .i64 bR] 27 (0, 0))) := ⟨(oP aA)⟩
    have cS : Aside0 ((((bX.setCell ⟨aD, 0, none⟩ (.int .i64 aU)).setCell ⟨aD, 1, none⟩ (.int .i64 aV)).setCell ⟨aD, 2, none⟩ (.slice aO aN.length aP)).heap[aI]? = some (.cells #[.int .i64 aX, .int .i64 bD, .slice bA aQ.length bB] 25 (0, 0))) := ⟨(oP aB)⟩
    have cT : Aside0 ((((bX.setCell ⟨aD, 0, none⟩ (.int .i64 aU)).setCell ⟨aD, 1, none⟩ (.int .i64 aV)).setCell ⟨aD, 2, none⟩ (.slice aO aN.length aP)).heap[aD]? = some (.cells #[.int .i64 aU, .int .i64 aV, .slice aO aN.length aP] 25 (0, 0))) := ⟨(blk_put (blk_put (blk_put aF.out 0 _ rfl) 1 _ rfl) 2 _ rfl)⟩
    have cU : Aside0 (Below w.heap.size w (((bX.setCell ⟨aD, 0, none⟩ (.int .i64 aU)).setCell ⟨aD, 1, none⟩ (.int .i64 aV)).setCell ⟨aD, 2, none⟩ (.slice aO aN.length aP))) := ⟨(oB HB)⟩
    (try clear aJ)
    (try clear aK)
    (try clear aL)
    (try clear aC)
    (try clear aA)
    (try clear aB)
    (try clear aF)
    (try clear HB)
    generalize (((bX.setCell ⟨aD, 0, none⟩ (.int .i64 aU)).setCell ⟨aD, 1, none⟩ (.int .i64 aV)).setCell ⟨aD, 2, none⟩ (.slice aO aN.length aP)) = uX at cN cO cP cQ cR cS cT cU ⊢
    have aJ := cN
    have aK := cO
    have aL := cP
    have aC := cQ
    have aA := cR
    have aB := cS
    have aF := cT
    have HB := cU
    clear cN cO cP cQ cR cS cT cU
    have n_ := o2_ (Kd.Q_drew aJ.out) (o2_ (Kd.R_drew aK.out) (o2_ (Kd.R_drew aL.out) (o2_ (blk_drew aC.out) (o2_ (blk_drew aA.out) (o2_ (blk_drew aB.out) (o2_ (blk_drew aF.out) (o1_ (below_drew1 HB.out))))))))
    clear aJ aK aL aC aA aB aF HB
    obtain ⟨aJ, aK, aL, aC, aA, aB, aF, HB⟩ := n_
    refine start_ (n := 16) (S := fun w' => w'.cell? ⟨aI, 0, none⟩ = some (.int .i64 aX) ∧ w'.cell? ⟨aI, 1, none⟩ = some (.int .i64 bD) ∧ w'.cell? ⟨aI, 2, none⟩ = some (.slice bA aQ.length bB) ∧ w'.cell? ⟨aD, 0, none⟩ = some (.int .i64 aU) ∧ w'.cell? ⟨aD, 1, none⟩ = some (.int .i64 aV) ∧ w'.cell? ⟨aD, 2, none⟩ = some (.slice aO aN.length aP)) (ds := []) #[false, false, false, false, false, false, false, false, false, false, false, false, false, false, false, false] oK rfl rfl ⟨(blk_cell aB.out 0).trans rfl, (blk_cell aB.out 1).trans rfl, (blk_cell aB.out 2).trans rfl, (blk_cell aF.out 0).trans rfl, (blk_cell aF.out 1).trans rfl, (blk_cell aF.out 2).trans rfl⟩ (fun hHeld => ?_); refine with_tabW laws_FnOpDo.tab6 laws_FnOpDo.bits6 (fun HT_ HW_ => ?_)
    generalize uX.drew = vG at aJ aK aL aC aA aB aF HB hHeld ⊢
    refine take_ (i := 0) (N := some 31) (v := ?_) (a' := ?_) #[true, false, false, false, false, false, false, false, false, false, false, false, false, false, false, false] rfl rfl (take_ofW HT_.out HW_.out oK) (fun _ _ _ h => h) (Or.inl ⟨by rfl, ?_⟩) hHeld ?_ ?_
    rotate_left
    ·rintro w' ⟨s0, s1, s2, s3, s4, s5⟩
     go_simp
     with_reducible rfl
    rotate_left
    ·exact oT
    refine take_ (i := 1) (N := some 32) (v := ?_) (a' := ?_) #[true, true, false, false, false, false, false, false, false, false, false, false, false, false, false, false] rfl rfl (take_ofW HT_.out HW_.out oK) (fun _ _ _ h => h) (Or.inl ⟨by rfl, ?_⟩) hHeld ?_ ?_
    rotate_left
    ·rintro w' ⟨s0, s1, s2, s3, s4, s5⟩
     go_simp
     with_reducible rfl
    rotate_left
    ·exact oT
    refine one_ (i := 2) (N := some 33) #[true, true, true, false, false, false, false, false, false, false, false, false, false, false, false, false] rfl rfl (one_of HT_.out oK) oD (fun K hK => ?_)
    refine goes_ Try.func21 oK rfl #[.agg #[.int .i64 aX, .int .i64 bD, .slice bA aQ.length bB], .agg #[.int .i64 aU, .int .i64 aV, .slice aO aN.length aP]] (by rfl) rfl rfl oA ?_
    with_reducible refine (laws_eaRas.calls k aX bD _ _ aQ aU aV _ _ aN false _ ?side1 ?side2 ?side3 ?side4 nY.out).mono ?_
    (case side1 => repeat (first | exact (Kd.R_reads' aK.out).2.2 | (with_reducible refine Kd.C_alloc ?_ _) | (with_reducible refine Kd.C_drewN ?_ _) | (with_reducible refine Kd.C_drew ?_)))
    (case side2 => exact (Kd.R_reads' aK.out).2.1)
    (case side3 => repeat (first | exact (Kd.R_reads' aL.out).2.2 | (with_reducible refine Kd.C_alloc ?_ _) | (with_reducible refine Kd.C_drewN ?_ _) | (with_reducible refine Kd.C_drew ?_)))
    (case side4 => exact (Kd.R_reads' aL.out).2.1)
    rintro e vH ⟨rfl, hb⟩
    refine ⟨_, rfl, ?_⟩
    have n_ := o2_ (Kd.Q_below (oQ aJ) hb) (o2_ (Kd.R_below (oR aK) hb) (o2_ (Kd.R_below (oR aL) hb) (o2_ (blk_below (oP aC) hb) (o2_ (blk_below (oP aA) hb) (o2_ (blk_below (oP aB) hb) (o2_ (blk_below (oP aF) hb) (o1_ (below_step (oB HB) hb))))))))
    clear aJ aK aL aC aA aB aF HB
    obtain ⟨aJ, aK, aL, aC, aA, aB, aF, HB⟩ := n_
    (try clear hb)
    (try clear hb2)
    (try clear hk)
    (try clear hi)
    refine hK.out _ _ ⟨(blk_cell aB.out 0).trans rfl, (blk_cell aB.out 1).trans rfl, (blk_cell aB.out 2).trans rfl, (blk_cell aF.out 0).trans rfl, (blk_cell aF.out 1).trans rfl, (blk_cell aF.out 2).trans rfl⟩ (fun hHeld => ?_)
    clear hK K
    refine norm_ (a' := ?_) ?_ ?_
    rotate_left
    ·show Act.put _ (some 33) _ = _
     exact oT
    refine pure_ (i := 3) (N := some 34) (v := ?_) (a' := ?_) #[true, true, true, true, false, false, false, false, false, false, false, false, false, false, false, false] rfl rfl (any_of HT_.out oK) (fun _ _ _ h => h) (Or.inl ⟨by rfl, ?_⟩) ?_ ?_
    rotate_left
    ·intro w'
     go_simp
     with_reducible rfl
    rotate_left
    ·exact oT
    refine pure_ (i := 4) (N := some 35) (v := ?_) (a' := ?_) #[true, true, true, true, true, false, false, false, false, false, false, false, false, false, false, false] rfl rfl (any_of HT_.out oK) (fun _ _ _ h => h) (Or.inl ⟨by rfl, ?_⟩) ?_ ?_
    rotate_left
    ·intro w'
     go_simp
     with_reducible rfl
    rotate_left
    ·exact oT
    refine pure_ (i := 5) (N := some 36) (v := undef) (a' := ?_) #[true, true, true, true, true, true, false, false, false, false, false, false, false, false, false, false] rfl rfl (any_of HT_.out oK) (fun _ _ _ h => h) (Or.inr ⟨by rfl, rfl⟩) ?_ ?_
    rotate_left
    ·exact oT
    refine pure_ (i := 6) (N := some 37) (v := undef) (a' := ?_) #[true, true, true, true, true, true, true, false, false, false, false, false, false, false, false, false] rfl rfl (any_of HT_.out oK) (fun _ _ _ h => h) (Or.inr ⟨by rfl, rfl⟩) ?_ ?_
    rotate_left
    ·exact oT
    refine pure_ (i := 7) (N := some 38) (v := undef) (a' := ?_) #[true, true, true, true, true, true, true, true, false, false, false, false, false, false, false, false] rfl rfl (any_of HT_.out oK) (fun _ _ _ h => h) (Or.inr ⟨by rfl, rfl⟩) ?_ ?_
    rotate_left
    ·exact oT
    refine pure_ (i := 8) (N := some 39) (v := ?_) (a' := ?_) #[true, true, true, true, true, true, true, true, true, false, false, false, false, false, false, false] rfl rfl (any_of HT_.out oK) (fun _ _ _ h => h) (Or.inl ⟨by rfl, ?_⟩) ?_ ?_
    rotate_left
    ·intro w'
     go_simp
     with_reducible rfl
    rotate_left
    ·exact oT
    refine pure_ (i := 9) (N := some 40) (v := ?_) (a' := ?_) #[true, true, true, true, true, true, true, true, true, true, false, false, false, false, false, false] rfl rfl (any_of HT_.out oK) (fun _ _ _ h => h) (Or.inl ⟨by rfl, ?_⟩) ?_ ?_
    rotate_left
    ·intro w'
     go_simp
     with_reducible rfl
    rotate_left
    ·exact oT
    refine pure_ (i := 10) (N := some 41) (v := undef) (a' := ?_) #[true, true, true, true, true, true, true, true, true, true, true, false, false, false, false, false] rfl rfl (any_of HT_.out oK) (fun _ _ _ h => h) (Or.inr ⟨by rfl, rfl⟩) ?_ ?_
    rotate_left
    ·exact oT
    refine pure_ (i := 11) (N := some 42) (v := undef) (a' := ?_) #[true, true, true, true, true, true, true, true, true, true, true, true, false, false, false, false] rfl rfl (any_of HT_.out oK) (fun _ _ _ h => h) (Or.inr ⟨by rfl, rfl⟩) ?_ ?_
    rotate_left
    ·exact oT
    refine pure_ (i := 12) (N := some 43) (v := undef) (a' := ?_) #[true, true, true, true, true, true, true, true, true, true, true, true, true, false, false, false] rfl rfl (any_of HT_.out oK) (fun _ _ _ h => h) (Or.inr ⟨by rfl, rfl⟩) ?_ ?_
    rotate_left
    ·exact oT
    refine pure_ (i := 13) (N := some 44) (v := undef) (a' := ?_) #[true, true, true, true, true, true, true, true, true, true, true, true, true, true, false, false] rfl rfl (any_of HT_.out oK) (fun _ _ _ h => h) (Or.inr ⟨by rfl, rfl⟩) ?_ ?_
    rotate_left
    ·exact oT
    refine pure_ (i := 14) (N := some 45) (v := undef) (a' := ?_) #[true, true, true, true, true, true, true, true, true, true, true, true, true, true, true, false] rfl rfl (any_of HT_.out oK) (fun _ _ _ h => h) (Or.inr ⟨by rfl, rfl⟩) ?_ ?_
    rotate_left
    ·exact oT
    refine pure_ (i := 15) (N := some 46) (v := ?_) (a' := ?_) #[true, true, true, true, true, true, true, true, true, true, true, true, true, true, true, true] rfl rfl (any_of HT_.out oK) (fun _ _ _ h => h) (Or.inl ⟨by rfl, ?_⟩) ?_ ?_
    rotate_left
    ·intro w'
     go_simp
     with_reducible rfl
    rotate_left
    ·exact oT
    refine done_ (done_of HT_.out oK) ?_
    try go_wp2
    go_meet
    case rel => exact ⟨_, (true), oU, H', ⟨(by first | omega | exact Nat.le_refl _)⟩, ⟨(oQ aJ)⟩, ⟨Kd.Q_of_R (oR aK)⟩, ⟨Kd.Q_of_R (oR aL)⟩, ⟨(oP aC)⟩, ⟨(oP aA)⟩, ⟨(oP aB)⟩, ⟨(oP aF)⟩, ⟨(oB HB)⟩⟩
  case rest =>
   clear nZ
   try clear c2
   try clear p2
   try clear c3
   try clear c21
   try clear c22
   try clear c23
   try clear eW
   try clear cF
   try clear bZ
   try clear cL
   try clear cM
   obtain ⟨kq, cE, rfl, HA, rS, aR, aG, aZ, aC, aA, aB, aF, HB⟩ := hcut
   cases kq with
   | zero => exact nomatch (show none = some _ from HA.out)
   | succ kj5 =>
    have H := HA.out
    clear HA
    simp only [laws_FnOpDo.j0] at H
    by_cases fG : cE = true
    ·subst fG
     rw [if_pos rfl] at H
     exact absurd H (by simp)
    ·replace fG := Bool.eq_false_iff.mpr fG
     subst fG
     rw [if_neg (show ¬ (false = true) by decide)] at H
     have eD := Aside0.mk H
     clear H
     go_upto_region 8 with (fail)
     go_cut [54] (fun uT wc => ∃ (kq : Nat) (cB : Bool), uT = .bool cB ∧ Aside0 (laws_FnOpDo.j1 kq bW cB bJ bK aT aY bH bQ bI bR aX bD aQ = some r) ∧ Aside0 (kq ≤ kj5) ∧ Aside0 (Kd.Q k38 38 wc w.heap.size (fun k_ => some k_ ≠ ((.slice bA aQ.length bB) : Value).ownBlock ∧ some k_ ≠ ((.slice aO aN.length aP) : Value).ownBlock) (.slice bG aT.length bC) aT) ∧ Aside0 (Kd.Q k38 38 wc w.heap.size (fun k_ => some k_ ≠ ((.slice bG aT.length bC) : Value).ownBlock ∧ some k_ ≠ ((.slice aO aN.length aP) : Value).ownBlock) (.slice bA aQ.length bB) aQ) ∧ Aside0 (Kd.Q k38 38 wc w.heap.size (fun k_ => some k_ ≠ ((.slice bG aT.length bC) : Value).ownBlock ∧ some k_ ≠ ((.slice bA aQ.length bB) : Value).ownBlock) (.slice aO aN.length aP) aN) ∧ Aside0 (wc.heap[aM]? = some (.cells #[.int .i64 bJ, .int .i64 bK, (.slice bG aT.length bC)] 25 (0, 0))) ∧ Aside0 (wc.heap[aH]? = some (.cells #[.int .i64 aY, .int .i64 bH, .int .i64 bQ, .int .i64 bI, .int .i64 bR] 27 (0, 0))) ∧ Aside0 (wc.heap[aI]? = some (.cells #[.int .i64 aX, .int .i64 bD, (.slice bA aQ.length bB)] 25 (0, 0))) ∧ Aside0 (wc.heap[aD]? = some (.cells #[.int .i64 aU, .int .i64 aV, (.slice aO aN.length aP)] 25 (0, 0))) ∧ Aside0 (Below w.heap.size w wc))
     case first =>
      have H := eD.out
      clear eD
      replace H := Option.bind_eq_some_iff.mp H
      obtain ⟨eJ, fC, H⟩ := H
      (try dsimp only at H)
      have rI := Aside0.mk fC
      clear fC
      by_cases fH : eJ = true
      ·subst fH
       rw [if_pos rfl] at H
       replace H := Option.bind_eq_some_iff.mp H
       obtain ⟨dZ, fD, H⟩ := H
       (try dsimp only at H)
       have uH := Aside0.mk fD
       clear fD
       have H' := Aside0.mk H
       clear H
       have sE := aS.out
       have tH := bM.out
       have sF := bE.out
       have tI := bF.out
       have sG := bL.out
       have tJ := bP.out
       have dD : wc.cell? ⟨aM, 0, none⟩ = some (.int .i64 bJ) := (blk_cell aC.out 0).trans rfl
       have dE : wc.cell? ⟨aM, 1, none⟩ = some (.int .i64 bK) := (blk_cell aC.out 1).trans rfl
       have dF : wc.cell? ⟨aM, 2, none⟩ = some (.slice bG aT.length bC) := (blk_cell aC.out 2).trans rfl
       have dO := blk_frozen aC.out 0
       have dP := blk_frozen aC.out 1
       have dQ := blk_frozen aC.out 2
       go_wp2_with (first | ((with_reducible refine gate_callee (f := 24) rfl ?_); refine goesL_ (some 48) rfl rfl Try.func24 oK rfl #[.agg #[.int .i64 bJ, .int .i64 bK, .slice bG aT.length bC]] rfl oA ?_; (with_reducible refine (spec_RasOk.calls kj5 bJ bK _ _ aT true _ ?side1 ?side2 rI.out).mono ?_); (case side1 => repeat (first | exact (Kd.Q_reads' aR.out).2.2 | (with_reducible refine Kd.C_alloc ?_ _) | (with_reducible refine Kd.C_drewN ?_ _) | (with_reducible refine Kd.C_drew ?_))); (case side2 => exact (Kd.Q_reads' aR.out).2.1); rintro e jX ⟨rfl, hb⟩; refine ⟨_, rfl, ?_⟩; have n_ := o2_ (Kd.Q_below (oQ aR) hb) (o2_ (Kd.Q_below (oQ aG) hb) (o2_ (Kd.Q_below (oQ aZ) hb) (o2_ (blk_below (oP aC) hb) (o2_ (blk_below (oP aA) hb) (o2_ (blk_below (oP aB) hb) (o2_ (blk_below (oP aF) hb) (o1_ (below_step (oB HB) hb)))))))); clear aR aG aZ aC aA aB aF HB; obtain ⟨aR, aG, aZ, aC, aA, aB, aF, HB⟩ := n_; (try clear hb); (try clear hb2); (try clear hk); (try clear hi); have sH := bN.out; have tK := bO.out; have sI := bS.out; have tL := bU.out; have dG : jX.cell? ⟨aH, 0, none⟩ = some (.int .i64 aY) := (blk_cell aA.out 0).trans rfl; have dH : jX.cell? ⟨aH, 1, none⟩ = some (.int .i64 bH) := (blk_cell aA.out 1).trans rfl; have dI : jX.cell? ⟨aH, 2, none⟩ = some (.int .i64 bQ) := (blk_cell aA.out 2).trans rfl; have dJ : jX.cell? ⟨aH, 3, none⟩ = some (.int .i64 bI) := (blk_cell aA.out 3).trans rfl; have dK : jX.cell? ⟨aH, 4, none⟩ = some (.int .i64 bR) := (blk_cell aA.out 4).trans rfl; have dR := blk_frozen aA.out 0; have dS := blk_frozen aA.out 1; have dT := blk_frozen aA.out 2; have dU := blk_frozen aA.out 3; have dV := blk_frozen aA.out 4) | (go_at_call 23; (with_reducible refine (spec_OpOk.calls aY bH bQ bI bR dZ _ uH.out).mono ?_); rintro e vI ⟨rfl, hb⟩; have n_ := o2_ (Kd.Q_below (oQ aR) hb) (o2_ (Kd.Q_below (oQ aG) hb) (o2_ (Kd.Q_below (oQ aZ) hb) (o2_ (blk_below (oP aC) hb) (o2_ (blk_below (oP aA) hb) (o2_ (blk_below (oP aB) hb) (o2_ (blk_below (oP aF) hb) (o1_ (below_step (oB HB) hb)))))))); clear aR aG aZ aC aA aB aF HB; obtain ⟨aR, aG, aZ, aC, aA, aB, aF, HB⟩ := n_; (try clear hb); (try clear hb2); (try clear hk); (try clear hi)))
       go_meet
       case rel => exact ⟨_, (!dZ), oU, H', ⟨(by have := rS.out; first | omega | exact Nat.le_refl _)⟩, ⟨(oQ aR)⟩, ⟨(oQ aG)⟩, ⟨(oQ aZ)⟩, ⟨(oP aC)⟩, ⟨(oP aA)⟩, ⟨(oP aB)⟩, ⟨(oP aF)⟩, ⟨(oB HB)⟩⟩
      ·replace fH := Bool.eq_false_iff.mpr fH
       subst fH
       rw [if_neg (show ¬ (false = true) by decide)] at H
       have H' := Aside0.mk H
       clear H
       have sJ := aS.out
       have tM := bM.out
       have sK := bE.out
       have tN := bF.out
       have sL := bL.out
       have tO := bP.out
       have dL : wc.cell? ⟨aM, 0, none⟩ = some (.int .i64 bJ) := (blk_cell aC.out 0).trans rfl
       have dM : wc.cell? ⟨aM, 1, none⟩ = some (.int .i64 bK) := (blk_cell aC.out 1).trans rfl
       have dN : wc.cell? ⟨aM, 2, none⟩ = some (.slice bG aT.length bC) := (blk_cell aC.out 2).trans rfl
       have dW := blk_frozen aC.out 0
       have dX := blk_frozen aC.out 1
       have dY := blk_frozen aC.out 2
       go_wp2_with (first | ((with_reducible refine gate_callee (f := 24) rfl ?_); refine goesL_ (some 48) rfl rfl Try.func24 oK rfl #[.agg #[.int .i64 bJ, .int .i64 bK, .slice bG aT.length bC]] rfl oA ?_; (with_reducible refine (spec_RasOk.calls kj5 bJ bK _ _ aT false _ ?side1 ?side2 rI.out).mono ?_); (case side1 => repeat (first | exact (Kd.Q_reads' aR.out).2.2 | (with_reducible refine Kd.C_alloc ?_ _) | (with_reducible refine Kd.C_drewN ?_ _) | (with_reducible refine Kd.C_drew ?_))); (case side2 => exact (Kd.Q_reads' aR.out).2.1); rintro e vJ ⟨rfl, hb⟩; refine ⟨_, rfl, ?_⟩; have n_ := o2_ (Kd.Q_below (oQ aR) hb) (o2_ (Kd.Q_below (oQ aG) hb) (o2_ (Kd.Q_below (oQ aZ) hb) (o2_ (blk_below (oP aC) hb) (o2_ (blk_below (oP aA) hb) (o2_ (blk_below (oP aB) hb) (o2_ (blk_below (oP aF) hb) (o1_ (below_step (oB HB) hb)))))))); clear aR aG aZ aC aA aB aF HB; obtain ⟨aR, aG, aZ, aC, aA, aB, aF, HB⟩ := n_; (try clear hb); (try clear hb2); (try clear hk); (try clear hi)))
       go_meet
       case rel => exact ⟨_, (true), oU, H', ⟨(by have := rS.out; first | omega | exact Nat.le_refl _)⟩, ⟨(oQ aR)⟩, ⟨(oQ aG)⟩, ⟨(oQ aZ)⟩, ⟨(oP aC)⟩, ⟨(oP aA)⟩, ⟨(oP aB)⟩, ⟨(oP aF)⟩, ⟨(oB HB)⟩⟩
     case rest =>
      clear eD
      try clear c2
      try clear p2
      try clear c3
      try clear c4
      try clear c5
      try clear c6
      try clear c21
      try clear c22
      try clear c23
      try clear c24
      try clear eW
      try clear cF
      try clear bZ
      try clear cL
      try clear cM
      try clear fG
      try clear fH
      try clear c50
      try clear c51
      try clear c52
      try clear c55
      try clear c56
      try clear c59
      try clear c60
      try clear c61
      try clear dD
      try clear dE
      try clear dF
      try clear dG
      try clear dH
      try clear dI
      try clear dJ
      try clear dK
      try clear dL
      try clear dM
      try clear dN
      try clear dO
      try clear dP
      try clear dQ
      try clear dR
      try clear dS
      try clear dT
      try clear dU
      try clear dV
      try clear dW
      try clear dX
      try clear dY
      try clear p2
      obtain ⟨kq, cB, rfl, HA, uL, aR, aG, aZ, aC, aA, aB, aF, HB⟩ := hcut
      cases kq with
      | zero => exact nomatch (show none = some _ from HA.out)
      | succ kj45 =>
       have H := HA.out
       clear HA
       simp only [laws_FnOpDo.j1] at H
       by_cases jY : cB = true
       ·subst jY
        rw [if_pos rfl] at H
        by_cases jZ : bW = true
        ·subst jZ
         rw [if_pos rfl] at H
         exact absurd H (by simp)
        ·replace jZ := Bool.eq_false_iff.mpr jZ
         subst jZ
         rw [if_neg (show ¬ (false = true) by decide)] at H
         by_cases fI : (aQ.length : Int) = 0
         ·rw [if_pos fI] at H
          have rU : ((aQ.length : Int) == 0) = true := beq_iff_eq.mpr fI
          have rV : ((aQ.length : Int) != 0) = false := bne_eq_false_iff_eq.mpr fI
          clear fI
          replace H := Option.bind_eq_some_iff.mp H
          obtain ⟨eK, fE, H⟩ := H
          (try dsimp only at H)
          have uI := Aside0.mk fE
          clear fE
          obtain rfl := Option.some.inj H
          have sM := bF.out
          have tP := bE.out
          have sN := bO.out
          have tQ := bN.out
          have sO := bT.out
          have tR := bV.out
          have lB : wc.cell? ⟨aI, 0, none⟩ = some (.int .i64 aX) := (blk_cell aB.out 0).trans rfl
          have lC : wc.cell? ⟨aI, 1, none⟩ = some (.int .i64 bD) := (blk_cell aB.out 1).trans rfl
          have lD : wc.cell? ⟨aI, 2, none⟩ = some (.slice bA aQ.length bB) := (blk_cell aB.out 2).trans rfl
          have mW := blk_frozen aB.out 0
          have mX := blk_frozen aB.out 1
          have mY := blk_frozen aB.out 2
          go_wp2_with (first | (go_at_call 25; (with_reducible refine (laws_eaOk.calls  eK _ uI.out).mono ?_); rintro e vK ⟨rfl, hb⟩; have n_ := o2_ (Kd.Q_below (oQ aG) hb) (o2_ (blk_below (oP aC) hb) (o2_ (blk_below (oP aA) hb) (o2_ (blk_below (oP aB) hb) (o1_ (below_step (oB HB) hb))))); clear aG aC aA aB HB; obtain ⟨aG, aC, aA, aB, HB⟩ := n_; (try clear hb); (try clear hb2); (try clear hk); (try clear hi)))
          go_ret
          exact ⟨by first | rfl | (simp [errW_none, errW_some] <;> rfl) | (simp [*, errW_none, errW_some] <;> rfl), oB HB⟩
         ·rw [if_neg fI] at H
          exact absurd H (by simp)
       ·replace jY := Bool.eq_false_iff.mpr jY
        subst jY
        rw [if_neg (show ¬ (false = true) by decide)] at H
        by_cases eI : aY = 1
        ·rw [if_pos eI] at H
         have fJ : (aY == 1) = true := beq_iff_eq.mpr eI
         have fK : (aY != 1) = false := bne_eq_false_iff_eq.mpr eI
         clear eI
         by_cases eX : (wrap64 (bH + bI)) > bJ
         ·rw [if_pos eX] at H
          have fL : decide (bJ < (wrap64 (bH + bI))) = true := decide_eq_true eX
          clear eX
          by_cases kA : bW = true
          ·subst kA
           rw [if_pos rfl] at H
           exact absurd H (by simp)
          ·replace kA := Bool.eq_false_iff.mpr kA
           subst kA
           rw [if_neg (show ¬ (false = true) by decide)] at H
           obtain rfl := Option.some.inj H
           have sP := aS.out
           have tS := bM.out
           have sQ := bE.out
           have tT := bF.out
           have sR := bL.out
           have tU := bP.out
           have lE : wc.cell? ⟨aM, 0, none⟩ = some (.int .i64 bJ) := (blk_cell aC.out 0).trans rfl
           have lF : wc.cell? ⟨aM, 1, none⟩ = some (.int .i64 bK) := (blk_cell aC.out 1).trans rfl
           have lG : wc.cell? ⟨aM, 2, none⟩ = some (.slice bG aT.length bC) := (blk_cell aC.out 2).trans rfl
           have mZ := blk_frozen aC.out 0
           have nA := blk_frozen aC.out 1
           have nB := blk_frozen aC.out 2
           have sS := bN.out
           have tV := bO.out
           have sT := bS.out
           have tW := bU.out
           have lH : wc.cell? ⟨aH, 0, none⟩ = some (.int .i64 aY) := (blk_cell aA.out 0).trans rfl
           have lI : wc.cell? ⟨aH, 1, none⟩ = some (.int .i64 bH) := (blk_cell aA.out 1).trans rfl
           have lJ : wc.cell? ⟨aH, 2, none⟩ = some (.int .i64 bQ) := (blk_cell aA.out 2).trans rfl
           have lK : wc.cell? ⟨aH, 3, none⟩ = some (.int .i64 bI) := (blk_cell aA.out 3).trans rfl
           have lL : wc.cell? ⟨aH, 4, none⟩ = some (.int .i64 bR) := (blk_cell aA.out 4).trans rfl
           have nC := blk_frozen aA.out 0
           have nD := blk_frozen aA.out 1
           have nE := blk_frozen aA.out 2
           have nF := blk_frozen aA.out 3
           have nG := blk_frozen aA.out 4
           have sU := bT.out
           have tX := bV.out
           have lM : wc.cell? ⟨aI, 0, none⟩ = some (.int .i64 aX) := (blk_cell aB.out 0).trans rfl
           have lN : wc.cell? ⟨aI, 1, none⟩ = some (.int .i64 bD) := (blk_cell aB.out 1).trans rfl
           have lO : wc.cell? ⟨aI, 2, none⟩ = some (.slice bA aQ.length bB) := (blk_cell aB.out 2).trans rfl
           have nH := blk_frozen aB.out 0
           have nI := blk_frozen aB.out 1
           have nJ := blk_frozen aB.out 2
           go_wp2
           go_ret
           exact ⟨by first | rfl | (simp [errW_none, errW_some] <;> rfl) | (simp [*, errW_none, errW_some] <;> rfl), oB HB⟩
         ·rw [if_neg eX] at H
          have fL : decide (bJ < (wrap64 (bH + bI))) = false := decide_eq_false eX
          clear eX
          by_cases eY : (wrap64 (bQ + bR)) > bK
          ·rw [if_pos eY] at H
           have fM : decide (bK < (wrap64 (bQ + bR))) = true := decide_eq_true eY
           clear eY
           by_cases kB : bW = true
           ·subst kB
            rw [if_pos rfl] at H
            exact absurd H (by simp)
           ·replace kB := Bool.eq_false_iff.mpr kB
            subst kB
            rw [if_neg (show ¬ (false = true) by decide)] at H
            obtain rfl := Option.some.inj H
            have sV := aS.out
            have tY := bM.out
            have sW := bE.out
            have tZ := bF.out
            have sX := bL.out
            have uA := bP.out
            have lP : wc.cell? ⟨aM, 0, none⟩ = some (.int .i64 bJ) := (blk_cell aC.out 0).trans rfl
            have lQ : wc.cell? ⟨aM, 1, none⟩ = some (.int .i64 bK) := (blk_cell aC.out 1).trans rfl
            have lR : wc.cell? ⟨aM, 2, none⟩ = some (.slice bG aT.length bC) := (blk_cell aC.out 2).trans rfl
            have nK := blk_frozen aC.out 0
            have nL := blk_frozen aC.out 1
            have nM := blk_frozen aC.out 2
            have sY := bN.out
            have uB := bO.out
            have sZ := bS.out
            have uD := bU.out
            have lS : wc.cell? ⟨aH, 0, none⟩ = some (.int .i64 aY) := (blk_cell aA.out 0).trans rfl
            have lT : wc.cell? ⟨aH, 1, none⟩ = some (.int .i64 bH) := (blk_cell aA.out 1).trans rfl
            have lU : wc.cell? ⟨aH, 2, none⟩ = some (.int .i64 bQ) := (blk_cell aA.out 2).trans rfl
            have lV : wc.cell? ⟨aH, 3, none⟩ = some (.int .i64 bI) := (blk_cell aA.out 3).trans rfl
            have lW : wc.cell? ⟨aH, 4, none⟩ = some (.int .i64 bR) := (blk_cell aA.out 4).trans rfl
            have nN := blk_frozen aA.out 0
            have nO := blk_frozen aA.out 1
            have nP := blk_frozen aA.out 2
            have nQ := blk_frozen aA.out 3
            have nR := blk_frozen aA.out 4
            have tA := bT.out
            have uE := bV.out
            have lX : wc.cell? ⟨aI, 0, none⟩ = some (.int .i64 aX) := (blk_cell aB.out 0).trans rfl
            have lY : wc.cell? ⟨aI, 1, none⟩ = some (.int .i64 bD) := (blk_cell aB.out 1).trans rfl
            have lZ : wc.cell? ⟨aI, 2, none⟩ = some (.slice bA aQ.length bB) := (blk_cell aB.out 2).trans rfl
            have nS := blk_frozen aB.out 0
            have nT := blk_frozen aB.out 1
            have nU := blk_frozen aB.out 2
            go_wp2
            go_ret
            exact ⟨by first | rfl | (simp [errW_none, errW_some] <;> rfl) | (simp [*, errW_none, errW_some] <;> rfl), oB HB⟩
          ·rw [if_neg eY] at H
           have fM : decide (bK < (wrap64 (bQ + bR))) = false := decide_eq_false eY
           clear eY
           by_cases kC : bW = true
           ·subst kC
            rw [if_pos rfl] at H
            replace H := Option.bind_eq_some_iff.mp H
            obtain ⟨eL, fF, H⟩ := H
            (try dsimp only at H)
            have uJ := Aside0.mk fF
            clear fF
            by_cases kD : eL = true
            ·subst kD
             rw [if_pos rfl] at H
             by_cases fN : aX = bI
             ·rw [if_pos fN] at H
              have rW : (aX == bI) = true := beq_iff_eq.mpr fN
              have rX : (aX != bI) = false := bne_eq_false_iff_eq.mpr fN
              clear fN
              obtain rfl := Option.some.inj H
              have pK := aS.out
              have qI := bM.out
              have pL := bE.out
              have qJ := bF.out
              have pM := bL.out
              have qK := bP.out
              have fO : wc.cell? ⟨aM, 0, none⟩ = some (.int .i64 bJ) := (blk_cell aC.out 0).trans rfl
              have fP : wc.cell? ⟨aM, 1, none⟩ = some (.int .i64 bK) := (blk_cell aC.out 1).trans rfl
              have fQ : wc.cell? ⟨aM, 2, none⟩ = some (.slice bG aT.length bC) := (blk_cell aC.out 2).trans rfl
              have hT := blk_frozen aC.out 0
              have hU := blk_frozen aC.out 1
              have hV := blk_frozen aC.out 2
              have pN := bN.out
              have qL := bO.out
              have pO := bS.out
              have qM := bU.out
              have fR : wc.cell? ⟨aH, 0, none⟩ = some (.int .i64 aY) := (blk_cell aA.out 0).trans rfl
              have fS : wc.cell? ⟨aH, 1, none⟩ = some (.int .i64 bH) := (blk_cell aA.out 1).trans rfl
              have fT : wc.cell? ⟨aH, 2, none⟩ = some (.int .i64 bQ) := (blk_cell aA.out 2).trans rfl
              have fU : wc.cell? ⟨aH, 3, none⟩ = some (.int .i64 bI) := (blk_cell aA.out 3).trans rfl
              have fV : wc.cell? ⟨aH, 4, none⟩ = some (.int .i64 bR) := (blk_cell aA.out 4).trans rfl
              have hW := blk_frozen aA.out 0
              have hX := blk_frozen aA.out 1
              have hY := blk_frozen aA.out 2
              have hZ := blk_frozen aA.out 3
              have iA := blk_frozen aA.out 4
              have pP := bT.out
              have qN := bV.out
              have fW : wc.cell? ⟨aI, 0, none⟩ = some (.int .i64 aX) := (blk_cell aB.out 0).trans rfl
              have fX : wc.cell? ⟨aI, 1, none⟩ = some (.int .i64 bD) := (blk_cell aB.out 1).trans rfl
              have fY : wc.cell? ⟨aI, 2, none⟩ = some (.slice bA aQ.length bB) := (blk_cell aB.out 2).trans rfl
              have iB := blk_frozen aB.out 0
              have iC := blk_frozen aB.out 1
              have iD := blk_frozen aB.out 2
              go_wp2_with (first | (go_at_call 26; (with_reducible refine (impl_RasOk.calls kj45 aX bD _ _ aQ true _ ?side1 ?side2 uJ.out).mono ?_); (case side1 => repeat (first | exact (Kd.Q_reads' aG.out).2.2 | (with_reducible refine Kd.C_alloc ?_ _) | (with_reducible refine Kd.C_drewN ?_ _) | (with_reducible refine Kd.C_drew ?_))); (case side2 => exact (Kd.Q_reads' aG.out).2.1); rintro e eP ⟨rfl, hb⟩; have n_ := o2_ (Kd.Q_below (oQ aG) hb) (o2_ (blk_below (oP aC) hb) (o2_ (blk_below (oP aA) hb) (o2_ (blk_below (oP aB) hb) (o1_ (below_step (oB HB) hb))))); clear aG aC aA aB HB; obtain ⟨aG, aC, aA, aB, HB⟩ := n_; (try clear hb); (try clear hb2); (try clear hk); (try clear hi); have fZ : eP.cell? ⟨aI, 0, none⟩ = some (.int .i64 aX) := (blk_cell aB.out 0).trans rfl; have gA : eP.cell? ⟨aI, 1, none⟩ = some (.int .i64 bD) := (blk_cell aB.out 1).trans rfl; have gB : eP.cell? ⟨aI, 2, none⟩ = some (.slice bA aQ.length bB) := (blk_cell aB.out 2).trans rfl; have iE := blk_frozen aB.out 0; have iF := blk_frozen aB.out 1; have iG := blk_frozen aB.out 2))
              go_ret
              exact ⟨by first | rfl | (simp [errW_none, errW_some] <;> rfl) | (simp [*, errW_none, errW_some] <;> rfl), oB HB⟩
             ·rw [if_neg fN] at H
              exact absurd H (by simp)
            ·replace kD := Bool.eq_false_iff.mpr kD
             subst kD
             rw [if_neg (show ¬ (false = true) by decide)] at H
             exact absurd H (by simp)
           ·replace kC := Bool.eq_false_iff.mpr kC
            subst kC
            rw [if_neg (show ¬ (false = true) by decide)] at H
            exact absurd H (by simp)
        ·rw [if_neg eI] at H
         have fJ : (aY == 1) = false := beq_eq_false_iff_ne.mpr eI
         have fK : (aY != 1) = true := bne_iff_ne.mpr eI
         by_cases cC : aY = 4
         ·rw [if_pos cC] at H
          have eE : (aY == 4) = true := beq_iff_eq.mpr cC
          have eF : (aY != 4) = false := bne_eq_false_iff_eq.mpr cC
          clear cC
          by_cases cX : bW = true
          ·subst cX
           rw [if_pos rfl] at H
           replace H := Option.bind_eq_some_iff.mp H
           obtain ⟨eM, eA, H⟩ := H
           (try dsimp only at H)
           have nV := Aside0.mk eA
           clear eA
           by_cases cY : eM = true
           ·subst cY
            rw [if_pos rfl] at H
            by_cases cI : aX = bK
            ·rw [if_pos cI] at H
             have oO : (aX == bK) = true := beq_iff_eq.mpr cI
             have pA : (aX != bK) = false := bne_eq_false_iff_eq.mpr cI
             clear cI
             obtain rfl := Option.some.inj H
             have pQ := aS.out
             have qO := bM.out
             have pR := bE.out
             have qP := bF.out
             have pS := bL.out
             have qQ := bP.out
             have gC : wc.cell? ⟨aM, 0, none⟩ = some (.int .i64 bJ) := (blk_cell aC.out 0).trans rfl
             have gD : wc.cell? ⟨aM, 1, none⟩ = some (.int .i64 bK) := (blk_cell aC.out 1).trans rfl
             have gE : wc.cell? ⟨aM, 2, none⟩ = some (.slice bG aT.length bC) := (blk_cell aC.out 2).trans rfl
             have iH := blk_frozen aC.out 0
             have iI := blk_frozen aC.out 1
             have iJ := blk_frozen aC.out 2
             have pT := bN.out
             have qR := bO.out
             have pU := bS.out
             have qS := bU.out
             have gF : wc.cell? ⟨aH, 0, none⟩ = some (.int .i64 aY) := (blk_cell aA.out 0).trans rfl
             have gG : wc.cell? ⟨aH, 1, none⟩ = some (.int .i64 bH) := (blk_cell aA.out 1).trans rfl
             have gH : wc.cell? ⟨aH, 2, none⟩ = some (.int .i64 bQ) := (blk_cell aA.out 2).trans rfl
             have gI : wc.cell? ⟨aH, 3, none⟩ = some (.int .i64 bI) := (blk_cell aA.out 3).trans rfl
             have gJ : wc.cell? ⟨aH, 4, none⟩ = some (.int .i64 bR) := (blk_cell aA.out 4).trans rfl
             have iK := blk_frozen aA.out 0
             have iL := blk_frozen aA.out 1
             have iM := blk_frozen aA.out 2
             have iN := blk_frozen aA.out 3
             have iO := blk_frozen aA.out 4
             have pV := bT.out
             have qT := bV.out
             have gK : wc.cell? ⟨aI, 0, none⟩ = some (.int .i64 aX) := (blk_cell aB.out 0).trans rfl
             have gL : wc.cell? ⟨aI, 1, none⟩ = some (.int .i64 bD) := (blk_cell aB.out 1).trans rfl
             have gM : wc.cell? ⟨aI, 2, none⟩ = some (.slice bA aQ.length bB) := (blk_cell aB.out 2).trans rfl
             have iP := blk_frozen aB.out 0
             have iQ := blk_frozen aB.out 1
             have iR := blk_frozen aB.out 2
             go_wp2_with (first | (go_at_call 26; (with_reducible refine (impl_RasOk.calls kj45 aX bD _ _ aQ true _ ?side1 ?side2 nV.out).mono ?_); (case side1 => repeat (first | exact (Kd.Q_reads' aG.out).2.2 | (with_reducible refine Kd.C_alloc ?_ _) | (with_reducible refine Kd.C_drewN ?_ _) | (with_reducible refine Kd.C_drew ?_))); (case side2 => exact (Kd.Q_reads' aG.out).2.1); rintro e eQ ⟨rfl, hb⟩; have n_ := o2_ (Kd.Q_below (oQ aG) hb) (o2_ (blk_below (oP aC) hb) (o2_ (blk_below (oP aA) hb) (o2_ (blk_below (oP aB) hb) (o1_ (below_step (oB HB) hb))))); clear aG aC aA aB HB; obtain ⟨aG, aC, aA, aB, HB⟩ := n_; (try clear hb); (try clear hb2); (try clear hk); (try clear hi); have gN : eQ.cell? ⟨aI, 0, none⟩ = some (.int .i64 aX) := (blk_cell aB.out 0).trans rfl; have gO : eQ.cell? ⟨aI, 1, none⟩ = some (.int .i64 bD) := (blk_cell aB.out 1).trans rfl; have gP : eQ.cell? ⟨aI, 2, none⟩ = some (.slice bA aQ.length bB) := (blk_cell aB.out 2).trans rfl; have iS := blk_frozen aB.out 0; have iT := blk_frozen aB.out 1; have iU := blk_frozen aB.out 2))
             go_ret
             exact ⟨by first | rfl | (simp [errW_none, errW_some] <;> rfl) | (simp [*, errW_none, errW_some] <;> rfl), oB HB⟩
            ·rw [if_neg cI] at H
             exact absurd H (by simp)
           ·replace cY := Bool.eq_false_iff.mpr cY
            subst cY
            rw [if_neg (show ¬ (false = true) by decide)] at H
            exact absurd H (by simp)
          ·replace cX := Bool.eq_false_iff.mpr cX
           subst cX
           rw [if_neg (show ¬ (false = true) by decide)] at H
           exact absurd H (by simp)
         ·rw [if_neg cC] at H
          have eE : (aY == 4) = false := beq_eq_false_iff_ne.mpr cC
          have eF : (aY != 4) = true := bne_iff_ne.mpr cC
          by_cases cD : aY = 7
          ·rw [if_pos cD] at H
           have eG : (aY == 7) = true := beq_iff_eq.mpr cD
           have eH : (aY != 7) = false := bne_eq_false_iff_eq.mpr cD
           clear cD
           by_cases cZ : bW = true
           ·subst cZ
            rw [if_pos rfl] at H
            replace H := Option.bind_eq_some_iff.mp H
            obtain ⟨eN, eB, H⟩ := H
            (try dsimp only at H)
            have nW := Aside0.mk eB
            clear eB
            by_cases dA : eN = true
            ·subst dA
             rw [if_pos rfl] at H
             by_cases cJ : aX = bH
             ·rw [if_pos cJ] at H
              have pB : (aX == bH) = true := beq_iff_eq.mpr cJ
              have pC : (aX != bH) = false := bne_eq_false_iff_eq.mpr cJ
              clear cJ
              obtain rfl := Option.some.inj H
              have pW := aS.out
              have qU := bM.out
              have pX := bE.out
              have qV := bF.out
              have pY := bL.out
              have qW := bP.out
              have gQ : wc.cell? ⟨aM, 0, none⟩ = some (.int .i64 bJ) := (blk_cell aC.out 0).trans rfl
              have gR : wc.cell? ⟨aM, 1, none⟩ = some (.int .i64 bK) := (blk_cell aC.out 1).trans rfl
              have gS : wc.cell? ⟨aM, 2, none⟩ = some (.slice bG aT.length bC) := (blk_cell aC.out 2).trans rfl
              have iV := blk_frozen aC.out 0
              have iW := blk_frozen aC.out 1
              have iX := blk_frozen aC.out 2
              have pZ := bN.out
              have qX := bO.out
              have qA := bS.out
              have qY := bU.out
              have gT : wc.cell? ⟨aH, 0, none⟩ = some (.int .i64 aY) := (blk_cell aA.out 0).trans rfl
              have gU : wc.cell? ⟨aH, 1, none⟩ = some (.int .i64 bH) := (blk_cell aA.out 1).trans rfl
              have gV : wc.cell? ⟨aH, 2, none⟩ = some (.int .i64 bQ) := (blk_cell aA.out 2).trans rfl
              have gW : wc.cell? ⟨aH, 3, none⟩ = some (.int .i64 bI) := (blk_cell aA.out 3).trans rfl
              have gX : wc.cell? ⟨aH, 4, none⟩ = some (.int .i64 bR) := (blk_cell aA.out 4).trans rfl
              have iY := blk_frozen aA.out 0
              have iZ := blk_frozen aA.out 1
              have jA := blk_frozen aA.out 2
              have jB := blk_frozen aA.out 3
              have jC := blk_frozen aA.out 4
              have qB := bT.out
              have qZ := bV.out
              have gY : wc.cell? ⟨aI, 0, none⟩ = some (.int .i64 aX) := (blk_cell aB.out 0).trans rfl
              have gZ : wc.cell? ⟨aI, 1, none⟩ = some (.int .i64 bD) := (blk_cell aB.out 1).trans rfl
              have hA : wc.cell? ⟨aI, 2, none⟩ = some (.slice bA aQ.length bB) := (blk_cell aB.out 2).trans rfl
              have jD := blk_frozen aB.out 0
              have jE := blk_frozen aB.out 1
              have jF := blk_frozen aB.out 2
              go_wp2_with (first | (go_at_call 26; (with_reducible refine (impl_RasOk.calls kj45 aX bD _ _ aQ true _ ?side1 ?side2 nW.out).mono ?_); (case side1 => repeat (first | exact (Kd.Q_reads' aG.out).2.2 | (with_reducible refine Kd.C_alloc ?_ _) | (with_reducible refine Kd.C_drewN ?_ _) | (with_reducible refine Kd.C_drew ?_))); (case side2 => exact (Kd.Q_reads' aG.out).2.1); rintro e eR ⟨rfl, hb⟩; have n_ := o2_ (Kd.Q_below (oQ aG) hb) (o2_ (blk_below (oP aC) hb) (o2_ (blk_below (oP aA) hb) (o2_ (blk_below (oP aB) hb) (o1_ (below_step (oB HB) hb))))); clear aG aC aA aB HB; obtain ⟨aG, aC, aA, aB, HB⟩ := n_; (try clear hb); (try clear hb2); (try clear hk); (try clear hi); have hB : eR.cell? ⟨aI, 0, none⟩ = some (.int .i64 aX) := (blk_cell aB.out 0).trans rfl; have hC : eR.cell? ⟨aI, 1, none⟩ = some (.int .i64 bD) := (blk_cell aB.out 1).trans rfl; have hD : eR.cell? ⟨aI, 2, none⟩ = some (.slice bA aQ.length bB) := (blk_cell aB.out 2).trans rfl; have jG := blk_frozen aB.out 0; have jH := blk_frozen aB.out 1; have jI := blk_frozen aB.out 2))
              go_ret
              exact ⟨by first | rfl | (simp [errW_none, errW_some] <;> rfl) | (simp [*, errW_none, errW_some] <;> rfl), oB HB⟩
             ·rw [if_neg cJ] at H
              exact absurd H (by simp)
            ·replace dA := Bool.eq_false_iff.mpr dA
             subst dA
             rw [if_neg (show ¬ (false = true) by decide)] at H
             exact absurd H (by simp)
           ·replace cZ := Bool.eq_false_iff.mpr cZ
            subst cZ
            rw [if_neg (show ¬ (false = true) by decide)] at H
            exact absurd H (by simp)
          ·rw [if_neg cD] at H
           have eG : (aY == 7) = false := beq_eq_false_iff_ne.mpr cD
           have eH : (aY != 7) = true := bne_iff_ne.mpr cD
           by_cases dB : bW = true
           ·subst dB
            rw [if_pos rfl] at H
            replace H := Option.bind_eq_some_iff.mp H
            obtain ⟨eO, eC, H⟩ := H
            (try dsimp only at H)
            have nX := Aside0.mk eC
            clear eC
            by_cases dC : eO = true
            ·subst dC
             rw [if_pos rfl] at H
             by_cases cK : aX = bJ
             ·rw [if_pos cK] at H
              have pD : (aX == bJ) = true := beq_iff_eq.mpr cK
              have pE : (aX != bJ) = false := bne_eq_false_iff_eq.mpr cK
              clear cK
              obtain rfl := Option.some.inj H
              have qC := aS.out
              have rA := bM.out
              have qD := bE.out
              have rB := bF.out
              have qE := bL.out
              have rC := bP.out
              have hE : wc.cell? ⟨aM, 0, none⟩ = some (.int .i64 bJ) := (blk_cell aC.out 0).trans rfl
              have hF : wc.cell? ⟨aM, 1, none⟩ = some (.int .i64 bK) := (blk_cell aC.out 1).trans rfl
              have hG : wc.cell? ⟨aM, 2, none⟩ = some (.slice bG aT.length bC) := (blk_cell aC.out 2).trans rfl
              have jJ := blk_frozen aC.out 0
              have jK := blk_frozen aC.out 1
              have jL := blk_frozen aC.out 2
              have qF := bN.out
              have rD := bO.out
              have qG := bS.out
              have rE := bU.out
              have hH : wc.cell? ⟨aH, 0, none⟩ = some (.int .i64 aY) := (blk_cell aA.out 0).trans rfl
              have hI : wc.cell? ⟨aH, 1, none⟩ = some (.int .i64 bH) := (blk_cell aA.out 1).trans rfl
              have hJ : wc.cell? ⟨aH, 2, none⟩ = some (.int .i64 bQ) := (blk_cell aA.out 2).trans rfl
              have hL : wc.cell? ⟨aH, 3, none⟩ = some (.int .i64 bI) := (blk_cell aA.out 3).trans rfl
              have hM : wc.cell? ⟨aH, 4, none⟩ = some (.int .i64 bR) := (blk_cell aA.out 4).trans rfl
              have jM := blk_frozen aA.out 0
              have jN := blk_frozen aA.out 1
              have jO := blk_frozen aA.out 2
              have jP := blk_frozen aA.out 3
              have jQ := blk_frozen aA.out 4
              have qH := bT.out
              have rF := bV.out
              have hN : wc.cell? ⟨aI, 0, none⟩ = some (.int .i64 aX) := (blk_cell aB.out 0).trans rfl
              have hO : wc.cell? ⟨aI, 1, none⟩ = some (.int .i64 bD) := (blk_cell aB.out 1).trans rfl
              have hP : wc.cell? ⟨aI, 2, none⟩ = some (.slice bA aQ.length bB) := (blk_cell aB.out 2).trans rfl
              have jR := blk_frozen aB.out 0
              have jS := blk_frozen aB.out 1
              have jT := blk_frozen aB.out 2
              go_wp2_with (first | (go_at_call 26; (with_reducible refine (impl_RasOk.calls kj45 aX bD _ _ aQ true _ ?side1 ?side2 nX.out).mono ?_); (case side1 => repeat (first | exact (Kd.Q_reads' aG.out).2.2 | (with_reducible refine Kd.C_alloc ?_ _) | (with_reducible refine Kd.C_drewN ?_ _) | (with_reducible refine Kd.C_drew ?_))); (case side2 => exact (Kd.Q_reads' aG.out).2.1); rintro e eS ⟨rfl, hb⟩; have n_ := o2_ (blk_below (oP aB) hb) (o1_ (below_step (oB HB) hb)); clear aB HB; obtain ⟨aB, HB⟩ := n_; (try clear hb); (try clear hb2); (try clear hk); (try clear hi); have hQ : eS.cell? ⟨aI, 0, none⟩ = some (.int .i64 aX) := (blk_cell aB.out 0).trans rfl; have hR : eS.cell? ⟨aI, 1, none⟩ = some (.int .i64 bD) := (blk_cell aB.out 1).trans rfl; have hS : eS.cell? ⟨aI, 2, none⟩ = some (.slice bA aQ.length bB) := (blk_cell aB.out 2).trans rfl; have jU := blk_frozen aB.out 0; have jV := blk_frozen aB.out 1; have jW := blk_frozen aB.out 2))
              go_ret
              exact ⟨by first | rfl | (simp [errW_none, errW_some] <;> rfl) | (simp [*, errW_none, errW_some] <;> rfl), oB HB⟩
             ·rw [if_neg cK] at H
              exact absurd H (by simp)
            ·replace dC := Bool.eq_false_iff.mpr dC
             subst dC
             rw [if_neg (show ¬ (false = true) by decide)] at H
             exact absurd H (by simp)
           ·replace dB := Bool.eq_false_iff.mpr dB
            subst dB
            rw [if_neg (show ¬ (false = true) by decide)] at H
            exact absurd H (by simp)

/-- THE ONE PURE STATEMENT of laws_FnOpDo: yours. -/
def laws_FnOpDo.Pure : Prop := ∀ (l0 : List Int), l0.length ≤ maxLen → l0.length * 1 ≤ 140737488351232 → (∀ x ∈ l0, (Lit.int .u8 x).wf = true) → ∃ k, laws_FnOpDo.f k l0 = some true
theorem laws_FnOpDo.walk (P : laws_FnOpDo.Pure) (a0 : Option Addr) (len0 cap0 : Nat) (z0 : List Int) (w : World) (w0 : (a0 = none ∧ len0 = 0 ∧ cap0 = 0 ∧ z0 = []) ∨ ∃ x, a0 = some x ∧ len0 ≤ cap0 ∧ cap0 ≤ maxLen ∧ z0.length = cap0 ∧ (∀ i, i < z0.length → w.cell? (x.add i) = some (.int .u8 (z0.getD i 0))) ∧ ∀ n ∈ z0, (Lit.int .u8 n).wf = true) (y0 : len0 * 1 ≤ 140737488351232) :
  Calls Try.prog 3 #[.slice a0 len0 cap0] w fun e w' => e = .returned (.bool true) ∧ Below w.heap.size w w' := by
 obtain ⟨l0, rfl, hr0, hm0, hw0, kE⟩ := ReadsInt.ofRowC w0
 obtain ⟨k, h⟩ := P l0 hm0 y0 hw0
 refine (laws_FnOpDo.calls k _ _ l0 true w (Kd.C_of_reads (d := (0 : Int)) (h1 := fun _ => rfl) hr0) kE h).mono ?_
 rintro e w' ⟨rfl, hd⟩
 exact ⟨rfl, hd⟩

end Go.Proofs.Ythnmeogafklhnaa.X
