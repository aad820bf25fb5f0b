/- Functions of the given program as plain Lean functions, and for each the proof that the machine's call comes to what its function says. No condition but what each theorem states. Written by a program of this session. -/
import Derived.Test.YthnmeogafklhnaaX0
import Derived.Test.YthnmeogafklhnaaX2
import Derived.Test.YthnmeogafklhnaaX9
import Derived.Test.YthnmeogafklhnaaX15
import Derived.Test.YthnmeogafklhnaaX32
import Derived.Test.YthnmeogafklhnaaX44
import Derived.Test.YthnmeogafklhnaaX45
import Derived.Test.YthnmeogafklhnaaX48
import Derived.Test.YthnmeogafklhnaaX51
namespace Go.Proofs.Ythnmeogafklhnaa.X
open Go.RowKit Go.Proofs.YthnmeogafklhnaaW.PrintWords Go.Proofs.YthnmeogafklhnaaW.PrintLast Go.Proofs.YthnmeogafklhnaaW.PrintMore Go.Proofs.Ythnmeogafklhnaa.Hyb
attribute [local go_sem] max2_int min2_int max_two min_two max_three min_three max_four min_four   -- for this text's walks alone
set_option linter.unusedVariables false
set_option linter.unusedSimpArgs false

attribute [local go_sem high] eqA38
/-! ### laws_FnOpFlip: function 12 -/
theorem oY {P Q : Nat → Prop} (h : ∀ k, P k → Q k := by intro _ hk; first | exact trivial | exact hk | exact hk.1 | exact hk.2 | ((repeat cases ‹_ ∧ _›); (repeat' apply And.intro) <;> first | assumption | trivial)) : ∀ k, P k → Q k := h
mutual
def laws_FnOpFlip.l0 : Nat → Int → Int → Int → List (S38) → Int → Int → Int → Int → Int → Int → Int → Int → Int → Int → Int → Int → List (S38) → Int → Int → List (S38) → Option (Bool)
 | 0, _, _, _, _, _, _, _, _, _, _, _, _, _, _, _, _, _, _, _, _ => none
 | k + 1, x9, x984000, x984001, x984002, x986000, x986001, x986002, x986003, x986004, x987000, x987001, x987002, x987003, x987004, x999000, x999001, x999002, x1008000, x1008001, x1008002 => if x9 < x984001 then (laws_FnOpFlip.l1 k x9 0 x984000 x984001 x984002 x986000 x986001 x986002 x986003 x986004 x987000 x987001 x987002 x987003 x987004 x999000 x999001 x999002 x1008000 x1008001 x1008002) else ((laws_eaDo.f k x999000 x999001 x999002 (([(⟨x986000, x986001, x986002, x986003, x986004⟩ : S27)] : List (S27)))).bind fun dP => ((laws_eaRas.f k dP.1 dP.2.1 dP.2.2 x984000 x984001 x984002).bind fun fA => (if fA = true then ((laws_eaDo.f k x1008000 x1008001 x1008002 (([(⟨x987000, x987001, x987002, x987003, x987004⟩ : S27)] : List (S27)))).bind fun dH => ((laws_eaRas.f k dH.1 dH.2.1 dH.2.2 x984000 x984001 x984002).bind fun eF => (if eF = true then ((laws_eaDo.f k x999000 x999001 x999002 (([(⟨x987000, x987001, x987002, x987003, x987004⟩ : S27)] : List (S27)))).bind fun cS => ((laws_eaDo.f k x1008000 x1008001 x1008002 (([(⟨x986000, x986001, x986002, x986003, x986004⟩ : S27)] : List (S27)))).bind fun cJ => ((laws_eaRas.f k cS.1 cS.2.1 cS.2.2 cJ.1 cJ.2.1 cJ.2.2).bind fun cT => (some cT)))) else (none)))) else (none))))
def laws_FnOpFlip.l1 : Nat → Int → Int → Int → Int → List (S38) → Int → Int → Int → Int → Int → Int → Int → Int → Int → Int → Int → Int → List (S38) → Int → Int → List (S38) → Option (Bool)
 | 0, _, _, _, _, _, _, _, _, _, _, _, _, _, _, _, _, _, _, _, _, _ => none
 | k + 1, x9, x10, x984000, x984001, x984002, x986000, x986001, x986002, x986003, x986004, x987000, x987001, x987002, x987003, x987004, x999000, x999001, x999002, x1008000, x1008001, x1008002 => if x10 < x984000 then ((impl_RasAt.f k x999000 x999001 x999002 x10 x9).bind fun eK => ((impl_RasAt.f k x984000 x984001 x984002 (wrap64 ((wrap64 (x984000 - 1)) - x10)) x9).bind fun eL => (if (!(eK.1 == eL.1) || (!(eK.2.1 == eL.2.1) || (!(eK.2.2.1 == eL.2.2.1) || (!(eK.2.2.2 == eL.2.2.2))))) = true then (none) else ((impl_RasAt.f k x1008000 x1008001 x1008002 x10 x9).bind fun eM => ((impl_RasAt.f k x984000 x984001 x984002 x10 (wrap64 ((wrap64 (x984001 - 1)) - x9))).bind fun eN => (if (!(eM.1 == eN.1) || (!(eM.2.1 == eN.2.1) || (!(eM.2.2.1 == eN.2.2.1) || (!(eM.2.2.2 == eN.2.2.2))))) = true then (none) else (laws_FnOpFlip.l1 k x9 (wrap64 (x10 + 1)) x984000 x984001 x984002 x986000 x986001 x986002 x986003 x986004 x987000 x987001 x987002 x987003 x987004 x999000 x999001 x999002 x1008000 x1008001 x1008002))))))) else (laws_FnOpFlip.l0 k (wrap64 (x9 + 1)) x984000 x984001 x984002 x986000 x986001 x986002 x986003 x986004 x987000 x987001 x987002 x987003 x987004 x999000 x999001 x999002 x1008000 x1008001 x1008002)
end
def laws_FnOpFlip.f (k : Nat) (l0 : List Int) : Option (Bool) := if (l0.length : Int) > 1048576 then (some true) else ((spec_DrawOpDo.f k l0).bind fun cH => ((spec_RasOk.f k cH.1 cH.2.1 cH.2.2.1).bind fun kB => (if kB = true then ((laws_eaDo.f k cH.1 cH.2.1 cH.2.2.1 (([(⟨2, 0, 0, 0, 0⟩ : S27)] : List (S27)))).bind fun dN => ((laws_eaDo.f k cH.1 cH.2.1 cH.2.2.1 (([(⟨3, 0, 0, 0, 0⟩ : S27)] : List (S27)))).bind fun cR => (laws_FnOpFlip.l0 k 0 cH.1 cH.2.1 cH.2.2.1 2 0 0 0 0 3 0 0 0 0 dN.1 dN.2.1 dN.2.2 cR.1 cR.2.1 cR.2.2))) else ((impl_RasOk.f k cH.1 cH.2.1 cH.2.2.1).bind fun kC => (if kC = true then (none) else ((laws_eaOk.f).bind fun kD => (some kD)))))))
theorem laws_FnOpFlip.mono_l : ∀ k, (∀ y0 y1 y2 y3 y4 y5 y6 y7 y8 y9 mN mO mP mQ mR mS mT mU mV mW, LeO (laws_FnOpFlip.l0 k y0 y1 y2 y3 y4 y5 y6 y7 y8 y9 mN mO mP mQ mR mS mT mU mV mW) (laws_FnOpFlip.l0 (k + 1) y0 y1 y2 y3 y4 y5 y6 y7 y8 y9 mN mO mP mQ mR mS mT mU mV mW)) ∧ (∀ y0 y1 y2 y3 y4 y5 y6 y7 y8 y9 mN mO mP mQ mR mS mT mU mV mW sR, LeO (laws_FnOpFlip.l1 k y0 y1 y2 y3 y4 y5 y6 y7 y8 y9 mN mO mP mQ mR mS mT mU mV mW sR) (laws_FnOpFlip.l1 (k + 1) y0 y1 y2 y3 y4 y5 y6 y7 y8 y9 mN mO mP mQ mR mS mT mU mV mW sR))
 | 0 => ⟨(fun _ _ _ _ _ _ _ _ _ _ _ _ _ _ _ _ _ _ _ _ r h => nomatch (show none = some r from h)), (fun _ _ _ _ _ _ _ _ _ _ _ _ _ _ _ _ _ _ _ _ _ r h => nomatch (show none = some r from h))⟩
 | k + 1 => by
  obtain ⟨ih0, ih1⟩ := laws_FnOpFlip.mono_l k
  refine ⟨?_, ?_⟩
  ·intro y0 y1 y2 y3 y4 y5 y6 y7 y8 y9 mN mO mP mQ mR mS mT mU mV mW
   unfold laws_FnOpFlip.l0
   repeat' first
   | (with_reducible exact ih0 _ _ _ _ _ _ _ _ _ _ _ _ _ _ _ _ _ _ _ _)
   | (with_reducible exact ih1 _ _ _ _ _ _ _ _ _ _ _ _ _ _ _ _ _ _ _ _ _)
   | (with_reducible exact impl_RasAt.mono _ _ _ _ _ _)
   | (with_reducible exact impl_RasOk.mono _ _ _ _)
   | (with_reducible exact laws_eaDo.mono _ _ _ _ _)
   | (with_reducible exact laws_eaRas.mono _ _ _ _ _ _ _)
   | (with_reducible exact spec_DrawOpDo.mono _ _)
   | (with_reducible exact spec_RasOk.mono _ _ _ _)
   | (with_reducible exact LeO.refl _)
   | (with_reducible exact LeO.none _)
   | (with_reducible refine LeO.ite ?_ ?_)
   | (with_reducible refine LeO.bind ?_ (fun _ => ?_))
   | exact ih0 _ _ _ _ _ _ _ _ _ _ _ _ _ _ _ _ _ _ _ _
   | exact ih1 _ _ _ _ _ _ _ _ _ _ _ _ _ _ _ _ _ _ _ _ _
   | exact impl_RasAt.mono _ _ _ _ _ _
   | exact impl_RasOk.mono _ _ _ _
   | exact laws_eaDo.mono _ _ _ _ _
   | exact laws_eaRas.mono _ _ _ _ _ _ _
   | exact spec_DrawOpDo.mono _ _
   | exact spec_RasOk.mono _ _ _ _
   | exact LeO.none _
   | refine LeO.ite ?_ ?_
   | refine LeO.bind ?_ (fun _ => ?_)
  ·intro y0 y1 y2 y3 y4 y5 y6 y7 y8 y9 mN mO mP mQ mR mS mT mU mV mW sR
   unfold laws_FnOpFlip.l1
   repeat' first
   | (with_reducible exact ih0 _ _ _ _ _ _ _ _ _ _ _ _ _ _ _ _ _ _ _ _)
   | (with_reducible exact ih1 _ _ _ _ _ _ _ _ _ _ _ _ _ _ _ _ _ _ _ _ _)
   | (with_reducible exact impl_RasAt.mono _ _ _ _ _ _)
   | (with_reducible exact impl_RasOk.mono _ _ _ _)
   | (with_reducible exact laws_eaDo.mono _ _ _ _ _)
   | (with_reducible exact laws_eaRas.mono _ _ _ _ _ _ _)
   | (with_reducible exact spec_DrawOpDo.mono _ _)
   | (with_reducible exact spec_RasOk.mono _ _ _ _)
   | (with_reducible exact LeO.refl _)
   | (with_reducible exact LeO.none _)
   | (with_reducible refine LeO.ite ?_ ?_)
   | (with_reducible refine LeO.bind ?_ (fun _ => ?_))
   | exact ih0 _ _ _ _ _ _ _ _ _ _ _ _ _ _ _ _ _ _ _ _
   | exact ih1 _ _ _ _ _ _ _ _ _ _ _ _ _ _ _ _ _ _ _ _ _
   | exact impl_RasAt.mono _ _ _ _ _ _
   | exact impl_RasOk.mono _ _ _ _
   | exact laws_eaDo.mono _ _ _ _ _
   | exact laws_eaRas.mono _ _ _ _ _ _ _
   | exact spec_DrawOpDo.mono _ _
   | exact spec_RasOk.mono _ _ _ _
   | exact LeO.none _
   | refine LeO.ite ?_ ?_
   | refine LeO.bind ?_ (fun _ => ?_)
theorem laws_FnOpFlip.mono : ∀ a0 k, LeO (laws_FnOpFlip.f k a0) (laws_FnOpFlip.f (k + 1) a0) := by
 intro a0 k
 obtain ⟨ih0, ih1⟩ := laws_FnOpFlip.mono_l k
 unfold laws_FnOpFlip.f
 repeat' first
   | (with_reducible exact ih0 _ _ _ _ _ _ _ _ _ _ _ _ _ _ _ _ _ _ _ _)
   | (with_reducible exact ih1 _ _ _ _ _ _ _ _ _ _ _ _ _ _ _ _ _ _ _ _ _)
   | (with_reducible exact impl_RasAt.mono _ _ _ _ _ _)
   | (with_reducible exact impl_RasOk.mono _ _ _ _)
   | (with_reducible exact laws_eaDo.mono _ _ _ _ _)
   | (with_reducible exact laws_eaRas.mono _ _ _ _ _ _ _)
   | (with_reducible exact spec_DrawOpDo.mono _ _)
   | (with_reducible exact spec_RasOk.mono _ _ _ _)
   | (with_reducible exact LeO.refl _)
   | (with_reducible exact LeO.none _)
   | (with_reducible refine LeO.ite ?_ ?_)
   | (with_reducible refine LeO.bind ?_ (fun _ => ?_))
   | exact ih0 _ _ _ _ _ _ _ _ _ _ _ _ _ _ _ _ _ _ _ _
   | exact ih1 _ _ _ _ _ _ _ _ _ _ _ _ _ _ _ _ _ _ _ _ _
   | exact impl_RasAt.mono _ _ _ _ _ _
   | exact impl_RasOk.mono _ _ _ _
   | exact laws_eaDo.mono _ _ _ _ _
   | exact laws_eaRas.mono _ _ _ _ _ _ _
   | exact spec_DrawOpDo.mono _ _
   | exact spec_RasOk.mono _ _ _ _
   | exact LeO.none _
   | refine LeO.ite ?_ ?_
   | refine LeO.bind ?_ (fun _ => ?_)
def laws_FnOpFlip.T16 : Bool × List (List Nat × List Nat) := (true, [([], []), ([], []), ([], []), ([0, 1, 2], [0, 1, 2]), ([], []), ([], []), ([5], [5]), ([6], [6]), ([], []), ([7, 8], [7, 8]), ([], []), ([4, 9, 10, 3], [4, 9, 10]), ([3, 11], [3, 11]), ([12, 11], [12]), ([13], [13]), ([13], [13]), ([13], [13]), ([14, 15, 16, 13, 13], [13, 14, 15, 16]), ([13], [13]), ([13], [13]), ([13], [13]), ([20, 13], [13, 20]), ([21, 13], [13, 21]), ([13], [13]), ([22, 23, 13], [13, 22, 23]), ([18, 19, 24, 17, 13], [13, 18, 19, 24]), ([17, 25, 13], [13, 17, 25]), ([13, 26], [13, 26])])
def laws_FnOpFlip.B16 : List Nat := [0, 0, 0, 7, 0, 0, 32, 96, 0, 480, 0, 2047, 4095, 8191, 16383, 16383, 16383, 131071, 16383, 16383, 16383, 1064959, 3162111, 16383, 15745023, 33554431, 67108863, 134217727]
theorem laws_FnOpFlip.tab16 : rtab .any (opsOf Try.f12 16) = laws_FnOpFlip.T16 := by kernel_rfl
theorem laws_FnOpFlip.bits16 : waitsOk laws_FnOpFlip.T16.2 laws_FnOpFlip.B16 = true := by kernel_rfl
def laws_FnOpFlip.T18 : Bool × List (List Nat × List Nat) := (true, [([], []), ([], []), ([1], [1]), ([0, 2], [0, 2]), ([], []), ([3, 4, 3], [3, 4]), ([5, 5], [5]), ([6], [6]), ([6], [6]), ([8, 6], [6, 8]), ([7, 9, 6, 6], [6, 7, 9]), ([6], [6]), ([10, 11, 10, 6], [6, 10, 11]), ([6, 12], [6, 12]), ([13, 12], [13]), ([14], [14]), ([14], [14]), ([16, 14], [14, 16]), ([15, 17, 14, 14], [14, 15, 17]), ([14], [14]), ([14], [14]), ([20, 14], [14, 20]), ([19, 21, 18, 14], [14, 19, 21]), ([18, 22, 22, 14], [14, 18, 22]), ([14, 23], [14, 23]), ([24, 23, 0, 1, 2, 3, 4, 5, 6, 7, 8, 9, 10, 11, 12, 13, 14, 15, 16, 17, 18, 19, 20, 21, 22, 23, 24], [24])])
def laws_FnOpFlip.B18 : List Nat := [0, 0, 2, 7, 0, 31, 63, 127, 127, 383, 1023, 127, 4095, 8191, 16383, 32767, 32767, 98303, 262143, 32767, 32767, 1081343, 4194303, 8388607, 16777215, 33554431]
theorem laws_FnOpFlip.tab18 : rtab .any (opsOf Try.f12 18) = laws_FnOpFlip.T18 := by kernel_rfl
theorem laws_FnOpFlip.bits18 : waitsOk laws_FnOpFlip.T18.2 laws_FnOpFlip.B18 = true := by kernel_rfl
set_option maxHeartbeats 8000000 in
set_option maxRecDepth 100000 in
theorem laws_FnOpFlip.calls (k : Nat) (A0 : Option Addr) (c0 : Nat) (l0 : List Int) (r : Bool) (w : World) (hr0 : Kd.C (Kd.int .u8) w A0 l0.length l0) (qS : l0.length ≤ c0) (h : laws_FnOpFlip.f k l0 = some r) :
  Calls Try.prog 12 #[.slice A0 l0.length c0] w fun e w' => e = .returned (.bool r) ∧ Below w.heap.size w w' := by
 have hu25 := Try.underlying25
 have hu27 := Try.underlying27
 have sZ := Aside0.mk hr0
 have sY := Aside0.mk qS
 clear hr0 qS
 have HB := Aside0.mk (Below.refl w.heap.size w)
 have H : (if (l0.length : Int) > 1048576 then (some true) else ((spec_DrawOpDo.f k l0).bind fun cH => ((spec_RasOk.f k cH.1 cH.2.1 cH.2.2.1).bind fun kB => (if kB = true then ((laws_eaDo.f k cH.1 cH.2.1 cH.2.2.1 (([(⟨2, 0, 0, 0, 0⟩ : S27)] : List (S27)))).bind fun dN => ((laws_eaDo.f k cH.1 cH.2.1 cH.2.2.1 (([(⟨3, 0, 0, 0, 0⟩ : S27)] : List (S27)))).bind fun cR => (laws_FnOpFlip.l0 k 0 cH.1 cH.2.1 cH.2.2.1 2 0 0 0 0 3 0 0 0 0 dN.1 dN.2.1 dN.2.2 cR.1 cR.2.1 cR.2.2))) else ((impl_RasOk.f k cH.1 cH.2.1 cH.2.2.1).bind fun kC => (if kC = true then (none) else ((laws_eaOk.f).bind fun kD => (some kD)))))))) = some r := h
 clear h
 by_cases c2 : (l0.length : Int) > 1048576
 ·rw [if_pos c2] at H
  have mG : decide (1048576 < (l0.length : Int)) = true := decide_eq_true c2
  have mH : decide (1048576 < l0.length) = true := decide_eq_true (by omega)
  clear c2
  obtain rfl := Option.some.inj H
  go_enter Try.func12, Try.ntmps12
  go_wp2
  go_ret
  exact ⟨by first | rfl | (simp [errW_none, errW_some] <;> rfl) | (simp [*, errW_none, errW_some] <;> rfl), oB HB⟩
 ·rw [if_neg c2] at H
  have mG : decide (1048576 < (l0.length : Int)) = false := decide_eq_false c2
  have mH : decide (1048576 < l0.length) = false := decide_eq_false (by omega)
  clear c2
  replace H := Option.bind_eq_some_iff.mp H
  obtain ⟨⟨bY, bZ, bX, dX, dY, dZ, eA, eB⟩, sS, H⟩ := H
  (try dsimp only at H)
  have A3 := Aside0.mk sS
  clear sS
  replace H := Option.bind_eq_some_iff.mp H
  obtain ⟨kB, sT, H⟩ := H
  (try dsimp only at H)
  have A4 := Aside0.mk sT
  clear sT
  by_cases c5 : kB = true
  ·subst c5
   rw [if_pos rfl] at H
   obtain ⟨y990, hy990⟩ : ∃ y_ : List (S27), y_ = (([(⟨2, 0, 0, 0, 0⟩ : S27)] : List (S27))) := ⟨_, rfl⟩
   replace H : ((laws_eaDo.f k bY bZ bX y990).bind fun dN => ((laws_eaDo.f k bY bZ bX (([(⟨3, 0, 0, 0, 0⟩ : S27)] : List (S27)))).bind fun cR => (laws_FnOpFlip.l0 k 0 bY bZ bX 2 0 0 0 0 3 0 0 0 0 dN.1 dN.2.1 dN.2.2 cR.1 cR.2.1 cR.2.2))) = some r := by first | (rw [hy990]; with_reducible exact H) | (have H2_ := (Option.bind_some _ _).symm.trans H; rw [hy990]; with_reducible exact H2_) | (have H2_ := (Option.bind_some _ _).symm.trans H; with_reducible exact H2_) | with_reducible exact H | (rw [hy990]; exact H) | exact H
   have lA := Aside0.mk hy990
   clear hy990
   replace H := Option.bind_eq_some_iff.mp H
   obtain ⟨⟨cP, cQ, cK⟩, sU, H⟩ := H
   (try dsimp only at H)
   have A6 := Aside0.mk sU
   clear sU
   obtain ⟨y999, hy999⟩ : ∃ y_ : List (S27), y_ = (([(⟨3, 0, 0, 0, 0⟩ : S27)] : List (S27))) := ⟨_, rfl⟩
   replace H : ((laws_eaDo.f k bY bZ bX y999).bind fun cR => (laws_FnOpFlip.l0 k 0 bY bZ bX 2 0 0 0 0 3 0 0 0 0 cP cQ cK cR.1 cR.2.1 cR.2.2)) = some r := by first | (rw [hy999]; with_reducible exact H) | (have H2_ := (Option.bind_some _ _).symm.trans H; rw [hy999]; with_reducible exact H2_) | (have H2_ := (Option.bind_some _ _).symm.trans H; with_reducible exact H2_) | with_reducible exact H | (rw [hy999]; exact H) | exact H
   have lB := Aside0.mk hy999
   clear hy999
   replace H := Option.bind_eq_some_iff.mp H
   obtain ⟨⟨cF, cG, cB⟩, sV, H⟩ := H
   (try dsimp only at H)
   have A7 := Aside0.mk sV
   clear sV
   have H' := Aside0.mk H
   clear H
   go_enter Try.func12, Try.ntmps12
   go_wp2_with (first | ((with_reducible refine gate_callee (f := 18) rfl ?_); refine goesL_ (some 16) rfl rfl Try.func18 oK rfl #[.slice A0 l0.length c0] rfl oA ?_; (with_reducible refine (spec_DrawOpDo.calls k _ _ l0 bY bZ bX dX dY dZ eA eB _ ?side1 ?side2 A3.out).mono ?_); (case side1 => repeat (first | exact sZ.out | (with_reducible refine Kd.C_alloc ?_ _) | (with_reducible refine Kd.C_drewN ?_ _) | (with_reducible refine Kd.C_drew ?_))); (case side2 => exact sY.out); rintro e w8 ⟨sN, rfl, ho0, hb⟩; refine ⟨_, rfl, ?_⟩; have n_ := o2_ (Kd.Q_lower ho0 (below_size (oB HB))) (o1_ (below_step (oB HB) hb)); clear HB; obtain ⟨bJ, HB⟩ := n_; (try clear hb); (try clear hb2); (try clear hk); (try clear hi); (try clear ho0)) | ((with_reducible refine gate_dst (N := 3) rfl ?_); (try (refine gate_guard (by rfl) ?_; dsimp only)); refine box_event ?hg (N := 3) ?hd (cs := #[.int .i64 0, .int .i64 0, .slice none 0 0]) (t := 25) ?hr ?_; (case hd => rfl); (case hg => rfl); (case hr => first | (go_simp; done) | (go_simp; rfl)); intro aY hg w9 hbox hb; have n_ := o2_ (Kd.Q_below (oQ bJ) hb) (o2_ (below_step (oB HB) hb) (o2_ (hbox) (o2_ ((oG hg (below_size (oB HB)) : w.heap.size ≤ aY)) (o1_ ((oG hg (below_size (oB HB)) : w.heap.size ≤ aY)))))); clear bJ HB; obtain ⟨bJ, HB, aB, nO, nK⟩ := n_; clear hb hbox hg) | ((with_reducible refine gate_dst (N := 4) rfl ?_); (try (refine gate_guard (by rfl) ?_; dsimp only)); refine box_event ?hg (N := 4) ?hd (cs := #[.int .i64 0, .int .i64 0, .int .i64 0, .int .i64 0, .int .i64 0]) (t := 27) ?hr ?_; (case hd => rfl); (case hg => rfl); (case hr => first | (go_simp; done) | (go_simp; rfl)); intro bI hg mD hbox hb; have n_ := o2_ (Kd.Q_below (oQ bJ) hb) (o2_ (blk_below (oP aB) hb) (o2_ (below_step (oB HB) hb) (o2_ (hbox) (o2_ ((oG hg (below_size (oB HB)) : w.heap.size ≤ bI)) (o2_ ((oG hg (below_size (oB HB)) : w.heap.size ≤ bI)) (o2_ ((oL hg (blk_lt (oP aB)))) (o1_ ((oN hg (blk_lt (oP aB))))))))))); clear bJ aB HB; obtain ⟨bJ, aB, HB, aJ, nP, nL, bA, cX⟩ := n_; clear hb hbox hg; have tL := bA.out; have uY := cX.out; have fR : mD.cell? ⟨aY, 0, none⟩ = some (.int .i64 0) := (blk_cell aB.out 0).trans rfl; have fS : mD.cell? ⟨aY, 1, none⟩ = some (.int .i64 0) := (blk_cell aB.out 1).trans rfl; have fT : mD.cell? ⟨aY, 2, none⟩ = some (.slice none 0 0) := (blk_cell aB.out 2).trans rfl; have hI := blk_frozen aB.out 0; have hJ := blk_frozen aB.out 1; have hL := blk_frozen aB.out 2; obtain ⟨cM, cL, rW, _⟩ := Kd.Q_slice bJ.out; subst rW; have fU : mD.cell? ⟨bI, 0, none⟩ = some (.int .i64 0) := (blk_cell aJ.out 0).trans rfl; have fV : mD.cell? ⟨bI, 1, none⟩ = some (.int .i64 0) := (blk_cell aJ.out 1).trans rfl; have fW : mD.cell? ⟨bI, 2, none⟩ = some (.int .i64 0) := (blk_cell aJ.out 2).trans rfl; have fX : mD.cell? ⟨bI, 3, none⟩ = some (.int .i64 0) := (blk_cell aJ.out 3).trans rfl; have fY : mD.cell? ⟨bI, 4, none⟩ = some (.int .i64 0) := (blk_cell aJ.out 4).trans rfl; have hM := blk_frozen aJ.out 0; have hN := blk_frozen aJ.out 1; have hO := blk_frozen aJ.out 2; have hP := blk_frozen aJ.out 3; have hQ := blk_frozen aJ.out 4) | ((with_reducible refine gate_dst (N := 5) rfl ?_); (try (refine gate_guard (by rfl) ?_; dsimp only)); refine box_event ?hg (N := 5) ?hd (cs := #[.int .i64 0, .int .i64 0, .int .i64 0, .int .i64 0, .int .i64 0]) (t := 27) ?hr ?_; (case hd => rfl); (case hg => rfl); (case hr => first | (go_simp; done) | (go_simp; rfl)); intro aX hg qO hbox hb; have n_ := o2_ (Kd.Q_below (by (with_reducible repeat (first | apply Kd.Q_alloc | apply Kd.Q_drewN | apply Kd.Q_drew)); exact (Kd.Q_mono (Kd.Q_mono (Kd.Q_far (p := ⟨bI, 4, none⟩) (Kd.Q_far (p := ⟨bI, 3, none⟩) (Kd.Q_far (p := ⟨bI, 2, none⟩) (Kd.Q_far (p := ⟨bI, 1, none⟩) (Kd.Q_far (p := ⟨bI, 0, none⟩) (Kd.Q_far (p := ⟨aY, 2, none⟩) (Kd.Q_far (p := ⟨aY, 1, none⟩) (Kd.Q_far (p := ⟨aY, 0, none⟩) (Kd.Q_types (Kd.Q_types bJ.out aB.out oD) aJ.out oD) (fun _ hk => hk.1.2) (.int .i64 bY)) (fun _ hk => hk.1.2) (.int .i64 bZ)) (fun _ hk => hk.1.2) (.slice cM bX.length cL)) (fun _ hk => hk.2) (.int .i64 dX)) (fun _ hk => hk.2) (.int .i64 dY)) (fun _ hk => hk.2) (.int .i64 dZ)) (fun _ hk => hk.2) (.int .i64 eA)) (fun _ hk => hk.2) (.int .i64 eB)) (fun _ h_ => h_.1)) (fun _ h_ => h_.1))) hb) (o2_ (blk_below (g := aY) (o := .cells #[.int .i64 bY, .int .i64 bZ, .slice cM bX.length cL] 25 (0, 0)) (blk_far (blk_far (blk_far (blk_far (blk_far (blk_put (blk_put (blk_put (oP aB) 0 _ rfl) 1 _ rfl) 2 _ rfl) bA.out _) bA.out _) bA.out _) bA.out _) bA.out _) hb) (o2_ (blk_below (g := bI) (o := .cells #[.int .i64 dX, .int .i64 dY, .int .i64 dZ, .int .i64 eA, .int .i64 eB] 27 (0, 0)) (blk_put (blk_put (blk_put (blk_put (blk_put (oP aJ) 0 _ rfl) 1 _ rfl) 2 _ rfl) 3 _ rfl) 4 _ rfl) hb) (o2_ (below_step (oB HB) hb) (o2_ (hbox) (o2_ ((oG hg (below_size (oB HB)) : w.heap.size ≤ aX)) (o2_ ((oG hg (below_size (oB HB)) : w.heap.size ≤ aX)) (o2_ ((by rw [hg]; exact Nat.ne_of_lt (blk_lt (g := aY) (o := .cells #[.int .i64 bY, .int .i64 bZ, .slice cM bX.length cL] 25 (0, 0)) (blk_far (blk_far (blk_far (blk_far (blk_far (blk_put (blk_put (blk_put (oP aB) 0 _ rfl) 1 _ rfl) 2 _ rfl) bA.out _) bA.out _) bA.out _) bA.out _) bA.out _)) : aY ≠ aX)) (o2_ ((by rw [hg]; exact Nat.ne_of_gt (blk_lt (g := aY) (o := .cells #[.int .i64 bY, .int .i64 bZ, .slice cM bX.length cL] 25 (0, 0)) (blk_far (blk_far (blk_far (blk_far (blk_far (blk_put (blk_put (blk_put (oP aB) 0 _ rfl) 1 _ rfl) 2 _ rfl) bA.out _) bA.out _) bA.out _) bA.out _) bA.out _)) : aX ≠ aY)) (o2_ ((by rw [hg]; exact Nat.ne_of_lt (blk_lt (g := bI) (o := .cells #[.int .i64 dX, .int .i64 dY, .int .i64 dZ, .int .i64 eA, .int .i64 eB] 27 (0, 0)) (blk_put (blk_put (blk_put (blk_put (blk_put (oP aJ) 0 _ rfl) 1 _ rfl) 2 _ rfl) 3 _ rfl) 4 _ rfl)) : bI ≠ aX)) (o1_ ((by rw [hg]; exact Nat.ne_of_gt (blk_lt (g := bI) (o := .cells #[.int .i64 dX, .int .i64 dY, .int .i64 dZ, .int .i64 eA, .int .i64 eB] 27 (0, 0)) (blk_put (blk_put (blk_put (blk_put (blk_put (oP aJ) 0 _ rfl) 1 _ rfl) 2 _ rfl) 3 _ rfl) 4 _ rfl)) : aX ≠ bI)))))))))))); clear bJ aB aJ HB; obtain ⟨bJ, aB, aJ, HB, aH, nQ, nM, cV, cY, dR, dT⟩ := n_; clear hb hbox hg; have tM := cY.out; have uZ := cV.out; have tN := dT.out; have vA := dR.out; have fZ : qO.cell? ⟨aX, 0, none⟩ = some (.int .i64 0) := (blk_cell aH.out 0).trans rfl; have gA : qO.cell? ⟨aX, 1, none⟩ = some (.int .i64 0) := (blk_cell aH.out 1).trans rfl; have gB : qO.cell? ⟨aX, 2, none⟩ = some (.int .i64 0) := (blk_cell aH.out 2).trans rfl; have gC : qO.cell? ⟨aX, 3, none⟩ = some (.int .i64 0) := (blk_cell aH.out 3).trans rfl; have gD : qO.cell? ⟨aX, 4, none⟩ = some (.int .i64 0) := (blk_cell aH.out 4).trans rfl; have hR := blk_frozen aH.out 0; have hS := blk_frozen aH.out 1; have hT := blk_frozen aH.out 2; have hU := blk_frozen aH.out 3; have hV := blk_frozen aH.out 4) | ((with_reducible refine gate_dst (N := 6) rfl ?_); (try (refine gate_guard (by rfl) ?_; dsimp only)); refine box_event ?hg (N := 6) ?hd (cs := #[.int .i64 0, .int .i64 0, .int .i64 0, .int .i64 0, .int .i64 0]) (t := 27) ?hr ?_; (case hd => rfl); (case hg => rfl); (case hr => first | (go_simp; done) | (go_simp; rfl)); intro aZ hg mE hbox hb; have n_ := o2_ (Kd.Q_below (by (with_reducible repeat (first | apply Kd.Q_alloc | apply Kd.Q_drewN | apply Kd.Q_drew)); exact (Kd.Q_mono (Kd.Q_far (p := ⟨aX, 4, none⟩) (Kd.Q_far (p := ⟨aX, 3, none⟩) (Kd.Q_far (p := ⟨aX, 2, none⟩) (Kd.Q_far (p := ⟨aX, 1, none⟩) (Kd.Q_far (p := ⟨aX, 0, none⟩) (Kd.Q_types bJ.out aH.out oD) (fun _ hk => hk.2) (.int .i64 2)) (fun _ hk => hk.2) (.int .i64 0)) (fun _ hk => hk.2) (.int .i64 0)) (fun _ hk => hk.2) (.int .i64 0)) (fun _ hk => hk.2) (.int .i64 0)) (fun _ h_ => h_.1))) hb) (o2_ (blk_below (oP aB) hb) (o2_ (blk_below (oP aJ) hb) (o2_ (blk_below (g := aX) (o := .cells #[.int .i64 2, .int .i64 0, .int .i64 0, .int .i64 0, .int .i64 0] 27 (0, 0)) (blk_put (blk_put (blk_put (blk_put (blk_put aH.out 0 _ rfl) 1 _ rfl) 2 _ rfl) 3 _ rfl) 4 _ rfl) hb) (o2_ (below_step (oB HB) hb) (o2_ (hbox) (o2_ ((oG hg (below_size (oB HB)) : w.heap.size ≤ aZ)) (o2_ ((oG hg (below_size (oB HB)) : w.heap.size ≤ aZ)) (o2_ ((oL hg (blk_lt (oP aB)))) (o2_ ((oN hg (blk_lt (oP aB)))) (o2_ ((oL hg (blk_lt (oP aJ)))) (o2_ ((oN hg (blk_lt (oP aJ)))) (o2_ ((by rw [hg]; exact Nat.ne_of_lt (blk_lt (g := aX) (o := .cells #[.int .i64 2, .int .i64 0, .int .i64 0, .int .i64 0, .int .i64 0] 27 (0, 0)) (blk_put (blk_put (blk_put (blk_put (blk_put aH.out 0 _ rfl) 1 _ rfl) 2 _ rfl) 3 _ rfl) 4 _ rfl)) : aX ≠ aZ)) (o1_ ((by rw [hg]; exact Nat.ne_of_gt (blk_lt (g := aX) (o := .cells #[.int .i64 2, .int .i64 0, .int .i64 0, .int .i64 0, .int .i64 0] 27 (0, 0)) (blk_put (blk_put (blk_put (blk_put (blk_put aH.out 0 _ rfl) 1 _ rfl) 2 _ rfl) 3 _ rfl) 4 _ rfl)) : aZ ≠ aX))))))))))))))); clear bJ aB aJ aH HB; obtain ⟨bJ, aB, aJ, aH, HB, aI, nR, nN, cW, cZ, dS, dV, dU, dW⟩ := n_; clear hb hbox hg; have tO := cZ.out; have vB := cW.out; have tP := dV.out; have vC := dS.out; have tQ := dW.out; have vD := dU.out; have gE : mE.cell? ⟨aZ, 0, none⟩ = some (.int .i64 0) := (blk_cell aI.out 0).trans rfl; have gF : mE.cell? ⟨aZ, 1, none⟩ = some (.int .i64 0) := (blk_cell aI.out 1).trans rfl; have gG : mE.cell? ⟨aZ, 2, none⟩ = some (.int .i64 0) := (blk_cell aI.out 2).trans rfl; have gH : mE.cell? ⟨aZ, 3, none⟩ = some (.int .i64 0) := (blk_cell aI.out 3).trans rfl; have gI : mE.cell? ⟨aZ, 4, none⟩ = some (.int .i64 0) := (blk_cell aI.out 4).trans rfl; have hW := blk_frozen aI.out 0; have hX := blk_frozen aI.out 1; have hY := blk_frozen aI.out 2; have hZ := blk_frozen aI.out 3; have iA := blk_frozen aI.out 4; have gJ : mE.cell? ⟨aY, 0, none⟩ = some (.int .i64 bY) := (blk_cell aB.out 0).trans rfl; have gK : mE.cell? ⟨aY, 1, none⟩ = some (.int .i64 bZ) := (blk_cell aB.out 1).trans rfl; have gL : mE.cell? ⟨aY, 2, none⟩ = some (.slice cM bX.length cL) := (blk_cell aB.out 2).trans rfl; have iB := blk_frozen aB.out 0; have iC := blk_frozen aB.out 1; have iD := blk_frozen aB.out 2) | ((with_reducible refine gate_callee (f := 24) rfl ?_); refine goesL_ (some 22) rfl rfl Try.func24 oK rfl #[.agg #[.int .i64 bY, .int .i64 bZ, .slice cM bX.length cL]] rfl oA ?_; (with_reducible refine (spec_RasOk.calls k bY bZ _ _ bX true _ ?side1 ?side2 A4.out).mono ?_); (case side1 => refine (Kd.Q_reads' (e := 38) (base := w.heap.size) (ok := fun k_ => True) (n := bX.length) (c := cL) ?_).2.2; exact (by (with_reducible repeat (first | apply Kd.Q_alloc | apply Kd.Q_drewN | apply Kd.Q_drew)); exact (Kd.Q_mono (Kd.Q_far (p := ⟨aZ, 4, none⟩) (Kd.Q_far (p := ⟨aZ, 3, none⟩) (Kd.Q_far (p := ⟨aZ, 2, none⟩) (Kd.Q_far (p := ⟨aZ, 1, none⟩) (Kd.Q_far (p := ⟨aZ, 0, none⟩) (Kd.Q_types bJ.out aI.out oD) (fun _ hk => hk.2) (.int .i64 3)) (fun _ hk => hk.2) (.int .i64 0)) (fun _ hk => hk.2) (.int .i64 0)) (fun _ hk => hk.2) (.int .i64 0)) (fun _ hk => hk.2) (.int .i64 0)) (fun _ h_ => h_.1)))); (case side2 => exact (Kd.Q_reads' bJ.out).2.1); rintro e mF ⟨rfl, hb⟩; refine ⟨_, rfl, ?_⟩; have n_ := o2_ (Kd.Q_below (by (with_reducible repeat (first | apply Kd.Q_alloc | apply Kd.Q_drewN | apply Kd.Q_drew)); exact (Kd.Q_mono (Kd.Q_far (p := ⟨aZ, 4, none⟩) (Kd.Q_far (p := ⟨aZ, 3, none⟩) (Kd.Q_far (p := ⟨aZ, 2, none⟩) (Kd.Q_far (p := ⟨aZ, 1, none⟩) (Kd.Q_far (p := ⟨aZ, 0, none⟩) (Kd.Q_types bJ.out aI.out oD) (fun _ hk => hk.2) (.int .i64 3)) (fun _ hk => hk.2) (.int .i64 0)) (fun _ hk => hk.2) (.int .i64 0)) (fun _ hk => hk.2) (.int .i64 0)) (fun _ hk => hk.2) (.int .i64 0)) (fun _ h_ => h_.1))) hb) (o2_ (blk_below (oP aB) hb) (o2_ (blk_below (oP aJ) hb) (o2_ (blk_below (oP aH) hb) (o2_ (blk_below (g := aZ) (o := .cells #[.int .i64 3, .int .i64 0, .int .i64 0, .int .i64 0, .int .i64 0] 27 (0, 0)) (blk_put (blk_put (blk_put (blk_put (blk_put aI.out 0 _ rfl) 1 _ rfl) 2 _ rfl) 3 _ rfl) 4 _ rfl) hb) (o1_ (below_step (oB HB) hb)))))); clear bJ aB aJ aH aI HB; obtain ⟨bJ, aB, aJ, aH, aI, HB⟩ := n_; (try clear hb); (try clear hb2); (try clear hk); (try clear hi); have gM : mF.cell? ⟨aY, 0, none⟩ = some (.int .i64 bY) := (blk_cell aB.out 0).trans rfl; have gN : mF.cell? ⟨aY, 1, none⟩ = some (.int .i64 bZ) := (blk_cell aB.out 1).trans rfl; have gO : mF.cell? ⟨aY, 2, none⟩ = some (.slice cM bX.length cL) := (blk_cell aB.out 2).trans rfl; have iE := blk_frozen aB.out 0; have iF := blk_frozen aB.out 1; have iG := blk_frozen aB.out 2; have gP : mF.cell? ⟨aX, 0, none⟩ = some (.int .i64 2) := (blk_cell aH.out 0).trans rfl; have gQ : mF.cell? ⟨aX, 1, none⟩ = some (.int .i64 0) := (blk_cell aH.out 1).trans rfl; have gR : mF.cell? ⟨aX, 2, none⟩ = some (.int .i64 0) := (blk_cell aH.out 2).trans rfl; have gS : mF.cell? ⟨aX, 3, none⟩ = some (.int .i64 0) := (blk_cell aH.out 3).trans rfl; have gT : mF.cell? ⟨aX, 4, none⟩ = some (.int .i64 0) := (blk_cell aH.out 4).trans rfl; have iH := blk_frozen aH.out 0; have iI := blk_frozen aH.out 1; have iJ := blk_frozen aH.out 2; have iK := blk_frozen aH.out 3; have iL := blk_frozen aH.out 4) | ((with_reducible refine gate_dst (N := 32) rfl ?_); (try (refine gate_guard (by rfl) ?_; dsimp only)); refine Kd.R_lit k27 _ 27 ?hg (N := 32) ?hd (xs := ([(⟨2, 0, 0, 0, 0⟩ : S27)] : List (S27))) (inner := [.int .i64 2, .int .i64 0, .int .i64 0, .int .i64 0, .int .i64 0]) (ok := fun _ => True) (okp := fun _ => True) ?hr ?hp (fun _ hk => hk) trivial (Below.refl _ _) (Nat.le_refl _) (by simp) ?_; (case hd => rfl); (case hg => rfl); (case hr => first | (go_simp; done) | (go_simp; rfl)); (case hp => exact (Reps.c5 (show Kd.M k27 _ _ _ (⟨2, 0, 0, 0, 0⟩ : S27) [.int .i64 2, .int .i64 0, .int .i64 0, .int .i64 0, .int .i64 0] from (k27_mkM _ _ _ (⟨2, 0, 0, 0, 0⟩ : S27) )) (Reps.none _ _))); intro wX xR ho29 hb hg_ hnew_; clear hg_ hnew_; (first | rw [← lA.out] at ho29 | (simp only [Int.reduceToNat] at ho29; rw [← lA.out] at ho29)); have n_ := o2_ (Kd.Q_below (oQ bJ) hb) (o2_ (Kd.R_lower (Kd.R_newB (Kd.R_newB (Kd.R_newB ho29 (oP aJ)) (oP aH)) (oP aI)) (below_size (oB HB))) (o2_ (blk_below (oP aB) hb) (o2_ (blk_below (oP aJ) hb) (o2_ (blk_below (oP aH) hb) (o2_ (blk_below (oP aI) hb) (o1_ (below_step (oB HB) hb))))))); clear bJ aB aJ aH aI HB; obtain ⟨bJ, dA, aB, aJ, aH, aI, HB⟩ := n_; clear hb ho29; obtain ⟨rN, rR, rX⟩ := Kd.R_slice dA.out; subst rX) | ((with_reducible refine gate_callee (f := 27) rfl ?_); refine goesL_ (some 33) rfl rfl Try.func27 oK rfl #[.agg #[.int .i64 bY, .int .i64 bZ, .slice cM bX.length cL], .slice rN y990.length rR] rfl oA ?_; (with_reducible refine (laws_eaDo.calls k bY bZ (fun k_ => some k_ = (.slice cM bX.length cL : Value).ownBlock) _ _ bX _ _ y990 cP cQ cK _ ?side1 ?side2 ?side3 A6.out).mono ?_); (case side1 => exact Kd.Q_V (Kd.Q_tight rfl (Kd.Q_types (Kd.Q_types (Kd.Q_types (Kd.Q_types (Kd.Q_apart' (bJ.out) (Kd.R_typed dA.out) oD) aB.out oD) aJ.out oD) aH.out oD) aI.out oD))); (case side2 => repeat (first | exact (Kd.R_reads' dA.out).2.2 | (with_reducible refine Kd.C_alloc ?_ _) | (with_reducible refine Kd.C_drewN ?_ _) | (with_reducible refine Kd.C_drew ?_))); (case side3 => exact (Kd.R_reads' dA.out).2.1); rintro e xS ⟨wY, rfl, ho0, hb⟩; refine ⟨_, rfl, ?_⟩; have hq_ := (Kd.Q_types (Kd.Q_types (Kd.Q_types (Kd.Q_types (Kd.Q_apart' (bJ.out) (Kd.R_typed dA.out) oD) aB.out oD) aJ.out oD) aH.out oD) aI.out oD); have n_ := o2_ (Kd.Q_below (oQ bJ) hb) (o2_ (Kd.R_below (oR dA) hb) (o2_ (Kd.V_lower (Kd.V_mono (ok' := fun k_ => k_ ≠ aY ∧ k_ ≠ bI ∧ k_ ≠ aX ∧ k_ ≠ aZ) ho0 (fun k_ hk_ => ⟨Or.elim hk_ (fun hs_ => (hq_.1 k_ hs_.symm).1.1.1.2) (fun hn_ => (Kd.freshB (oP aB) k_ hn_)), Or.elim hk_ (fun hs_ => (hq_.1 k_ hs_.symm).1.1.2) (fun hn_ => (Kd.freshB (oP aJ) k_ hn_)), Or.elim hk_ (fun hs_ => (hq_.1 k_ hs_.symm).1.2) (fun hn_ => (Kd.freshB (oP aH) k_ hn_)), Or.elim hk_ (fun hs_ => (hq_.1 k_ hs_.symm).2) (fun hn_ => (Kd.freshB (oP aI) k_ hn_))⟩)) (below_size (oB HB))) (o2_ (blk_below (oP aB) hb) (o2_ (blk_below (oP aJ) hb) (o2_ (blk_below (oP aH) hb) (o2_ (blk_below (oP aI) hb) (o1_ (below_step (oB HB) hb)))))))); clear bJ dA aB aJ aH aI HB; obtain ⟨bJ, dA, dK, aB, aJ, aH, aI, HB⟩ := n_; clear hq_; (try clear hb); (try clear hb2); (try clear hk); (try clear hi); (try clear ho0)) | ((with_reducible refine gate_dst (N := 7) rfl ?_); (try (refine gate_guard (by rfl) ?_; dsimp only)); refine box_event ?hg (N := 7) ?hd (cs := #[.int .i64 0, .int .i64 0, .slice none 0 0]) (t := 25) ?hr ?_; (case hd => rfl); (case hg => rfl); (case hr => first | (go_simp; done) | (go_simp; rfl)); intro bU hg kF hbox hb; have n_ := o2_ (Kd.Q_below (oQ bJ) hb) (o2_ (Kd.R_below (oR dA) hb) (o2_ (Kd.V_below (Kd.V_elderB (oV dK) bU (Nat.le_of_eq hg.symm)) hb) (o2_ (blk_below (oP aB) hb) (o2_ (blk_below (oP aJ) hb) (o2_ (blk_below (oP aH) hb) (o2_ (blk_below (oP aI) hb) (o2_ (below_step (oB HB) hb) (o2_ (hbox) (o2_ ((oG hg (below_size (oB HB)) : w.heap.size ≤ bU)) (o2_ ((oG hg (below_size (oB HB)) : w.heap.size ≤ bU)) (o2_ ((oL hg (blk_lt (oP aB)))) (o2_ ((oN hg (blk_lt (oP aB)))) (o2_ ((oL hg (blk_lt (oP aJ)))) (o2_ ((oN hg (blk_lt (oP aJ)))) (o2_ ((oL hg (blk_lt (oP aH)))) (o2_ ((oN hg (blk_lt (oP aH)))) (o2_ ((oL hg (blk_lt (oP aI)))) (o1_ ((oN hg (blk_lt (oP aI)))))))))))))))))))))); clear bJ dA dK aB aJ aH aI HB; obtain ⟨bJ, dA, dK, aB, aJ, aH, aI, HB, aL, sX, sW, dL, dM, jI, jL, jJ, jM, jK, jN⟩ := n_; clear hb hbox hg; have tR := dM.out; have vE := dL.out; have tS := jL.out; have vF := jI.out; have tT := jM.out; have vG := jJ.out; have tU := jN.out; have vH := jK.out; have gU : kF.cell? ⟨bU, 0, none⟩ = some (.int .i64 0) := (blk_cell aL.out 0).trans rfl; have gV : kF.cell? ⟨bU, 1, none⟩ = some (.int .i64 0) := (blk_cell aL.out 1).trans rfl; have gW : kF.cell? ⟨bU, 2, none⟩ = some (.slice none 0 0) := (blk_cell aL.out 2).trans rfl; have iM := blk_frozen aL.out 0; have iN := blk_frozen aL.out 1; have iO := blk_frozen aL.out 2; obtain ⟨dB, dD, rY⟩ := Kd.V_slice dK.out; subst rY; have gX : kF.cell? ⟨aY, 0, none⟩ = some (.int .i64 bY) := (blk_cell aB.out 0).trans rfl; have gY : kF.cell? ⟨aY, 1, none⟩ = some (.int .i64 bZ) := (blk_cell aB.out 1).trans rfl; have gZ : kF.cell? ⟨aY, 2, none⟩ = some (.slice cM bX.length cL) := (blk_cell aB.out 2).trans rfl; have iP := blk_frozen aB.out 0; have iQ := blk_frozen aB.out 1; have iR := blk_frozen aB.out 2; have hA : kF.cell? ⟨aZ, 0, none⟩ = some (.int .i64 3) := (blk_cell aI.out 0).trans rfl; have hB : kF.cell? ⟨aZ, 1, none⟩ = some (.int .i64 0) := (blk_cell aI.out 1).trans rfl; have hC : kF.cell? ⟨aZ, 2, none⟩ = some (.int .i64 0) := (blk_cell aI.out 2).trans rfl; have hD : kF.cell? ⟨aZ, 3, none⟩ = some (.int .i64 0) := (blk_cell aI.out 3).trans rfl; have hE : kF.cell? ⟨aZ, 4, none⟩ = some (.int .i64 0) := (blk_cell aI.out 4).trans rfl; have iS := blk_frozen aI.out 0; have iT := blk_frozen aI.out 1; have iU := blk_frozen aI.out 2; have iV := blk_frozen aI.out 3; have iW := blk_frozen aI.out 4) | ((with_reducible refine gate_dst (N := 36) rfl ?_); (try (refine gate_guard (by rfl) ?_; dsimp only)); refine Kd.R_lit k27 _ 27 ?hg (N := 36) ?hd (xs := ([(⟨3, 0, 0, 0, 0⟩ : S27)] : List (S27))) (inner := [.int .i64 3, .int .i64 0, .int .i64 0, .int .i64 0, .int .i64 0]) (ok := fun _ => True) (okp := fun _ => True) ?hr ?hp (fun _ hk => hk) trivial (Below.refl _ _) (Nat.le_refl _) (by simp) ?_; (case hd => rfl); (case hg => rfl); (case hr => first | (go_simp; done) | (go_simp; rfl)); (case hp => exact (Reps.c5 (show Kd.M k27 _ _ _ (⟨3, 0, 0, 0, 0⟩ : S27) [.int .i64 3, .int .i64 0, .int .i64 0, .int .i64 0, .int .i64 0] from (k27_mkM _ _ _ (⟨3, 0, 0, 0, 0⟩ : S27) )) (Reps.none _ _))); intro wH xT ho42 hb hg_ hnew_; clear hg_ hnew_; (first | rw [← lB.out] at ho42 | (simp only [Int.reduceToNat] at ho42; rw [← lB.out] at ho42)); have n_ := o2_ (Kd.Q_below (by (with_reducible repeat (first | apply Kd.Q_alloc | apply Kd.Q_drewN | apply Kd.Q_drew)); exact (Kd.Q_mono (Kd.Q_far (p := ⟨bU, 2, none⟩) (Kd.Q_far (p := ⟨bU, 1, none⟩) (Kd.Q_far (p := ⟨bU, 0, none⟩) (Kd.Q_types bJ.out aL.out oD) (fun _ hk => hk.2) (.int .i64 cP)) (fun _ hk => hk.2) (.int .i64 cQ)) (fun _ hk => hk.2) (.slice dB cK.length dD)) (fun _ h_ => h_.1))) hb) (o2_ (Kd.R_elder' (by (with_reducible repeat (first | apply Kd.R_alloc | apply Kd.R_drewN | apply Kd.R_drew)); exact (Kd.R_mono (Kd.R_far (p := ⟨bU, 2, none⟩) (Kd.R_far (p := ⟨bU, 1, none⟩) (Kd.R_far (p := ⟨bU, 0, none⟩) (Kd.R_types dA.out aL.out oD) (fun _ hk => hk.2) (.int .i64 cP)) (fun _ hk => hk.2) (.int .i64 cQ)) (fun _ hk => hk.2) (.slice dB cK.length dD)) (fun _ h_ => h_.1))) (Kd.R_base ho42) hb) (o2_ (Kd.V_elder' (by (with_reducible repeat (first | apply Kd.V_alloc | apply Kd.V_drewN | apply Kd.V_drew)); exact (Kd.V_mono (Kd.V_far (p := ⟨bU, 2, none⟩) (Kd.V_far (p := ⟨bU, 1, none⟩) (Kd.V_far (p := ⟨bU, 0, none⟩) (Kd.V_mono dK.out (fun k_ hk => (⟨hk, hk.2⟩ : _ ∧ k_ ≠ bU))) (fun _ hk => hk.2) (.int .i64 cP)) (fun _ hk => hk.2) (.int .i64 cQ)) (fun _ hk => hk.2) (.slice dB cK.length dD)) (fun _ h_ => h_.1))) (Kd.R_base ho42) hb) (o2_ (Kd.R_lower (Kd.R_newB (Kd.R_newB (Kd.R_newB (Kd.R_new' ho42 (Kd.R_lt (by (with_reducible repeat (first | apply Kd.R_alloc | apply Kd.R_drewN | apply Kd.R_drew)); exact (Kd.R_mono (Kd.R_far (p := ⟨bU, 2, none⟩) (Kd.R_far (p := ⟨bU, 1, none⟩) (Kd.R_far (p := ⟨bU, 0, none⟩) (Kd.R_types dA.out aL.out oD) (fun _ hk => hk.2) (.int .i64 cP)) (fun _ hk => hk.2) (.int .i64 cQ)) (fun _ hk => hk.2) (.slice dB cK.length dD)) (fun _ h_ => h_.1))))) (oP aJ)) (oP aH)) (oP aI)) (below_size (oB HB))) (o2_ (blk_below (oP aB) hb) (o2_ (blk_below (oP aJ) hb) (o2_ (blk_below (oP aH) hb) (o2_ (blk_below (oP aI) hb) (o2_ (blk_below (g := bU) (o := .cells #[.int .i64 cP, .int .i64 cQ, .slice dB cK.length dD] 25 (0, 0)) (blk_put (blk_put (blk_put aL.out 0 _ rfl) 1 _ rfl) 2 _ rfl) hb) (o1_ (below_step (oB HB) hb)))))))))); clear bJ dA dK aB aJ aH aI aL HB; obtain ⟨bJ, dA, dK, eD, aB, aJ, aH, aI, aL, HB⟩ := n_; clear hb ho42; obtain ⟨rO, rS, rZ⟩ := Kd.R_slice eD.out; subst rZ) | ((with_reducible refine gate_callee (f := 27) rfl ?_); refine goesL_ (some 37) rfl rfl Try.func27 oK rfl #[.agg #[.int .i64 bY, .int .i64 bZ, .slice cM bX.length cL], .slice rO y999.length rS] rfl oA ?_; (with_reducible refine (laws_eaDo.calls k bY bZ (fun k_ => some k_ = (.slice cM bX.length cL : Value).ownBlock) _ _ bX _ _ y999 cF cG cB _ ?side1 ?side2 ?side3 A7.out).mono ?_); (case side1 => exact Kd.Q_V (Kd.Q_tight rfl (Kd.Q_types (Kd.Q_types (Kd.Q_types (Kd.Q_types (Kd.Q_types (Kd.Q_apart' (Kd.Q_apart' (bJ.out) (Kd.R_typed dA.out) oD) (Kd.R_typed eD.out) oD) aB.out oD) aJ.out oD) aH.out oD) aI.out oD) aL.out oD))); (case side2 => repeat (first | exact (Kd.R_reads' eD.out).2.2 | (with_reducible refine Kd.C_alloc ?_ _) | (with_reducible refine Kd.C_drewN ?_ _) | (with_reducible refine Kd.C_drew ?_))); (case side3 => exact (Kd.R_reads' eD.out).2.1); rintro e xU ⟨wI, rfl, ho0, hb⟩; refine ⟨_, rfl, ?_⟩; have hq_ := (Kd.Q_types (Kd.Q_types (Kd.Q_types (Kd.Q_types (Kd.Q_types (Kd.Q_apart' (Kd.Q_apart' (bJ.out) (Kd.R_typed dA.out) oD) (Kd.R_typed eD.out) oD) aB.out oD) aJ.out oD) aH.out oD) aI.out oD) aL.out oD); have n_ := o2_ (Kd.Q_below (oQ bJ) hb) (o2_ (Kd.V_below (oV dK) hb) (o2_ (Kd.V_lower (Kd.V_mono (ok' := fun k_ => k_ ≠ aY ∧ k_ ≠ bI ∧ k_ ≠ aX ∧ k_ ≠ aZ ∧ k_ ≠ bU) ho0 (fun k_ hk_ => ⟨Or.elim hk_ (fun hs_ => (hq_.1 k_ hs_.symm).1.1.1.1.2) (fun hn_ => (Kd.freshB (oP aB) k_ hn_)), Or.elim hk_ (fun hs_ => (hq_.1 k_ hs_.symm).1.1.1.2) (fun hn_ => (Kd.freshB (oP aJ) k_ hn_)), Or.elim hk_ (fun hs_ => (hq_.1 k_ hs_.symm).1.1.2) (fun hn_ => (Kd.freshB (oP aH) k_ hn_)), Or.elim hk_ (fun hs_ => (hq_.1 k_ hs_.symm).1.2) (fun hn_ => (Kd.freshB (oP aI) k_ hn_)), Or.elim hk_ (fun hs_ => (hq_.1 k_ hs_.symm).2) (fun hn_ => (Kd.freshB (oP aL) k_ hn_))⟩)) (below_size (oB HB))) (o2_ (blk_below (oP aB) hb) (o2_ (blk_below (oP aJ) hb) (o2_ (blk_below (oP aH) hb) (o2_ (blk_below (oP aI) hb) (o2_ (blk_below (oP aL) hb) (o1_ (below_step (oB HB) hb))))))))); clear bJ dK aB aJ aH aI aL HB; obtain ⟨bJ, dK, eE, aB, aJ, aH, aI, aL, HB⟩ := n_; clear hq_; (try clear hb); (try clear hb2); (try clear hk); (try clear hi); (try clear ho0)) | ((with_reducible refine gate_dst (N := 8) rfl ?_); (try (refine gate_guard (by rfl) ?_; dsimp only)); refine box_event ?hg (N := 8) ?hd (cs := #[.int .i64 0, .int .i64 0, .slice none 0 0]) (t := 25) ?hr ?_; (case hd => rfl); (case hg => rfl); (case hr => first | (go_simp; done) | (go_simp; rfl)); intro bF hg sQ hbox hb; have n_ := o2_ (Kd.Q_below (oQ bJ) hb) (o2_ (Kd.V_below (Kd.V_elderB (oV dK) bF (Nat.le_of_eq hg.symm)) hb) (o2_ (Kd.V_below (Kd.V_elderB (oV eE) bF (Nat.le_of_eq hg.symm)) hb) (o2_ (blk_below (oP aB) hb) (o2_ (blk_below (oP aJ) hb) (o2_ (blk_below (oP aH) hb) (o2_ (blk_below (oP aI) hb) (o2_ (blk_below (oP aL) hb) (o2_ (below_step (oB HB) hb) (o2_ (hbox) (o2_ ((oG hg (below_size (oB HB)) : w.heap.size ≤ bF)) (o2_ ((oG hg (below_size (oB HB)) : w.heap.size ≤ bF)) (o2_ ((oL hg (blk_lt (oP aB)))) (o2_ ((oN hg (blk_lt (oP aB)))) (o2_ ((oL hg (blk_lt (oP aJ)))) (o2_ ((oN hg (blk_lt (oP aJ)))) (o2_ ((oL hg (blk_lt (oP aH)))) (o2_ ((oN hg (blk_lt (oP aH)))) (o2_ ((oL hg (blk_lt (oP aI)))) (o2_ ((oN hg (blk_lt (oP aI)))) (o2_ ((oL hg (blk_lt (oP aL)))) (o1_ ((oN hg (blk_lt (oP aL))))))))))))))))))))))))); clear bJ dK eE aB aJ aH aI aL HB; obtain ⟨bJ, dK, eE, aB, aJ, aH, aI, aL, HB, aK, rQ, rP, dG, dF, fN, fJ, fO, fK, fP, fL, fQ, fM⟩ := n_; clear hb hbox hg; have tV := dF.out; have vI := dG.out; have tW := fJ.out; have vJ := fN.out; have tX := fK.out; have vK := fO.out; have tY := fL.out; have vL := fP.out; have tZ := fM.out; have vM := fQ.out; have hF : sQ.cell? ⟨bF, 0, none⟩ = some (.int .i64 0) := (blk_cell aK.out 0).trans rfl; have hG : sQ.cell? ⟨bF, 1, none⟩ = some (.int .i64 0) := (blk_cell aK.out 1).trans rfl; have hH : sQ.cell? ⟨bF, 2, none⟩ = some (.slice none 0 0) := (blk_cell aK.out 2).trans rfl; have iX := blk_frozen aK.out 0; have iY := blk_frozen aK.out 1; have iZ := blk_frozen aK.out 2; obtain ⟨dE, dI, sA⟩ := Kd.V_slice eE.out; subst sA))
   go_loopg [9] k (fun kq v9 w' => ∃ (dO : Int), v9 = .int .i64 dO ∧ Aside0 (laws_FnOpFlip.l0 kq dO bY bZ bX 2 0 0 0 0 3 0 0 0 0 cP cQ cK cF cG cB = some r) ∧ Aside0 (kq ≤ k) ∧ Aside0 (Kd.Q k38 38 w' w.heap.size (fun _ => True) (.slice cM bX.length cL) bX) ∧ Aside0 (Kd.V k38 38 w' w.heap.size (fun k_ => k_ ≠ aY ∧ k_ ≠ bI ∧ k_ ≠ aX ∧ k_ ≠ aZ ∧ k_ ≠ bU ∧ k_ ≠ bF) (.slice dB cK.length dD) cK) ∧ Aside0 (Kd.V k38 38 w' w.heap.size (fun k_ => k_ ≠ aY ∧ k_ ≠ bI ∧ k_ ≠ aX ∧ k_ ≠ aZ ∧ k_ ≠ bU ∧ k_ ≠ bF) (.slice dE cB.length dI) cB) ∧ Aside0 (w'.heap[aY]? = some (.cells #[.int .i64 bY, .int .i64 bZ, (.slice cM bX.length cL)] 25 (0, 0))) ∧ Aside0 (w'.heap[bI]? = some (.cells #[.int .i64 dX, .int .i64 dY, .int .i64 dZ, .int .i64 eA, .int .i64 eB] 27 (0, 0))) ∧ Aside0 (w'.heap[aX]? = some (.cells #[.int .i64 2, .int .i64 0, .int .i64 0, .int .i64 0, .int .i64 0] 27 (0, 0))) ∧ Aside0 (w'.heap[aZ]? = some (.cells #[.int .i64 3, .int .i64 0, .int .i64 0, .int .i64 0, .int .i64 0] 27 (0, 0))) ∧ Aside0 (w'.heap[bU]? = some (.cells #[.int .i64 cP, .int .i64 cQ, (.slice dB cK.length dD)] 25 (0, 0))) ∧ Aside0 (w'.heap[bF]? = some (.cells #[.int .i64 cF, .int .i64 cG, (.slice dE cB.length dI)] 25 (0, 0))) ∧ Aside0 (Below w.heap.size w w'))
   case atStart => exact ⟨(0), (by first | rfl | (simp; done) | (simp [*]; done)), H', ⟨Nat.le_refl _⟩, ⟨(by (with_reducible repeat (first | apply Kd.Q_alloc | apply Kd.Q_drewN | apply Kd.Q_drew)); exact Kd.Q_mono (Kd.Q_far (p := ⟨bF, 2, none⟩) (Kd.Q_far (p := ⟨bF, 1, none⟩) (Kd.Q_far (p := ⟨bF, 0, none⟩) (Kd.Q_types bJ.out aK.out oD) (fun _ hk => hk.2) (.int .i64 cF)) (fun _ hk => hk.2) (.int .i64 cG)) (fun _ hk => hk.2) (.slice dE cB.length dI)) (fun _ hk => trivial))⟩, ⟨(by (with_reducible repeat (first | apply Kd.V_alloc | apply Kd.V_drewN | apply Kd.V_drew)); exact Kd.V_mono (Kd.V_far (p := ⟨bF, 2, none⟩) (Kd.V_far (p := ⟨bF, 1, none⟩) (Kd.V_far (p := ⟨bF, 0, none⟩) (Kd.V_mono dK.out (fun k_ hk => (⟨hk, hk.2⟩ : _ ∧ k_ ≠ bF))) (fun _ hk => hk.2) (.int .i64 cF)) (fun _ hk => hk.2) (.int .i64 cG)) (fun _ hk => hk.2) (.slice dE cB.length dI)) oY)⟩, ⟨(by (with_reducible repeat (first | apply Kd.V_alloc | apply Kd.V_drewN | apply Kd.V_drew)); exact Kd.V_mono (Kd.V_far (p := ⟨bF, 2, none⟩) (Kd.V_far (p := ⟨bF, 1, none⟩) (Kd.V_far (p := ⟨bF, 0, none⟩) (Kd.V_mono eE.out (fun k_ hk => (⟨hk, hk.2⟩ : _ ∧ k_ ≠ bF))) (fun _ hk => hk.2) (.int .i64 cF)) (fun _ hk => hk.2) (.int .i64 cG)) (fun _ hk => hk.2) (.slice dE cB.length dI)) oY)⟩, ⟨(oP aB)⟩, ⟨(oP aJ)⟩, ⟨(oP aH)⟩, ⟨(oP aI)⟩, ⟨(oP aL)⟩, ⟨(blk_put (blk_put (blk_put aK.out 0 _ rfl) 1 _ rfl) 2 _ rfl)⟩, ⟨(oB HB)⟩⟩
   case round =>
    clear H'
    try clear c1
    try clear c2
    try clear mG
    try clear mH
    try clear p2
    try clear c3
    try clear c4
    try clear c5
    try clear c11
    try clear c12
    try clear c16
    try clear c17
    try clear c18
    try clear c20
    try clear c21
    try clear c22
    try clear c24
    try clear c27
    try clear c33
    try clear c34
    try clear c35
    try clear c36
    try clear c46
    try clear c47
    try clear c48
    try clear c49
    try clear c50
    try clear fR
    try clear fS
    try clear fT
    try clear fU
    try clear fV
    try clear fW
    try clear fX
    try clear fY
    try clear fZ
    try clear gA
    try clear gB
    try clear gC
    try clear gD
    try clear gE
    try clear gF
    try clear gG
    try clear gH
    try clear gI
    try clear gJ
    try clear gK
    try clear gL
    try clear gM
    try clear gN
    try clear gO
    try clear gP
    try clear gQ
    try clear gR
    try clear gS
    try clear gT
    try clear gU
    try clear gV
    try clear gW
    try clear gX
    try clear gY
    try clear gZ
    try clear hA
    try clear hB
    try clear hC
    try clear hD
    try clear hE
    try clear hF
    try clear hG
    try clear hH
    try clear hI
    try clear hJ
    try clear hL
    try clear hM
    try clear hN
    try clear hO
    try clear hP
    try clear hQ
    try clear hR
    try clear hS
    try clear hT
    try clear hU
    try clear hV
    try clear hW
    try clear hX
    try clear hY
    try clear hZ
    try clear iA
    try clear iB
    try clear iC
    try clear iD
    try clear iE
    try clear iF
    try clear iG
    try clear iH
    try clear iI
    try clear iJ
    try clear iK
    try clear iL
    try clear iM
    try clear iN
    try clear iO
    try clear iP
    try clear iQ
    try clear iR
    try clear iS
    try clear iT
    try clear iU
    try clear iV
    try clear iW
    try clear iX
    try clear iY
    try clear iZ
    obtain ⟨dO, rfl, HA, HK1, aC, aD, aA, aB, aJ, aH, aI, aL, aK, HB⟩ := hrel
    cases gk with
    | zero => exact nomatch (show none = some _ from HA.out)
    | succ k1 =>
     have H := HA.out
     clear HA
     simp only [laws_FnOpFlip.l0] at H
     by_cases mI : dO < bZ
     ·rw [if_pos mI] at H
      have lC : decide (dO < bZ) = true := decide_eq_true mI
      clear mI
      have H' := Aside0.mk H
      clear H
      have uA := bA.out
      have vN := cX.out
      have uB := cV.out
      have vO := cY.out
      have uD := cW.out
      have vP := cZ.out
      have uE := dL.out
      have vQ := dM.out
      have uF := dG.out
      have vR := dF.out
      have kJ : wr.cell? ⟨aY, 0, none⟩ = some (.int .i64 bY) := (blk_cell aB.out 0).trans rfl
      have kK : wr.cell? ⟨aY, 1, none⟩ = some (.int .i64 bZ) := (blk_cell aB.out 1).trans rfl
      have kL : wr.cell? ⟨aY, 2, none⟩ = some (.slice cM bX.length cL) := (blk_cell aB.out 2).trans rfl
      have kM := blk_frozen aB.out 0
      have kN := blk_frozen aB.out 1
      have kO := blk_frozen aB.out 2
      go_wp2
      go_loopg [10] k1 (fun kq wW w' => ∃ (dJ : Int), wW = .int .i64 dJ ∧ Aside0 (laws_FnOpFlip.l1 kq dO dJ bY bZ bX 2 0 0 0 0 3 0 0 0 0 cP cQ cK cF cG cB = some r) ∧ Aside0 (kq ≤ k1) ∧ Aside0 (Kd.Q k38 38 w' w.heap.size (fun _ => True) (.slice cM bX.length cL) bX) ∧ Aside0 (Kd.V k38 38 w' w.heap.size (fun k_ => k_ ≠ aY ∧ k_ ≠ bI ∧ k_ ≠ aX ∧ k_ ≠ aZ ∧ k_ ≠ bU ∧ k_ ≠ bF) (.slice dB cK.length dD) cK) ∧ Aside0 (Kd.V k38 38 w' w.heap.size (fun k_ => k_ ≠ aY ∧ k_ ≠ bI ∧ k_ ≠ aX ∧ k_ ≠ aZ ∧ k_ ≠ bU ∧ k_ ≠ bF) (.slice dE cB.length dI) cB) ∧ Aside0 (w'.heap[aY]? = some (.cells #[.int .i64 bY, .int .i64 bZ, (.slice cM bX.length cL)] 25 (0, 0))) ∧ Aside0 (w'.heap[bI]? = some (.cells #[.int .i64 dX, .int .i64 dY, .int .i64 dZ, .int .i64 eA, .int .i64 eB] 27 (0, 0))) ∧ Aside0 (w'.heap[aX]? = some (.cells #[.int .i64 2, .int .i64 0, .int .i64 0, .int .i64 0, .int .i64 0] 27 (0, 0))) ∧ Aside0 (w'.heap[aZ]? = some (.cells #[.int .i64 3, .int .i64 0, .int .i64 0, .int .i64 0, .int .i64 0] 27 (0, 0))) ∧ Aside0 (w'.heap[bU]? = some (.cells #[.int .i64 cP, .int .i64 cQ, (.slice dB cK.length dD)] 25 (0, 0))) ∧ Aside0 (w'.heap[bF]? = some (.cells #[.int .i64 cF, .int .i64 cG, (.slice dE cB.length dI)] 25 (0, 0))) ∧ Aside0 (Below w.heap.size w w'))
      case atStart => exact ⟨(0), (by first | rfl | (simp; done) | (simp [*]; done)), H', ⟨Nat.le_refl _⟩, ⟨(oQ aC)⟩, ⟨(oV aD)⟩, ⟨(oV aA)⟩, ⟨(oP aB)⟩, ⟨(oP aJ)⟩, ⟨(oP aH)⟩, ⟨(oP aI)⟩, ⟨(oP aL)⟩, ⟨(oP aK)⟩, ⟨(oB HB)⟩⟩
      case round =>
       clear H'
       try clear c1
       try clear c2
       try clear mG
       try clear mH
       try clear p2
       try clear c3
       try clear c4
       try clear c5
       try clear c11
       try clear c12
       try clear c16
       try clear c17
       try clear c18
       try clear c20
       try clear c21
       try clear c22
       try clear c24
       try clear c27
       try clear c33
       try clear c34
       try clear c35
       try clear c36
       try clear c46
       try clear c47
       try clear c48
       try clear c49
       try clear c50
       try clear mI
       try clear lC
       try clear c54
       try clear c55
       try clear c56
       try clear c57
       try clear c58
       try clear fR
       try clear fS
       try clear fT
       try clear fU
       try clear fV
       try clear fW
       try clear fX
       try clear fY
       try clear fZ
       try clear gA
       try clear gB
       try clear gC
       try clear gD
       try clear gE
       try clear gF
       try clear gG
       try clear gH
       try clear gI
       try clear gJ
       try clear gK
       try clear gL
       try clear gM
       try clear gN
       try clear gO
       try clear gP
       try clear gQ
       try clear gR
       try clear gS
       try clear gT
       try clear gU
       try clear gV
       try clear gW
       try clear gX
       try clear gY
       try clear gZ
       try clear hA
       try clear hB
       try clear hC
       try clear hD
       try clear hE
       try clear hF
       try clear hG
       try clear hH
       try clear kJ
       try clear kK
       try clear kL
       try clear hI
       try clear hJ
       try clear hL
       try clear hM
       try clear hN
       try clear hO
       try clear hP
       try clear hQ
       try clear hR
       try clear hS
       try clear hT
       try clear hU
       try clear hV
       try clear hW
       try clear hX
       try clear hY
       try clear hZ
       try clear iA
       try clear iB
       try clear iC
       try clear iD
       try clear iE
       try clear iF
       try clear iG
       try clear iH
       try clear iI
       try clear iJ
       try clear iK
       try clear iL
       try clear iM
       try clear iN
       try clear iO
       try clear iP
       try clear iQ
       try clear iR
       try clear iS
       try clear iT
       try clear iU
       try clear iV
       try clear iW
       try clear iX
       try clear iY
       try clear iZ
       try clear kM
       try clear kN
       try clear kO
       try clear p2
       obtain ⟨dJ, rfl, HA, HK2, aC, aD, aA, aB, aJ, aH, aI, aL, aK, HB⟩ := hrel
       cases gk with
       | zero => exact nomatch (show none = some _ from HA.out)
       | succ k2 =>
        have H := HA.out
        clear HA
        simp only [laws_FnOpFlip.l1] at H
        by_cases mX : dJ < bY
        ·rw [if_pos mX] at H
         have nS : decide (dJ < bY) = true := decide_eq_true mX
         clear mX
         replace H := Option.bind_eq_some_iff.mp H
         obtain ⟨⟨jA, jB, jC, jD⟩, mZ, H⟩ := H
         (try dsimp only at H)
         have wJ := Aside0.mk mZ
         clear mZ
         replace H := Option.bind_eq_some_iff.mp H
         obtain ⟨⟨jE, jF, jG, jH⟩, nA, H⟩ := H
         (try dsimp only at H)
         have wK := Aside0.mk nA
         clear nA
         by_cases mY : (!(jA == jE) || (!(jB == jF) || (!(jC == jG) || (!(jD == jH))))) = true
         ·rw [if_pos mY] at H
          have nT : (!(jA == jE) || (!(jB == jF) || (!(jC == jG) || (!(jD == jH))))) = true := mY
          clear mY
          exact absurd H (by simp)
         ·rw [if_neg mY] at H
          have nT : (!(jA == jE) || (!(jB == jF) || (!(jC == jG) || (!(jD == jH))))) = false := by simpa using mY
          clear mY
          replace H := Option.bind_eq_some_iff.mp H
          obtain ⟨⟨jT, jU, jV, jW⟩, nB, H⟩ := H
          (try dsimp only at H)
          have wL := Aside0.mk nB
          clear nB
          replace H := Option.bind_eq_some_iff.mp H
          obtain ⟨⟨jX, jY, jZ, kA⟩, nC, H⟩ := H
          (try dsimp only at H)
          have wM := Aside0.mk nC
          clear nC
          by_cases qP : (!(jT == jX) || (!(jU == jY) || (!(jV == jZ) || (!(jW == kA))))) = true
          ·rw [if_pos qP] at H
           exact absurd H (by simp)
          ·rw [if_neg qP] at H
           have tA : (!(jT == jX) || (!(jU == jY) || (!(jV == jZ) || (!(jW == kA))))) = false := by simpa using qP
           clear qP
           have H' := Aside0.mk H
           clear H
           have uG := bA.out
           have vS := cX.out
           have uH := cV.out
           have vT := cY.out
           have uI := cW.out
           have vU := cZ.out
           have uJ := dL.out
           have vV := dM.out
           have uK := dG.out
           have vW := dF.out
           have qT : wr.cell? ⟨aY, 0, none⟩ = some (.int .i64 bY) := (blk_cell aB.out 0).trans rfl
           have qU : wr.cell? ⟨aY, 1, none⟩ = some (.int .i64 bZ) := (blk_cell aB.out 1).trans rfl
           have qV : wr.cell? ⟨aY, 2, none⟩ = some (.slice cM bX.length cL) := (blk_cell aB.out 2).trans rfl
           have rC := blk_frozen aB.out 0
           have rD := blk_frozen aB.out 1
           have rE := blk_frozen aB.out 2
           try go_wp2
           have n_ := o2_ (Kd.Q_drew aC.out) (o2_ (Kd.V_drew aD.out) (o2_ (Kd.V_drew aA.out) (o2_ (blk_drew aB.out) (o2_ (blk_drew aJ.out) (o2_ (blk_drew aH.out) (o2_ (blk_drew aI.out) (o2_ (blk_drew aL.out) (o2_ (blk_drew aK.out) (o1_ (below_drew1 HB.out))))))))))
           clear aC aD aA aB aJ aH aI aL aK HB
           obtain ⟨aC, aD, aA, aB, aJ, aH, aI, aL, aK, HB⟩ := n_
           refine start_ (n := 28) (S := fun w' => w'.cell? ⟨bU, 0, none⟩ = some (.int .i64 cP) ∧ w'.cell? ⟨bU, 1, none⟩ = some (.int .i64 cQ) ∧ w'.cell? ⟨bU, 2, none⟩ = some (.slice dB cK.length dD) ∧ w'.cell? ⟨aY, 0, none⟩ = some (.int .i64 bY) ∧ w'.cell? ⟨aY, 1, none⟩ = some (.int .i64 bZ) ∧ w'.cell? ⟨aY, 2, none⟩ = some (.slice cM bX.length cL) ∧ w'.cell? ⟨bF, 0, none⟩ = some (.int .i64 cF) ∧ w'.cell? ⟨bF, 1, none⟩ = some (.int .i64 cG) ∧ w'.cell? ⟨bF, 2, none⟩ = some (.slice dE cB.length dI)) (ds := []) #[false, false, false, false, false, false, false, false, false, false, false, false, false, false, false, false, false, false, false, false, false, false, false, false, false, false, false, false] oK rfl rfl ⟨(blk_cell aL.out 0).trans rfl, (blk_cell aL.out 1).trans rfl, (blk_cell aL.out 2).trans rfl, (blk_cell aB.out 0).trans rfl, (blk_cell aB.out 1).trans rfl, (blk_cell aB.out 2).trans rfl, (blk_cell aK.out 0).trans rfl, (blk_cell aK.out 1).trans rfl, (blk_cell aK.out 2).trans rfl⟩ (fun hHeld => ?_); refine with_tabW laws_FnOpFlip.tab16 laws_FnOpFlip.bits16 (fun HT_ HW_ => ?_)
           generalize wr.drew = xV at aC aD aA aB aJ aH aI aL aK HB hHeld ⊢
           refine pure_ (i := 1) (N := some 51) (v := ?_) (a' := ?_) #[false, true, false, false, false, false, false, false, false, false, false, false, false, false, false, false, false, false, false, false, false, false, false, false, false, false, false, false] rfl rfl (any_of HT_.out oK) (fun _ _ _ h => h) (Or.inl ⟨by rfl, ?_⟩) ?_ ?_
           rotate_left
           ·intro w'
            go_simp
            with_reducible rfl
           rotate_left
           ·simp only [Act.put, List.setIfInBounds_toArray, List.set_cons_zero, List.set_cons_succ, i64_w, i32_w]
            rfl
           refine pure_ (i := 2) (N := some 52) (v := ?_) (a' := ?_) #[false, true, true, false, false, false, false, false, false, false, false, false, false, false, false, false, false, false, false, false, false, false, false, false, false, false, false, false] rfl rfl (any_of HT_.out oK) (fun _ _ _ h => h) (Or.inl ⟨by rfl, ?_⟩) ?_ ?_
           rotate_left
           ·intro w'
            go_simp
            with_reducible rfl
           rotate_left
           ·simp only [Act.put, List.setIfInBounds_toArray, List.set_cons_zero, List.set_cons_succ, i64_w, i32_w]
            rfl
           refine pure_ (i := 5) (N := some 55) (v := ?_) (a' := ?_) #[false, true, true, false, false, true, false, false, false, false, false, false, false, false, false, false, false, false, false, false, false, false, false, false, false, false, false, false] rfl rfl (any_of HT_.out oK) (fun _ _ _ h => h) (Or.inl ⟨by rfl, ?_⟩) ?_ ?_
           rotate_left
           ·intro w'
            go_simp
            with_reducible rfl
           rotate_left
           ·simp only [Act.put, List.setIfInBounds_toArray, List.set_cons_zero, List.set_cons_succ, i64_w, i32_w]
            rfl
           refine pure_ (i := 8) (N := some 58) (v := ?_) (a' := ?_) #[false, true, true, false, false, true, false, false, true, false, false, false, false, false, false, false, false, false, false, false, false, false, false, false, false, false, false, false] rfl rfl (any_of HT_.out oK) (fun _ _ _ h => h) (Or.inl ⟨by rfl, ?_⟩) ?_ ?_
           rotate_left
           ·intro w'
            go_simp
            with_reducible rfl
           rotate_left
           ·simp only [Act.put, List.setIfInBounds_toArray, List.set_cons_zero, List.set_cons_succ, i64_w, i32_w]
            rfl
           refine pure_ (i := 10) (N := some 60) (v := ?_) (a' := ?_) #[false, true, true, false, false, true, false, false, true, false, true, false, false, false, false, false, false, false, false, false, false, false, false, false, false, false, false, false] rfl rfl (any_of HT_.out oK) (fun _ _ _ h => h) (Or.inl ⟨by rfl, ?_⟩) ?_ ?_
           rotate_left
           ·intro w'
            go_simp
            with_reducible rfl
           rotate_left
           ·simp only [Act.put, List.setIfInBounds_toArray, List.set_cons_zero, List.set_cons_succ, i64_w, i32_w]
            rfl
           refine take_ (i := 0) (N := some 50) (v := ?_) (a' := ?_) #[true, true, true, false, false, true, false, false, true, false, true, false, false, false, false, false, false, false, false, false, false, false, false, false, false, false, false, false] rfl rfl (take_ofW HT_.out HW_.out oK) (fun _ _ _ h => h) (Or.inl ⟨by rfl, ?_⟩) hHeld ?_ ?_
           rotate_left
           ·rintro w' ⟨s0, s1, s2, s3, s4, s5, s6, s7, s8⟩
            go_simp
            with_reducible rfl
           rotate_left
           ·simp only [Act.put, List.setIfInBounds_toArray, List.set_cons_zero, List.set_cons_succ, i64_w, i32_w]
            rfl
           refine take_ (i := 4) (N := some 54) (v := ?_) (a' := ?_) #[true, true, true, false, true, true, false, false, true, false, true, false, false, false, false, false, false, false, false, false, false, false, false, false, false, false, false, false] rfl rfl (take_ofW HT_.out HW_.out oK) (fun _ _ _ h => h) (Or.inl ⟨by rfl, ?_⟩) hHeld ?_ ?_
           rotate_left
           ·rintro w' ⟨s0, s1, s2, s3, s4, s5, s6, s7, s8⟩
            go_simp
            with_reducible rfl
           rotate_left
           ·simp only [Act.put, List.setIfInBounds_toArray, List.set_cons_zero, List.set_cons_succ, i64_w, i32_w]
            rfl
           refine take_ (i := 6) (N := some 56) (v := ?_) (a' := ?_) #[true, true, true, false, true, true, true, false, true, false, true, false, false, false, false, false, false, false, false, false, false, false, false, false, false, false, false, false] rfl rfl (take_ofW HT_.out HW_.out oK) (fun _ _ _ h => h) (Or.inl ⟨by rfl, ?_⟩) hHeld ?_ ?_
           rotate_left
           ·rintro w' ⟨s0, s1, s2, s3, s4, s5, s6, s7, s8⟩
            go_simp
            with_reducible rfl
           rotate_left
           ·simp only [Act.put, List.setIfInBounds_toArray, List.set_cons_zero, List.set_cons_succ, i64_w, i32_w]
            rfl
           refine pure_ (i := 7) (N := some 57) (v := ?_) (a' := ?_) #[true, true, true, false, true, true, true, true, true, false, true, false, false, false, false, false, false, false, false, false, false, false, false, false, false, false, false, false] rfl rfl (any_of HT_.out oK) (fun _ _ _ h => h) (Or.inl ⟨by rfl, ?_⟩) ?_ ?_
           rotate_left
           ·intro w'
            go_simp
            with_reducible rfl
           rotate_left
           ·simp only [Act.put, List.setIfInBounds_toArray, List.set_cons_zero, List.set_cons_succ, i64_w, i32_w]
            rfl
           refine pure_ (i := 9) (N := some 59) (v := ?_) (a' := ?_) #[true, true, true, false, true, true, true, true, true, true, true, false, false, false, false, false, false, false, false, false, false, false, false, false, false, false, false, false] rfl rfl (any_of HT_.out oK) (fun _ _ _ h => h) (Or.inl ⟨by rfl, ?_⟩) ?_ ?_
           rotate_left
           ·intro w'
            go_simp
            with_reducible rfl
           rotate_left
           ·simp only [Act.put, List.setIfInBounds_toArray, List.set_cons_zero, List.set_cons_succ, i64_w, i32_w]
            rfl
           refine one_ (i := 3) (N := some 53) #[true, true, true, true, true, true, true, true, true, true, true, false, false, false, false, false, false, false, false, false, false, false, false, false, false, false, false, false] rfl rfl (one_of HT_.out oK) oD (fun K hK => ?_)
           refine goes_ Try.func28 oK rfl #[.agg #[.int .i64 cP, .int .i64 cQ, .slice dB cK.length dD], .int .i64 dJ, .int .i64 dO] (by first | rfl | exact wanted_on rfl rfl rfl (by assumption)) rfl rfl oA ?_
           with_reducible refine (impl_RasAt.calls k2 cP cQ _ _ cK dJ dO jA jB jC jD _ ?side1 ?side2 wJ.out).mono ?_
           (case side1 => repeat (first | exact (Kd.V_reads' aD.out).2.2 | (with_reducible refine Kd.C_alloc ?_ _) | (with_reducible refine Kd.C_drewN ?_ _) | (with_reducible refine Kd.C_drew ?_)))
           (case side2 => exact (Kd.V_reads' aD.out).2.1)
           rintro e xW ⟨rfl, hb⟩
           refine ⟨_, rfl, ?_⟩
           have n_ := o2_ (Kd.Q_below (oQ aC) hb) (o2_ (Kd.V_below (oV aD) hb) (o2_ (Kd.V_below (oV aA) hb) (o2_ (blk_below (oP aB) hb) (o2_ (blk_below (oP aJ) hb) (o2_ (blk_below (oP aH) hb) (o2_ (blk_below (oP aI) hb) (o2_ (blk_below (oP aL) hb) (o2_ (blk_below (oP aK) hb) (o1_ (below_step (oB HB) hb))))))))))
           clear aC aD aA aB aJ aH aI aL aK HB
           obtain ⟨aC, aD, aA, aB, aJ, aH, aI, aL, aK, HB⟩ := n_
           (try clear hb)
           (try clear hb2)
           (try clear hk)
           (try clear hi)
           refine hK.out _ _ ⟨(blk_cell aL.out 0).trans rfl, (blk_cell aL.out 1).trans rfl, (blk_cell aL.out 2).trans rfl, (blk_cell aB.out 0).trans rfl, (blk_cell aB.out 1).trans rfl, (blk_cell aB.out 2).trans rfl, (blk_cell aK.out 0).trans rfl, (blk_cell aK.out 1).trans rfl, (blk_cell aK.out 2).trans rfl⟩ (fun hHeld => ?_)
           clear hK K
           refine norm_ (a' := ?_) ?_ ?_
           rotate_left
           ·show Act.put _ (some 53) _ = _
            simp only [Act.put, List.setIfInBounds_toArray, List.set_cons_zero, List.set_cons_succ, i64_w, i32_w]
            rfl
           refine one_ (i := 11) (N := some 61) #[true, true, true, true, true, true, true, true, true, true, true, true, false, false, false, false, false, false, false, false, false, false, false, false, false, false, false, false] rfl rfl (one_of HT_.out oK) oD (fun K hK => ?_)
           refine goes_ Try.func28 oK rfl #[.agg #[.int .i64 bY, .int .i64 bZ, .slice cM bX.length cL], .int .i64 (wrap64 ((wrap64 (bY - 1)) - dJ)), .int .i64 dO] (by first | rfl | exact wanted_on rfl rfl rfl (by assumption)) rfl rfl oA ?_
           with_reducible refine (impl_RasAt.calls k2 bY bZ _ _ bX (wrap64 ((wrap64 (bY - 1)) - dJ)) dO jE jF jG jH _ ?side1 ?side2 wK.out).mono ?_
           (case side1 => repeat (first | exact (Kd.Q_reads' aC.out).2.2 | (with_reducible refine Kd.C_alloc ?_ _) | (with_reducible refine Kd.C_drewN ?_ _) | (with_reducible refine Kd.C_drew ?_)))
           (case side2 => exact (Kd.Q_reads' aC.out).2.1)
           rintro e xX ⟨rfl, hb⟩
           refine ⟨_, rfl, ?_⟩
           have n_ := o2_ (Kd.Q_below (oQ aC) hb) (o2_ (Kd.V_below (oV aD) hb) (o2_ (Kd.V_below (oV aA) hb) (o2_ (blk_below (oP aB) hb) (o2_ (blk_below (oP aJ) hb) (o2_ (blk_below (oP aH) hb) (o2_ (blk_below (oP aI) hb) (o2_ (blk_below (oP aL) hb) (o2_ (blk_below (oP aK) hb) (o1_ (below_step (oB HB) hb))))))))))
           clear aC aD aA aB aJ aH aI aL aK HB
           obtain ⟨aC, aD, aA, aB, aJ, aH, aI, aL, aK, HB⟩ := n_
           (try clear hb)
           (try clear hb2)
           (try clear hk)
           (try clear hi)
           refine hK.out _ _ ⟨(blk_cell aL.out 0).trans rfl, (blk_cell aL.out 1).trans rfl, (blk_cell aL.out 2).trans rfl, (blk_cell aB.out 0).trans rfl, (blk_cell aB.out 1).trans rfl, (blk_cell aB.out 2).trans rfl, (blk_cell aK.out 0).trans rfl, (blk_cell aK.out 1).trans rfl, (blk_cell aK.out 2).trans rfl⟩ (fun hHeld => ?_)
           clear hK K
           refine norm_ (a' := ?_) ?_ ?_
           rotate_left
           ·show Act.put _ (some 61) _ = _
            simp only [Act.put, List.setIfInBounds_toArray, List.set_cons_zero, List.set_cons_succ, i64_w, i32_w]
            rfl
           refine pure_ (i := 12) (N := some 62) (v := ?_) (a' := ?_) #[true, true, true, true, true, true, true, true, true, true, true, true, true, false, false, false, false, false, false, false, false, false, false, false, false, false, false, false] rfl rfl (any_of HT_.out oK) (fun _ _ _ h => h) (Or.inl ⟨by rfl, ?_⟩) ?_ ?_
           rotate_left
           ·intro w'
            go_simp
            with_reducible rfl
           rotate_left
           ·simp only [Act.put, List.setIfInBounds_toArray, List.set_cons_zero, List.set_cons_succ, i64_w, i32_w]
            rfl
           refine pure_ (i := 13) (N := some 63) (v := ?_) (a' := ?_) #[true, true, true, true, true, true, true, true, true, true, true, true, true, true, false, false, false, false, false, false, false, false, false, false, false, false, false, false] rfl rfl (any_of HT_.out oK) (fun _ _ _ h => h) (Or.inl ⟨by rfl, ?_⟩) ?_ ?_
           rotate_left
           ·intro w'
            go_simp
            with_reducible rfl
           rotate_left
           ·simp only [Act.put, List.setIfInBounds_toArray, List.set_cons_zero, List.set_cons_succ, i64_w, i32_w]
            rfl
           refine pure_ (i := 15) (N := some 65) (v := ?_) (a' := ?_) #[true, true, true, true, true, true, true, true, true, true, true, true, true, true, false, true, false, false, false, false, false, false, false, false, false, false, false, false] rfl rfl (any_of HT_.out oK) (fun _ _ _ h => h) (Or.inl ⟨by rfl, ?_⟩) ?_ ?_
           rotate_left
           ·intro w'
            go_simp
            with_reducible rfl
           rotate_left
           ·simp only [Act.put, List.setIfInBounds_toArray, List.set_cons_zero, List.set_cons_succ, i64_w, i32_w]
            rfl
           refine pure_ (i := 16) (N := some 66) (v := ?_) (a' := ?_) #[true, true, true, true, true, true, true, true, true, true, true, true, true, true, false, true, true, false, false, false, false, false, false, false, false, false, false, false] rfl rfl (any_of HT_.out oK) (fun _ _ _ h => h) (Or.inl ⟨by rfl, ?_⟩) ?_ ?_
           rotate_left
           ·intro w'
            go_simp
            with_reducible rfl
           rotate_left
           ·simp only [Act.put, List.setIfInBounds_toArray, List.set_cons_zero, List.set_cons_succ, i64_w, i32_w]
            rfl
           refine pure_ (i := 19) (N := some 69) (v := ?_) (a' := ?_) #[true, true, true, true, true, true, true, true, true, true, true, true, true, true, false, true, true, false, false, true, false, false, false, false, false, false, false, false] rfl rfl (any_of HT_.out oK) (fun _ _ _ h => h) (Or.inl ⟨by rfl, ?_⟩) ?_ ?_
           rotate_left
           ·intro w'
            go_simp
            with_reducible rfl
           rotate_left
           ·simp only [Act.put, List.setIfInBounds_toArray, List.set_cons_zero, List.set_cons_succ, i64_w, i32_w]
            rfl
           refine pure_ (i := 20) (N := some 70) (v := ?_) (a' := ?_) #[true, true, true, true, true, true, true, true, true, true, true, true, true, true, false, true, true, false, false, true, true, false, false, false, false, false, false, false] rfl rfl (any_of HT_.out oK) (fun _ _ _ h => h) (Or.inl ⟨by rfl, ?_⟩) ?_ ?_
           rotate_left
           ·intro w'
            go_simp
            with_reducible rfl
           rotate_left
           ·simp only [Act.put, List.setIfInBounds_toArray, List.set_cons_zero, List.set_cons_succ, i64_w, i32_w]
            rfl
           refine pure_ (i := 23) (N := some 73) (v := ?_) (a' := ?_) #[true, true, true, true, true, true, true, true, true, true, true, true, true, true, false, true, true, false, false, true, true, false, false, true, false, false, false, false] rfl rfl (any_of HT_.out oK) (fun _ _ _ h => h) (Or.inl ⟨by rfl, ?_⟩) ?_ ?_
           rotate_left
           ·intro w'
            go_simp
            with_reducible rfl
           rotate_left
           ·simp only [Act.put, List.setIfInBounds_toArray, List.set_cons_zero, List.set_cons_succ, i64_w, i32_w]
            rfl
           refine take_ (i := 14) (N := some 64) (v := ?_) (a' := ?_) #[true, true, true, true, true, true, true, true, true, true, true, true, true, true, true, true, true, false, false, true, true, false, false, true, false, false, false, false] rfl rfl (take_ofW HT_.out HW_.out oK) (fun _ _ _ h => h) (Or.inl ⟨by rfl, ?_⟩) hHeld ?_ ?_
           rotate_left
           ·rintro w' ⟨s0, s1, s2, s3, s4, s5, s6, s7, s8⟩
            go_simp
            with_reducible rfl
           rotate_left
           ·simp only [Act.put, List.setIfInBounds_toArray, List.set_cons_zero, List.set_cons_succ, i64_w, i32_w]
            rfl
           refine take_ (i := 18) (N := some 68) (v := ?_) (a' := ?_) #[true, true, true, true, true, true, true, true, true, true, true, true, true, true, true, true, true, false, true, true, true, false, false, true, false, false, false, false] rfl rfl (take_ofW HT_.out HW_.out oK) (fun _ _ _ h => h) (Or.inl ⟨by rfl, ?_⟩) hHeld ?_ ?_
           rotate_left
           ·rintro w' ⟨s0, s1, s2, s3, s4, s5, s6, s7, s8⟩
            go_simp
            with_reducible rfl
           rotate_left
           ·simp only [Act.put, List.setIfInBounds_toArray, List.set_cons_zero, List.set_cons_succ, i64_w, i32_w]
            rfl
           refine take_ (i := 21) (N := some 71) (v := ?_) (a' := ?_) #[true, true, true, true, true, true, true, true, true, true, true, true, true, true, true, true, true, false, true, true, true, true, false, true, false, false, false, false] rfl rfl (take_ofW HT_.out HW_.out oK) (fun _ _ _ h => h) (Or.inl ⟨by rfl, ?_⟩) hHeld ?_ ?_
           rotate_left
           ·rintro w' ⟨s0, s1, s2, s3, s4, s5, s6, s7, s8⟩
            go_simp
            with_reducible rfl
           rotate_left
           ·simp only [Act.put, List.setIfInBounds_toArray, List.set_cons_zero, List.set_cons_succ, i64_w, i32_w]
            rfl
           refine pure_ (i := 22) (N := some 72) (v := ?_) (a' := ?_) #[true, true, true, true, true, true, true, true, true, true, true, true, true, true, true, true, true, false, true, true, true, true, true, true, false, false, false, false] rfl rfl (any_of HT_.out oK) (fun _ _ _ h => h) (Or.inl ⟨by rfl, ?_⟩) ?_ ?_
           rotate_left
           ·intro w'
            go_simp
            with_reducible rfl
           rotate_left
           ·simp only [Act.put, List.setIfInBounds_toArray, List.set_cons_zero, List.set_cons_succ, i64_w, i32_w]
            rfl
           refine pure_ (i := 24) (N := some 74) (v := ?_) (a' := ?_) #[true, true, true, true, true, true, true, true, true, true, true, true, true, true, true, true, true, false, true, true, true, true, true, true, true, false, false, false] rfl rfl (any_of HT_.out oK) (fun _ _ _ h => h) (Or.inl ⟨by rfl, ?_⟩) ?_ ?_
           rotate_left
           ·intro w'
            go_simp
            with_reducible rfl
           rotate_left
           ·simp only [Act.put, List.setIfInBounds_toArray, List.set_cons_zero, List.set_cons_succ, i64_w, i32_w]
            rfl
           refine one_ (i := 17) (N := some 67) #[true, true, true, true, true, true, true, true, true, true, true, true, true, true, true, true, true, true, true, true, true, true, true, true, true, false, false, false] rfl rfl (one_of HT_.out oK) oD (fun K hK => ?_)
           refine goes_ Try.func28 oK rfl #[.agg #[.int .i64 cF, .int .i64 cG, .slice dE cB.length dI], .int .i64 dJ, .int .i64 dO] (by first | rfl | exact wanted_on rfl rfl rfl (by assumption)) rfl rfl oA ?_
           with_reducible refine (impl_RasAt.calls k2 cF cG _ _ cB dJ dO jT jU jV jW _ ?side1 ?side2 wL.out).mono ?_
           (case side1 => repeat (first | exact (Kd.V_reads' aA.out).2.2 | (with_reducible refine Kd.C_alloc ?_ _) | (with_reducible refine Kd.C_drewN ?_ _) | (with_reducible refine Kd.C_drew ?_)))
           (case side2 => exact (Kd.V_reads' aA.out).2.1)
           rintro e xY ⟨rfl, hb⟩
           refine ⟨_, rfl, ?_⟩
           have n_ := o2_ (Kd.Q_below (oQ aC) hb) (o2_ (Kd.V_below (oV aD) hb) (o2_ (Kd.V_below (oV aA) hb) (o2_ (blk_below (oP aB) hb) (o2_ (blk_below (oP aJ) hb) (o2_ (blk_below (oP aH) hb) (o2_ (blk_below (oP aI) hb) (o2_ (blk_below (oP aL) hb) (o2_ (blk_below (oP aK) hb) (o1_ (below_step (oB HB) hb))))))))))
           clear aC aD aA aB aJ aH aI aL aK HB
           obtain ⟨aC, aD, aA, aB, aJ, aH, aI, aL, aK, HB⟩ := n_
           (try clear hb)
           (try clear hb2)
           (try clear hk)
           (try clear hi)
           refine hK.out _ _ ⟨(blk_cell aL.out 0).trans rfl, (blk_cell aL.out 1).trans rfl, (blk_cell aL.out 2).trans rfl, (blk_cell aB.out 0).trans rfl, (blk_cell aB.out 1).trans rfl, (blk_cell aB.out 2).trans rfl, (blk_cell aK.out 0).trans rfl, (blk_cell aK.out 1).trans rfl, (blk_cell aK.out 2).trans rfl⟩ (fun hHeld => ?_)
           clear hK K
           refine norm_ (a' := ?_) ?_ ?_
           rotate_left
           ·show Act.put _ (some 67) _ = _
            simp only [Act.put, List.setIfInBounds_toArray, List.set_cons_zero, List.set_cons_succ, i64_w, i32_w]
            rfl
           refine one_ (i := 25) (N := some 75) #[true, true, true, true, true, true, true, true, true, true, true, true, true, true, true, true, true, true, true, true, true, true, true, true, true, true, false, false] rfl rfl (one_of HT_.out oK) oD (fun K hK => ?_)
           refine goes_ Try.func28 oK rfl #[.agg #[.int .i64 bY, .int .i64 bZ, .slice cM bX.length cL], .int .i64 dJ, .int .i64 (wrap64 ((wrap64 (bZ - 1)) - dO))] (by first | rfl | exact wanted_on rfl rfl rfl (by assumption)) rfl rfl oA ?_
           with_reducible refine (impl_RasAt.calls k2 bY bZ _ _ bX dJ (wrap64 ((wrap64 (bZ - 1)) - dO)) jX jY jZ kA _ ?side1 ?side2 wM.out).mono ?_
           (case side1 => repeat (first | exact (Kd.Q_reads' aC.out).2.2 | (with_reducible refine Kd.C_alloc ?_ _) | (with_reducible refine Kd.C_drewN ?_ _) | (with_reducible refine Kd.C_drew ?_)))
           (case side2 => exact (Kd.Q_reads' aC.out).2.1)
           rintro e xZ ⟨rfl, hb⟩
           refine ⟨_, rfl, ?_⟩
           have n_ := o2_ (Kd.Q_below (oQ aC) hb) (o2_ (Kd.V_below (oV aD) hb) (o2_ (Kd.V_below (oV aA) hb) (o2_ (blk_below (oP aB) hb) (o2_ (blk_below (oP aJ) hb) (o2_ (blk_below (oP aH) hb) (o2_ (blk_below (oP aI) hb) (o2_ (blk_below (oP aL) hb) (o2_ (blk_below (oP aK) hb) (o1_ (below_step (oB HB) hb))))))))))
           clear aC aD aA aB aJ aH aI aL aK HB
           obtain ⟨aC, aD, aA, aB, aJ, aH, aI, aL, aK, HB⟩ := n_
           (try clear hb)
           (try clear hb2)
           (try clear hk)
           (try clear hi)
           refine hK.out _ _ ⟨(blk_cell aL.out 0).trans rfl, (blk_cell aL.out 1).trans rfl, (blk_cell aL.out 2).trans rfl, (blk_cell aB.out 0).trans rfl, (blk_cell aB.out 1).trans rfl, (blk_cell aB.out 2).trans rfl, (blk_cell aK.out 0).trans rfl, (blk_cell aK.out 1).trans rfl, (blk_cell aK.out 2).trans rfl⟩ (fun hHeld => ?_)
           clear hK K
           refine norm_ (a' := ?_) ?_ ?_
           rotate_left
           ·show Act.put _ (some 75) _ = _
            simp only [Act.put, List.setIfInBounds_toArray, List.set_cons_zero, List.set_cons_succ, i64_w, i32_w]
            rfl
           refine pure_ (i := 26) (N := some 76) (v := ?_) (a' := ?_) #[true, true, true, true, true, true, true, true, true, true, true, true, true, true, true, true, true, true, true, true, true, true, true, true, true, true, true, false] rfl rfl (any_of HT_.out oK) (fun _ _ _ h => h) (Or.inl ⟨by rfl, ?_⟩) ?_ ?_
           rotate_left
           ·intro w'
            go_simp
            with_reducible rfl
           rotate_left
           ·simp only [Act.put, List.setIfInBounds_toArray, List.set_cons_zero, List.set_cons_succ, i64_w, i32_w]
            rfl
           refine pure_ (i := 27) (N := some 77) (v := ?_) (a' := ?_) #[true, true, true, true, true, true, true, true, true, true, true, true, true, true, true, true, true, true, true, true, true, true, true, true, true, true, true, true] rfl rfl (any_of HT_.out oK) (fun _ _ _ h => h) (Or.inl ⟨by rfl, ?_⟩) ?_ ?_
           rotate_left
           ·intro w'
            go_simp
            with_reducible rfl
           rotate_left
           ·simp only [Act.put, List.setIfInBounds_toArray, List.set_cons_zero, List.set_cons_succ, i64_w, i32_w]
            rfl
           refine done_ (done_of HT_.out oK) ?_
           try go_wp2
           go_roundg k2
           case measure => have := HK1.out; have := HK2.out; omega
           case rel => exact ⟨(wrap64 (dJ + 1)), (by first | rfl | (simp; done) | (simp [*]; done)), H', ⟨(by have := HK1.out; have := HK2.out; omega)⟩, ⟨(oQ aC)⟩, ⟨(oV aD)⟩, ⟨(oV aA)⟩, ⟨(oP aB)⟩, ⟨(oP aJ)⟩, ⟨(oP aH)⟩, ⟨(oP aI)⟩, ⟨(oP aL)⟩, ⟨(oP aK)⟩, ⟨(oB HB)⟩⟩
        ·rw [if_neg mX] at H
         have nS : decide (dJ < bY) = false := decide_eq_false mX
         clear mX
         have H' := Aside0.mk H
         clear H
         have uL := bA.out
         have vX := cX.out
         have uM := cV.out
         have vY := cY.out
         have uN := cW.out
         have vZ := cZ.out
         have uO := dL.out
         have wA := dM.out
         have uP := dG.out
         have wB := dF.out
         have qW : wr.cell? ⟨aY, 0, none⟩ = some (.int .i64 bY) := (blk_cell aB.out 0).trans rfl
         have qX : wr.cell? ⟨aY, 1, none⟩ = some (.int .i64 bZ) := (blk_cell aB.out 1).trans rfl
         have qY : wr.cell? ⟨aY, 2, none⟩ = some (.slice cM bX.length cL) := (blk_cell aB.out 2).trans rfl
         have rF := blk_frozen aB.out 0
         have rG := blk_frozen aB.out 1
         have rH := blk_frozen aB.out 2
         go_wp2
         go_roundg k2
         case measure => have := HK1.out; have := HK2.out; omega
         case rel => exact ⟨(wrap64 (dO + 1)), (by first | rfl | (simp; done) | (simp [*]; done)), H', ⟨(by have := HK1.out; have := HK2.out; omega)⟩, ⟨(oQ aC)⟩, ⟨(oV aD)⟩, ⟨(oV aA)⟩, ⟨(oP aB)⟩, ⟨(oP aJ)⟩, ⟨(oP aH)⟩, ⟨(oP aI)⟩, ⟨(oP aL)⟩, ⟨(oP aK)⟩, ⟨(oB HB)⟩⟩
     ·rw [if_neg mI] at H
      have lC : decide (dO < bZ) = false := decide_eq_false mI
      clear mI
      obtain ⟨y1024, hy1024⟩ : ∃ y_ : List (S27), y_ = (([(⟨2, 0, 0, 0, 0⟩ : S27)] : List (S27))) := ⟨_, rfl⟩
      replace H : ((laws_eaDo.f k1 cP cQ cK y1024).bind fun dP => ((laws_eaRas.f k1 dP.1 dP.2.1 dP.2.2 bY bZ bX).bind fun fA => (if fA = true then ((laws_eaDo.f k1 cF cG cB (([(⟨3, 0, 0, 0, 0⟩ : S27)] : List (S27)))).bind fun dH => ((laws_eaRas.f k1 dH.1 dH.2.1 dH.2.2 bY bZ bX).bind fun eF => (if eF = true then ((laws_eaDo.f k1 cP cQ cK (([(⟨3, 0, 0, 0, 0⟩ : S27)] : List (S27)))).bind fun cS => ((laws_eaDo.f k1 cF cG cB (([(⟨2, 0, 0, 0, 0⟩ : S27)] : List (S27)))).bind fun cJ => ((laws_eaRas.f k1 cS.1 cS.2.1 cS.2.2 cJ.1 cJ.2.1 cJ.2.2).bind fun cT => (some cT)))) else (none)))) else (none)))) = some r := by first | (rw [hy1024]; with_reducible exact H) | (have H2_ := (Option.bind_some _ _).symm.trans H; rw [hy1024]; with_reducible exact H2_) | (have H2_ := (Option.bind_some _ _).symm.trans H; with_reducible exact H2_) | with_reducible exact H | (rw [hy1024]; exact H) | exact H
      have jP := Aside0.mk hy1024
      clear hy1024
      replace H := Option.bind_eq_some_iff.mp H
      obtain ⟨⟨eX, eY, eZ⟩, nD, H⟩ := H
      (try dsimp only at H)
      have wN := Aside0.mk nD
      clear nD
      replace H := Option.bind_eq_some_iff.mp H
      obtain ⟨fA, nE, H⟩ := H
      (try dsimp only at H)
      have wO := Aside0.mk nE
      clear nE
      by_cases qQ : fA = true
      ·subst qQ
       rw [if_pos rfl] at H
       obtain ⟨y1033, hy1033⟩ : ∃ y_ : List (S27), y_ = (([(⟨3, 0, 0, 0, 0⟩ : S27)] : List (S27))) := ⟨_, rfl⟩
       replace H : ((laws_eaDo.f k1 cF cG cB y1033).bind fun dH => ((laws_eaRas.f k1 dH.1 dH.2.1 dH.2.2 bY bZ bX).bind fun eF => (if eF = true then ((laws_eaDo.f k1 cP cQ cK (([(⟨3, 0, 0, 0, 0⟩ : S27)] : List (S27)))).bind fun cS => ((laws_eaDo.f k1 cF cG cB (([(⟨2, 0, 0, 0, 0⟩ : S27)] : List (S27)))).bind fun cJ => ((laws_eaRas.f k1 cS.1 cS.2.1 cS.2.2 cJ.1 cJ.2.1 cJ.2.2).bind fun cT => (some cT)))) else (none)))) = some r := by first | (rw [hy1033]; with_reducible exact H) | (have H2_ := (Option.bind_some _ _).symm.trans H; rw [hy1033]; with_reducible exact H2_) | (have H2_ := (Option.bind_some _ _).symm.trans H; with_reducible exact H2_) | with_reducible exact H | (rw [hy1033]; exact H) | exact H
       have jQ := Aside0.mk hy1033
       clear hy1033
       replace H := Option.bind_eq_some_iff.mp H
       obtain ⟨⟨fB, fC, fD⟩, nF, H⟩ := H
       (try dsimp only at H)
       have wP := Aside0.mk nF
       clear nF
       replace H := Option.bind_eq_some_iff.mp H
       obtain ⟨eF, nG, H⟩ := H
       (try dsimp only at H)
       have wQ := Aside0.mk nG
       clear nG
       by_cases qR : eF = true
       ·subst qR
        rw [if_pos rfl] at H
        obtain ⟨y1042, hy1042⟩ : ∃ y_ : List (S27), y_ = (([(⟨3, 0, 0, 0, 0⟩ : S27)] : List (S27))) := ⟨_, rfl⟩
        replace H : ((laws_eaDo.f k1 cP cQ cK y1042).bind fun cS => ((laws_eaDo.f k1 cF cG cB (([(⟨2, 0, 0, 0, 0⟩ : S27)] : List (S27)))).bind fun cJ => ((laws_eaRas.f k1 cS.1 cS.2.1 cS.2.2 cJ.1 cJ.2.1 cJ.2.2).bind fun cT => (some cT)))) = some r := by first | (rw [hy1042]; with_reducible exact H) | (have H2_ := (Option.bind_some _ _).symm.trans H; rw [hy1042]; with_reducible exact H2_) | (have H2_ := (Option.bind_some _ _).symm.trans H; with_reducible exact H2_) | with_reducible exact H | (rw [hy1042]; exact H) | exact H
        have jR := Aside0.mk hy1042
        clear hy1042
        replace H := Option.bind_eq_some_iff.mp H
        obtain ⟨⟨eI, eJ, eG⟩, nH, H⟩ := H
        (try dsimp only at H)
        have wR := Aside0.mk nH
        clear nH
        obtain ⟨y1050, hy1050⟩ : ∃ y_ : List (S27), y_ = (([(⟨2, 0, 0, 0, 0⟩ : S27)] : List (S27))) := ⟨_, rfl⟩
        replace H : ((laws_eaDo.f k1 cF cG cB y1050).bind fun cJ => ((laws_eaRas.f k1 eI eJ eG cJ.1 cJ.2.1 cJ.2.2).bind fun cT => (some cT))) = some r := by first | (rw [hy1050]; with_reducible exact H) | (have H2_ := (Option.bind_some _ _).symm.trans H; rw [hy1050]; with_reducible exact H2_) | (have H2_ := (Option.bind_some _ _).symm.trans H; with_reducible exact H2_) | with_reducible exact H | (rw [hy1050]; exact H) | exact H
        have jS := Aside0.mk hy1050
        clear hy1050
        replace H := Option.bind_eq_some_iff.mp H
        obtain ⟨⟨fE, fF, fG⟩, nI, H⟩ := H
        (try dsimp only at H)
        have wS := Aside0.mk nI
        clear nI
        replace H := Option.bind_eq_some_iff.mp H
        obtain ⟨cT, nJ, H⟩ := H
        (try dsimp only at H)
        have wT := Aside0.mk nJ
        clear nJ
        obtain rfl := Option.some.inj H
        have uS := bA.out
        have wC := cX.out
        have uT := cV.out
        have wD := cY.out
        have uU := cW.out
        have wE := cZ.out
        have uW := dL.out
        have wF := dM.out
        have uX := dG.out
        have wG := dF.out
        have qZ : wr.cell? ⟨aY, 0, none⟩ = some (.int .i64 bY) := (blk_cell aB.out 0).trans rfl
        have rA : wr.cell? ⟨aY, 1, none⟩ = some (.int .i64 bZ) := (blk_cell aB.out 1).trans rfl
        have rB : wr.cell? ⟨aY, 2, none⟩ = some (.slice cM bX.length cL) := (blk_cell aB.out 2).trans rfl
        have rI := blk_frozen aB.out 0
        have rJ := blk_frozen aB.out 1
        have rK := blk_frozen aB.out 2
        try go_wp2
        have n_ := o2_ (Kd.Q_drew aC.out) (o2_ (Kd.V_drew aD.out) (o2_ (Kd.V_drew aA.out) (o2_ (blk_drew aB.out) (o2_ (blk_drew aJ.out) (o2_ (blk_drew aH.out) (o2_ (blk_drew aI.out) (o2_ (blk_drew aL.out) (o2_ (blk_drew aK.out) (o1_ (below_drew1 HB.out))))))))))
        clear aC aD aA aB aJ aH aI aL aK HB
        obtain ⟨aC, aD, aA, aB, aJ, aH, aI, aL, aK, HB⟩ := n_
        refine start_ (n := 26) (S := fun w' => True) (ds := []) #[false, false, false, false, false, false, false, false, false, false, false, false, false, false, false, false, false, false, false, false, false, false, false, false, false, false] oK rfl rfl trivial (fun hHeld => ?_); refine with_tabW laws_FnOpFlip.tab18 laws_FnOpFlip.bits18 (fun HT_ HW_ => ?_)
        generalize wr.drew = yA at aC aD aA aB aJ aH aI aL aK HB hHeld ⊢
        refine inv_at [0, 1, 2, 3, 4, 5, 6, 7, 8, 9, 10, 11, 12, 13, 14, 15, 16, 17, 18, 19, 20, 21, 22, 23, 24, 25] (fun a0_ b a w' => ∃ (bO : Value) (bR : Value) (bP : Value) (bS : Value) (bL : Value) (bQ : Value) (bK : Value) (bT : Value) (cU : Value) (cC : Value) (cD : Value) (cE : Value), a = putSel a0_ b [(0, 78, .agg #[.int .i64 cP, .int .i64 cQ, .slice dB cK.length dD]), (1, 79, .agg #[.int .i64 2, .int .i64 0, .int .i64 0, .int .i64 0, .int .i64 0]), (2, 80, bO), (3, 81, cU), (4, 82, .agg #[.int .i64 bY, .int .i64 bZ, .slice cM bX.length cL]), (5, 83, .bool true), (6, 84, .bool true), (7, 85, .agg #[.int .i64 cF, .int .i64 cG, .slice dE cB.length dI]), (8, 86, .agg #[.int .i64 3, .int .i64 0, .int .i64 0, .int .i64 0, .int .i64 0]), (9, 87, bP), (10, 88, cC), (11, 89, .agg #[.int .i64 bY, .int .i64 bZ, .slice cM bX.length cL]), (12, 90, .bool true), (13, 91, .bool true), (14, 92, .bool true), (15, 93, .agg #[.int .i64 cP, .int .i64 cQ, .slice dB cK.length dD]), (16, 94, .agg #[.int .i64 3, .int .i64 0, .int .i64 0, .int .i64 0, .int .i64 0]), (17, 95, bL), (18, 96, cD), (19, 97, .agg #[.int .i64 cF, .int .i64 cG, .slice dE cB.length dI]), (20, 98, .agg #[.int .i64 2, .int .i64 0, .int .i64 0, .int .i64 0, .int .i64 0]), (21, 99, bK), (22, 100, cE), (23, 101, .bool cT), (24, 102, .bool cT), (25, 2, .bool cT)] ∧ (Kd.V k38 38 w' w.heap.size (fun k_ => k_ ≠ aY ∧ k_ ≠ bI ∧ k_ ≠ aX ∧ k_ ≠ aZ ∧ k_ ≠ bU ∧ k_ ≠ bF) (.slice dE cB.length dI) cB) ∧ (Kd.Q k38 38 w' w.heap.size (fun _ => True) (.slice cM bX.length cL) bX) ∧ (Kd.V k38 38 w' w.heap.size (fun k_ => k_ ≠ aY ∧ k_ ≠ bI ∧ k_ ≠ aX ∧ k_ ≠ aZ ∧ k_ ≠ bU ∧ k_ ≠ bF) (.slice dB cK.length dD) cK) ∧ (w'.heap[bF]? = some (.cells #[.int .i64 cF, .int .i64 cG, .slice dE cB.length dI] 25 (0, 0))) ∧ (w'.heap[aY]? = some (.cells #[.int .i64 bY, .int .i64 bZ, .slice cM bX.length cL] 25 (0, 0))) ∧ (w'.heap[bI]? = some (.cells #[.int .i64 dX, .int .i64 dY, .int .i64 dZ, .int .i64 eA, .int .i64 eB] 27 (0, 0))) ∧ (w'.heap[aX]? = some (.cells #[.int .i64 2, .int .i64 0, .int .i64 0, .int .i64 0, .int .i64 0] 27 (0, 0))) ∧ (w'.heap[aZ]? = some (.cells #[.int .i64 3, .int .i64 0, .int .i64 0, .int .i64 0, .int .i64 0] 27 (0, 0))) ∧ (w'.heap[bU]? = some (.cells #[.int .i64 cP, .int .i64 cQ, .slice dB cK.length dD] 25 (0, 0))) ∧ (Below w.heap.size w w') ∧ (b 2 = true → Kd.R k27 27 w' w.heap.size (fun k_ => k_ ≠ bI ∧ k_ ≠ aX ∧ k_ ≠ aZ) bO y1024) ∧ (b 3 = true → Kd.V k38 38 w' w.heap.size (fun k_ => k_ ≠ aY ∧ k_ ≠ bI ∧ k_ ≠ aX ∧ k_ ≠ aZ ∧ k_ ≠ bU ∧ k_ ≠ bF) bR eZ) ∧ (b 9 = true → Kd.R k27 27 w' w.heap.size (fun k_ => k_ ≠ bI ∧ k_ ≠ aX ∧ k_ ≠ aZ) bP y1033) ∧ (b 10 = true → Kd.V k38 38 w' w.heap.size (fun k_ => k_ ≠ aY ∧ k_ ≠ bI ∧ k_ ≠ aX ∧ k_ ≠ aZ ∧ k_ ≠ bU ∧ k_ ≠ bF) bS fD) ∧ (b 17 = true → Kd.R k27 27 w' w.heap.size (fun k_ => k_ ≠ bI ∧ k_ ≠ aX ∧ k_ ≠ aZ) bL y1042) ∧ (b 18 = true → Kd.V k38 38 w' w.heap.size (fun k_ => k_ ≠ aY ∧ k_ ≠ bI ∧ k_ ≠ aX ∧ k_ ≠ aZ ∧ k_ ≠ bU ∧ k_ ≠ bF) bQ eG) ∧ (b 21 = true → Kd.R k27 27 w' w.heap.size (fun k_ => k_ ≠ bI ∧ k_ ≠ aX ∧ k_ ≠ aZ) bK y1050) ∧ (b 22 = true → Kd.V k38 38 w' w.heap.size (fun k_ => k_ ≠ aY ∧ k_ ≠ bI ∧ k_ ≠ aX ∧ k_ ≠ aZ ∧ k_ ≠ bU ∧ k_ ≠ bF) bT fG) ∧ (b 3 = true → (cU : Value) = .agg #[.int .i64 eX, .int .i64 eY, bR]) ∧ (b 10 = true → (cC : Value) = .agg #[.int .i64 fB, .int .i64 fC, bS]) ∧ (b 18 = true → (cD : Value) = .agg #[.int .i64 eI, .int .i64 eJ, bQ]) ∧ (b 22 = true → (cE : Value) = .agg #[.int .i64 fE, .int .i64 fF, bT])) HT_.out HW_.out oK oK ?_ ?_ ?_
        ·exact ⟨.bool false, .bool false, .bool false, .bool false, .bool false, .bool false, .bool false, .bool false, .bool false, .bool false, .bool false, .bool false, by simp only [putSel, Bool.false_eq_true, if_false], aA.out, aC.out, aD.out, aK.out, aB.out, aJ.out, aH.out, aI.out, aL.out, HB.out, fun h_ => absurd h_ oD, fun h_ => absurd h_ oD, fun h_ => absurd h_ oD, fun h_ => absurd h_ oD, fun h_ => absurd h_ oD, fun h_ => absurd h_ oD, fun h_ => absurd h_ oD, fun h_ => absurd h_ oD, fun h_ => absurd h_ oD, fun h_ => absurd h_ oD, fun h_ => absurd h_ oD, fun h_ => absurd h_ oD⟩
        ·skip
         clear aK aB aJ aH aI aL HB aA aC aD
         refine steps_cons ?_ ?_
         ·rintro b a w' ⟨bO, bR, bP, bS, bL, bQ, bK, bT, cU, cC, cD, cE, ha, aE, aF, aG, aM, aP, aQ, aR, aS, aT, Q_HB, aN, aO, aU, aV, bD, bE, bC, bH, bV, bN, bW, cA⟩ hb_ hon hoff
          refine ⟨_, rfl, fun K hK => ?_⟩
          have e7 : a.tmps[7]? = some (.pointer (some ⟨bU, 0, none⟩)) := by rw [ha]; exact (putSel_off rfl).trans rfl
          replace ha := Aside0.mk ha
          obtain ⟨aA, aC, aD, aK, aB, aJ, aH, aI, aL, HB⟩ := o2_ aE (o2_ aF (o2_ aG (o2_ aM (o2_ aP (o2_ aQ (o2_ aR (o2_ aS (o2_ aT (o1_ Q_HB)))))))))
          have eP : w'.cell? ⟨bU, 0, none⟩ = some (.int .i64 cP) := (blk_cell aL.out 0).trans rfl
          have eQ : w'.cell? ⟨bU, 1, none⟩ = some (.int .i64 cQ) := (blk_cell aL.out 1).trans rfl
          have eR : w'.cell? ⟨bU, 2, none⟩ = some (.slice dB cK.length dD) := (blk_cell aL.out 2).trans rfl
          refine value_ (w1 := w') (v := .agg #[.int .i64 cP, .int .i64 cQ, .slice dB cK.length dD]) (by rfl) rfl ?_ ?_
          ·go_simp
           (try simp only [i64_w])
           try rfl
          refine hK.out _ _ ⟨bO, bR, bP, bS, bL, bQ, bK, bT, cU, cC, cD, cE, (by rw [ha.out]; exact putSel_upk 0 hb_ rfl rfl rfl), aE, aF, aG, aM, aP, aQ, aR, aS, aT, Q_HB, aN, oF (hoff 3 oK), oF (hoff 9 oK), oF (hoff 10 oK), oF (hoff 17 oK), oF (hoff 18 oK), oF (hoff 21 oK), oF (hoff 22 oK), oF (hoff 3 oK), oF (hoff 10 oK), oF (hoff 18 oK), oF (hoff 22 oK)⟩
         refine steps_cons ?_ ?_
         ·rintro b a w' ⟨bO, bR, bP, bS, bL, bQ, bK, bT, cU, cC, cD, cE, ha, aE, aF, aG, aM, aP, aQ, aR, aS, aT, Q_HB, aN, aO, aU, aV, bD, bE, bC, bH, bV, bN, bW, cA⟩ hb_ hon hoff
          refine ⟨_, rfl, fun K hK => ?_⟩
          have e5 : a.tmps[5]? = some (.pointer (some ⟨aX, 0, none⟩)) := by rw [ha]; exact (putSel_off rfl).trans rfl
          replace ha := Aside0.mk ha
          obtain ⟨aA, aC, aD, aK, aB, aJ, aH, aI, aL, HB⟩ := o2_ aE (o2_ aF (o2_ aG (o2_ aM (o2_ aP (o2_ aQ (o2_ aR (o2_ aS (o2_ aT (o1_ Q_HB)))))))))
          have eP : w'.cell? ⟨aX, 0, none⟩ = some (.int .i64 2) := (blk_cell aH.out 0).trans rfl
          have eQ : w'.cell? ⟨aX, 1, none⟩ = some (.int .i64 0) := (blk_cell aH.out 1).trans rfl
          have eR : w'.cell? ⟨aX, 2, none⟩ = some (.int .i64 0) := (blk_cell aH.out 2).trans rfl
          have mK : w'.cell? ⟨aX, 3, none⟩ = some (.int .i64 0) := (blk_cell aH.out 3).trans rfl
          have mL : w'.cell? ⟨aX, 4, none⟩ = some (.int .i64 0) := (blk_cell aH.out 4).trans rfl
          refine value_ (w1 := w') (v := .agg #[.int .i64 2, .int .i64 0, .int .i64 0, .int .i64 0, .int .i64 0]) (by rfl) rfl ?_ ?_
          ·go_simp
           (try simp only [i64_w])
           try rfl
          refine hK.out _ _ ⟨bO, bR, bP, bS, bL, bQ, bK, bT, cU, cC, cD, cE, (by rw [ha.out]; exact putSel_upk 1 hb_ rfl rfl rfl), aE, aF, aG, aM, aP, aQ, aR, aS, aT, Q_HB, oF (hoff 2 oK), oF (hoff 3 oK), oF (hoff 9 oK), oF (hoff 10 oK), oF (hoff 17 oK), oF (hoff 18 oK), oF (hoff 21 oK), oF (hoff 22 oK), oF (hoff 3 oK), oF (hoff 10 oK), oF (hoff 18 oK), oF (hoff 22 oK)⟩
         refine steps_cons ?_ ?_
         ·rintro b a w' ⟨bO, bR, bP, bS, bL, bQ, bK, bT, cU, cC, cD, cE, ha, aE, aF, aG, aM, aP, aQ, aR, aS, aT, Q_HB, aN, aO, aU, aV, bD, bE, bC, bH, bV, bN, bW, cA⟩ hb_ hon hoff
          refine ⟨_, rfl, fun K hK => ?_⟩
          have xK : a.tmps[79]? = some (.agg #[.int .i64 2, .int .i64 0, .int .i64 0, .int .i64 0, .int .i64 0]) := by rw [ha]; exact putSel_on (e := (1, 79, .agg #[.int .i64 2, .int .i64 0, .int .i64 0, .int .i64 0, .int .i64 0])) 1 rfl rfl (hon 1 oK) rfl
          replace ha := Aside0.mk ha
          obtain ⟨aA, aC, aD, aK, aB, aJ, aH, aI, aL, HB⟩ := o2_ aE (o2_ aF (o2_ aG (o2_ aM (o2_ aP (o2_ aQ (o2_ aR (o2_ aS (o2_ aT (o1_ Q_HB)))))))))
          refine Kd.R_lit_step k27 _ 27 ?hg (N := 80) ?hd (xs := ([(⟨2, 0, 0, 0, 0⟩ : S27)] : List (S27))) (inner := [.int .i64 2, .int .i64 0, .int .i64 0, .int .i64 0, .int .i64 0]) (ok := fun _ => True) (okp := fun _ => True) ?hr ?hp (fun _ hk => hk) trivial (Below.refl _ _) (Nat.le_refl _) (by simp) ?_; (case hd => rfl); (case hg => first | rfl | exact wanted_on rfl rfl rfl (by assumption)); (case hr => first | (go_simp; done) | (go_simp; rfl)); (case hp => exact (Reps.c5 (show Kd.M k27 _ _ _ (⟨2, 0, 0, 0, 0⟩ : S27) [.int .i64 2, .int .i64 0, .int .i64 0, .int .i64 0, .int .i64 0] from (k27_mkM _ _ _ (⟨2, 0, 0, 0, 0⟩ : S27) )) (Reps.none _ _)))
          intro bO wZ ho101 hb hg_ hnew_
          clear hg_ hnew_
          (first | rw [← jP.out] at ho101 | (simp only [Int.reduceToNat] at ho101; rw [← jP.out] at ho101))
          have n_ := o2_ (Kd.Q_below aC.out hb) (o2_ (Kd.V_elder' aD.out (Kd.R_base ho101) hb) (o2_ (Kd.V_elder' aA.out (Kd.R_base ho101) hb) (o2_ (Kd.R_lower (Kd.R_newB (Kd.R_newB (Kd.R_newB ho101 aJ.out) aH.out) aI.out) (below_size (oB HB))) (o2_ (blk_below aB.out hb) (o2_ (blk_below aJ.out hb) (o2_ (blk_below aH.out hb) (o2_ (blk_below aI.out hb) (o2_ (blk_below aL.out hb) (o2_ (blk_below aK.out hb) (o1_ (below_step (oB HB) hb)))))))))))
          clear aC aD aA aB aJ aH aI aL aK HB
          obtain ⟨aC, aD, aA, aW, aB, aJ, aH, aI, aL, aK, HB⟩ := n_
          clear hb ho101
          refine hK.out _ _ ⟨bO, bR, bP, bS, bL, bQ, bK, bT, cU, cC, cD, cE, (by rw [ha.out]; exact putSel_upk 2 hb_ rfl rfl rfl), (by (with_reducible repeat (first | apply Kd.V_alloc | apply Kd.V_drewN | apply Kd.V_drew)); exact Kd.V_mono aA.out oY), aC.out, (by (with_reducible repeat (first | apply Kd.V_alloc | apply Kd.V_drewN | apply Kd.V_drew)); exact Kd.V_mono aD.out oY), aK.out, aB.out, aJ.out, aH.out, aI.out, aL.out, (oB HB), fun _ => (by (with_reducible repeat (first | apply Kd.R_alloc | apply Kd.R_drewN | apply Kd.R_drew)); exact Kd.R_mono aW.out oY), oF (hoff 3 oK), oF (hoff 9 oK), oF (hoff 10 oK), oF (hoff 17 oK), oF (hoff 18 oK), oF (hoff 21 oK), oF (hoff 22 oK), oF (hoff 3 oK), oF (hoff 10 oK), oF (hoff 18 oK), oF (hoff 22 oK)⟩
         refine steps_cons ?_ ?_
         ·rintro b a w' ⟨bO, bR, bP, bS, bL, bQ, bK, bT, cU, cC, cD, cE, ha, aE, aF, aG, aM, aP, aQ, aR, aS, aT, Q_HB, aN, aO, aU, aV, bD, bE, bC, bH, bV, bN, bW, cA⟩ hb_ hon hoff
          refine ⟨_, rfl, fun K hK => ?_⟩
          have tB : a.tmps[78]? = some (.agg #[.int .i64 cP, .int .i64 cQ, .slice dB cK.length dD]) := by rw [ha]; exact putSel_on (e := (0, 78, .agg #[.int .i64 cP, .int .i64 cQ, .slice dB cK.length dD])) 0 rfl rfl (hon 0 oK) rfl
          have tC : a.tmps[80]? = some (bO) := by rw [ha]; exact putSel_on (e := (2, 80, bO)) 2 rfl rfl (hon 2 oK) rfl
          replace ha := Aside0.mk ha
          obtain ⟨aA, aC, aD, aK, aB, aJ, aH, aI, aL, HB, aW⟩ := o2_ aE (o2_ aF (o2_ aG (o2_ aM (o2_ aP (o2_ aQ (o2_ aR (o2_ aS (o2_ aT (o2_ Q_HB (o1_ (aN (hon 2 oK))))))))))))
          obtain ⟨kS, lD, lL⟩ := Kd.R_slice aW.out
          (first | subst lL | (injection lL with f1_ f2_ f3_; have f4_ := f1_.symm; have f5_ := f3_.symm; clear f1_ f2_ f3_; subst f4_; subst f5_))
          refine goes_ Try.func27 oK rfl #[.agg #[.int .i64 cP, .int .i64 cQ, .slice dB cK.length dD], .slice kS y1024.length lD] (by first | rfl | exact wanted_on rfl rfl rfl (by assumption)) rfl rfl (by first | (simp only [List.map_toArray, List.map_cons, List.map_nil, Act.eval, Array.getD_eq_getD_getElem?, Option.getD_some, tB, tC]; done) | (simp only [List.map_toArray, List.map_cons, List.map_nil, Act.eval, Array.getD_eq_getD_getElem?, Option.getD_some, tB, tC]; rfl)) ?_
          with_reducible refine (laws_eaDo.calls k1 cP cQ (fun k_ => k_ ≠ aY ∧ (k_ ≠ bI ∧ (k_ ≠ aX ∧ (k_ ≠ aZ ∧ (k_ ≠ bU ∧ k_ ≠ bF))))) _ _ cK _ _ y1024 eX eY eZ _ ?side1 ?side2 ?side3 wN.out).mono ?_
          (case side1 => exact aD.out)
          (case side2 => repeat (first | exact (Kd.R_reads' aW.out).2.2 | (with_reducible refine Kd.C_alloc ?_ _) | (with_reducible refine Kd.C_drewN ?_ _) | (with_reducible refine Kd.C_drew ?_)))
          (case side3 => exact (Kd.R_reads' aW.out).2.1)
          rintro e xA ⟨bR, rfl, ho0, hb⟩
          refine ⟨_, rfl, ?_⟩
          have n_ := o2_ (Kd.Q_below aC.out hb) (o2_ (Kd.V_below aD.out hb) (o2_ (Kd.V_below aA.out hb) (o2_ (Kd.R_below aW.out hb) (o2_ (Kd.V_lower (Kd.V_mono (ok' := fun k_ => k_ ≠ aY ∧ k_ ≠ bI ∧ k_ ≠ aX ∧ k_ ≠ aZ ∧ k_ ≠ bU ∧ k_ ≠ bF) ho0 (fun k_ hk_ => ⟨Or.elim hk_ (fun hs_ => hs_.1) (fun hn_ => (Kd.freshB aB.out k_ hn_)), Or.elim hk_ (fun hs_ => hs_.2.1) (fun hn_ => (Kd.freshB aJ.out k_ hn_)), Or.elim hk_ (fun hs_ => hs_.2.2.1) (fun hn_ => (Kd.freshB aH.out k_ hn_)), Or.elim hk_ (fun hs_ => hs_.2.2.2.1) (fun hn_ => (Kd.freshB aI.out k_ hn_)), Or.elim hk_ (fun hs_ => hs_.2.2.2.2.1) (fun hn_ => (Kd.freshB aL.out k_ hn_)), Or.elim hk_ (fun hs_ => hs_.2.2.2.2.2) (fun hn_ => (Kd.freshB aK.out k_ hn_))⟩)) (below_size (oB HB))) (o2_ (blk_below aB.out hb) (o2_ (blk_below aJ.out hb) (o2_ (blk_below aH.out hb) (o2_ (blk_below aI.out hb) (o2_ (blk_below aL.out hb) (o2_ (blk_below aK.out hb) (o1_ (below_step (oB HB) hb))))))))))))
          clear aC aD aA aW aB aJ aH aI aL aK HB
          obtain ⟨aC, aD, aA, aW, bB, aB, aJ, aH, aI, aL, aK, HB⟩ := n_
          (try clear hb)
          (try clear hb2)
          (try clear hk)
          (try clear hi)
          (try clear ho0)
          refine hK.out _ _ ⟨.slice kS y1024.length lD, bR, bP, bS, bL, bQ, bK, bT, (.agg #[.int .i64 eX, .int .i64 eY, bR]), cC, cD, cE, (by rw [ha.out]; exact putSel_upk 3 hb_ rfl rfl rfl), aA.out, aC.out, aD.out, aK.out, aB.out, aJ.out, aH.out, aI.out, aL.out, (oB HB), fun _ => aW.out, fun _ => bB.out, oF (hoff 9 oK), oF (hoff 10 oK), oF (hoff 17 oK), oF (hoff 18 oK), oF (hoff 21 oK), oF (hoff 22 oK), fun _ => rfl, oF (hoff 10 oK), oF (hoff 18 oK), oF (hoff 22 oK)⟩
         refine steps_cons ?_ ?_
         ·rintro b a w' ⟨bO, bR, bP, bS, bL, bQ, bK, bT, cU, cC, cD, cE, ha, aE, aF, aG, aM, aP, aQ, aR, aS, aT, Q_HB, aN, aO, aU, aV, bD, bE, bC, bH, bV, bN, bW, cA⟩ hb_ hon hoff
          refine ⟨_, rfl, fun K hK => ?_⟩
          have e3 : a.tmps[3]? = some (.pointer (some ⟨aY, 0, none⟩)) := by rw [ha]; exact (putSel_off rfl).trans rfl
          replace ha := Aside0.mk ha
          obtain ⟨aA, aC, aD, aK, aB, aJ, aH, aI, aL, HB⟩ := o2_ aE (o2_ aF (o2_ aG (o2_ aM (o2_ aP (o2_ aQ (o2_ aR (o2_ aS (o2_ aT (o1_ Q_HB)))))))))
          have eP : w'.cell? ⟨aY, 0, none⟩ = some (.int .i64 bY) := (blk_cell aB.out 0).trans rfl
          have eQ : w'.cell? ⟨aY, 1, none⟩ = some (.int .i64 bZ) := (blk_cell aB.out 1).trans rfl
          have eR : w'.cell? ⟨aY, 2, none⟩ = some (.slice cM bX.length cL) := (blk_cell aB.out 2).trans rfl
          refine value_ (w1 := w') (v := .agg #[.int .i64 bY, .int .i64 bZ, .slice cM bX.length cL]) (by rfl) rfl ?_ ?_
          ·go_simp
           (try simp only [i64_w])
           try rfl
          refine hK.out _ _ ⟨bO, bR, bP, bS, bL, bQ, bK, bT, cU, cC, cD, cE, (by rw [ha.out]; exact putSel_upk 4 hb_ rfl rfl rfl), aE, aF, aG, aM, aP, aQ, aR, aS, aT, Q_HB, aN, aO, oF (hoff 9 oK), oF (hoff 10 oK), oF (hoff 17 oK), oF (hoff 18 oK), oF (hoff 21 oK), oF (hoff 22 oK), bV, oF (hoff 10 oK), oF (hoff 18 oK), oF (hoff 22 oK)⟩
         refine steps_cons ?_ ?_
         ·rintro b a w' ⟨bO, bR, bP, bS, bL, bQ, bK, bT, cU, cC, cD, cE, ha, aE, aF, aG, aM, aP, aQ, aR, aS, aT, Q_HB, aN, aO, aU, aV, bD, bE, bC, bH, bV, bN, bW, cA⟩ hb_ hon hoff
          refine ⟨_, rfl, fun K hK => ?_⟩
          have rT : a.tmps[81]? = some (cU) := by rw [ha]; exact putSel_on (e := (3, 81, cU)) 3 rfl rfl (hon 3 oK) rfl
          rw [bV (hon 3 oK)] at rT
          have tD : a.tmps[82]? = some (.agg #[.int .i64 bY, .int .i64 bZ, .slice cM bX.length cL]) := by rw [ha]; exact putSel_on (e := (4, 82, .agg #[.int .i64 bY, .int .i64 bZ, .slice cM bX.length cL])) 4 rfl rfl (hon 4 oK) rfl
          replace ha := Aside0.mk ha
          obtain ⟨aA, aC, aD, aK, aB, aJ, aH, aI, aL, HB, aW, bB⟩ := o2_ aE (o2_ aF (o2_ aG (o2_ aM (o2_ aP (o2_ aQ (o2_ aR (o2_ aS (o2_ aT (o2_ Q_HB (o2_ (aN (hon 2 oK)) (o1_ (aO (hon 3 oK)))))))))))))
          obtain ⟨kT, lE, lM⟩ := Kd.V_slice bB.out
          (first | subst lM | (injection lM with f1_ f2_ f3_; have f4_ := f1_.symm; have f5_ := f3_.symm; clear f1_ f2_ f3_; subst f4_; subst f5_))
          refine goes_ Try.func21 oK rfl #[.agg #[.int .i64 eX, .int .i64 eY, .slice kT eZ.length lE], .agg #[.int .i64 bY, .int .i64 bZ, .slice cM bX.length cL]] (by first | rfl | exact wanted_on rfl rfl rfl (by assumption)) rfl rfl (by first | (simp only [List.map_toArray, List.map_cons, List.map_nil, Act.eval, Array.getD_eq_getD_getElem?, Option.getD_some, rT, tD]; done) | (simp only [List.map_toArray, List.map_cons, List.map_nil, Act.eval, Array.getD_eq_getD_getElem?, Option.getD_some, rT, tD]; rfl)) ?_
          with_reducible refine (laws_eaRas.calls k1 eX eY _ _ eZ bY bZ _ _ bX true _ ?side1 ?side2 ?side3 ?side4 wO.out).mono ?_
          (case side1 => repeat (first | exact (Kd.V_reads' bB.out).2.2 | (with_reducible refine Kd.C_alloc ?_ _) | (with_reducible refine Kd.C_drewN ?_ _) | (with_reducible refine Kd.C_drew ?_)))
          (case side2 => exact (Kd.V_reads' bB.out).2.1)
          (case side3 => repeat (first | exact (Kd.Q_reads' aC.out).2.2 | (with_reducible refine Kd.C_alloc ?_ _) | (with_reducible refine Kd.C_drewN ?_ _) | (with_reducible refine Kd.C_drew ?_)))
          (case side4 => exact (Kd.Q_reads' aC.out).2.1)
          rintro e xB ⟨rfl, hb⟩
          refine ⟨_, rfl, ?_⟩
          have n_ := o2_ (Kd.Q_below aC.out hb) (o2_ (Kd.V_below aD.out hb) (o2_ (Kd.V_below aA.out hb) (o2_ (Kd.R_below aW.out hb) (o2_ (Kd.V_below bB.out hb) (o2_ (blk_below aB.out hb) (o2_ (blk_below aJ.out hb) (o2_ (blk_below aH.out hb) (o2_ (blk_below aI.out hb) (o2_ (blk_below aL.out hb) (o2_ (blk_below aK.out hb) (o1_ (below_step (oB HB) hb))))))))))))
          clear aC aD aA aW bB aB aJ aH aI aL aK HB
          obtain ⟨aC, aD, aA, aW, bB, aB, aJ, aH, aI, aL, aK, HB⟩ := n_
          (try clear hb)
          (try clear hb2)
          (try clear hk)
          (try clear hi)
          refine hK.out _ _ ⟨bO, .slice kT eZ.length lE, bP, bS, bL, bQ, bK, bT, cU, cC, cD, cE, (by rw [ha.out]; exact putSel_upk 5 hb_ rfl rfl rfl), aA.out, aC.out, aD.out, aK.out, aB.out, aJ.out, aH.out, aI.out, aL.out, (oB HB), fun _ => aW.out, fun _ => bB.out, oF (hoff 9 oK), oF (hoff 10 oK), oF (hoff 17 oK), oF (hoff 18 oK), oF (hoff 21 oK), oF (hoff 22 oK), bV, oF (hoff 10 oK), oF (hoff 18 oK), oF (hoff 22 oK)⟩
         refine steps_cons ?_ ?_
         ·rintro b a w' ⟨bO, bR, bP, bS, bL, bQ, bK, bT, cU, cC, cD, cE, ha, aE, aF, aG, aM, aP, aQ, aR, aS, aT, Q_HB, aN, aO, aU, aV, bD, bE, bC, bH, bV, bN, bW, cA⟩ hb_ hon hoff
          refine ⟨_, rfl, fun K hK => ?_⟩
          have xL : a.tmps[83]? = some (.bool true) := by rw [ha]; exact putSel_on (e := (5, 83, .bool true)) 5 rfl rfl (hon 5 oK) rfl
          replace ha := Aside0.mk ha
          obtain ⟨aA, aC, aD, aK, aB, aJ, aH, aI, aL, HB, aW, bB⟩ := o2_ aE (o2_ aF (o2_ aG (o2_ aM (o2_ aP (o2_ aQ (o2_ aR (o2_ aS (o2_ aT (o2_ Q_HB (o2_ (aN (hon 2 oK)) (o1_ (aO (hon 3 oK)))))))))))))
          refine value_ (w1 := w') (v := .bool true) (by rfl) rfl ?_ ?_
          ·go_simp
           (try simp only [i64_w])
           try rfl
          refine hK.out _ _ ⟨bO, bR, bP, bS, bL, bQ, bK, bT, cU, cC, cD, cE, (by rw [ha.out]; exact putSel_upk 6 hb_ rfl rfl rfl), aE, aF, aG, aM, aP, aQ, aR, aS, aT, Q_HB, aN, aO, oF (hoff 9 oK), oF (hoff 10 oK), oF (hoff 17 oK), oF (hoff 18 oK), oF (hoff 21 oK), oF (hoff 22 oK), bV, oF (hoff 10 oK), oF (hoff 18 oK), oF (hoff 22 oK)⟩
         refine steps_cons ?_ ?_
         ·rintro b a w' ⟨bO, bR, bP, bS, bL, bQ, bK, bT, cU, cC, cD, cE, ha, aE, aF, aG, aM, aP, aQ, aR, aS, aT, Q_HB, aN, aO, aU, aV, bD, bE, bC, bH, bV, bN, bW, cA⟩ hb_ hon hoff
          refine ⟨_, rfl, fun K hK => ?_⟩
          have e8 : a.tmps[8]? = some (.pointer (some ⟨bF, 0, none⟩)) := by rw [ha]; exact (putSel_off rfl).trans rfl
          have jO : a.tmps[84]? = some (.bool true) := by rw [ha]; exact putSel_on (e := (6, 84, .bool true)) 6 rfl rfl (hon 6 oK) rfl
          replace ha := Aside0.mk ha
          obtain ⟨aA, aC, aD, aK, aB, aJ, aH, aI, aL, HB, aW, bB⟩ := o2_ aE (o2_ aF (o2_ aG (o2_ aM (o2_ aP (o2_ aQ (o2_ aR (o2_ aS (o2_ aT (o2_ Q_HB (o2_ (aN (hon 2 oK)) (o1_ (aO (hon 3 oK)))))))))))))
          have eP : w'.cell? ⟨bF, 0, none⟩ = some (.int .i64 cF) := (blk_cell aK.out 0).trans rfl
          have eQ : w'.cell? ⟨bF, 1, none⟩ = some (.int .i64 cG) := (blk_cell aK.out 1).trans rfl
          have eR : w'.cell? ⟨bF, 2, none⟩ = some (.slice dE cB.length dI) := (blk_cell aK.out 2).trans rfl
          refine value_ (w1 := w') (v := .agg #[.int .i64 cF, .int .i64 cG, .slice dE cB.length dI]) (wanted_on rfl rfl rfl (jO.trans (by first | rfl | (simp [*]; done)))) rfl ?_ ?_
          ·go_simp
           (try simp only [i64_w])
           try rfl
          refine hK.out _ _ ⟨bO, bR, bP, bS, bL, bQ, bK, bT, cU, cC, cD, cE, (by rw [ha.out]; exact putSel_upk 7 hb_ rfl rfl rfl), aE, aF, aG, aM, aP, aQ, aR, aS, aT, Q_HB, aN, aO, aU, oF (hoff 10 oK), oF (hoff 17 oK), oF (hoff 18 oK), oF (hoff 21 oK), oF (hoff 22 oK), bV, oF (hoff 10 oK), oF (hoff 18 oK), oF (hoff 22 oK)⟩
         refine steps_cons ?_ ?_
         ·rintro b a w' ⟨bO, bR, bP, bS, bL, bQ, bK, bT, cU, cC, cD, cE, ha, aE, aF, aG, aM, aP, aQ, aR, aS, aT, Q_HB, aN, aO, aU, aV, bD, bE, bC, bH, bV, bN, bW, cA⟩ hb_ hon hoff
          refine ⟨_, rfl, fun K hK => ?_⟩
          have e6 : a.tmps[6]? = some (.pointer (some ⟨aZ, 0, none⟩)) := by rw [ha]; exact (putSel_off rfl).trans rfl
          have jO : a.tmps[84]? = some (.bool true) := by rw [ha]; exact putSel_on (e := (6, 84, .bool true)) 6 rfl rfl (hon 6 oK) rfl
          replace ha := Aside0.mk ha
          obtain ⟨aA, aC, aD, aK, aB, aJ, aH, aI, aL, HB, aW, bB⟩ := o2_ aE (o2_ aF (o2_ aG (o2_ aM (o2_ aP (o2_ aQ (o2_ aR (o2_ aS (o2_ aT (o2_ Q_HB (o2_ (aN (hon 2 oK)) (o1_ (aO (hon 3 oK)))))))))))))
          have eP : w'.cell? ⟨aZ, 0, none⟩ = some (.int .i64 3) := (blk_cell aI.out 0).trans rfl
          have eQ : w'.cell? ⟨aZ, 1, none⟩ = some (.int .i64 0) := (blk_cell aI.out 1).trans rfl
          have eR : w'.cell? ⟨aZ, 2, none⟩ = some (.int .i64 0) := (blk_cell aI.out 2).trans rfl
          have mK : w'.cell? ⟨aZ, 3, none⟩ = some (.int .i64 0) := (blk_cell aI.out 3).trans rfl
          have mL : w'.cell? ⟨aZ, 4, none⟩ = some (.int .i64 0) := (blk_cell aI.out 4).trans rfl
          refine value_ (w1 := w') (v := .agg #[.int .i64 3, .int .i64 0, .int .i64 0, .int .i64 0, .int .i64 0]) (wanted_on rfl rfl rfl (jO.trans (by first | rfl | (simp [*]; done)))) rfl ?_ ?_
          ·go_simp
           (try simp only [i64_w])
           try rfl
          refine hK.out _ _ ⟨bO, bR, bP, bS, bL, bQ, bK, bT, cU, cC, cD, cE, (by rw [ha.out]; exact putSel_upk 8 hb_ rfl rfl rfl), aE, aF, aG, aM, aP, aQ, aR, aS, aT, Q_HB, aN, aO, oF (hoff 9 oK), oF (hoff 10 oK), oF (hoff 17 oK), oF (hoff 18 oK), oF (hoff 21 oK), oF (hoff 22 oK), bV, oF (hoff 10 oK), oF (hoff 18 oK), oF (hoff 22 oK)⟩
         refine steps_cons ?_ ?_
         ·rintro b a w' ⟨bO, bR, bP, bS, bL, bQ, bK, bT, cU, cC, cD, cE, ha, aE, aF, aG, aM, aP, aQ, aR, aS, aT, Q_HB, aN, aO, aU, aV, bD, bE, bC, bH, bV, bN, bW, cA⟩ hb_ hon hoff
          refine ⟨_, rfl, fun K hK => ?_⟩
          have xM : a.tmps[86]? = some (.agg #[.int .i64 3, .int .i64 0, .int .i64 0, .int .i64 0, .int .i64 0]) := by rw [ha]; exact putSel_on (e := (8, 86, .agg #[.int .i64 3, .int .i64 0, .int .i64 0, .int .i64 0, .int .i64 0])) 8 rfl rfl (hon 8 oK) rfl
          have jO : a.tmps[84]? = some (.bool true) := by rw [ha]; exact putSel_on (e := (6, 84, .bool true)) 6 rfl rfl (hon 6 oK) rfl
          replace ha := Aside0.mk ha
          obtain ⟨aA, aC, aD, aK, aB, aJ, aH, aI, aL, HB, aW, bB⟩ := o2_ aE (o2_ aF (o2_ aG (o2_ aM (o2_ aP (o2_ aQ (o2_ aR (o2_ aS (o2_ aT (o2_ Q_HB (o2_ (aN (hon 2 oK)) (o1_ (aO (hon 3 oK)))))))))))))
          refine Kd.R_lit_step k27 _ 27 ?hg (N := 87) ?hd (xs := ([(⟨3, 0, 0, 0, 0⟩ : S27)] : List (S27))) (inner := [.int .i64 3, .int .i64 0, .int .i64 0, .int .i64 0, .int .i64 0]) (ok := fun _ => True) (okp := fun _ => True) ?hr ?hp (fun _ hk => hk) trivial (Below.refl _ _) (Nat.le_refl _) (by simp) ?_; (case hd => rfl); (case hg => first | rfl | exact wanted_on rfl rfl rfl (by assumption)); (case hr => first | (go_simp; done) | (go_simp; rfl)); (case hp => exact (Reps.c5 (show Kd.M k27 _ _ _ (⟨3, 0, 0, 0, 0⟩ : S27) [.int .i64 3, .int .i64 0, .int .i64 0, .int .i64 0, .int .i64 0] from (k27_mkM _ _ _ (⟨3, 0, 0, 0, 0⟩ : S27) )) (Reps.none _ _)))
          intro bP xC ho108 hb hg_ hnew_
          clear hg_ hnew_
          (first | rw [← jQ.out] at ho108 | (simp only [Int.reduceToNat] at ho108; rw [← jQ.out] at ho108))
          have n_ := o2_ (Kd.Q_below aC.out hb) (o2_ (Kd.V_elder' aD.out (Kd.R_base ho108) hb) (o2_ (Kd.V_elder' aA.out (Kd.R_base ho108) hb) (o2_ (Kd.R_elder' aW.out (Kd.R_base ho108) hb) (o2_ (Kd.V_elder' bB.out (Kd.R_base ho108) hb) (o2_ (Kd.R_lower (Kd.R_newB (Kd.R_newB (Kd.R_newB (Kd.R_new' ho108 (Kd.R_lt aW.out)) aJ.out) aH.out) aI.out) (below_size (oB HB))) (o2_ (blk_below aB.out hb) (o2_ (blk_below aJ.out hb) (o2_ (blk_below aH.out hb) (o2_ (blk_below aI.out hb) (o2_ (blk_below aL.out hb) (o2_ (blk_below aK.out hb) (o1_ (below_step (oB HB) hb)))))))))))))
          clear aC aD aA aW bB aB aJ aH aI aL aK HB
          obtain ⟨aC, aD, aA, aW, bB, bG, aB, aJ, aH, aI, aL, aK, HB⟩ := n_
          clear hb ho108
          refine hK.out _ _ ⟨bO, bR, bP, bS, bL, bQ, bK, bT, cU, cC, cD, cE, (by rw [ha.out]; exact putSel_upk 9 hb_ rfl rfl rfl), (by (with_reducible repeat (first | apply Kd.V_alloc | apply Kd.V_drewN | apply Kd.V_drew)); exact Kd.V_mono aA.out oY), aC.out, (by (with_reducible repeat (first | apply Kd.V_alloc | apply Kd.V_drewN | apply Kd.V_drew)); exact Kd.V_mono aD.out oY), aK.out, aB.out, aJ.out, aH.out, aI.out, aL.out, (oB HB), fun _ => (by (with_reducible repeat (first | apply Kd.R_alloc | apply Kd.R_drewN | apply Kd.R_drew)); exact Kd.R_mono aW.out oY), fun _ => (by (with_reducible repeat (first | apply Kd.V_alloc | apply Kd.V_drewN | apply Kd.V_drew)); exact Kd.V_mono bB.out oY), fun _ => (by (with_reducible repeat (first | apply Kd.R_alloc | apply Kd.R_drewN | apply Kd.R_drew)); exact Kd.R_mono bG.out oY), oF (hoff 10 oK), oF (hoff 17 oK), oF (hoff 18 oK), oF (hoff 21 oK), oF (hoff 22 oK), bV, oF (hoff 10 oK), oF (hoff 18 oK), oF (hoff 22 oK)⟩
         refine steps_cons ?_ ?_
         ·rintro b a w' ⟨bO, bR, bP, bS, bL, bQ, bK, bT, cU, cC, cD, cE, ha, aE, aF, aG, aM, aP, aQ, aR, aS, aT, Q_HB, aN, aO, aU, aV, bD, bE, bC, bH, bV, bN, bW, cA⟩ hb_ hon hoff
          refine ⟨_, rfl, fun K hK => ?_⟩
          have tE : a.tmps[85]? = some (.agg #[.int .i64 cF, .int .i64 cG, .slice dE cB.length dI]) := by rw [ha]; exact putSel_on (e := (7, 85, .agg #[.int .i64 cF, .int .i64 cG, .slice dE cB.length dI])) 7 rfl rfl (hon 7 oK) rfl
          have tF : a.tmps[87]? = some (bP) := by rw [ha]; exact putSel_on (e := (9, 87, bP)) 9 rfl rfl (hon 9 oK) rfl
          have jO : a.tmps[84]? = some (.bool true) := by rw [ha]; exact putSel_on (e := (6, 84, .bool true)) 6 rfl rfl (hon 6 oK) rfl
          replace ha := Aside0.mk ha
          obtain ⟨aA, aC, aD, aK, aB, aJ, aH, aI, aL, HB, aW, bB, bG⟩ := o2_ aE (o2_ aF (o2_ aG (o2_ aM (o2_ aP (o2_ aQ (o2_ aR (o2_ aS (o2_ aT (o2_ Q_HB (o2_ (aN (hon 2 oK)) (o2_ (aO (hon 3 oK)) (o1_ (aU (hon 9 oK))))))))))))))
          obtain ⟨kU, lF, lN⟩ := Kd.R_slice bG.out
          (first | subst lN | (injection lN with f1_ f2_ f3_; have f4_ := f1_.symm; have f5_ := f3_.symm; clear f1_ f2_ f3_; subst f4_; subst f5_))
          refine goes_ Try.func27 oK rfl #[.agg #[.int .i64 cF, .int .i64 cG, .slice dE cB.length dI], .slice kU y1033.length lF] (by first | rfl | exact wanted_on rfl rfl rfl (by assumption)) rfl rfl (by first | (simp only [List.map_toArray, List.map_cons, List.map_nil, Act.eval, Array.getD_eq_getD_getElem?, Option.getD_some, tE, tF, jO]; done) | (simp only [List.map_toArray, List.map_cons, List.map_nil, Act.eval, Array.getD_eq_getD_getElem?, Option.getD_some, tE, tF, jO]; rfl)) ?_
          with_reducible refine (laws_eaDo.calls k1 cF cG (fun k_ => k_ ≠ aY ∧ (k_ ≠ bI ∧ (k_ ≠ aX ∧ (k_ ≠ aZ ∧ (k_ ≠ bU ∧ k_ ≠ bF))))) _ _ cB _ _ y1033 fB fC fD _ ?side1 ?side2 ?side3 wP.out).mono ?_
          (case side1 => exact aA.out)
          (case side2 => repeat (first | exact (Kd.R_reads' bG.out).2.2 | (with_reducible refine Kd.C_alloc ?_ _) | (with_reducible refine Kd.C_drewN ?_ _) | (with_reducible refine Kd.C_drew ?_)))
          (case side3 => exact (Kd.R_reads' bG.out).2.1)
          rintro e xD ⟨bS, rfl, ho0, hb⟩
          refine ⟨_, rfl, ?_⟩
          have n_ := o2_ (Kd.Q_below aC.out hb) (o2_ (Kd.V_below aD.out hb) (o2_ (Kd.V_below aA.out hb) (o2_ (Kd.R_below aW.out hb) (o2_ (Kd.V_below bB.out hb) (o2_ (Kd.R_below bG.out hb) (o2_ (Kd.V_lower (Kd.V_mono (ok' := fun k_ => k_ ≠ aY ∧ k_ ≠ bI ∧ k_ ≠ aX ∧ k_ ≠ aZ ∧ k_ ≠ bU ∧ k_ ≠ bF) ho0 (fun k_ hk_ => ⟨Or.elim hk_ (fun hs_ => hs_.1) (fun hn_ => (Kd.freshB aB.out k_ hn_)), Or.elim hk_ (fun hs_ => hs_.2.1) (fun hn_ => (Kd.freshB aJ.out k_ hn_)), Or.elim hk_ (fun hs_ => hs_.2.2.1) (fun hn_ => (Kd.freshB aH.out k_ hn_)), Or.elim hk_ (fun hs_ => hs_.2.2.2.1) (fun hn_ => (Kd.freshB aI.out k_ hn_)), Or.elim hk_ (fun hs_ => hs_.2.2.2.2.1) (fun hn_ => (Kd.freshB aL.out k_ hn_)), Or.elim hk_ (fun hs_ => hs_.2.2.2.2.2) (fun hn_ => (Kd.freshB aK.out k_ hn_))⟩)) (below_size (oB HB))) (o2_ (blk_below aB.out hb) (o2_ (blk_below aJ.out hb) (o2_ (blk_below aH.out hb) (o2_ (blk_below aI.out hb) (o2_ (blk_below aL.out hb) (o2_ (blk_below aK.out hb) (o1_ (below_step (oB HB) hb))))))))))))))
          clear aC aD aA aW bB bG aB aJ aH aI aL aK HB
          obtain ⟨aC, aD, aA, aW, bB, bG, bM, aB, aJ, aH, aI, aL, aK, HB⟩ := n_
          (try clear hb)
          (try clear hb2)
          (try clear hk)
          (try clear hi)
          (try clear ho0)
          refine hK.out _ _ ⟨bO, bR, .slice kU y1033.length lF, bS, bL, bQ, bK, bT, cU, (.agg #[.int .i64 fB, .int .i64 fC, bS]), cD, cE, (by rw [ha.out]; exact putSel_upk 10 hb_ rfl rfl rfl), aA.out, aC.out, aD.out, aK.out, aB.out, aJ.out, aH.out, aI.out, aL.out, (oB HB), fun _ => aW.out, fun _ => bB.out, fun _ => bG.out, fun _ => bM.out, oF (hoff 17 oK), oF (hoff 18 oK), oF (hoff 21 oK), oF (hoff 22 oK), bV, fun _ => rfl, oF (hoff 18 oK), oF (hoff 22 oK)⟩
         refine steps_cons ?_ ?_
         ·rintro b a w' ⟨bO, bR, bP, bS, bL, bQ, bK, bT, cU, cC, cD, cE, ha, aE, aF, aG, aM, aP, aQ, aR, aS, aT, Q_HB, aN, aO, aU, aV, bD, bE, bC, bH, bV, bN, bW, cA⟩ hb_ hon hoff
          refine ⟨_, rfl, fun K hK => ?_⟩
          have e3 : a.tmps[3]? = some (.pointer (some ⟨aY, 0, none⟩)) := by rw [ha]; exact (putSel_off rfl).trans rfl
          have jO : a.tmps[84]? = some (.bool true) := by rw [ha]; exact putSel_on (e := (6, 84, .bool true)) 6 rfl rfl (hon 6 oK) rfl
          replace ha := Aside0.mk ha
          obtain ⟨aA, aC, aD, aK, aB, aJ, aH, aI, aL, HB, aW, bB⟩ := o2_ aE (o2_ aF (o2_ aG (o2_ aM (o2_ aP (o2_ aQ (o2_ aR (o2_ aS (o2_ aT (o2_ Q_HB (o2_ (aN (hon 2 oK)) (o1_ (aO (hon 3 oK)))))))))))))
          have eP : w'.cell? ⟨aY, 0, none⟩ = some (.int .i64 bY) := (blk_cell aB.out 0).trans rfl
          have eQ : w'.cell? ⟨aY, 1, none⟩ = some (.int .i64 bZ) := (blk_cell aB.out 1).trans rfl
          have eR : w'.cell? ⟨aY, 2, none⟩ = some (.slice cM bX.length cL) := (blk_cell aB.out 2).trans rfl
          refine value_ (w1 := w') (v := .agg #[.int .i64 bY, .int .i64 bZ, .slice cM bX.length cL]) (wanted_on rfl rfl rfl (jO.trans (by first | rfl | (simp [*]; done)))) rfl ?_ ?_
          ·go_simp
           (try simp only [i64_w])
           try rfl
          refine hK.out _ _ ⟨bO, bR, bP, bS, bL, bQ, bK, bT, cU, cC, cD, cE, (by rw [ha.out]; exact putSel_upk 11 hb_ rfl rfl rfl), aE, aF, aG, aM, aP, aQ, aR, aS, aT, Q_HB, aN, aO, aU, aV, oF (hoff 17 oK), oF (hoff 18 oK), oF (hoff 21 oK), oF (hoff 22 oK), bV, bN, oF (hoff 18 oK), oF (hoff 22 oK)⟩
         refine steps_cons ?_ ?_
         ·rintro b a w' ⟨bO, bR, bP, bS, bL, bQ, bK, bT, cU, cC, cD, cE, ha, aE, aF, aG, aM, aP, aQ, aR, aS, aT, Q_HB, aN, aO, aU, aV, bD, bE, bC, bH, bV, bN, bW, cA⟩ hb_ hon hoff
          refine ⟨_, rfl, fun K hK => ?_⟩
          have rU : a.tmps[88]? = some (cC) := by rw [ha]; exact putSel_on (e := (10, 88, cC)) 10 rfl rfl (hon 10 oK) rfl
          rw [bN (hon 10 oK)] at rU
          have tG : a.tmps[89]? = some (.agg #[.int .i64 bY, .int .i64 bZ, .slice cM bX.length cL]) := by rw [ha]; exact putSel_on (e := (11, 89, .agg #[.int .i64 bY, .int .i64 bZ, .slice cM bX.length cL])) 11 rfl rfl (hon 11 oK) rfl
          have jO : a.tmps[84]? = some (.bool true) := by rw [ha]; exact putSel_on (e := (6, 84, .bool true)) 6 rfl rfl (hon 6 oK) rfl
          replace ha := Aside0.mk ha
          obtain ⟨aA, aC, aD, aK, aB, aJ, aH, aI, aL, HB, aW, bB, bG, bM⟩ := o2_ aE (o2_ aF (o2_ aG (o2_ aM (o2_ aP (o2_ aQ (o2_ aR (o2_ aS (o2_ aT (o2_ Q_HB (o2_ (aN (hon 2 oK)) (o2_ (aO (hon 3 oK)) (o2_ (aU (hon 9 oK)) (o1_ (aV (hon 10 oK)))))))))))))))
          obtain ⟨kV, lG, lO⟩ := Kd.V_slice bM.out
          (first | subst lO | (injection lO with f1_ f2_ f3_; have f4_ := f1_.symm; have f5_ := f3_.symm; clear f1_ f2_ f3_; subst f4_; subst f5_))
          refine goes_ Try.func21 oK rfl #[.agg #[.int .i64 fB, .int .i64 fC, .slice kV fD.length lG], .agg #[.int .i64 bY, .int .i64 bZ, .slice cM bX.length cL]] (by first | rfl | exact wanted_on rfl rfl rfl (by assumption)) rfl rfl (by first | (simp only [List.map_toArray, List.map_cons, List.map_nil, Act.eval, Array.getD_eq_getD_getElem?, Option.getD_some, rU, tG, jO]; done) | (simp only [List.map_toArray, List.map_cons, List.map_nil, Act.eval, Array.getD_eq_getD_getElem?, Option.getD_some, rU, tG, jO]; rfl)) ?_
          with_reducible refine (laws_eaRas.calls k1 fB fC _ _ fD bY bZ _ _ bX true _ ?side1 ?side2 ?side3 ?side4 wQ.out).mono ?_
          (case side1 => repeat (first | exact (Kd.V_reads' bM.out).2.2 | (with_reducible refine Kd.C_alloc ?_ _) | (with_reducible refine Kd.C_drewN ?_ _) | (with_reducible refine Kd.C_drew ?_)))
          (case side2 => exact (Kd.V_reads' bM.out).2.1)
          (case side3 => repeat (first | exact (Kd.Q_reads' aC.out).2.2 | (with_reducible refine Kd.C_alloc ?_ _) | (with_reducible refine Kd.C_drewN ?_ _) | (with_reducible refine Kd.C_drew ?_)))
          (case side4 => exact (Kd.Q_reads' aC.out).2.1)
          rintro e xE ⟨rfl, hb⟩
          refine ⟨_, rfl, ?_⟩
          have n_ := o2_ (Kd.Q_below aC.out hb) (o2_ (Kd.V_below aD.out hb) (o2_ (Kd.V_below aA.out hb) (o2_ (Kd.R_below aW.out hb) (o2_ (Kd.V_below bB.out hb) (o2_ (Kd.R_below bG.out hb) (o2_ (Kd.V_below bM.out hb) (o2_ (blk_below aB.out hb) (o2_ (blk_below aJ.out hb) (o2_ (blk_below aH.out hb) (o2_ (blk_below aI.out hb) (o2_ (blk_below aL.out hb) (o2_ (blk_below aK.out hb) (o1_ (below_step (oB HB) hb))))))))))))))
          clear aC aD aA aW bB bG bM aB aJ aH aI aL aK HB
          obtain ⟨aC, aD, aA, aW, bB, bG, bM, aB, aJ, aH, aI, aL, aK, HB⟩ := n_
          (try clear hb)
          (try clear hb2)
          (try clear hk)
          (try clear hi)
          refine hK.out _ _ ⟨bO, bR, bP, .slice kV fD.length lG, bL, bQ, bK, bT, cU, cC, cD, cE, (by rw [ha.out]; exact putSel_upk 12 hb_ rfl rfl rfl), aA.out, aC.out, aD.out, aK.out, aB.out, aJ.out, aH.out, aI.out, aL.out, (oB HB), fun _ => aW.out, fun _ => bB.out, fun _ => bG.out, fun _ => bM.out, oF (hoff 17 oK), oF (hoff 18 oK), oF (hoff 21 oK), oF (hoff 22 oK), bV, bN, oF (hoff 18 oK), oF (hoff 22 oK)⟩
         refine steps_cons ?_ ?_
         ·rintro b a w' ⟨bO, bR, bP, bS, bL, bQ, bK, bT, cU, cC, cD, cE, ha, aE, aF, aG, aM, aP, aQ, aR, aS, aT, Q_HB, aN, aO, aU, aV, bD, bE, bC, bH, bV, bN, bW, cA⟩ hb_ hon hoff
          refine ⟨_, rfl, fun K hK => ?_⟩
          have jO : a.tmps[84]? = some (.bool true) := by rw [ha]; exact putSel_on (e := (6, 84, .bool true)) 6 rfl rfl (hon 6 oK) rfl
          have xN : a.tmps[90]? = some (.bool true) := by rw [ha]; exact putSel_on (e := (12, 90, .bool true)) 12 rfl rfl (hon 12 oK) rfl
          replace ha := Aside0.mk ha
          obtain ⟨aA, aC, aD, aK, aB, aJ, aH, aI, aL, HB, aW, bB, bG, bM⟩ := o2_ aE (o2_ aF (o2_ aG (o2_ aM (o2_ aP (o2_ aQ (o2_ aR (o2_ aS (o2_ aT (o2_ Q_HB (o2_ (aN (hon 2 oK)) (o2_ (aO (hon 3 oK)) (o2_ (aU (hon 9 oK)) (o1_ (aV (hon 10 oK)))))))))))))))
          refine value_ (w1 := w') (v := .bool true) (by rfl) rfl ?_ ?_
          ·go_simp
           (try simp only [i64_w])
           try rfl
          refine hK.out _ _ ⟨bO, bR, bP, bS, bL, bQ, bK, bT, cU, cC, cD, cE, (by rw [ha.out]; exact putSel_upk 13 hb_ rfl rfl rfl), aE, aF, aG, aM, aP, aQ, aR, aS, aT, Q_HB, aN, aO, aU, aV, oF (hoff 17 oK), oF (hoff 18 oK), oF (hoff 21 oK), oF (hoff 22 oK), bV, bN, oF (hoff 18 oK), oF (hoff 22 oK)⟩
         refine steps_cons ?_ ?_
         ·rintro b a w' ⟨bO, bR, bP, bS, bL, bQ, bK, bT, cU, cC, cD, cE, ha, aE, aF, aG, aM, aP, aQ, aR, aS, aT, Q_HB, aN, aO, aU, aV, bD, bE, bC, bH, bV, bN, bW, cA⟩ hb_ hon hoff
          refine ⟨_, rfl, fun K hK => ?_⟩
          have xO : a.tmps[91]? = some (.bool true) := by rw [ha]; exact putSel_on (e := (13, 91, .bool true)) 13 rfl rfl (hon 13 oK) rfl
          replace ha := Aside0.mk ha
          obtain ⟨aA, aC, aD, aK, aB, aJ, aH, aI, aL, HB, aW, bB, bG, bM⟩ := o2_ aE (o2_ aF (o2_ aG (o2_ aM (o2_ aP (o2_ aQ (o2_ aR (o2_ aS (o2_ aT (o2_ Q_HB (o2_ (aN (hon 2 oK)) (o2_ (aO (hon 3 oK)) (o2_ (aU (hon 9 oK)) (o1_ (aV (hon 10 oK)))))))))))))))
          refine value_ (w1 := w') (v := .bool true) (by rfl) rfl ?_ ?_
          ·go_simp
           (try simp only [i64_w])
           try rfl
          refine hK.out _ _ ⟨bO, bR, bP, bS, bL, bQ, bK, bT, cU, cC, cD, cE, (by rw [ha.out]; exact putSel_upk 14 hb_ rfl rfl rfl), aE, aF, aG, aM, aP, aQ, aR, aS, aT, Q_HB, aN, aO, aU, aV, oF (hoff 17 oK), oF (hoff 18 oK), oF (hoff 21 oK), oF (hoff 22 oK), bV, bN, oF (hoff 18 oK), oF (hoff 22 oK)⟩
         refine steps_cons ?_ ?_
         ·rintro b a w' ⟨bO, bR, bP, bS, bL, bQ, bK, bT, cU, cC, cD, cE, ha, aE, aF, aG, aM, aP, aQ, aR, aS, aT, Q_HB, aN, aO, aU, aV, bD, bE, bC, bH, bV, bN, bW, cA⟩ hb_ hon hoff
          refine ⟨_, rfl, fun K hK => ?_⟩
          have e7 : a.tmps[7]? = some (.pointer (some ⟨bU, 0, none⟩)) := by rw [ha]; exact (putSel_off rfl).trans rfl
          have eO : a.tmps[92]? = some (.bool true) := by rw [ha]; exact putSel_on (e := (14, 92, .bool true)) 14 rfl rfl (hon 14 oK) rfl
          replace ha := Aside0.mk ha
          obtain ⟨aA, aC, aD, aK, aB, aJ, aH, aI, aL, HB, aW, bB, bG, bM⟩ := o2_ aE (o2_ aF (o2_ aG (o2_ aM (o2_ aP (o2_ aQ (o2_ aR (o2_ aS (o2_ aT (o2_ Q_HB (o2_ (aN (hon 2 oK)) (o2_ (aO (hon 3 oK)) (o2_ (aU (hon 9 oK)) (o1_ (aV (hon 10 oK)))))))))))))))
          have eP : w'.cell? ⟨bU, 0, none⟩ = some (.int .i64 cP) := (blk_cell aL.out 0).trans rfl
          have eQ : w'.cell? ⟨bU, 1, none⟩ = some (.int .i64 cQ) := (blk_cell aL.out 1).trans rfl
          have eR : w'.cell? ⟨bU, 2, none⟩ = some (.slice dB cK.length dD) := (blk_cell aL.out 2).trans rfl
          refine value_ (w1 := w') (v := .agg #[.int .i64 cP, .int .i64 cQ, .slice dB cK.length dD]) (wanted_on rfl rfl rfl (eO.trans (by first | rfl | (simp [*]; done)))) rfl ?_ ?_
          ·go_simp
           (try simp only [i64_w])
           try rfl
          refine hK.out _ _ ⟨bO, bR, bP, bS, bL, bQ, bK, bT, cU, cC, cD, cE, (by rw [ha.out]; exact putSel_upk 15 hb_ rfl rfl rfl), aE, aF, aG, aM, aP, aQ, aR, aS, aT, Q_HB, aN, aO, aU, aV, bD, oF (hoff 18 oK), bC, oF (hoff 22 oK), bV, bN, oF (hoff 18 oK), oF (hoff 22 oK)⟩
         refine steps_cons ?_ ?_
         ·rintro b a w' ⟨bO, bR, bP, bS, bL, bQ, bK, bT, cU, cC, cD, cE, ha, aE, aF, aG, aM, aP, aQ, aR, aS, aT, Q_HB, aN, aO, aU, aV, bD, bE, bC, bH, bV, bN, bW, cA⟩ hb_ hon hoff
          refine ⟨_, rfl, fun K hK => ?_⟩
          have e6 : a.tmps[6]? = some (.pointer (some ⟨aZ, 0, none⟩)) := by rw [ha]; exact (putSel_off rfl).trans rfl
          have eO : a.tmps[92]? = some (.bool true) := by rw [ha]; exact putSel_on (e := (14, 92, .bool true)) 14 rfl rfl (hon 14 oK) rfl
          replace ha := Aside0.mk ha
          obtain ⟨aA, aC, aD, aK, aB, aJ, aH, aI, aL, HB, aW, bB, bG, bM⟩ := o2_ aE (o2_ aF (o2_ aG (o2_ aM (o2_ aP (o2_ aQ (o2_ aR (o2_ aS (o2_ aT (o2_ Q_HB (o2_ (aN (hon 2 oK)) (o2_ (aO (hon 3 oK)) (o2_ (aU (hon 9 oK)) (o1_ (aV (hon 10 oK)))))))))))))))
          have eP : w'.cell? ⟨aZ, 0, none⟩ = some (.int .i64 3) := (blk_cell aI.out 0).trans rfl
          have eQ : w'.cell? ⟨aZ, 1, none⟩ = some (.int .i64 0) := (blk_cell aI.out 1).trans rfl
          have eR : w'.cell? ⟨aZ, 2, none⟩ = some (.int .i64 0) := (blk_cell aI.out 2).trans rfl
          have mK : w'.cell? ⟨aZ, 3, none⟩ = some (.int .i64 0) := (blk_cell aI.out 3).trans rfl
          have mL : w'.cell? ⟨aZ, 4, none⟩ = some (.int .i64 0) := (blk_cell aI.out 4).trans rfl
          refine value_ (w1 := w') (v := .agg #[.int .i64 3, .int .i64 0, .int .i64 0, .int .i64 0, .int .i64 0]) (wanted_on rfl rfl rfl (eO.trans (by first | rfl | (simp [*]; done)))) rfl ?_ ?_
          ·go_simp
           (try simp only [i64_w])
           try rfl
          refine hK.out _ _ ⟨bO, bR, bP, bS, bL, bQ, bK, bT, cU, cC, cD, cE, (by rw [ha.out]; exact putSel_upk 16 hb_ rfl rfl rfl), aE, aF, aG, aM, aP, aQ, aR, aS, aT, Q_HB, aN, aO, aU, aV, oF (hoff 17 oK), oF (hoff 18 oK), bC, oF (hoff 22 oK), bV, bN, oF (hoff 18 oK), oF (hoff 22 oK)⟩
         refine steps_cons ?_ ?_
         ·rintro b a w' ⟨bO, bR, bP, bS, bL, bQ, bK, bT, cU, cC, cD, cE, ha, aE, aF, aG, aM, aP, aQ, aR, aS, aT, Q_HB, aN, aO, aU, aV, bD, bE, bC, bH, bV, bN, bW, cA⟩ hb_ hon hoff
          refine ⟨_, rfl, fun K hK => ?_⟩
          have xP : a.tmps[94]? = some (.agg #[.int .i64 3, .int .i64 0, .int .i64 0, .int .i64 0, .int .i64 0]) := by rw [ha]; exact putSel_on (e := (16, 94, .agg #[.int .i64 3, .int .i64 0, .int .i64 0, .int .i64 0, .int .i64 0])) 16 rfl rfl (hon 16 oK) rfl
          have eO : a.tmps[92]? = some (.bool true) := by rw [ha]; exact putSel_on (e := (14, 92, .bool true)) 14 rfl rfl (hon 14 oK) rfl
          replace ha := Aside0.mk ha
          obtain ⟨aA, aC, aD, aK, aB, aJ, aH, aI, aL, HB, aW, bB, bG, bM⟩ := o2_ aE (o2_ aF (o2_ aG (o2_ aM (o2_ aP (o2_ aQ (o2_ aR (o2_ aS (o2_ aT (o2_ Q_HB (o2_ (aN (hon 2 oK)) (o2_ (aO (hon 3 oK)) (o2_ (aU (hon 9 oK)) (o1_ (aV (hon 10 oK)))))))))))))))
          refine Kd.R_lit_step k27 _ 27 ?hg (N := 95) ?hd (xs := ([(⟨3, 0, 0, 0, 0⟩ : S27)] : List (S27))) (inner := [.int .i64 3, .int .i64 0, .int .i64 0, .int .i64 0, .int .i64 0]) (ok := fun _ => True) (okp := fun _ => True) ?hr ?hp (fun _ hk => hk) trivial (Below.refl _ _) (Nat.le_refl _) (by simp) ?_; (case hd => rfl); (case hg => first | rfl | exact wanted_on rfl rfl rfl (by assumption)); (case hr => first | (go_simp; done) | (go_simp; rfl)); (case hp => exact (Reps.c5 (show Kd.M k27 _ _ _ (⟨3, 0, 0, 0, 0⟩ : S27) [.int .i64 3, .int .i64 0, .int .i64 0, .int .i64 0, .int .i64 0] from (k27_mkM _ _ _ (⟨3, 0, 0, 0, 0⟩ : S27) )) (Reps.none _ _)))
          intro bL kP ho114 hb hg_ hnew_
          clear hg_ hnew_
          (first | rw [← jR.out] at ho114 | (simp only [Int.reduceToNat] at ho114; rw [← jR.out] at ho114))
          have lT := Aside0.mk (Kd.Q_below aC.out hb)
          have lU := Aside0.mk (Kd.V_elder' aD.out (Kd.R_base ho114) hb)
          have lV := Aside0.mk (Kd.V_elder' aA.out (Kd.R_base ho114) hb)
          have lW := Aside0.mk (Kd.R_elder' aW.out (Kd.R_base ho114) hb)
          have lX := Aside0.mk (Kd.V_elder' bB.out (Kd.R_base ho114) hb)
          have lY := Aside0.mk (Kd.R_elder' bG.out (Kd.R_base ho114) hb)
          have lZ := Aside0.mk (Kd.V_elder' bM.out (Kd.R_base ho114) hb)
          have mA := Aside0.mk (Kd.R_lower (Kd.R_newB (Kd.R_newB (Kd.R_newB (Kd.R_new' (Kd.R_new' ho114 (Kd.R_lt aW.out)) (Kd.R_lt bG.out)) aJ.out) aH.out) aI.out) (below_size (oB HB)))
          have mB := Aside0.mk (blk_below aB.out hb)
          have mC := Aside0.mk (blk_below aJ.out hb)
          have eS := Aside0.mk (blk_below aH.out hb)
          have eT := Aside0.mk (blk_below aI.out hb)
          have eU := Aside0.mk (blk_below aL.out hb)
          have eV := Aside0.mk (blk_below aK.out hb)
          have eW := Aside0.mk (below_step (oB HB) hb)
          have eH := fun (h0_ : b 21 = true) => (show Kd.R k27 27 kP w.heap.size (fun k_ => k_ ≠ bI ∧ k_ ≠ aX ∧ k_ ≠ aZ) bK y1050 from by first | exact (Kd.R_elder' (uR ((bC h0_))) (Kd.R_base ho114) hb) | exact Kd.R_mono (Kd.R_elder' (uR ((bC h0_))) (Kd.R_base ho114) hb) (fun _ h_ => by first | trivial | exact h_ | exact h_.1))
          clear aC
          clear aD
          clear aA
          clear aW
          clear bB
          clear bG
          clear bM
          clear aB
          clear aJ
          clear aH
          clear aI
          clear aL
          clear aK
          clear HB
          have aC := lT
          have aD := lU
          have aA := lV
          have aW := lW
          have bB := lX
          have bG := lY
          have bM := lZ
          have cI := mA
          have aB := mB
          have aJ := mC
          have aH := eS
          have aI := eT
          have aL := eU
          have aK := eV
          have HB := eW
          clear lT lU lV lW lX lY lZ mA mB mC eS eT eU eV eW
          clear hb ho114
          refine hK.out _ _ ⟨bO, bR, bP, bS, bL, bQ, bK, bT, cU, cC, cD, cE, (by rw [ha.out]; exact putSel_upk 17 hb_ rfl rfl rfl), (by (with_reducible repeat (first | apply Kd.V_alloc | apply Kd.V_drewN | apply Kd.V_drew)); exact Kd.V_mono aA.out oY), aC.out, (by (with_reducible repeat (first | apply Kd.V_alloc | apply Kd.V_drewN | apply Kd.V_drew)); exact Kd.V_mono aD.out oY), aK.out, aB.out, aJ.out, aH.out, aI.out, aL.out, (oB HB), fun _ => (by (with_reducible repeat (first | apply Kd.R_alloc | apply Kd.R_drewN | apply Kd.R_drew)); exact Kd.R_mono aW.out oY), fun _ => (by (with_reducible repeat (first | apply Kd.V_alloc | apply Kd.V_drewN | apply Kd.V_drew)); exact Kd.V_mono bB.out oY), fun _ => (by (with_reducible repeat (first | apply Kd.R_alloc | apply Kd.R_drewN | apply Kd.R_drew)); exact Kd.R_mono bG.out oY), fun _ => (by (with_reducible repeat (first | apply Kd.V_alloc | apply Kd.V_drewN | apply Kd.V_drew)); exact Kd.V_mono bM.out oY), fun _ => (by (with_reducible repeat (first | apply Kd.R_alloc | apply Kd.R_drewN | apply Kd.R_drew)); exact Kd.R_mono cI.out oY), oF (hoff 18 oK), eH, oF (hoff 22 oK), bV, bN, oF (hoff 18 oK), oF (hoff 22 oK)⟩
         refine steps_cons ?_ ?_
         ·rintro b a w' ⟨bO, bR, bP, bS, bL, bQ, bK, bT, cU, cC, cD, cE, ha, aE, aF, aG, aM, aP, aQ, aR, aS, aT, Q_HB, aN, aO, aU, aV, bD, bE, bC, bH, bV, bN, bW, cA⟩ hb_ hon hoff
          refine ⟨_, rfl, fun K hK => ?_⟩
          have tH : a.tmps[93]? = some (.agg #[.int .i64 cP, .int .i64 cQ, .slice dB cK.length dD]) := by rw [ha]; exact putSel_on (e := (15, 93, .agg #[.int .i64 cP, .int .i64 cQ, .slice dB cK.length dD])) 15 rfl rfl (hon 15 oK) rfl
          have tI : a.tmps[95]? = some (bL) := by rw [ha]; exact putSel_on (e := (17, 95, bL)) 17 rfl rfl (hon 17 oK) rfl
          have eO : a.tmps[92]? = some (.bool true) := by rw [ha]; exact putSel_on (e := (14, 92, .bool true)) 14 rfl rfl (hon 14 oK) rfl
          replace ha := Aside0.mk ha
          obtain ⟨aA, aC, aD, aK, aB, aJ, aH, aI, aL, HB, aW, bB, bG, bM, cI⟩ := o2_ aE (o2_ aF (o2_ aG (o2_ aM (o2_ aP (o2_ aQ (o2_ aR (o2_ aS (o2_ aT (o2_ Q_HB (o2_ (aN (hon 2 oK)) (o2_ (aO (hon 3 oK)) (o2_ (aU (hon 9 oK)) (o2_ (aV (hon 10 oK)) (o1_ (bD (hon 17 oK))))))))))))))))
          obtain ⟨kW, lH, lP⟩ := Kd.R_slice cI.out
          (first | subst lP | (injection lP with f1_ f2_ f3_; have f4_ := f1_.symm; have f5_ := f3_.symm; clear f1_ f2_ f3_; subst f4_; subst f5_))
          refine goes_ Try.func27 oK rfl #[.agg #[.int .i64 cP, .int .i64 cQ, .slice dB cK.length dD], .slice kW y1042.length lH] (by first | rfl | exact wanted_on rfl rfl rfl (by assumption)) rfl rfl (by first | (simp only [List.map_toArray, List.map_cons, List.map_nil, Act.eval, Array.getD_eq_getD_getElem?, Option.getD_some, tH, tI, eO]; done) | (simp only [List.map_toArray, List.map_cons, List.map_nil, Act.eval, Array.getD_eq_getD_getElem?, Option.getD_some, tH, tI, eO]; rfl)) ?_
          with_reducible refine (laws_eaDo.calls k1 cP cQ (fun k_ => k_ ≠ aY ∧ (k_ ≠ bI ∧ (k_ ≠ aX ∧ (k_ ≠ aZ ∧ (k_ ≠ bU ∧ k_ ≠ bF))))) _ _ cK _ _ y1042 eI eJ eG _ ?side1 ?side2 ?side3 wR.out).mono ?_
          (case side1 => exact aD.out)
          (case side2 => repeat (first | exact (Kd.R_reads' cI.out).2.2 | (with_reducible refine Kd.C_alloc ?_ _) | (with_reducible refine Kd.C_drewN ?_ _) | (with_reducible refine Kd.C_drew ?_)))
          (case side3 => exact (Kd.R_reads' cI.out).2.1)
          rintro e sO ⟨bQ, rfl, ho0, hb⟩
          refine ⟨_, rfl, ?_⟩
          have lT := Aside0.mk (Kd.Q_below aC.out hb)
          have lU := Aside0.mk (Kd.V_below aD.out hb)
          have lV := Aside0.mk (Kd.V_below aA.out hb)
          have lW := Aside0.mk (Kd.R_below aW.out hb)
          have lX := Aside0.mk (Kd.V_below bB.out hb)
          have lY := Aside0.mk (Kd.R_below bG.out hb)
          have lZ := Aside0.mk (Kd.V_below bM.out hb)
          have mA := Aside0.mk (Kd.R_below cI.out hb)
          have mB := Aside0.mk (Kd.V_lower (Kd.V_mono (ok' := fun k_ => k_ ≠ aY ∧ k_ ≠ bI ∧ k_ ≠ aX ∧ k_ ≠ aZ ∧ k_ ≠ bU ∧ k_ ≠ bF) ho0 (fun k_ hk_ => ⟨Or.elim hk_ (fun hs_ => hs_.1) (fun hn_ => (Kd.freshB aB.out k_ hn_)), Or.elim hk_ (fun hs_ => hs_.2.1) (fun hn_ => (Kd.freshB aJ.out k_ hn_)), Or.elim hk_ (fun hs_ => hs_.2.2.1) (fun hn_ => (Kd.freshB aH.out k_ hn_)), Or.elim hk_ (fun hs_ => hs_.2.2.2.1) (fun hn_ => (Kd.freshB aI.out k_ hn_)), Or.elim hk_ (fun hs_ => hs_.2.2.2.2.1) (fun hn_ => (Kd.freshB aL.out k_ hn_)), Or.elim hk_ (fun hs_ => hs_.2.2.2.2.2) (fun hn_ => (Kd.freshB aK.out k_ hn_))⟩)) (below_size (oB HB)))
          have mC := Aside0.mk (blk_below aB.out hb)
          have eS := Aside0.mk (blk_below aJ.out hb)
          have eT := Aside0.mk (blk_below aH.out hb)
          have eU := Aside0.mk (blk_below aI.out hb)
          have eV := Aside0.mk (blk_below aL.out hb)
          have eW := Aside0.mk (blk_below aK.out hb)
          have qN := Aside0.mk (below_step (oB HB) hb)
          have eH := fun (h0_ : b 21 = true) => (show Kd.R k27 27 sO w.heap.size (fun k_ => k_ ≠ bI ∧ k_ ≠ aX ∧ k_ ≠ aZ) bK y1050 from by first | exact (Kd.R_below (uR ((bC h0_))) hb) | exact Kd.R_mono (Kd.R_below (uR ((bC h0_))) hb) (fun _ h_ => by first | trivial | exact h_ | exact h_.1))
          clear aC
          clear aD
          clear aA
          clear aW
          clear bB
          clear bG
          clear bM
          clear cI
          clear aB
          clear aJ
          clear aH
          clear aI
          clear aL
          clear aK
          clear HB
          have aC := lT
          have aD := lU
          have aA := lV
          have aW := lW
          have bB := lX
          have bG := lY
          have bM := lZ
          have cI := mA
          have cN := mB
          have aB := mC
          have aJ := eS
          have aH := eT
          have aI := eU
          have aL := eV
          have aK := eW
          have HB := qN
          clear lT lU lV lW lX lY lZ mA mB mC eS eT eU eV eW qN
          (try clear hb)
          (try clear hb2)
          (try clear hk)
          (try clear hi)
          (try clear ho0)
          refine hK.out _ _ ⟨bO, bR, bP, bS, .slice kW y1042.length lH, bQ, bK, bT, cU, cC, (.agg #[.int .i64 eI, .int .i64 eJ, bQ]), cE, (by rw [ha.out]; exact putSel_upk 18 hb_ rfl rfl rfl), aA.out, aC.out, aD.out, aK.out, aB.out, aJ.out, aH.out, aI.out, aL.out, (oB HB), fun _ => aW.out, fun _ => bB.out, fun _ => bG.out, fun _ => bM.out, fun _ => cI.out, fun _ => cN.out, eH, oF (hoff 22 oK), bV, bN, fun _ => rfl, oF (hoff 22 oK)⟩
         refine steps_cons ?_ ?_
         ·rintro b a w' ⟨bO, bR, bP, bS, bL, bQ, bK, bT, cU, cC, cD, cE, ha, aE, aF, aG, aM, aP, aQ, aR, aS, aT, Q_HB, aN, aO, aU, aV, bD, bE, bC, bH, bV, bN, bW, cA⟩ hb_ hon hoff
          refine ⟨_, rfl, fun K hK => ?_⟩
          have e8 : a.tmps[8]? = some (.pointer (some ⟨bF, 0, none⟩)) := by rw [ha]; exact (putSel_off rfl).trans rfl
          have eO : a.tmps[92]? = some (.bool true) := by rw [ha]; exact putSel_on (e := (14, 92, .bool true)) 14 rfl rfl (hon 14 oK) rfl
          replace ha := Aside0.mk ha
          obtain ⟨aA, aC, aD, aK, aB, aJ, aH, aI, aL, HB, aW, bB, bG, bM⟩ := o2_ aE (o2_ aF (o2_ aG (o2_ aM (o2_ aP (o2_ aQ (o2_ aR (o2_ aS (o2_ aT (o2_ Q_HB (o2_ (aN (hon 2 oK)) (o2_ (aO (hon 3 oK)) (o2_ (aU (hon 9 oK)) (o1_ (aV (hon 10 oK)))))))))))))))
          have eP : w'.cell? ⟨bF, 0, none⟩ = some (.int .i64 cF) := (blk_cell aK.out 0).trans rfl
          have eQ : w'.cell? ⟨bF, 1, none⟩ = some (.int .i64 cG) := (blk_cell aK.out 1).trans rfl
          have eR : w'.cell? ⟨bF, 2, none⟩ = some (.slice dE cB.length dI) := (blk_cell aK.out 2).trans rfl
          refine value_ (w1 := w') (v := .agg #[.int .i64 cF, .int .i64 cG, .slice dE cB.length dI]) (wanted_on rfl rfl rfl (eO.trans (by first | rfl | (simp [*]; done)))) rfl ?_ ?_
          ·go_simp
           (try simp only [i64_w])
           try rfl
          refine hK.out _ _ ⟨bO, bR, bP, bS, bL, bQ, bK, bT, cU, cC, cD, cE, (by rw [ha.out]; exact putSel_upk 19 hb_ rfl rfl rfl), aE, aF, aG, aM, aP, aQ, aR, aS, aT, Q_HB, aN, aO, aU, aV, bD, bE, bC, oF (hoff 22 oK), bV, bN, bW, oF (hoff 22 oK)⟩
         refine steps_cons ?_ ?_
         ·rintro b a w' ⟨bO, bR, bP, bS, bL, bQ, bK, bT, cU, cC, cD, cE, ha, aE, aF, aG, aM, aP, aQ, aR, aS, aT, Q_HB, aN, aO, aU, aV, bD, bE, bC, bH, bV, bN, bW, cA⟩ hb_ hon hoff
          refine ⟨_, rfl, fun K hK => ?_⟩
          have e5 : a.tmps[5]? = some (.pointer (some ⟨aX, 0, none⟩)) := by rw [ha]; exact (putSel_off rfl).trans rfl
          have eO : a.tmps[92]? = some (.bool true) := by rw [ha]; exact putSel_on (e := (14, 92, .bool true)) 14 rfl rfl (hon 14 oK) rfl
          replace ha := Aside0.mk ha
          obtain ⟨aA, aC, aD, aK, aB, aJ, aH, aI, aL, HB, aW, bB, bG, bM⟩ := o2_ aE (o2_ aF (o2_ aG (o2_ aM (o2_ aP (o2_ aQ (o2_ aR (o2_ aS (o2_ aT (o2_ Q_HB (o2_ (aN (hon 2 oK)) (o2_ (aO (hon 3 oK)) (o2_ (aU (hon 9 oK)) (o1_ (aV (hon 10 oK)))))))))))))))
          have eP : w'.cell? ⟨aX, 0, none⟩ = some (.int .i64 2) := (blk_cell aH.out 0).trans rfl
          have eQ : w'.cell? ⟨aX, 1, none⟩ = some (.int .i64 0) := (blk_cell aH.out 1).trans rfl
          have eR : w'.cell? ⟨aX, 2, none⟩ = some (.int .i64 0) := (blk_cell aH.out 2).trans rfl
          have mK : w'.cell? ⟨aX, 3, none⟩ = some (.int .i64 0) := (blk_cell aH.out 3).trans rfl
          have mL : w'.cell? ⟨aX, 4, none⟩ = some (.int .i64 0) := (blk_cell aH.out 4).trans rfl
          refine value_ (w1 := w') (v := .agg #[.int .i64 2, .int .i64 0, .int .i64 0, .int .i64 0, .int .i64 0]) (wanted_on rfl rfl rfl (eO.trans (by first | rfl | (simp [*]; done)))) rfl ?_ ?_
          ·go_simp
           (try simp only [i64_w])
           try rfl
          refine hK.out _ _ ⟨bO, bR, bP, bS, bL, bQ, bK, bT, cU, cC, cD, cE, (by rw [ha.out]; exact putSel_upk 20 hb_ rfl rfl rfl), aE, aF, aG, aM, aP, aQ, aR, aS, aT, Q_HB, aN, aO, aU, aV, bD, bE, oF (hoff 21 oK), oF (hoff 22 oK), bV, bN, bW, oF (hoff 22 oK)⟩
         refine steps_cons ?_ ?_
         ·rintro b a w' ⟨bO, bR, bP, bS, bL, bQ, bK, bT, cU, cC, cD, cE, ha, aE, aF, aG, aM, aP, aQ, aR, aS, aT, Q_HB, aN, aO, aU, aV, bD, bE, bC, bH, bV, bN, bW, cA⟩ hb_ hon hoff
          refine ⟨_, rfl, fun K hK => ?_⟩
          have xQ : a.tmps[98]? = some (.agg #[.int .i64 2, .int .i64 0, .int .i64 0, .int .i64 0, .int .i64 0]) := by rw [ha]; exact putSel_on (e := (20, 98, .agg #[.int .i64 2, .int .i64 0, .int .i64 0, .int .i64 0, .int .i64 0])) 20 rfl rfl (hon 20 oK) rfl
          have eO : a.tmps[92]? = some (.bool true) := by rw [ha]; exact putSel_on (e := (14, 92, .bool true)) 14 rfl rfl (hon 14 oK) rfl
          replace ha := Aside0.mk ha
          obtain ⟨aA, aC, aD, aK, aB, aJ, aH, aI, aL, HB, aW, bB, bG, bM⟩ := o2_ aE (o2_ aF (o2_ aG (o2_ aM (o2_ aP (o2_ aQ (o2_ aR (o2_ aS (o2_ aT (o2_ Q_HB (o2_ (aN (hon 2 oK)) (o2_ (aO (hon 3 oK)) (o2_ (aU (hon 9 oK)) (o1_ (aV (hon 10 oK)))))))))))))))
          refine Kd.R_lit_step k27 _ 27 ?hg (N := 99) ?hd (xs := ([(⟨2, 0, 0, 0, 0⟩ : S27)] : List (S27))) (inner := [.int .i64 2, .int .i64 0, .int .i64 0, .int .i64 0, .int .i64 0]) (ok := fun _ => True) (okp := fun _ => True) ?hr ?hp (fun _ hk => hk) trivial (Below.refl _ _) (Nat.le_refl _) (by simp) ?_; (case hd => rfl); (case hg => first | rfl | exact wanted_on rfl rfl rfl (by assumption)); (case hr => first | (go_simp; done) | (go_simp; rfl)); (case hp => exact (Reps.c5 (show Kd.M k27 _ _ _ (⟨2, 0, 0, 0, 0⟩ : S27) [.int .i64 2, .int .i64 0, .int .i64 0, .int .i64 0, .int .i64 0] from (k27_mkM _ _ _ (⟨2, 0, 0, 0, 0⟩ : S27) )) (Reps.none _ _)))
          intro bK kP ho114 hb hg_ hnew_
          clear hg_ hnew_
          (first | rw [← jS.out] at ho114 | (simp only [Int.reduceToNat] at ho114; rw [← jS.out] at ho114))
          have lT := Aside0.mk (Kd.Q_below aC.out hb)
          have lU := Aside0.mk (Kd.V_elder' aD.out (Kd.R_base ho114) hb)
          have lV := Aside0.mk (Kd.V_elder' aA.out (Kd.R_base ho114) hb)
          have lW := Aside0.mk (Kd.R_elder' aW.out (Kd.R_base ho114) hb)
          have lX := Aside0.mk (Kd.V_elder' bB.out (Kd.R_base ho114) hb)
          have lY := Aside0.mk (Kd.R_elder' bG.out (Kd.R_base ho114) hb)
          have lZ := Aside0.mk (Kd.V_elder' bM.out (Kd.R_base ho114) hb)
          have mA := Aside0.mk (Kd.R_lower (Kd.R_newB (Kd.R_newB (Kd.R_newB (Kd.R_new' (Kd.R_new' ho114 (Kd.R_lt aW.out)) (Kd.R_lt bG.out)) aJ.out) aH.out) aI.out) (below_size (oB HB)))
          have mB := Aside0.mk (blk_below aB.out hb)
          have mC := Aside0.mk (blk_below aJ.out hb)
          have eS := Aside0.mk (blk_below aH.out hb)
          have eT := Aside0.mk (blk_below aI.out hb)
          have eU := Aside0.mk (blk_below aL.out hb)
          have eV := Aside0.mk (blk_below aK.out hb)
          have eW := Aside0.mk (below_step (oB HB) hb)
          have kG := fun (h0_ : b 17 = true) => (show Kd.R k27 27 kP w.heap.size (fun k_ => k_ ≠ bI ∧ k_ ≠ aX ∧ k_ ≠ aZ) bL y1042 from by first | exact (Kd.R_elder' (uR ((bD h0_))) (Kd.R_base ho114) hb) | exact Kd.R_mono (Kd.R_elder' (uR ((bD h0_))) (Kd.R_base ho114) hb) (fun _ h_ => by first | trivial | exact h_ | exact h_.1))
          have kH := fun (h0_ : b 18 = true) => (show Kd.V k38 38 kP w.heap.size (fun k_ => k_ ≠ aY ∧ k_ ≠ bI ∧ k_ ≠ aX ∧ k_ ≠ aZ ∧ k_ ≠ bU ∧ k_ ≠ bF) bQ eG from by first | exact (Kd.V_elder' (uV ((bE h0_))) (Kd.R_base ho114) hb) | exact Kd.V_mono (Kd.V_elder' (uV ((bE h0_))) (Kd.R_base ho114) hb) (fun _ h_ => by first | trivial | exact h_ | exact h_.1))
          clear aC
          clear aD
          clear aA
          clear aW
          clear bB
          clear bG
          clear bM
          clear aB
          clear aJ
          clear aH
          clear aI
          clear aL
          clear aK
          clear HB
          have aC := lT
          have aD := lU
          have aA := lV
          have aW := lW
          have bB := lX
          have bG := lY
          have bM := lZ
          have cO := mA
          have aB := mB
          have aJ := mC
          have aH := eS
          have aI := eT
          have aL := eU
          have aK := eV
          have HB := eW
          clear lT lU lV lW lX lY lZ mA mB mC eS eT eU eV eW
          clear hb ho114
          refine hK.out _ _ ⟨bO, bR, bP, bS, bL, bQ, bK, bT, cU, cC, cD, cE, (by rw [ha.out]; exact putSel_upk 21 hb_ rfl rfl rfl), (by (with_reducible repeat (first | apply Kd.V_alloc | apply Kd.V_drewN | apply Kd.V_drew)); exact Kd.V_mono aA.out oY), aC.out, (by (with_reducible repeat (first | apply Kd.V_alloc | apply Kd.V_drewN | apply Kd.V_drew)); exact Kd.V_mono aD.out oY), aK.out, aB.out, aJ.out, aH.out, aI.out, aL.out, (oB HB), fun _ => (by (with_reducible repeat (first | apply Kd.R_alloc | apply Kd.R_drewN | apply Kd.R_drew)); exact Kd.R_mono aW.out oY), fun _ => (by (with_reducible repeat (first | apply Kd.V_alloc | apply Kd.V_drewN | apply Kd.V_drew)); exact Kd.V_mono bB.out oY), fun _ => (by (with_reducible repeat (first | apply Kd.R_alloc | apply Kd.R_drewN | apply Kd.R_drew)); exact Kd.R_mono bG.out oY), fun _ => (by (with_reducible repeat (first | apply Kd.V_alloc | apply Kd.V_drewN | apply Kd.V_drew)); exact Kd.V_mono bM.out oY), kG, kH, fun _ => (by (with_reducible repeat (first | apply Kd.R_alloc | apply Kd.R_drewN | apply Kd.R_drew)); exact Kd.R_mono cO.out oY), oF (hoff 22 oK), bV, bN, bW, oF (hoff 22 oK)⟩
         refine steps_cons ?_ ?_
         ·rintro b a w' ⟨bO, bR, bP, bS, bL, bQ, bK, bT, cU, cC, cD, cE, ha, aE, aF, aG, aM, aP, aQ, aR, aS, aT, Q_HB, aN, aO, aU, aV, bD, bE, bC, bH, bV, bN, bW, cA⟩ hb_ hon hoff
          refine ⟨_, rfl, fun K hK => ?_⟩
          have tJ : a.tmps[97]? = some (.agg #[.int .i64 cF, .int .i64 cG, .slice dE cB.length dI]) := by rw [ha]; exact putSel_on (e := (19, 97, .agg #[.int .i64 cF, .int .i64 cG, .slice dE cB.length dI])) 19 rfl rfl (hon 19 oK) rfl
          have tK : a.tmps[99]? = some (bK) := by rw [ha]; exact putSel_on (e := (21, 99, bK)) 21 rfl rfl (hon 21 oK) rfl
          have eO : a.tmps[92]? = some (.bool true) := by rw [ha]; exact putSel_on (e := (14, 92, .bool true)) 14 rfl rfl (hon 14 oK) rfl
          replace ha := Aside0.mk ha
          obtain ⟨aA, aC, aD, aK, aB, aJ, aH, aI, aL, HB, aW, bB, bG, bM, cI, cN, cO⟩ := o2_ aE (o2_ aF (o2_ aG (o2_ aM (o2_ aP (o2_ aQ (o2_ aR (o2_ aS (o2_ aT (o2_ Q_HB (o2_ (aN (hon 2 oK)) (o2_ (aO (hon 3 oK)) (o2_ (aU (hon 9 oK)) (o2_ (aV (hon 10 oK)) (o2_ (bD (hon 17 oK)) (o2_ (bE (hon 18 oK)) (o1_ (bC (hon 21 oK))))))))))))))))))
          obtain ⟨kX, lI, lQ⟩ := Kd.R_slice cO.out
          (first | subst lQ | (injection lQ with f1_ f2_ f3_; have f4_ := f1_.symm; have f5_ := f3_.symm; clear f1_ f2_ f3_; subst f4_; subst f5_))
          refine goes_ Try.func27 oK rfl #[.agg #[.int .i64 cF, .int .i64 cG, .slice dE cB.length dI], .slice kX y1050.length lI] (by first | rfl | exact wanted_on rfl rfl rfl (by assumption)) rfl rfl (by first | (simp only [List.map_toArray, List.map_cons, List.map_nil, Act.eval, Array.getD_eq_getD_getElem?, Option.getD_some, tJ, tK, eO]; done) | (simp only [List.map_toArray, List.map_cons, List.map_nil, Act.eval, Array.getD_eq_getD_getElem?, Option.getD_some, tJ, tK, eO]; rfl)) ?_
          with_reducible refine (laws_eaDo.calls k1 cF cG (fun k_ => k_ ≠ aY ∧ (k_ ≠ bI ∧ (k_ ≠ aX ∧ (k_ ≠ aZ ∧ (k_ ≠ bU ∧ k_ ≠ bF))))) _ _ cB _ _ y1050 fE fF fG _ ?side1 ?side2 ?side3 wS.out).mono ?_
          (case side1 => exact aA.out)
          (case side2 => repeat (first | exact (Kd.R_reads' cO.out).2.2 | (with_reducible refine Kd.C_alloc ?_ _) | (with_reducible refine Kd.C_drewN ?_ _) | (with_reducible refine Kd.C_drew ?_)))
          (case side3 => exact (Kd.R_reads' cO.out).2.1)
          rintro e xF ⟨bT, rfl, ho0, hb⟩
          refine ⟨_, rfl, ?_⟩
          have n_ := o2_ (Kd.Q_below aC.out hb) (o2_ (Kd.V_below aD.out hb) (o2_ (Kd.V_below aA.out hb) (o2_ (Kd.R_below aW.out hb) (o2_ (Kd.V_below bB.out hb) (o2_ (Kd.R_below bG.out hb) (o2_ (Kd.V_below bM.out hb) (o2_ (Kd.R_below cI.out hb) (o2_ (Kd.V_below cN.out hb) (o2_ (Kd.R_below cO.out hb) (o2_ (Kd.V_lower (Kd.V_mono (ok' := fun k_ => k_ ≠ aY ∧ k_ ≠ bI ∧ k_ ≠ aX ∧ k_ ≠ aZ ∧ k_ ≠ bU ∧ k_ ≠ bF) ho0 (fun k_ hk_ => ⟨Or.elim hk_ (fun hs_ => hs_.1) (fun hn_ => (Kd.freshB aB.out k_ hn_)), Or.elim hk_ (fun hs_ => hs_.2.1) (fun hn_ => (Kd.freshB aJ.out k_ hn_)), Or.elim hk_ (fun hs_ => hs_.2.2.1) (fun hn_ => (Kd.freshB aH.out k_ hn_)), Or.elim hk_ (fun hs_ => hs_.2.2.2.1) (fun hn_ => (Kd.freshB aI.out k_ hn_)), Or.elim hk_ (fun hs_ => hs_.2.2.2.2.1) (fun hn_ => (Kd.freshB aL.out k_ hn_)), Or.elim hk_ (fun hs_ => hs_.2.2.2.2.2) (fun hn_ => (Kd.freshB aK.out k_ hn_))⟩)) (below_size (oB HB))) (o2_ (blk_below aB.out hb) (o2_ (blk_below aJ.out hb) (o2_ (blk_below aH.out hb) (o2_ (blk_below aI.out hb) (o2_ (blk_below aL.out hb) (o2_ (blk_below aK.out hb) (o1_ (below_step (oB HB) hb))))))))))))))))))
          clear aC aD aA aW bB bG bM cI cN cO aB aJ aH aI aL aK HB
          obtain ⟨aC, aD, aA, aW, bB, bG, bM, cI, cN, cO, dC, aB, aJ, aH, aI, aL, aK, HB⟩ := n_
          (try clear hb)
          (try clear hb2)
          (try clear hk)
          (try clear hi)
          (try clear ho0)
          refine hK.out _ _ ⟨bO, bR, bP, bS, bL, bQ, .slice kX y1050.length lI, bT, cU, cC, cD, (.agg #[.int .i64 fE, .int .i64 fF, bT]), (by rw [ha.out]; exact putSel_upk 22 hb_ rfl rfl rfl), aA.out, aC.out, aD.out, aK.out, aB.out, aJ.out, aH.out, aI.out, aL.out, (oB HB), fun _ => aW.out, fun _ => bB.out, fun _ => bG.out, fun _ => bM.out, fun _ => cI.out, fun _ => cN.out, fun _ => cO.out, fun _ => dC.out, bV, bN, bW, fun _ => rfl⟩
         refine steps_cons ?_ ?_
         ·rintro b a w' ⟨bO, bR, bP, bS, bL, bQ, bK, bT, cU, cC, cD, cE, ha, aE, aF, aG, aM, aP, aQ, aR, aS, aT, Q_HB, aN, aO, aU, aV, bD, bE, bC, bH, bV, bN, bW, cA⟩ hb_ hon hoff
          refine ⟨_, rfl, fun K hK => ?_⟩
          have rV : a.tmps[96]? = some (cD) := by rw [ha]; exact putSel_on (e := (18, 96, cD)) 18 rfl rfl (hon 18 oK) rfl
          rw [bW (hon 18 oK)] at rV
          have mJ : a.tmps[100]? = some (cE) := by rw [ha]; exact putSel_on (e := (22, 100, cE)) 22 rfl rfl (hon 22 oK) rfl
          rw [cA (hon 22 oK)] at mJ
          have eO : a.tmps[92]? = some (.bool true) := by rw [ha]; exact putSel_on (e := (14, 92, .bool true)) 14 rfl rfl (hon 14 oK) rfl
          replace ha := Aside0.mk ha
          obtain ⟨aA, aC, aD, aK, aB, aJ, aH, aI, aL, HB, aW, bB, bG, bM, cI, cN, cO, dC⟩ := o2_ aE (o2_ aF (o2_ aG (o2_ aM (o2_ aP (o2_ aQ (o2_ aR (o2_ aS (o2_ aT (o2_ Q_HB (o2_ (aN (hon 2 oK)) (o2_ (aO (hon 3 oK)) (o2_ (aU (hon 9 oK)) (o2_ (aV (hon 10 oK)) (o2_ (bD (hon 17 oK)) (o2_ (bE (hon 18 oK)) (o2_ (bC (hon 21 oK)) (o1_ (bH (hon 22 oK)))))))))))))))))))
          obtain ⟨kY, lJ, lR⟩ := Kd.V_slice cN.out
          (first | subst lR | (injection lR with f1_ f2_ f3_; have f4_ := f1_.symm; have f5_ := f3_.symm; clear f1_ f2_ f3_; subst f4_; subst f5_))
          obtain ⟨kZ, lK, lS⟩ := Kd.V_slice dC.out
          (first | subst lS | (injection lS with f1_ f2_ f3_; have f4_ := f1_.symm; have f5_ := f3_.symm; clear f1_ f2_ f3_; subst f4_; subst f5_))
          refine goes_ Try.func21 oK rfl #[.agg #[.int .i64 eI, .int .i64 eJ, .slice kY eG.length lJ], .agg #[.int .i64 fE, .int .i64 fF, .slice kZ fG.length lK]] (by first | rfl | exact wanted_on rfl rfl rfl (by assumption)) rfl rfl (by first | (simp only [List.map_toArray, List.map_cons, List.map_nil, Act.eval, Array.getD_eq_getD_getElem?, Option.getD_some, rV, mJ, eO]; done) | (simp only [List.map_toArray, List.map_cons, List.map_nil, Act.eval, Array.getD_eq_getD_getElem?, Option.getD_some, rV, mJ, eO]; rfl)) ?_
          with_reducible refine (laws_eaRas.calls k1 eI eJ _ _ eG fE fF _ _ fG cT _ ?side1 ?side2 ?side3 ?side4 wT.out).mono ?_
          (case side1 => repeat (first | exact (Kd.V_reads' cN.out).2.2 | (with_reducible refine Kd.C_alloc ?_ _) | (with_reducible refine Kd.C_drewN ?_ _) | (with_reducible refine Kd.C_drew ?_)))
          (case side2 => exact (Kd.V_reads' cN.out).2.1)
          (case side3 => repeat (first | exact (Kd.V_reads' dC.out).2.2 | (with_reducible refine Kd.C_alloc ?_ _) | (with_reducible refine Kd.C_drewN ?_ _) | (with_reducible refine Kd.C_drew ?_)))
          (case side4 => exact (Kd.V_reads' dC.out).2.1)
          rintro e sP ⟨rfl, hb⟩
          refine ⟨_, rfl, ?_⟩
          have n_ := o2_ (Kd.Q_below aC.out hb) (o2_ (Kd.V_below aD.out hb) (o2_ (Kd.V_below aA.out hb) (o2_ (Kd.R_below aW.out hb) (o2_ (Kd.V_below bB.out hb) (o2_ (Kd.R_below bG.out hb) (o2_ (Kd.V_below bM.out hb) (o2_ (Kd.R_below cI.out hb) (o2_ (Kd.V_below cN.out hb) (o2_ (Kd.R_below cO.out hb) (o2_ (Kd.V_below dC.out hb) (o2_ (blk_below aB.out hb) (o2_ (blk_below aJ.out hb) (o2_ (blk_below aH.out hb) (o2_ (blk_below aI.out hb) (o2_ (blk_below aL.out hb) (o2_ (blk_below aK.out hb) (o1_ (below_step (oB HB) hb))))))))))))))))))
          clear aC aD aA aW bB bG bM cI cN cO dC aB aJ aH aI aL aK HB
          obtain ⟨aC, aD, aA, aW, bB, bG, bM, cI, cN, cO, dC, aB, aJ, aH, aI, aL, aK, HB⟩ := n_
          (try clear hb)
          (try clear hb2)
          (try clear hk)
          (try clear hi)
          refine hK.out _ _ ⟨bO, bR, bP, bS, bL, .slice kY eG.length lJ, bK, .slice kZ fG.length lK, cU, cC, cD, cE, (by rw [ha.out]; exact putSel_upk 23 hb_ rfl rfl rfl), aA.out, aC.out, aD.out, aK.out, aB.out, aJ.out, aH.out, aI.out, aL.out, (oB HB), fun _ => aW.out, fun _ => bB.out, fun _ => bG.out, fun _ => bM.out, fun _ => cI.out, fun _ => cN.out, fun _ => cO.out, fun _ => dC.out, bV, bN, bW, cA⟩
         refine steps_cons ?_ ?_
         ·rintro b a w' ⟨bO, bR, bP, bS, bL, bQ, bK, bT, cU, cC, cD, cE, ha, aE, aF, aG, aM, aP, aQ, aR, aS, aT, Q_HB, aN, aO, aU, aV, bD, bE, bC, bH, bV, bN, bW, cA⟩ hb_ hon hoff
          refine ⟨_, rfl, fun K hK => ?_⟩
          have eO : a.tmps[92]? = some (.bool true) := by rw [ha]; exact putSel_on (e := (14, 92, .bool true)) 14 rfl rfl (hon 14 oK) rfl
          have wU : a.tmps[101]? = some (.bool cT) := by rw [ha]; exact putSel_on (e := (23, 101, .bool cT)) 23 rfl rfl (hon 23 oK) rfl
          replace ha := Aside0.mk ha
          obtain ⟨aA, aC, aD, aK, aB, aJ, aH, aI, aL, HB, aW, bB, bG, bM, cI, cN, cO, dC⟩ := o2_ aE (o2_ aF (o2_ aG (o2_ aM (o2_ aP (o2_ aQ (o2_ aR (o2_ aS (o2_ aT (o2_ Q_HB (o2_ (aN (hon 2 oK)) (o2_ (aO (hon 3 oK)) (o2_ (aU (hon 9 oK)) (o2_ (aV (hon 10 oK)) (o2_ (bD (hon 17 oK)) (o2_ (bE (hon 18 oK)) (o2_ (bC (hon 21 oK)) (o1_ (bH (hon 22 oK)))))))))))))))))))
          refine value_ (w1 := w') (v := .bool cT) (by rfl) rfl ?_ ?_
          ·go_simp
           (try simp only [i64_w])
           try rfl
          refine hK.out _ _ ⟨bO, bR, bP, bS, bL, bQ, bK, bT, cU, cC, cD, cE, (by rw [ha.out]; exact putSel_upk 24 hb_ rfl rfl rfl), aE, aF, aG, aM, aP, aQ, aR, aS, aT, Q_HB, aN, aO, aU, aV, bD, bE, bC, bH, bV, bN, bW, cA⟩
         refine steps_cons ?_ ?_
         ·rintro b a w' ⟨bO, bR, bP, bS, bL, bQ, bK, bT, cU, cC, cD, cE, ha, aE, aF, aG, aM, aP, aQ, aR, aS, aT, Q_HB, aN, aO, aU, aV, bD, bE, bC, bH, bV, bN, bW, cA⟩ hb_ hon hoff
          refine ⟨_, rfl, fun K hK => ?_⟩
          have wV : a.tmps[102]? = some (.bool cT) := by rw [ha]; exact putSel_on (e := (24, 102, .bool cT)) 24 rfl rfl (hon 24 oK) rfl
          replace ha := Aside0.mk ha
          obtain ⟨aA, aC, aD, aK, aB, aJ, aH, aI, aL, HB, aW, bB, bG, bM, cI, cN, cO, dC⟩ := o2_ aE (o2_ aF (o2_ aG (o2_ aM (o2_ aP (o2_ aQ (o2_ aR (o2_ aS (o2_ aT (o2_ Q_HB (o2_ (aN (hon 2 oK)) (o2_ (aO (hon 3 oK)) (o2_ (aU (hon 9 oK)) (o2_ (aV (hon 10 oK)) (o2_ (bD (hon 17 oK)) (o2_ (bE (hon 18 oK)) (o2_ (bC (hon 21 oK)) (o1_ (bH (hon 22 oK)))))))))))))))))))
          refine value_ (w1 := w') (v := .bool cT) (by rfl) rfl ?_ ?_
          ·go_simp
           (try simp only [i64_w])
           try rfl
          refine hK.out _ _ ⟨bO, bR, bP, bS, bL, bQ, bK, bT, cU, cC, cD, cE, (by rw [ha.out]; exact putSel_upk 25 hb_ rfl rfl rfl), aE, aF, aG, aM, aP, aQ, aR, aS, aT, Q_HB, aN, aO, aU, aV, bD, bE, bC, bH, bV, bN, bW, cA⟩
         exact steps_nil
        rintro b a sP hall ⟨bO, bR, bP, bS, bL, bQ, bK, bT, cU, cC, cD, cE, ha, aE, aF, aG, aM, aP, aQ, aR, aS, aT, Q_HB, aN, aO, aU, aV, bD, bE, bC, bH, bV, bN, bW, cA⟩
        clear aK aB aJ aH aI aL HB aA aC aD
        have hb0_ := hall 0 oK
        have hb1_ := hall 1 oK
        have hb2_ := hall 2 oK
        have hb3_ := hall 3 oK
        have hb4_ := hall 4 oK
        have hb5_ := hall 5 oK
        have hb6_ := hall 6 oK
        have hb7_ := hall 7 oK
        have hb8_ := hall 8 oK
        have hb9_ := hall 9 oK
        have hb10_ := hall 10 oK
        have hb11_ := hall 11 oK
        have hb12_ := hall 12 oK
        have hb13_ := hall 13 oK
        have hb14_ := hall 14 oK
        have hb15_ := hall 15 oK
        have hb16_ := hall 16 oK
        have hb17_ := hall 17 oK
        have hb18_ := hall 18 oK
        have hb19_ := hall 19 oK
        have hb20_ := hall 20 oK
        have hb21_ := hall 21 oK
        have hb22_ := hall 22 oK
        have hb23_ := hall 23 oK
        have hb24_ := hall 24 oK
        have hb25_ := hall 25 oK
        subst ha
        obtain rfl := bV hb3_
        obtain rfl := bN hb10_
        obtain rfl := bW hb18_
        obtain rfl := cA hb22_
        simp only [putSel, hb0_, hb1_, hb2_, hb3_, hb4_, hb5_, hb6_, hb7_, hb8_, hb9_, hb10_, hb11_, hb12_, hb13_, hb14_, hb15_, hb16_, hb17_, hb18_, hb19_, hb20_, hb21_, hb22_, hb23_, hb24_, hb25_, if_true, Act.put, List.setIfInBounds_toArray, List.set_cons_zero, List.set_cons_succ]
        have aA := Aside0.mk aE
        clear aE
        have aC := Aside0.mk aF
        clear aF
        have aD := Aside0.mk aG
        clear aG
        have aK := Aside0.mk aM
        clear aM
        have aB := Aside0.mk aP
        clear aP
        have aJ := Aside0.mk aQ
        clear aQ
        have aH := Aside0.mk aR
        clear aR
        have aI := Aside0.mk aS
        clear aS
        have aL := Aside0.mk aT
        clear aT
        have HB := Aside0.mk Q_HB
        clear Q_HB
        have aW := Aside0.mk (aN hb2_)
        clear aN
        have bB := Aside0.mk (aO hb3_)
        clear aO
        have bG := Aside0.mk (aU hb9_)
        clear aU
        have bM := Aside0.mk (aV hb10_)
        clear aV
        have cI := Aside0.mk (bD hb17_)
        clear bD
        have cN := Aside0.mk (bE hb18_)
        clear bE
        have cO := Aside0.mk (bC hb21_)
        clear bC
        have dC := Aside0.mk (bH hb22_)
        clear bH
        clear hall hb0_ hb1_ hb2_ hb3_ hb4_ hb5_ hb6_ hb7_ hb8_ hb9_ hb10_ hb11_ hb12_ hb13_ hb14_ hb15_ hb16_ hb17_ hb18_ hb19_ hb20_ hb21_ hb22_ hb23_ hb24_ hb25_
        try go_wp2
        go_ret
        exact ⟨by first | rfl | (simp [errW_none, errW_some] <;> rfl) | (simp [*, errW_none, errW_some] <;> rfl), oB HB⟩
       ·replace qR := Bool.eq_false_iff.mpr qR
        subst qR
        rw [if_neg (show ¬ (false = true) by decide)] at H
        exact absurd H (by simp)
      ·replace qQ := Bool.eq_false_iff.mpr qQ
       subst qQ
       rw [if_neg (show ¬ (false = true) by decide)] at H
       exact absurd H (by simp)
  ·replace c5 := Bool.eq_false_iff.mpr c5
   subst c5
   rw [if_neg (show ¬ (false = true) by decide)] at H
   replace H := Option.bind_eq_some_iff.mp H
   obtain ⟨kC, kQ, H⟩ := H
   (try dsimp only at H)
   have rL := Aside0.mk kQ
   clear kQ
   by_cases kI : kC = true
   ·subst kI
    rw [if_pos rfl] at H
    exact absurd H (by simp)
   ·replace kI := Bool.eq_false_iff.mpr kI
    subst kI
    rw [if_neg (show ¬ (false = true) by decide)] at H
    replace H := Option.bind_eq_some_iff.mp H
    obtain ⟨kD, kR, H⟩ := H
    (try dsimp only at H)
    have rM := Aside0.mk kR
    clear kR
    obtain rfl := Option.some.inj H
    go_enter Try.func12, Try.ntmps12
    go_wp2_with (first | ((with_reducible refine gate_callee (f := 18) rfl ?_); refine goesL_ (some 16) rfl rfl Try.func18 oK rfl #[.slice A0 l0.length c0] rfl oA ?_; (with_reducible refine (spec_DrawOpDo.calls k _ _ l0 bY bZ bX dX dY dZ eA eB _ ?side1 ?side2 A3.out).mono ?_); (case side1 => repeat (first | exact sZ.out | (with_reducible refine Kd.C_alloc ?_ _) | (with_reducible refine Kd.C_drewN ?_ _) | (with_reducible refine Kd.C_drew ?_))); (case side2 => exact sY.out); rintro e xG ⟨sN, rfl, ho0, hb⟩; refine ⟨_, rfl, ?_⟩; have n_ := o2_ (Kd.Q_lower ho0 (below_size (oB HB))) (o1_ (below_step (oB HB) hb)); clear HB; obtain ⟨bJ, HB⟩ := n_; (try clear hb); (try clear hb2); (try clear hk); (try clear hi); (try clear ho0)) | ((with_reducible refine gate_dst (N := 3) rfl ?_); (try (refine gate_guard (by rfl) ?_; dsimp only)); refine box_event ?hg (N := 3) ?hd (cs := #[.int .i64 0, .int .i64 0, .slice none 0 0]) (t := 25) ?hr ?_; (case hd => rfl); (case hg => rfl); (case hr => first | (go_simp; done) | (go_simp; rfl)); intro aY hg xH hbox hb; have n_ := o2_ (Kd.Q_below (oQ bJ) hb) (o2_ (below_step (oB HB) hb) (o2_ (hbox) (o2_ ((oG hg (below_size (oB HB)) : w.heap.size ≤ aY)) (o1_ ((oG hg (below_size (oB HB)) : w.heap.size ≤ aY)))))); clear bJ HB; obtain ⟨bJ, HB, aB, nO, nK⟩ := n_; clear hb hbox hg) | ((with_reducible refine gate_dst (N := 4) rfl ?_); (try (refine gate_guard (by rfl) ?_; dsimp only)); refine box_event ?hg (N := 4) ?hd (cs := #[.int .i64 0, .int .i64 0, .int .i64 0, .int .i64 0, .int .i64 0]) (t := 27) ?hr ?_; (case hd => rfl); (case hg => rfl); (case hr => first | (go_simp; done) | (go_simp; rfl)); intro bI hg fH hbox hb; have n_ := o2_ (Kd.Q_below (oQ bJ) hb) (o2_ (blk_below (oP aB) hb) (o2_ (below_step (oB HB) hb) (o2_ (hbox) (o2_ ((oG hg (below_size (oB HB)) : w.heap.size ≤ bI)) (o2_ ((oG hg (below_size (oB HB)) : w.heap.size ≤ bI)) (o2_ ((oL hg (blk_lt (oP aB)))) (o1_ ((oN hg (blk_lt (oP aB))))))))))); clear bJ aB HB; obtain ⟨bJ, aB, HB, aJ, nP, nL, bA, cX⟩ := n_; clear hb hbox hg; have sB := bA.out; have sH := cX.out; have nV : fH.cell? ⟨aY, 0, none⟩ = some (.int .i64 0) := (blk_cell aB.out 0).trans rfl; have nW : fH.cell? ⟨aY, 1, none⟩ = some (.int .i64 0) := (blk_cell aB.out 1).trans rfl; have nX : fH.cell? ⟨aY, 2, none⟩ = some (.slice none 0 0) := (blk_cell aB.out 2).trans rfl; have pP := blk_frozen aB.out 0; have pQ := blk_frozen aB.out 1; have pR := blk_frozen aB.out 2; obtain ⟨eC, dQ, nU, _⟩ := Kd.Q_slice bJ.out; subst nU; have nY : fH.cell? ⟨bI, 0, none⟩ = some (.int .i64 0) := (blk_cell aJ.out 0).trans rfl; have nZ : fH.cell? ⟨bI, 1, none⟩ = some (.int .i64 0) := (blk_cell aJ.out 1).trans rfl; have oO : fH.cell? ⟨bI, 2, none⟩ = some (.int .i64 0) := (blk_cell aJ.out 2).trans rfl; have oS : fH.cell? ⟨bI, 3, none⟩ = some (.int .i64 0) := (blk_cell aJ.out 3).trans rfl; have oT : fH.cell? ⟨bI, 4, none⟩ = some (.int .i64 0) := (blk_cell aJ.out 4).trans rfl; have pS := blk_frozen aJ.out 0; have pT := blk_frozen aJ.out 1; have pU := blk_frozen aJ.out 2; have pV := blk_frozen aJ.out 3; have pW := blk_frozen aJ.out 4) | ((with_reducible refine gate_dst (N := 5) rfl ?_); (try (refine gate_guard (by rfl) ?_; dsimp only)); refine box_event ?hg (N := 5) ?hd (cs := #[.int .i64 0, .int .i64 0, .int .i64 0, .int .i64 0, .int .i64 0]) (t := 27) ?hr ?_; (case hd => rfl); (case hg => rfl); (case hr => first | (go_simp; done) | (go_simp; rfl)); intro aX hg kE hbox hb; have n_ := o2_ (Kd.Q_below (by (with_reducible repeat (first | apply Kd.Q_alloc | apply Kd.Q_drewN | apply Kd.Q_drew)); exact (Kd.Q_mono (Kd.Q_mono (Kd.Q_far (p := ⟨bI, 4, none⟩) (Kd.Q_far (p := ⟨bI, 3, none⟩) (Kd.Q_far (p := ⟨bI, 2, none⟩) (Kd.Q_far (p := ⟨bI, 1, none⟩) (Kd.Q_far (p := ⟨bI, 0, none⟩) (Kd.Q_far (p := ⟨aY, 2, none⟩) (Kd.Q_far (p := ⟨aY, 1, none⟩) (Kd.Q_far (p := ⟨aY, 0, none⟩) (Kd.Q_types (Kd.Q_types bJ.out aB.out oD) aJ.out oD) (fun _ hk => hk.1.2) (.int .i64 bY)) (fun _ hk => hk.1.2) (.int .i64 bZ)) (fun _ hk => hk.1.2) (.slice eC bX.length dQ)) (fun _ hk => hk.2) (.int .i64 dX)) (fun _ hk => hk.2) (.int .i64 dY)) (fun _ hk => hk.2) (.int .i64 dZ)) (fun _ hk => hk.2) (.int .i64 eA)) (fun _ hk => hk.2) (.int .i64 eB)) (fun _ h_ => h_.1)) (fun _ h_ => h_.1))) hb) (o2_ (blk_below (g := aY) (o := .cells #[.int .i64 bY, .int .i64 bZ, .slice eC bX.length dQ] 25 (0, 0)) (blk_far (blk_far (blk_far (blk_far (blk_far (blk_put (blk_put (blk_put (oP aB) 0 _ rfl) 1 _ rfl) 2 _ rfl) bA.out _) bA.out _) bA.out _) bA.out _) bA.out _) hb) (o2_ (blk_below (g := bI) (o := .cells #[.int .i64 dX, .int .i64 dY, .int .i64 dZ, .int .i64 eA, .int .i64 eB] 27 (0, 0)) (blk_put (blk_put (blk_put (blk_put (blk_put (oP aJ) 0 _ rfl) 1 _ rfl) 2 _ rfl) 3 _ rfl) 4 _ rfl) hb) (o2_ (below_step (oB HB) hb) (o2_ (hbox) (o2_ ((oG hg (below_size (oB HB)) : w.heap.size ≤ aX)) (o2_ ((oG hg (below_size (oB HB)) : w.heap.size ≤ aX)) (o2_ ((by rw [hg]; exact Nat.ne_of_lt (blk_lt (g := aY) (o := .cells #[.int .i64 bY, .int .i64 bZ, .slice eC bX.length dQ] 25 (0, 0)) (blk_far (blk_far (blk_far (blk_far (blk_far (blk_put (blk_put (blk_put (oP aB) 0 _ rfl) 1 _ rfl) 2 _ rfl) bA.out _) bA.out _) bA.out _) bA.out _) bA.out _)) : aY ≠ aX)) (o2_ ((by rw [hg]; exact Nat.ne_of_gt (blk_lt (g := aY) (o := .cells #[.int .i64 bY, .int .i64 bZ, .slice eC bX.length dQ] 25 (0, 0)) (blk_far (blk_far (blk_far (blk_far (blk_far (blk_put (blk_put (blk_put (oP aB) 0 _ rfl) 1 _ rfl) 2 _ rfl) bA.out _) bA.out _) bA.out _) bA.out _) bA.out _)) : aX ≠ aY)) (o2_ ((by rw [hg]; exact Nat.ne_of_lt (blk_lt (g := bI) (o := .cells #[.int .i64 dX, .int .i64 dY, .int .i64 dZ, .int .i64 eA, .int .i64 eB] 27 (0, 0)) (blk_put (blk_put (blk_put (blk_put (blk_put (oP aJ) 0 _ rfl) 1 _ rfl) 2 _ rfl) 3 _ rfl) 4 _ rfl)) : bI ≠ aX)) (o1_ ((by rw [hg]; exact Nat.ne_of_gt (blk_lt (g := bI) (o := .cells #[.int .i64 dX, .int .i64 dY, .int .i64 dZ, .int .i64 eA, .int .i64 eB] 27 (0, 0)) (blk_put (blk_put (blk_put (blk_put (blk_put (oP aJ) 0 _ rfl) 1 _ rfl) 2 _ rfl) 3 _ rfl) 4 _ rfl)) : aX ≠ bI)))))))))))); clear bJ aB aJ HB; obtain ⟨bJ, aB, aJ, HB, aH, nQ, nM, cV, cY, dR, dT⟩ := n_; clear hb hbox hg; have sC := cY.out; have sI := cV.out; have sD := dT.out; have sJ := dR.out; have oU : kE.cell? ⟨aX, 0, none⟩ = some (.int .i64 0) := (blk_cell aH.out 0).trans rfl; have pA : kE.cell? ⟨aX, 1, none⟩ = some (.int .i64 0) := (blk_cell aH.out 1).trans rfl; have pB : kE.cell? ⟨aX, 2, none⟩ = some (.int .i64 0) := (blk_cell aH.out 2).trans rfl; have pC : kE.cell? ⟨aX, 3, none⟩ = some (.int .i64 0) := (blk_cell aH.out 3).trans rfl; have pD : kE.cell? ⟨aX, 4, none⟩ = some (.int .i64 0) := (blk_cell aH.out 4).trans rfl; have pX := blk_frozen aH.out 0; have pY := blk_frozen aH.out 1; have pZ := blk_frozen aH.out 2; have qA := blk_frozen aH.out 3; have qB := blk_frozen aH.out 4) | ((with_reducible refine gate_dst (N := 6) rfl ?_); (try (refine gate_guard (by rfl) ?_; dsimp only)); refine box_event ?hg (N := 6) ?hd (cs := #[.int .i64 0, .int .i64 0, .int .i64 0, .int .i64 0, .int .i64 0]) (t := 27) ?hr ?_; (case hd => rfl); (case hg => rfl); (case hr => first | (go_simp; done) | (go_simp; rfl)); intro aZ hg fI hbox hb; have n_ := o2_ (Kd.Q_below (by (with_reducible repeat (first | apply Kd.Q_alloc | apply Kd.Q_drewN | apply Kd.Q_drew)); exact (Kd.Q_mono (Kd.Q_far (p := ⟨aX, 4, none⟩) (Kd.Q_far (p := ⟨aX, 3, none⟩) (Kd.Q_far (p := ⟨aX, 2, none⟩) (Kd.Q_far (p := ⟨aX, 1, none⟩) (Kd.Q_far (p := ⟨aX, 0, none⟩) (Kd.Q_types bJ.out aH.out oD) (fun _ hk => hk.2) (.int .i64 2)) (fun _ hk => hk.2) (.int .i64 0)) (fun _ hk => hk.2) (.int .i64 0)) (fun _ hk => hk.2) (.int .i64 0)) (fun _ hk => hk.2) (.int .i64 0)) (fun _ h_ => h_.1))) hb) (o2_ (blk_below (oP aB) hb) (o2_ (below_step (oB HB) hb) (o2_ (hbox) (o2_ ((oG hg (below_size (oB HB)) : w.heap.size ≤ aZ)) (o2_ ((oG hg (below_size (oB HB)) : w.heap.size ≤ aZ)) (o2_ ((oL hg (blk_lt (oP aB)))) (o2_ ((oN hg (blk_lt (oP aB)))) (o2_ ((oL hg (blk_lt (oP aJ)))) (o2_ ((oN hg (blk_lt (oP aJ)))) (o2_ ((by rw [hg]; exact Nat.ne_of_lt (blk_lt (g := aX) (o := .cells #[.int .i64 2, .int .i64 0, .int .i64 0, .int .i64 0, .int .i64 0] 27 (0, 0)) (blk_put (blk_put (blk_put (blk_put (blk_put aH.out 0 _ rfl) 1 _ rfl) 2 _ rfl) 3 _ rfl) 4 _ rfl)) : aX ≠ aZ)) (o1_ ((by rw [hg]; exact Nat.ne_of_gt (blk_lt (g := aX) (o := .cells #[.int .i64 2, .int .i64 0, .int .i64 0, .int .i64 0, .int .i64 0] 27 (0, 0)) (blk_put (blk_put (blk_put (blk_put (blk_put aH.out 0 _ rfl) 1 _ rfl) 2 _ rfl) 3 _ rfl) 4 _ rfl)) : aZ ≠ aX))))))))))))); clear bJ aB HB; obtain ⟨bJ, aB, HB, aI, nR, nN, cW, cZ, dS, dV, dU, dW⟩ := n_; clear hb hbox hg; have sE := cZ.out; have sK := cW.out; have sF := dV.out; have sL := dS.out; have sG := dW.out; have sM := dU.out; have pE : fI.cell? ⟨aZ, 0, none⟩ = some (.int .i64 0) := (blk_cell aI.out 0).trans rfl; have pF : fI.cell? ⟨aZ, 1, none⟩ = some (.int .i64 0) := (blk_cell aI.out 1).trans rfl; have pG : fI.cell? ⟨aZ, 2, none⟩ = some (.int .i64 0) := (blk_cell aI.out 2).trans rfl; have pH : fI.cell? ⟨aZ, 3, none⟩ = some (.int .i64 0) := (blk_cell aI.out 3).trans rfl; have pI : fI.cell? ⟨aZ, 4, none⟩ = some (.int .i64 0) := (blk_cell aI.out 4).trans rfl; have qC := blk_frozen aI.out 0; have qD := blk_frozen aI.out 1; have qE := blk_frozen aI.out 2; have qF := blk_frozen aI.out 3; have qG := blk_frozen aI.out 4; have pJ : fI.cell? ⟨aY, 0, none⟩ = some (.int .i64 bY) := (blk_cell aB.out 0).trans rfl; have pK : fI.cell? ⟨aY, 1, none⟩ = some (.int .i64 bZ) := (blk_cell aB.out 1).trans rfl; have pL : fI.cell? ⟨aY, 2, none⟩ = some (.slice eC bX.length dQ) := (blk_cell aB.out 2).trans rfl; have qH := blk_frozen aB.out 0; have qI := blk_frozen aB.out 1; have qJ := blk_frozen aB.out 2) | ((with_reducible refine gate_callee (f := 24) rfl ?_); refine goesL_ (some 22) rfl rfl Try.func24 oK rfl #[.agg #[.int .i64 bY, .int .i64 bZ, .slice eC bX.length dQ]] rfl oA ?_; (with_reducible refine (spec_RasOk.calls k bY bZ _ _ bX false _ ?side1 ?side2 A4.out).mono ?_); (case side1 => refine (Kd.Q_reads' (e := 38) (base := w.heap.size) (ok := fun k_ => True) (n := bX.length) (c := dQ) ?_).2.2; exact (by (with_reducible repeat (first | apply Kd.Q_alloc | apply Kd.Q_drewN | apply Kd.Q_drew)); exact (Kd.Q_mono (Kd.Q_far (p := ⟨aZ, 4, none⟩) (Kd.Q_far (p := ⟨aZ, 3, none⟩) (Kd.Q_far (p := ⟨aZ, 2, none⟩) (Kd.Q_far (p := ⟨aZ, 1, none⟩) (Kd.Q_far (p := ⟨aZ, 0, none⟩) (Kd.Q_types bJ.out aI.out oD) (fun _ hk => hk.2) (.int .i64 3)) (fun _ hk => hk.2) (.int .i64 0)) (fun _ hk => hk.2) (.int .i64 0)) (fun _ hk => hk.2) (.int .i64 0)) (fun _ hk => hk.2) (.int .i64 0)) (fun _ h_ => h_.1)))); (case side2 => exact (Kd.Q_reads' bJ.out).2.1); rintro e mM ⟨rfl, hb⟩; refine ⟨_, rfl, ?_⟩; have n_ := o2_ (Kd.Q_below (by (with_reducible repeat (first | apply Kd.Q_alloc | apply Kd.Q_drewN | apply Kd.Q_drew)); exact (Kd.Q_mono (Kd.Q_far (p := ⟨aZ, 4, none⟩) (Kd.Q_far (p := ⟨aZ, 3, none⟩) (Kd.Q_far (p := ⟨aZ, 2, none⟩) (Kd.Q_far (p := ⟨aZ, 1, none⟩) (Kd.Q_far (p := ⟨aZ, 0, none⟩) (Kd.Q_types bJ.out aI.out oD) (fun _ hk => hk.2) (.int .i64 3)) (fun _ hk => hk.2) (.int .i64 0)) (fun _ hk => hk.2) (.int .i64 0)) (fun _ hk => hk.2) (.int .i64 0)) (fun _ hk => hk.2) (.int .i64 0)) (fun _ h_ => h_.1))) hb) (o2_ (blk_below (oP aB) hb) (o1_ (below_step (oB HB) hb))); clear bJ aB HB; obtain ⟨bJ, aB, HB⟩ := n_; (try clear hb); (try clear hb2); (try clear hk); (try clear hi); have pM : mM.cell? ⟨aY, 0, none⟩ = some (.int .i64 bY) := (blk_cell aB.out 0).trans rfl; have pN : mM.cell? ⟨aY, 1, none⟩ = some (.int .i64 bZ) := (blk_cell aB.out 1).trans rfl; have pO : mM.cell? ⟨aY, 2, none⟩ = some (.slice eC bX.length dQ) := (blk_cell aB.out 2).trans rfl; have qK := blk_frozen aB.out 0; have qL := blk_frozen aB.out 1; have qM := blk_frozen aB.out 2) | ((with_reducible refine gate_callee (f := 26) rfl ?_); refine goesL_ (some 25) rfl rfl Try.func26 oK rfl #[.agg #[.int .i64 bY, .int .i64 bZ, .slice eC bX.length dQ]] rfl oA ?_; (with_reducible refine (impl_RasOk.calls k bY bZ _ _ bX false _ ?side1 ?side2 rL.out).mono ?_); (case side1 => repeat (first | exact (Kd.Q_reads' bJ.out).2.2 | (with_reducible refine Kd.C_alloc ?_ _) | (with_reducible refine Kd.C_drewN ?_ _) | (with_reducible refine Kd.C_drew ?_))); (case side2 => exact (Kd.Q_reads' bJ.out).2.1); rintro e xI ⟨rfl, hb⟩; refine ⟨_, rfl, ?_⟩; replace HB := o1_ (below_step (oB HB) hb); (try clear hb); (try clear hb2); (try clear hk); (try clear hi)) | (go_at_call 25; (with_reducible refine (laws_eaOk.calls  kD _ rM.out).mono ?_); rintro e xJ ⟨rfl, hb⟩; replace HB := o1_ (below_step (oB HB) hb); (try clear hb); (try clear hb2); (try clear hk); (try clear hi)))
    go_ret
    exact ⟨by first | rfl | (simp [errW_none, errW_some] <;> rfl) | (simp [*, errW_none, errW_some] <;> rfl), oB HB⟩

/-- THE ONE PURE STATEMENT of laws_FnOpFlip: yours. -/
def laws_FnOpFlip.Pure : Prop := ∀ (l0 : List Int), l0.length ≤ maxLen → l0.length * 1 ≤ 140737488351232 → (∀ x ∈ l0, (Lit.int .u8 x).wf = true) → ∃ k, laws_FnOpFlip.f k l0 = some true
theorem laws_FnOpFlip.walk (P : laws_FnOpFlip.Pure) (a0 : Option Addr) (len0 cap0 : Nat) (z0 : List Int) (w : World) (w0 : (a0 = none ∧ len0 = 0 ∧ cap0 = 0 ∧ z0 = []) ∨ ∃ x, a0 = some x ∧ len0 ≤ cap0 ∧ cap0 ≤ maxLen ∧ z0.length = cap0 ∧ (∀ i, i < z0.length → w.cell? (x.add i) = some (.int .u8 (z0.getD i 0))) ∧ ∀ n ∈ z0, (Lit.int .u8 n).wf = true) (y0 : len0 * 1 ≤ 140737488351232) :
  Calls Try.prog 12 #[.slice a0 len0 cap0] w fun e w' => e = .returned (.bool true) ∧ Below w.heap.size w w' := by
 obtain ⟨l0, rfl, hr0, hm0, hw0, qS⟩ := ReadsInt.ofRowC w0
 obtain ⟨k, h⟩ := P l0 hm0 y0 hw0
 refine (laws_FnOpFlip.calls k _ _ l0 true w (Kd.C_of_reads (d := (0 : Int)) (h1 := fun _ => rfl) hr0) qS h).mono ?_
 rintro e w' ⟨rfl, hd⟩
 exact ⟨rfl, hd⟩

end Go.Proofs.Ythnmeogafklhnaa.X
