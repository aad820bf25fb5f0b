/- What functions of the program come to, each with its proof. No condition but what each theorem states. -/
import Derived.Test.YtjkaalcocgioaaaX0
import Derived.Test.YtjkaalcocgioaaaX14
import Derived.Test.YtjkaalcocgioaaaX32
import Derived.Test.YtjkaalcocgioaaaX35
import Derived.Test.YtjkaalcocgioaaaX37
import Derived.Test.YtjkaalcocgioaaaX39
import Derived.Test.YtjkaalcocgioaaaX40
import Derived.Test.YtjkaalcocgioaaaX41
namespace Go.Proofs.Ytjkaalcocgioaaa.X
open Go.RowKit Go.Proofs.YtjkaalcocgioaaaW.PrintWords Go.Proofs.YtjkaalcocgioaaaW.PrintLast Go.Proofs.YtjkaalcocgioaaaW.PrintMore Go.Proofs.Ytjkaalcocgioaaa.Hyb
attribute [local go_sem] max2_int min2_int max_two min_two max_three min_three max_four min_four
set_option linter.unusedVariables false
set_option linter.unusedSimpArgs false

/-! ### laws_FnExactOpsFold: function 7 -/
def laws_FnExactOpsFold.j0 : Nat → List (S53) → List (S25) → List (S25) → Bool → Option (Bool)
 | 0, _, _, _, _ => none
 | k + 1, x0, x4, x6, x42 => if x42 = true then (none) else ((laws_markOpOpS.f k x6 1).bind fun aX => ((laws_heldOpOpS.f k aX.2 1).bind fun aQ => (if aQ < 0 then (none) else (if aQ = aX.1 then ((laws_toOpOpS.f k x0).bind fun bG => ((impl_OpsFold.f k bG).bind fun bH => ((laws_eqOpOpS.f k bH x4).bind fun bP => (if bP = true then ((laws_heldOpOpS.f k aX.2 1).bind fun aR => (if aR < 0 then (none) else (if aR = aX.1 then (some true) else (none)))) else (none))))) else (none)))))
def laws_FnExactOpsFold.f (k : Nat) (l0 : List (S53)) : Option (Bool) := (laws_szOpOpS.f l0 1048576).bind fun aM => (if aM < 0 then (some true) else ((laws_toOpOpS.f k l0).bind fun aN => ((spec_OpsFold.f k aN).bind fun aG => ((laws_toOpOpS.f k l0).bind fun aH => ((impl_OpsFold.f k aH).bind fun aE => ((laws_eqOpOpS.f k aE aG).bind fun bE => (if bE = true then ((laws_toOpOpS.f k l0).bind fun aO => ((laws_eqOpOpS.f k aH aO).bind fun bF => (if bF = true then ((laws_markOpOpS.f k aH 1).bind fun bC => (if bC.1 < 0 then (laws_FnExactOpsFold.j0 k l0 aG aE true) else ((laws_eqOpOpS.f k aE aG).bind fun aY => (laws_FnExactOpsFold.j0 k l0 aG aE (!aY))))) else (none)))) else (none))))))))
theorem laws_FnExactOpsFold.mono_l : ∀ k, (∀ y0 y1 y2 y3, LeO (laws_FnExactOpsFold.j0 k y0 y1 y2 y3) (laws_FnExactOpsFold.j0 (k + 1) y0 y1 y2 y3))
 | 0 => (fun _ _ _ _ r h => nomatch (show none = some r from h))
 | k + 1 => by
  have ih0 := laws_FnExactOpsFold.mono_l k
  ·intro y0 y1 y2 y3
   unfold laws_FnExactOpsFold.j0
   repeat' first
   | (with_reducible exact ih0 _ _ _ _)
   | (with_reducible exact impl_OpsFold.mono _ _)
   | (with_reducible exact laws_eqOpOpS.mono _ _ _)
   | (with_reducible exact laws_heldOpOpS.mono _ _ _)
   | (with_reducible exact laws_markOpOpS.mono _ _ _)
   | (with_reducible exact laws_toOpOpS.mono _ _)
   | (with_reducible exact spec_OpsFold.mono _ _)
   | (with_reducible exact LeO.refl _)
   | (with_reducible exact LeO.none _)
   | (with_reducible refine LeO.ite ?_ ?_)
   | (with_reducible refine LeO.bind ?_ (fun _ => ?_))
   | exact ih0 _ _ _ _
   | exact impl_OpsFold.mono _ _
   | exact laws_eqOpOpS.mono _ _ _
   | exact laws_heldOpOpS.mono _ _ _
   | exact laws_markOpOpS.mono _ _ _
   | exact laws_toOpOpS.mono _ _
   | exact spec_OpsFold.mono _ _
   | exact LeO.none _
   | refine LeO.ite ?_ ?_
   | refine LeO.bind ?_ (fun _ => ?_)
theorem laws_FnExactOpsFold.mono : ∀ a0 k, LeO (laws_FnExactOpsFold.f k a0) (laws_FnExactOpsFold.f (k + 1) a0) := by
 intro a0 k
 have ih0 := laws_FnExactOpsFold.mono_l k
 unfold laws_FnExactOpsFold.f
 repeat' first
   | (with_reducible exact ih0 _ _ _ _)
   | (with_reducible exact impl_OpsFold.mono _ _)
   | (with_reducible exact laws_eqOpOpS.mono _ _ _)
   | (with_reducible exact laws_heldOpOpS.mono _ _ _)
   | (with_reducible exact laws_markOpOpS.mono _ _ _)
   | (with_reducible exact laws_toOpOpS.mono _ _)
   | (with_reducible exact spec_OpsFold.mono _ _)
   | (with_reducible exact LeO.refl _)
   | (with_reducible exact LeO.none _)
   | (with_reducible refine LeO.ite ?_ ?_)
   | (with_reducible refine LeO.bind ?_ (fun _ => ?_))
   | exact ih0 _ _ _ _
   | exact impl_OpsFold.mono _ _
   | exact laws_eqOpOpS.mono _ _ _
   | exact laws_heldOpOpS.mono _ _ _
   | exact laws_markOpOpS.mono _ _ _
   | exact laws_toOpOpS.mono _ _
   | exact spec_OpsFold.mono _ _
   | exact LeO.none _
   | refine LeO.ite ?_ ?_
   | refine LeO.bind ?_ (fun _ => ?_)
set_option maxHeartbeats 8000000 in
set_option maxRecDepth 100000 in
theorem laws_FnExactOpsFold.calls (k : Nat) (A0 : Option Addr) (c0 : Nat) (l0 : List (S53)) (r : Bool) (w : World) (hr0 : Kd.C k53 w A0 l0.length l0) (dI : l0.length ≤ c0) (h : laws_FnExactOpsFold.f k l0 = some r) :
  Calls Try.prog 7 #[.slice A0 l0.length c0] w fun e w' => e = .returned (.bool r) ∧ Below w.heap.size w w' := by
 have bR := Aside0.mk hr0
 have bQ := Aside0.mk dI
 clear hr0 dI
 have HB := Aside0.mk (Below.refl w.heap.size w)
 have H : ((laws_szOpOpS.f l0 1048576).bind fun aM => (if aM < 0 then (some true) else ((laws_toOpOpS.f k l0).bind fun aN => ((spec_OpsFold.f k aN).bind fun aG => ((laws_toOpOpS.f k l0).bind fun aH => ((impl_OpsFold.f k aH).bind fun aE => ((laws_eqOpOpS.f k aE aG).bind fun bE => (if bE = true then ((laws_toOpOpS.f k l0).bind fun aO => ((laws_eqOpOpS.f k aH aO).bind fun bF => (if bF = true then ((laws_markOpOpS.f k aH 1).bind fun bC => (if bC.1 < 0 then (laws_FnExactOpsFold.j0 k l0 aG aE true) else ((laws_eqOpOpS.f k aE aG).bind fun aY => (laws_FnExactOpsFold.j0 k l0 aG aE (!aY))))) else (none)))) else (none))))))))) = some r := h
 clear h
 replace H := Option.bind_eq_some_iff.mp H
 obtain ⟨aM, cX, H⟩ := H
 (try dsimp only at H)
 have A2 := Aside0.mk cX
 clear cX
 by_cases c3 : aM < 0
 ·rw [if_pos c3] at H
  have cE : decide (aM < 0) = true := decide_eq_true c3
  clear c3
  obtain rfl := Option.some.inj H
  go_enter Try.func7, Try.ntmps7
  go_wp2_with (first | ((with_reducible refine gate_callee (f := 15) rfl ?_); refine goesL_ (some 13) rfl rfl Try.func15 oK rfl #[.slice A0 l0.length c0, .int .i64 1048576] rfl oA ?_; (with_reducible refine (laws_szOpOpS.calls _ _ l0 1048576 aM _ ?side1 ?side2 A2.out).mono ?_); (case side1 => repeat (first | exact bR.out | (with_reducible refine Kd.C_alloc ?_ _) | (with_reducible refine Kd.C_drewN ?_ _) | (with_reducible refine Kd.C_drew ?_))); (case side2 => exact bQ.out); rintro e w' ⟨rfl, ⟨nd, rfl⟩⟩; refine ⟨_, rfl, ?_⟩))
  go_ret
  exact ⟨by first | rfl | (simp [errW_none, errW_some] <;> rfl) | (simp [*, errW_none, errW_some] <;> rfl), oB HB⟩
 ·rw [if_neg c3] at H
  have cE : decide (aM < 0) = false := decide_eq_false c3
  clear c3
  replace H := Option.bind_eq_some_iff.mp H
  obtain ⟨aN, cG, H⟩ := H
  (try dsimp only at H)
  have A4 := Aside0.mk cG
  clear cG
  replace H := Option.bind_eq_some_iff.mp H
  obtain ⟨aG, cY, H⟩ := H
  (try dsimp only at H)
  have A5 := Aside0.mk cY
  clear cY
  replace H := Option.bind_eq_some_iff.mp H
  obtain ⟨aH, cZ, H⟩ := H
  (try dsimp only at H)
  have A6 := Aside0.mk cZ
  clear cZ
  replace H := Option.bind_eq_some_iff.mp H
  obtain ⟨aE, dA, H⟩ := H
  (try dsimp only at H)
  have A7 := Aside0.mk dA
  clear dA
  replace H := Option.bind_eq_some_iff.mp H
  obtain ⟨bE, dB, H⟩ := H
  (try dsimp only at H)
  have A8 := Aside0.mk dB
  clear dB
  by_cases c9 : bE = true
  ·subst c9
   rw [if_pos rfl] at H
   replace H := Option.bind_eq_some_iff.mp H
   obtain ⟨aO, bS, H⟩ := H
   (try dsimp only at H)
   have dJ := Aside0.mk bS
   clear bS
   replace H := Option.bind_eq_some_iff.mp H
   obtain ⟨bF, bT, H⟩ := H
   (try dsimp only at H)
   have dK := Aside0.mk bT
   clear bT
   by_cases cC : bF = true
   ·subst cC
    rw [if_pos rfl] at H
    replace H := Option.bind_eq_some_iff.mp H
    obtain ⟨⟨bI, cW⟩, bU, H⟩ := H
    (try dsimp only at H)
    have dL := Aside0.mk bU
    clear bU
    have bL := Aside0.mk H
    clear H
    go_enter Try.func7, Try.ntmps7
    go_upto_region 14 with (first | ((with_reducible refine gate_callee (f := 15) rfl ?_); refine goesL_ (some 13) rfl rfl Try.func15 oK rfl #[.slice A0 l0.length c0, .int .i64 1048576] rfl oA ?_; (with_reducible refine (laws_szOpOpS.calls _ _ l0 1048576 aM _ ?side1 ?side2 A2.out).mono ?_); (case side1 => repeat (first | exact bR.out | (with_reducible refine Kd.C_alloc ?_ _) | (with_reducible refine Kd.C_drewN ?_ _) | (with_reducible refine Kd.C_drew ?_))); (case side2 => exact bQ.out); rintro e w' ⟨rfl, ⟨nd, rfl⟩⟩; refine ⟨_, rfl, ?_⟩) | ((with_reducible refine gate_callee (f := 16) rfl ?_); refine goesL_ (some 17) rfl rfl Try.func16 oK rfl #[.slice A0 l0.length c0] rfl oA ?_; (with_reducible refine (laws_toOpOpS.calls k _ _ l0 aN _ ?side1 ?side2 A4.out).mono ?_); (case side1 => repeat (first | exact bR.out | (with_reducible refine Kd.C_alloc ?_ _) | (with_reducible refine Kd.C_drewN ?_ _) | (with_reducible refine Kd.C_drew ?_))); (case side2 => exact bQ.out); rintro e eB ⟨dU, rfl, ho0, hb⟩; refine ⟨_, rfl, ?_⟩; have n_ := o2_ (Kd.R_lower ho0 (below_size (oB HB))) (o1_ (below_step (oB HB) hb)); clear HB; obtain ⟨aD, HB⟩ := n_; (try clear hb); (try clear hb2); (try clear hk); (try clear hi); (try clear ho0); obtain ⟨bJ, bN, cP⟩ := Kd.R_slice aD.out; subst cP) | ((with_reducible refine gate_callee (f := 13) rfl ?_); refine goesL_ (some 18) rfl rfl Try.func13 oK rfl #[.slice bJ aN.length bN] rfl oA ?_; (with_reducible refine (spec_OpsFold.calls k _ _ aN aG _ ?side1 ?side2 A5.out).mono ?_); (case side1 => repeat (first | exact (Kd.R_reads' aD.out).2.2 | (with_reducible refine Kd.C_alloc ?_ _) | (with_reducible refine Kd.C_drewN ?_ _) | (with_reducible refine Kd.C_drew ?_))); (case side2 => exact (Kd.R_reads' aD.out).2.1); rintro e eC ⟨dV, rfl, ho0, hb⟩; refine ⟨_, rfl, ?_⟩; have n_ := o2_ (Kd.R_elder' (oR aD) (Kd.R_base ho0) hb) (o2_ (Kd.R_lower (Kd.R_new' ho0 (Kd.R_lt (oR aD))) (below_size (oB HB))) (o1_ (below_step (oB HB) hb))); clear aD HB; obtain ⟨aD, aA, HB⟩ := n_; (try clear hb); (try clear hb2); (try clear hk); (try clear hi); (try clear ho0)) | ((with_reducible refine gate_callee (f := 16) rfl ?_); refine goesL_ (some 20) rfl rfl Try.func16 oK rfl #[.slice A0 l0.length c0] rfl oA ?_; (with_reducible refine (laws_toOpOpS.calls k _ _ l0 aH _ ?side1 ?side2 A6.out).mono ?_); (case side1 => repeat (first | exact (Kd.C_below bR.out HB.out) | (with_reducible refine Kd.C_alloc ?_ _) | (with_reducible refine Kd.C_drewN ?_ _) | (with_reducible refine Kd.C_drew ?_))); (case side2 => exact bQ.out); rintro e eD ⟨dW, rfl, ho0, hb⟩; refine ⟨_, rfl, ?_⟩; have n_ := o2_ (Kd.R_elder' (oR aD) (Kd.R_base ho0) hb) (o2_ (Kd.R_elder' (oR aA) (Kd.R_base ho0) hb) (o2_ (Kd.R_lower (Kd.R_new' (Kd.R_new' ho0 (Kd.R_lt (oR aD))) (Kd.R_lt (oR aA))) (below_size (oB HB))) (o1_ (below_step (oB HB) hb)))); clear aD aA HB; obtain ⟨aD, aA, aC, HB⟩ := n_; (try clear hb); (try clear hb2); (try clear hk); (try clear hi); (try clear ho0); obtain ⟨aT, aU, cQ⟩ := Kd.R_slice aC.out; subst cQ) | ((with_reducible refine gate_callee (f := 8) rfl ?_); refine goesL_ (some 22) rfl rfl Try.func8 oK rfl #[.slice aT aH.length aU] rfl oA ?_; (with_reducible refine (impl_OpsFold.calls k _ _ aH aE _ ?side1 ?side2 A7.out).mono ?_); (case side1 => repeat (first | exact (Kd.R_reads' aC.out).2.2 | (with_reducible refine Kd.C_alloc ?_ _) | (with_reducible refine Kd.C_drewN ?_ _) | (with_reducible refine Kd.C_drew ?_))); (case side2 => exact (Kd.R_reads' aC.out).2.1); rintro e eE ⟨dX, rfl, ho0, hb⟩; refine ⟨_, rfl, ?_⟩; have n_ := o2_ (Kd.R_elder' (oR aD) (Kd.R_base ho0) hb) (o2_ (Kd.R_elder' (oR aA) (Kd.R_base ho0) hb) (o2_ (Kd.R_elder' (oR aC) (Kd.R_base ho0) hb) (o2_ (Kd.R_lower (Kd.R_new' (Kd.R_new' (Kd.R_new' ho0 (Kd.R_lt (oR aD))) (Kd.R_lt (oR aA))) (Kd.R_lt (oR aC))) (below_size (oB HB))) (o1_ (below_step (oB HB) hb))))); clear aD aA aC HB; obtain ⟨aD, aA, aC, aB, HB⟩ := n_; (try clear hb); (try clear hb2); (try clear hk); (try clear hi); (try clear ho0); obtain ⟨aJ, aK, cR⟩ := Kd.R_slice aB.out; subst cR; obtain ⟨aZ, bD, cS⟩ := Kd.R_slice aA.out; subst cS) | ((with_reducible refine gate_callee (f := 17) rfl ?_); refine goesL_ (some 25) rfl rfl Try.func17 oK rfl #[.slice aJ aE.length aK, .slice aZ aG.length bD] rfl oA ?_; (with_reducible refine (laws_eqOpOpS.calls k _ _ aE _ _ aG true _ ?side1 ?side2 ?side3 ?side4 A8.out).mono ?_); (case side1 => repeat (first | exact (Kd.R_reads' aB.out).2.2 | (with_reducible refine Kd.C_alloc ?_ _) | (with_reducible refine Kd.C_drewN ?_ _) | (with_reducible refine Kd.C_drew ?_))); (case side2 => exact (Kd.R_reads' aB.out).2.1); (case side3 => repeat (first | exact (Kd.R_reads' aA.out).2.2 | (with_reducible refine Kd.C_alloc ?_ _) | (with_reducible refine Kd.C_drewN ?_ _) | (with_reducible refine Kd.C_drew ?_))); (case side4 => exact (Kd.R_reads' aA.out).2.1); rintro e eF ⟨rfl, hb⟩; refine ⟨_, rfl, ?_⟩; have n_ := o2_ (Kd.R_below (oR aD) hb) (o2_ (Kd.R_below (oR aA) hb) (o2_ (Kd.R_below (oR aC) hb) (o2_ (Kd.R_below (oR aB) hb) (o1_ (below_step (oB HB) hb))))); clear aD aA aC aB HB; obtain ⟨aD, aA, aC, aB, HB⟩ := n_; (try clear hb); (try clear hb2); (try clear hk); (try clear hi)) | ((with_reducible refine gate_callee (f := 16) rfl ?_); refine goesL_ (some 29) rfl rfl Try.func16 oK rfl #[.slice A0 l0.length c0] rfl oA ?_; (with_reducible refine (laws_toOpOpS.calls k _ _ l0 aO _ ?side1 ?side2 dJ.out).mono ?_); (case side1 => repeat (first | exact (Kd.C_below bR.out HB.out) | (with_reducible refine Kd.C_alloc ?_ _) | (with_reducible refine Kd.C_drewN ?_ _) | (with_reducible refine Kd.C_drew ?_))); (case side2 => exact bQ.out); rintro e eG ⟨dY, rfl, ho0, hb⟩; refine ⟨_, rfl, ?_⟩; have n_ := o2_ (Kd.R_elder' (oR aA) (Kd.R_base ho0) hb) (o2_ (Kd.R_elder' (oR aC) (Kd.R_base ho0) hb) (o2_ (Kd.R_elder' (oR aB) (Kd.R_base ho0) hb) (o2_ (Kd.R_lower (Kd.R_new' (Kd.R_new' (Kd.R_new' (Kd.R_new' ho0 (Kd.R_lt (oR aD))) (Kd.R_lt (oR aA))) (Kd.R_lt (oR aC))) (Kd.R_lt (oR aB))) (below_size (oB HB))) (o1_ (below_step (oB HB) hb))))); clear aA aC aB HB; obtain ⟨aA, aC, aB, bA, HB⟩ := n_; (try clear hb); (try clear hb2); (try clear hk); (try clear hi); (try clear ho0); obtain ⟨bK, bO, cT⟩ := Kd.R_slice bA.out; subst cT) | ((with_reducible refine gate_callee (f := 17) rfl ?_); refine goesL_ (some 30) rfl rfl Try.func17 oK rfl #[.slice aT aH.length aU, .slice bK aO.length bO] rfl oA ?_; (with_reducible refine (laws_eqOpOpS.calls k _ _ aH _ _ aO true _ ?side1 ?side2 ?side3 ?side4 dK.out).mono ?_); (case side1 => repeat (first | exact (Kd.R_reads' aC.out).2.2 | (with_reducible refine Kd.C_alloc ?_ _) | (with_reducible refine Kd.C_drewN ?_ _) | (with_reducible refine Kd.C_drew ?_))); (case side2 => exact (Kd.R_reads' aC.out).2.1); (case side3 => repeat (first | exact (Kd.R_reads' bA.out).2.2 | (with_reducible refine Kd.C_alloc ?_ _) | (with_reducible refine Kd.C_drewN ?_ _) | (with_reducible refine Kd.C_drew ?_))); (case side4 => exact (Kd.R_reads' bA.out).2.1); rintro e eH ⟨rfl, hb⟩; refine ⟨_, rfl, ?_⟩; have n_ := o2_ (Kd.R_below (oR aA) hb) (o2_ (Kd.R_below (oR aC) hb) (o2_ (Kd.R_below (oR aB) hb) (o1_ (below_step (oB HB) hb)))); clear aA aC aB HB; obtain ⟨aA, aC, aB, HB⟩ := n_; (try clear hb); (try clear hb2); (try clear hk); (try clear hi)) | ((with_reducible refine gate_callee (f := 18) rfl ?_); refine goesL_ (some 34) rfl rfl Try.func18 oK rfl #[.slice aT aH.length aU, .int .i64 1] rfl oA ?_; (with_reducible refine (laws_markOpOpS.calls k (fun k_ => some k_ = (.slice aT aH.length aU : Value).ownBlock) (.slice aT aH.length aU) aH 1 bI cW w _ ?side1 ?side2 dL.out).mono ?_); (case side1 => exact oB HB); (case side2 => exact Kd.R_tight rfl aC.out); rintro e eI ⟨rfl, hy0, hb, hkp⟩; refine ⟨_, rfl, ?_⟩; have n_ := o2_ (Kd.R_mono (ok' := fun k_ => some k_ ≠ (.slice bJ aN.length bN : Value).ownBlock ∧ some k_ ≠ (.slice aT aH.length aU : Value).ownBlock ∧ some k_ ≠ (.slice aJ aE.length aK : Value).ownBlock ∧ some k_ ≠ (.slice bK aO.length bO : Value).ownBlock) (Kd.R_keptB (aA.out) hkp (fun k_ hk_ hs_ => (hk_.1.1.2) hs_)) (fun k_ hk_ => ⟨hk_.1.1.1.1.2, hk_.1.1.1.2, hk_.1.1.2, hk_.1.2⟩)) (o2_ (Kd.R_mono (ok' := fun k_ => some k_ ≠ (.slice bJ aN.length bN : Value).ownBlock ∧ some k_ ≠ (.slice aZ aG.length bD : Value).ownBlock ∧ some k_ ≠ (.slice aT aH.length aU : Value).ownBlock ∧ some k_ ≠ (.slice bK aO.length bO : Value).ownBlock) (Kd.R_keptB (aB.out) hkp (fun k_ hk_ hs_ => (hk_.1.2) hs_)) (fun k_ hk_ => ⟨hk_.1.1.1.1.2, hk_.1.1.1.2, hk_.1.1.2, hk_.1.2⟩)) (o1_ (hb))); clear aA aB HB; obtain ⟨aA, aB, HB⟩ := n_; (try clear hb); (try clear hkp); (try clear hy0)))
    (try simp only [Act.put, List.setIfInBounds_toArray, List.set_cons_zero, List.set_cons_succ])
    go_cut [42] (fun dT wc => ∃ (kq : Nat) (aS : Bool), dT = .bool aS ∧ Aside0 (laws_FnExactOpsFold.j0 kq l0 aG aE aS = some r) ∧ Aside0 (kq ≤ k) ∧ Aside0 (Kd.R k25 25 wc w.heap.size (fun k_ => some k_ ≠ ((.slice aJ aE.length aK) : Value).ownBlock) (.slice aZ aG.length bD) aG) ∧ Aside0 (Kd.R k25 25 wc w.heap.size (fun k_ => some k_ ≠ ((.slice aZ aG.length bD) : Value).ownBlock) (.slice aJ aE.length aK) aE) ∧ Aside0 (Below w.heap.size w wc))
    case first =>
     have H := bL.out
     clear bL
     by_cases bM : bI < 0
     ·rw [if_pos bM] at H
      have aL : decide (bI < 0) = true := decide_eq_true bM
      clear bM
      (first | rw [aL] | (simp only [i64_w, i32_w]; rw [aL]) | skip)
      have H' := Aside0.mk H
      clear H
      go_wp2
      go_meet
      case rel => exact ⟨_, (true), oU, H', ⟨(by first | omega | exact Nat.le_refl _)⟩, ⟨(by (with_reducible repeat (first | apply Kd.R_alloc | apply Kd.R_drewN | apply Kd.R_drew)); exact Kd.R_mono aA.out (fun _ hk => hk.2.2.1))⟩, ⟨(by (with_reducible repeat (first | apply Kd.R_alloc | apply Kd.R_drewN | apply Kd.R_drew)); exact Kd.R_mono aB.out (fun _ hk => hk.2.1))⟩, ⟨(oB HB)⟩⟩
     ·rw [if_neg bM] at H
      have aL : decide (bI < 0) = false := decide_eq_false bM
      clear bM
      (first | rw [aL] | (simp only [i64_w, i32_w]; rw [aL]) | skip)
      replace H := Option.bind_eq_some_iff.mp H
      obtain ⟨aY, bV, H⟩ := H
      (try dsimp only at H)
      have dM := Aside0.mk bV
      clear bV
      have H' := Aside0.mk H
      clear H
      go_wp2_with (first | (go_at_call 17; (with_reducible refine (laws_eqOpOpS.calls k _ _ aE _ _ aG aY _ ?side1 ?side2 ?side3 ?side4 dM.out).mono ?_); (case side1 => repeat (first | exact (Kd.R_reads' aB.out).2.2 | (with_reducible refine Kd.C_alloc ?_ _) | (with_reducible refine Kd.C_drewN ?_ _) | (with_reducible refine Kd.C_drew ?_))); (case side2 => exact (Kd.R_reads' aB.out).2.1); (case side3 => repeat (first | exact (Kd.R_reads' aA.out).2.2 | (with_reducible refine Kd.C_alloc ?_ _) | (with_reducible refine Kd.C_drewN ?_ _) | (with_reducible refine Kd.C_drew ?_))); (case side4 => exact (Kd.R_reads' aA.out).2.1); rintro e eJ ⟨rfl, hb⟩; have n_ := o2_ (Kd.R_below (oR aA) hb) (o2_ (Kd.R_below (oR aB) hb) (o1_ (below_step (oB HB) hb))); clear aA aB HB; obtain ⟨aA, aB, HB⟩ := n_; (try clear hb); (try clear hb2); (try clear hk); (try clear hi)))
      go_meet
      case rel => exact ⟨_, (!aY), oU, H', ⟨(by first | omega | exact Nat.le_refl _)⟩, ⟨(by (with_reducible repeat (first | apply Kd.R_alloc | apply Kd.R_drewN | apply Kd.R_drew)); exact Kd.R_mono aA.out (fun _ hk => hk.2.2.1))⟩, ⟨(by (with_reducible repeat (first | apply Kd.R_alloc | apply Kd.R_drewN | apply Kd.R_drew)); exact Kd.R_mono aB.out (fun _ hk => hk.2.1))⟩, ⟨(oB HB)⟩⟩
    case rest =>
     clear bL
     try clear c1
     try clear c2
     try clear p2
     try clear c3
     try clear cE
     try clear c7
     try clear c8
     try clear c9
     try clear cC
     try clear c13
     try clear c15
     try clear c16
     try clear c17
     try clear c18
     try clear bM
     try clear aL
     obtain ⟨kq, aS, rfl, HA, dS, aI, aF, HB⟩ := hcut
     cases kq with
     | zero => exact nomatch (show none = some _ from HA.out)
     | succ kj13 =>
      have H := HA.out
      clear HA
      simp only [laws_FnExactOpsFold.j0] at H
      by_cases cH : aS = true
      ·subst cH
       rw [if_pos rfl] at H
       exact absurd H (by simp)
      ·replace cH := Bool.eq_false_iff.mpr cH
       subst cH
       rw [if_neg (show ¬ (false = true) by decide)] at H
       replace H := Option.bind_eq_some_iff.mp H
       obtain ⟨⟨aV, aP⟩, bW, H⟩ := H
       (try dsimp only at H)
       have dN := Aside0.mk bW
       clear bW
       replace H := Option.bind_eq_some_iff.mp H
       obtain ⟨aQ, bX, H⟩ := H
       (try dsimp only at H)
       have dO := Aside0.mk bX
       clear bX
       by_cases cI : aQ < 0
       ·rw [if_pos cI] at H
        exact absurd H (by simp)
       ·rw [if_neg cI] at H
        have dC : decide (aQ < 0) = false := decide_eq_false cI
        clear cI
        by_cases cD : aQ = aV
        ·rw [if_pos cD] at H
         have dD : (aQ == aV) = true := beq_iff_eq.mpr cD
         have dE : (aQ != aV) = false := bne_eq_false_iff_eq.mpr cD
         clear cD
         replace H := Option.bind_eq_some_iff.mp H
         obtain ⟨bG, bY, H⟩ := H
         (try dsimp only at H)
         have dP := Aside0.mk bY
         clear bY
         replace H := Option.bind_eq_some_iff.mp H
         obtain ⟨bH, bZ, H⟩ := H
         (try dsimp only at H)
         have dQ := Aside0.mk bZ
         clear bZ
         replace H := Option.bind_eq_some_iff.mp H
         obtain ⟨bP, cA, H⟩ := H
         (try dsimp only at H)
         have dR := Aside0.mk cA
         clear cA
         by_cases cJ : bP = true
         ·subst cJ
          rw [if_pos rfl] at H
          replace H := Option.bind_eq_some_iff.mp H
          obtain ⟨aR, cB, H⟩ := H
          (try dsimp only at H)
          have cG := Aside0.mk cB
          clear cB
          by_cases cK : aR < 0
          ·rw [if_pos cK] at H
           exact absurd H (by simp)
          ·rw [if_neg cK] at H
           have dF : decide (aR < 0) = false := decide_eq_false cK
           clear cK
           by_cases cF : aR = aV
           ·rw [if_pos cF] at H
            have dG : (aR == aV) = true := beq_iff_eq.mpr cF
            have dH : (aR != aV) = false := bne_eq_false_iff_eq.mpr cF
            clear cF
            obtain rfl := Option.some.inj H
            go_wp2_with (first | ((with_reducible refine gate_callee (f := 18) rfl ?_); refine goesL_ (some 45) rfl rfl Try.func18 oK rfl #[.slice aJ aE.length aK, .int .i64 1] rfl oA ?_; (with_reducible refine (laws_markOpOpS.calls kj13 (fun k_ => some k_ = (.slice aJ aE.length aK : Value).ownBlock) (.slice aJ aE.length aK) aE 1 aV aP w _ ?side1 ?side2 dN.out).mono ?_); (case side1 => exact oB HB); (case side2 => exact Kd.R_tight rfl aF.out); rintro e eK ⟨rfl, hy0, hb, hkp⟩; refine ⟨_, rfl, ?_⟩; have n_ := o2_ (Kd.R_mono (ok' := fun k_ => some k_ ≠ (.slice aJ aE.length aK : Value).ownBlock) (Kd.R_keptB (aI.out) hkp (fun k_ hk_ hs_ => (hk_) hs_)) (fun k_ hk_ => hk_.1)) (o2_ (Kd.R_reok rfl hy0 (fun k_ e_ => aF.out.1 k_ e_)) (o1_ (hb))); clear aI aF HB; obtain ⟨aI, aF, HB⟩ := n_; (try clear hb); (try clear hkp); (try clear hy0)) | ((with_reducible refine gate_callee (f := 19) rfl ?_); refine goesL_ (some 48) rfl rfl Try.func19 oK rfl #[.slice aJ aP.length aK, .int .i64 1] rfl (by (try simp only [List.map_toArray, List.map_cons, List.map_nil]); first | done | (rw [show aP.length = aE.length from (Kd.R_reads' aF.out).1.symm] <;> rfl) | rfl | (simp only [List.length_drop, List.length_take]; rfl)) ?_; (with_reducible refine (laws_heldOpOpS.calls kj13 _ _ aP 1 aQ _ ?side1 ?side2 dO.out).mono ?_); (case side1 => repeat (first | exact (Kd.R_reads' aF.out).2.2 | (with_reducible refine Kd.C_alloc ?_ _) | (with_reducible refine Kd.C_drewN ?_ _) | (with_reducible refine Kd.C_drew ?_))); (case side2 => rw [show aP.length = aE.length from (Kd.R_reads' aF.out).1.symm]; exact (Kd.R_reads' aF.out).2.1); rintro e w' ⟨rfl, ⟨nd, rfl⟩⟩; refine ⟨_, rfl, ?_⟩) | ((with_reducible refine gate_callee (f := 16) rfl ?_); refine goesL_ (some 55) rfl rfl Try.func16 oK rfl #[.slice A0 l0.length c0] rfl oA ?_; (with_reducible refine (laws_toOpOpS.calls kj13 _ _ l0 bG _ ?side1 ?side2 dP.out).mono ?_); (case side1 => repeat (first | exact (Kd.C_below bR.out (oB HB)) | (with_reducible refine Kd.C_alloc ?_ _) | (with_reducible refine Kd.C_drewN ?_ _) | (with_reducible refine Kd.C_drew ?_))); (case side2 => exact bQ.out); rintro e eL ⟨dZ, rfl, ho0, hb⟩; refine ⟨_, rfl, ?_⟩; have n_ := o2_ (Kd.R_elder' (oR aI) (Kd.R_base ho0) hb) (o2_ (Kd.R_elder' (oR aF) (Kd.R_base ho0) hb) (o2_ (Kd.R_lower (Kd.R_new' (Kd.R_new' ho0 (Kd.R_lt (oR aI))) (Kd.R_lt (oR aF))) (below_size (oB HB))) (o1_ (below_step (oB HB) hb)))); clear aI aF HB; obtain ⟨aI, aF, aW, HB⟩ := n_; (try clear hb); (try clear hb2); (try clear hk); (try clear hi); (try clear ho0); obtain ⟨cL, cN, cU⟩ := Kd.R_slice aW.out; subst cU) | ((with_reducible refine gate_callee (f := 8) rfl ?_); refine goesL_ (some 56) rfl rfl Try.func8 oK rfl #[.slice cL bG.length cN] rfl oA ?_; (with_reducible refine (impl_OpsFold.calls kj13 _ _ bG bH _ ?side1 ?side2 dQ.out).mono ?_); (case side1 => repeat (first | exact (Kd.R_reads' aW.out).2.2 | (with_reducible refine Kd.C_alloc ?_ _) | (with_reducible refine Kd.C_drewN ?_ _) | (with_reducible refine Kd.C_drew ?_))); (case side2 => exact (Kd.R_reads' aW.out).2.1); rintro e eM ⟨eA, rfl, ho0, hb⟩; refine ⟨_, rfl, ?_⟩; have n_ := o2_ (Kd.R_elder' (oR aI) (Kd.R_base ho0) hb) (o2_ (Kd.R_elder' (oR aF) (Kd.R_base ho0) hb) (o2_ (Kd.R_lower (Kd.R_new' (Kd.R_new' (Kd.R_new' ho0 (Kd.R_lt (oR aI))) (Kd.R_lt (oR aF))) (Kd.R_lt (oR aW))) (below_size (oB HB))) (o1_ (below_step (oB HB) hb)))); clear aI aF HB; obtain ⟨aI, aF, bB, HB⟩ := n_; (try clear hb); (try clear hb2); (try clear hk); (try clear hi); (try clear ho0); obtain ⟨cM, cO, cV⟩ := Kd.R_slice bB.out; subst cV) | ((with_reducible refine gate_callee (f := 17) rfl ?_); refine goesL_ (some 59) rfl rfl Try.func17 oK rfl #[.slice cM bH.length cO, .slice aZ aG.length bD] rfl oA ?_; (with_reducible refine (laws_eqOpOpS.calls kj13 _ _ bH _ _ aG true _ ?side1 ?side2 ?side3 ?side4 dR.out).mono ?_); (case side1 => repeat (first | exact (Kd.R_reads' bB.out).2.2 | (with_reducible refine Kd.C_alloc ?_ _) | (with_reducible refine Kd.C_drewN ?_ _) | (with_reducible refine Kd.C_drew ?_))); (case side2 => exact (Kd.R_reads' bB.out).2.1); (case side3 => repeat (first | exact (Kd.R_reads' aI.out).2.2 | (with_reducible refine Kd.C_alloc ?_ _) | (with_reducible refine Kd.C_drewN ?_ _) | (with_reducible refine Kd.C_drew ?_))); (case side4 => exact (Kd.R_reads' aI.out).2.1); rintro e eN ⟨rfl, hb⟩; refine ⟨_, rfl, ?_⟩; have n_ := o2_ (Kd.R_below (oR aF) hb) (o1_ (below_step (oB HB) hb)); clear aF HB; obtain ⟨aF, HB⟩ := n_; (try clear hb); (try clear hb2); (try clear hk); (try clear hi)) | ((with_reducible refine gate_callee (f := 19) rfl ?_); refine goesL_ (some 63) rfl rfl Try.func19 oK rfl #[.slice aJ aP.length aK, .int .i64 1] rfl (by (try simp only [List.map_toArray, List.map_cons, List.map_nil]); first | done | (rw [show aP.length = aE.length from (Kd.R_reads' aF.out).1.symm] <;> rfl) | rfl | (simp only [List.length_drop, List.length_take]; rfl)) ?_; (with_reducible refine (laws_heldOpOpS.calls kj13 _ _ aP 1 aR _ ?side1 ?side2 cG.out).mono ?_); (case side1 => repeat (first | exact (Kd.R_reads' aF.out).2.2 | (with_reducible refine Kd.C_alloc ?_ _) | (with_reducible refine Kd.C_drewN ?_ _) | (with_reducible refine Kd.C_drew ?_))); (case side2 => rw [show aP.length = aE.length from (Kd.R_reads' aF.out).1.symm]; exact (Kd.R_reads' aF.out).2.1); rintro e w' ⟨rfl, ⟨nd, rfl⟩⟩; refine ⟨_, rfl, ?_⟩))
            go_ret
            exact ⟨by first | rfl | (simp [errW_none, errW_some] <;> rfl) | (simp [*, errW_none, errW_some] <;> rfl), oB HB⟩
           ·rw [if_neg cF] at H
            exact absurd H (by simp)
         ·replace cJ := Bool.eq_false_iff.mpr cJ
          subst cJ
          rw [if_neg (show ¬ (false = true) by decide)] at H
          exact absurd H (by simp)
        ·rw [if_neg cD] at H
         exact absurd H (by simp)
   ·replace cC := Bool.eq_false_iff.mpr cC
    subst cC
    rw [if_neg (show ¬ (false = true) by decide)] at H
    exact absurd H (by simp)
  ·replace c9 := Bool.eq_false_iff.mpr c9
   subst c9
   rw [if_neg (show ¬ (false = true) by decide)] at H
   exact absurd H (by simp)
def laws_FnExactOpsFold.Pure : Prop := ∀ (l0 : List (S53)), l0.length ≤ maxLen → (∀ x ∈ l0, (Lit.int .i64 x.f0).wf = true ∧ (Lit.int .i64 x.f1).wf = true ∧ (Lit.int .i64 x.f2).wf = true ∧ (Lit.int .i64 x.f3).wf = true ∧ (Lit.int .i64 x.f4).wf = true) → ∃ k, laws_FnExactOpsFold.f k l0 = some true

end Go.Proofs.Ytjkaalcocgioaaa.X
