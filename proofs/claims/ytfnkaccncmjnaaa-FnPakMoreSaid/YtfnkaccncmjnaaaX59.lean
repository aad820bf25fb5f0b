/- What functions of the program come to, each with its proof. No condition but what each theorem states. -/
import Derived.Test.YtfnkaccncmjnaaaX0
import Derived.Test.YtfnkaccncmjnaaaX23
import Derived.Test.YtfnkaccncmjnaaaX26
import Derived.Test.YtfnkaccncmjnaaaX41
import Derived.Test.YtfnkaccncmjnaaaX45
import Derived.Test.YtfnkaccncmjnaaaX49
import Derived.Test.YtfnkaccncmjnaaaX57
namespace Go.Proofs.Ytfnkaccncmjnaaa.X
open Go.RowKit Go.Proofs.YtfnkaccncmjnaaaW.PrintWords Go.Proofs.YtfnkaccncmjnaaaW.PrintLast Go.Proofs.YtfnkaccncmjnaaaW.PrintMore Go.Proofs.Ytfnkaccncmjnaaa.Hyb
attribute [local go_sem] max2_int min2_int max_two min_two max_three min_three max_four min_four
set_option linter.unusedVariables false
set_option linter.unusedSimpArgs false

/-! ### laws_FnPakMore: function 10 -/
def laws_FnPakMore.j0 : Nat → List Int → List Int → Bool → Option (Bool)
 | 0, _, _, _ => none
 | k + 1, x3, x4, x28 => if x28 = true then ((laws_eaOk.f).bind fun aY => (some aY)) else ((impl_PakPut.f k x4).bind fun aP => ((impl_PakGet.f k aP).bind fun aN => ((impl_PakGet.f k aN.1).bind fun aV => (if aN.2 = true then (if aV.2 = true then ((laws_eaBytes.f aV.1 x3).bind fun aZ => (if aZ = true then ((laws_eaBytes.f aN.1 x4).bind fun bA => (some bA)) else (none))) else (none)) else (none)))))
def laws_FnPakMore.f (k : Nat) (l0 : List Int) : Option (Bool) := if (l0.length : Int) > 1048576 then (some true) else ((spec_DrawPakPut.f k l0).bind fun aA => ((impl_PakPut.f k aA).bind fun aC => ((spec_PakPut.f k aA).bind fun aJ => ((laws_eaBytes.f aC aJ).bind fun aO => (if aO = true then (if (aA.length : Int) > 200 then (laws_FnPakMore.j0 k aA aC true) else (laws_FnPakMore.j0 k aA aC (decide ((aC.length : Int) > 200)))) else (none))))))
theorem laws_FnPakMore.mono_l : ∀ k, (∀ y0 y1 y2, LeO (laws_FnPakMore.j0 k y0 y1 y2) (laws_FnPakMore.j0 (k + 1) y0 y1 y2))
 | 0 => (fun _ _ _ r h => nomatch (show none = some r from h))
 | k + 1 => by
  have ih0 := laws_FnPakMore.mono_l k
  ·intro y0 y1 y2
   unfold laws_FnPakMore.j0
   repeat' first
   | (with_reducible exact ih0 _ _ _)
   | (with_reducible exact impl_PakGet.mono _ _)
   | (with_reducible exact impl_PakPut.mono _ _)
   | (with_reducible exact spec_DrawPakPut.mono _ _)
   | (with_reducible exact spec_PakPut.mono _ _)
   | (with_reducible exact LeO.refl _)
   | (with_reducible exact LeO.none _)
   | (with_reducible refine LeO.ite ?_ ?_)
   | (with_reducible refine LeO.bind ?_ (fun _ => ?_))
   | exact ih0 _ _ _
   | exact impl_PakGet.mono _ _
   | exact impl_PakPut.mono _ _
   | exact spec_DrawPakPut.mono _ _
   | exact spec_PakPut.mono _ _
   | exact LeO.none _
   | refine LeO.ite ?_ ?_
   | refine LeO.bind ?_ (fun _ => ?_)
theorem laws_FnPakMore.mono : ∀ a0 k, LeO (laws_FnPakMore.f k a0) (laws_FnPakMore.f (k + 1) a0) := by
 intro a0 k
 have ih0 := laws_FnPakMore.mono_l k
 unfold laws_FnPakMore.f
 repeat' first
   | (with_reducible exact ih0 _ _ _)
   | (with_reducible exact impl_PakGet.mono _ _)
   | (with_reducible exact impl_PakPut.mono _ _)
   | (with_reducible exact spec_DrawPakPut.mono _ _)
   | (with_reducible exact spec_PakPut.mono _ _)
   | (with_reducible exact LeO.refl _)
   | (with_reducible exact LeO.none _)
   | (with_reducible refine LeO.ite ?_ ?_)
   | (with_reducible refine LeO.bind ?_ (fun _ => ?_))
   | exact ih0 _ _ _
   | exact impl_PakGet.mono _ _
   | exact impl_PakPut.mono _ _
   | exact spec_DrawPakPut.mono _ _
   | exact spec_PakPut.mono _ _
   | exact LeO.none _
   | refine LeO.ite ?_ ?_
   | refine LeO.bind ?_ (fun _ => ?_)
set_option maxHeartbeats 8000000 in
set_option maxRecDepth 100000 in
theorem laws_FnPakMore.calls (k : Nat) (A0 : Option Addr) (c0 : Nat) (l0 : List Int) (r : Bool) (w : World) (hr0 : Kd.C (Kd.int .u8) w A0 l0.length l0) (bO : l0.length ≤ c0) (h : laws_FnPakMore.f k l0 = some r) :
  Calls Try.prog 10 #[.slice A0 l0.length c0] w fun e w' => e = .returned (.bool r) ∧ Below w.heap.size w w' := by
 have cQ := Aside0.mk hr0
 have cP := Aside0.mk bO
 clear hr0 bO
 have HB := Aside0.mk (Below.refl w.heap.size w)
 have H : (if (l0.length : Int) > 1048576 then (some true) else ((spec_DrawPakPut.f k l0).bind fun aA => ((impl_PakPut.f k aA).bind fun aC => ((spec_PakPut.f k aA).bind fun aJ => ((laws_eaBytes.f aC aJ).bind fun aO => (if aO = true then (if (aA.length : Int) > 200 then (laws_FnPakMore.j0 k aA aC true) else (laws_FnPakMore.j0 k aA aC (decide ((aC.length : Int) > 200)))) else (none))))))) = some r := h
 clear h
 by_cases c2 : (l0.length : Int) > 1048576
 ·rw [if_pos c2] at H
  have bH : decide (1048576 < (l0.length : Int)) = true := decide_eq_true c2
  have bI : decide (1048576 < l0.length) = true := decide_eq_true (by omega)
  clear c2
  obtain rfl := Option.some.inj H
  go_enter Try.func10, Try.ntmps10
  go_wp2
  go_ret
  exact ⟨by first | rfl | (simp [errW_none, errW_some] <;> rfl) | (simp [*, errW_none, errW_some] <;> rfl), oB HB⟩
 ·rw [if_neg c2] at H
  have bH : decide (1048576 < (l0.length : Int)) = false := decide_eq_false c2
  have bI : decide (1048576 < l0.length) = false := decide_eq_false (by omega)
  clear c2
  replace H := Option.bind_eq_some_iff.mp H
  obtain ⟨aA, cE, H⟩ := H
  (try dsimp only at H)
  have A3 := Aside0.mk cE
  clear cE
  replace H := Option.bind_eq_some_iff.mp H
  obtain ⟨aC, cF, H⟩ := H
  (try dsimp only at H)
  have A4 := Aside0.mk cF
  clear cF
  replace H := Option.bind_eq_some_iff.mp H
  obtain ⟨aJ, cG, H⟩ := H
  (try dsimp only at H)
  have A5 := Aside0.mk cG
  clear cG
  replace H := Option.bind_eq_some_iff.mp H
  obtain ⟨aO, cH, H⟩ := H
  (try dsimp only at H)
  have A6 := Aside0.mk cH
  clear cH
  by_cases c7 : aO = true
  ·subst c7
   rw [if_pos rfl] at H
   have bS := Aside0.mk H
   clear H
   go_enter Try.func10, Try.ntmps10
   go_upto_region 7 with (first | ((with_reducible refine gate_callee (f := 33) rfl ?_); refine goesL_ (some 13) rfl rfl Try.func33 oK rfl #[.slice A0 l0.length c0] rfl oA ?_; (with_reducible refine (spec_DrawPakPut.calls k _ _ l0 aA _ ?side1 ?side2 A3.out).mono ?_); (case side1 => repeat (first | exact cQ.out | (with_reducible refine Kd.C_alloc ?_ _) | (with_reducible refine Kd.C_drewN ?_ _) | (with_reducible refine Kd.C_drew ?_))); (case side2 => exact cP.out); rintro e w9 ⟨cT, rfl, ho0, hb⟩; refine ⟨_, rfl, ?_⟩; have n_ := o2_ (Kd.R_lower ho0 (below_size (oB HB))) (o1_ (below_step (oB HB) hb)); clear HB; obtain ⟨aB, HB⟩ := n_; (try clear hb); (try clear hb2); (try clear hk); (try clear hi); (try clear ho0); obtain ⟨aQ, aS, bW⟩ := Kd.R_slice aB.out; subst bW) | ((with_reducible refine gate_callee (f := 32) rfl ?_); refine goesL_ (some 15) rfl rfl Try.func32 oK rfl #[.slice aQ aA.length aS] rfl oA ?_; (with_reducible refine (impl_PakPut.calls k _ _ aA aC _ ?side1 ?side2 A4.out).mono ?_); (case side1 => repeat (first | exact (Kd.R_reads' aB.out).2.2 | (with_reducible refine Kd.C_alloc ?_ _) | (with_reducible refine Kd.C_drewN ?_ _) | (with_reducible refine Kd.C_drew ?_))); (case side2 => exact (Kd.R_reads' aB.out).2.1); rintro e dA ⟨cU, rfl, ho0, hb⟩; refine ⟨_, rfl, ?_⟩; have n_ := o2_ (Kd.R_elder' (oR aB) (Kd.R_base ho0) hb) (o2_ (Kd.R_lower (Kd.R_new' ho0 (Kd.R_lt (oR aB))) (below_size (oB HB))) (o1_ (below_step (oB HB) hb))); clear aB HB; obtain ⟨aB, aF, HB⟩ := n_; (try clear hb); (try clear hb2); (try clear hk); (try clear hi); (try clear ho0)) | ((with_reducible refine gate_callee (f := 31) rfl ?_); refine goesL_ (some 18) rfl rfl Try.func31 oK rfl #[.slice aQ aA.length aS] rfl oA ?_; (with_reducible refine (spec_PakPut.calls k _ _ aA aJ _ ?side1 ?side2 A5.out).mono ?_); (case side1 => repeat (first | exact (Kd.R_reads' aB.out).2.2 | (with_reducible refine Kd.C_alloc ?_ _) | (with_reducible refine Kd.C_drewN ?_ _) | (with_reducible refine Kd.C_drew ?_))); (case side2 => exact (Kd.R_reads' aB.out).2.1); rintro e dB ⟨cV, rfl, ho0, hb⟩; refine ⟨_, rfl, ?_⟩; have n_ := o2_ (Kd.R_elder' (oR aB) (Kd.R_base ho0) hb) (o2_ (Kd.R_elder' (oR aF) (Kd.R_base ho0) hb) (o2_ (Kd.R_lower (Kd.R_new' (Kd.R_new' ho0 (Kd.R_lt (oR aB))) (Kd.R_lt (oR aF))) (below_size (oB HB))) (o1_ (below_step (oB HB) hb)))); clear aB aF HB; obtain ⟨aB, aF, aL, HB⟩ := n_; (try clear hb); (try clear hb2); (try clear hk); (try clear hi); (try clear ho0); obtain ⟨aR, aT, bX⟩ := Kd.R_slice aF.out; subst bX; obtain ⟨bP, bT, bY⟩ := Kd.R_slice aL.out; subst bY) | ((with_reducible refine gate_callee (f := 23) rfl ?_); refine goesL_ (some 19) rfl rfl Try.func23 oK rfl #[.slice aR aC.length aT, .slice bP aJ.length bT] rfl oA ?_; (with_reducible refine (laws_eaBytes.calls _ _ aC _ _ aJ true _ ?side1 ?side2 ?side3 ?side4 A6.out).mono ?_); (case side1 => repeat (first | exact (Kd.R_reads' aF.out).2.2 | (with_reducible refine Kd.C_alloc ?_ _) | (with_reducible refine Kd.C_drewN ?_ _) | (with_reducible refine Kd.C_drew ?_))); (case side2 => exact (Kd.R_reads' aF.out).2.1); (case side3 => repeat (first | exact (Kd.R_reads' aL.out).2.2 | (with_reducible refine Kd.C_alloc ?_ _) | (with_reducible refine Kd.C_drewN ?_ _) | (with_reducible refine Kd.C_drew ?_))); (case side4 => exact (Kd.R_reads' aL.out).2.1); rintro e w' ⟨rfl, ⟨nd, rfl⟩⟩; refine ⟨_, rfl, ?_⟩))
   (try simp only [Act.put, List.setIfInBounds_toArray, List.set_cons_zero, List.set_cons_succ])
   go_cut [28] (fun cS wc => ∃ (kq : Nat) (aK : Bool), cS = .bool aK ∧ Aside0 (laws_FnPakMore.j0 kq aA aC aK = some r) ∧ Aside0 (kq ≤ k) ∧ Aside0 (Kd.R (Kd.int .u8) 5 wc w.heap.size (fun k_ => some k_ ≠ ((.slice aR aC.length aT) : Value).ownBlock) (.slice aQ aA.length aS) aA) ∧ Aside0 (Kd.R (Kd.int .u8) 5 wc w.heap.size (fun k_ => some k_ ≠ ((.slice aQ aA.length aS) : Value).ownBlock) (.slice aR aC.length aT) aC) ∧ Aside0 (Below w.heap.size w wc))
   case first =>
    have H := bS.out
    clear bS
    by_cases aX : (aA.length : Int) > 200
    ·rw [if_pos aX] at H
     have aI : decide (200 < (aA.length : Int)) = true := decide_eq_true aX
     have aW : decide (200 < aA.length) = true := decide_eq_true (by omega)
     clear aX
     (first | rw [aI] | (simp only [i64_w, i32_w]; rw [aI]) | skip)
     have H' := Aside0.mk H
     clear H
     go_wp2
     go_meet
     case rel => exact ⟨_, (true), oU, H', ⟨(by first | omega | exact Nat.le_refl _)⟩, ⟨(by (with_reducible repeat (first | apply Kd.R_alloc | apply Kd.R_drewN | apply Kd.R_drew)); exact Kd.R_mono aB.out (fun _ hk => hk.1.2))⟩, ⟨(by (with_reducible repeat (first | apply Kd.R_alloc | apply Kd.R_drewN | apply Kd.R_drew)); exact Kd.R_mono aF.out (fun _ hk => hk.1.2))⟩, ⟨(oB HB)⟩⟩
    ·rw [if_neg aX] at H
     have aI : decide (200 < (aA.length : Int)) = false := decide_eq_false aX
     have aW : decide (200 < aA.length) = false := decide_eq_false (by omega)
     clear aX
     (first | rw [aI] | (simp only [i64_w, i32_w]; rw [aI]) | skip)
     have H' := Aside0.mk H
     clear H
     go_wp2
     go_meet
     case rel => exact ⟨_, (decide ((aC.length : Int) > 200)), oU, H', ⟨(by first | omega | exact Nat.le_refl _)⟩, ⟨(by (with_reducible repeat (first | apply Kd.R_alloc | apply Kd.R_drewN | apply Kd.R_drew)); exact Kd.R_mono aB.out (fun _ hk => hk.1.2))⟩, ⟨(by (with_reducible repeat (first | apply Kd.R_alloc | apply Kd.R_drewN | apply Kd.R_drew)); exact Kd.R_mono aF.out (fun _ hk => hk.1.2))⟩, ⟨(oB HB)⟩⟩
   case rest =>
    clear bS
    try clear c1
    try clear c2
    try clear bH
    try clear bI
    try clear p2
    try clear c3
    try clear c7
    try clear c10
    try clear aX
    try clear aI
    try clear aW
    obtain ⟨kq, aK, rfl, HA, cZ, aE, aD, HB⟩ := hcut
    cases kq with
    | zero => exact nomatch (show none = some _ from HA.out)
    | succ kj7 =>
     have H := HA.out
     clear HA
     simp only [laws_FnPakMore.j0] at H
     by_cases bK : aK = true
     ·subst bK
      rw [if_pos rfl] at H
      replace H := Option.bind_eq_some_iff.mp H
      obtain ⟨aY, bB, H⟩ := H
      (try dsimp only at H)
      have cI := Aside0.mk bB
      clear bB
      obtain rfl := Option.some.inj H
      go_wp2_with (first | ((with_reducible refine gate_callee (f := 25) rfl ?_); refine goesL_ (some 29) rfl rfl Try.func25 oK rfl #[] rfl oA ?_; (with_reducible refine (laws_eaOk.calls  aY _ cI.out).mono ?_); rintro e dC ⟨rfl, hb⟩; refine ⟨_, rfl, ?_⟩; have n_ := o2_ (Kd.R_below (oR aE) hb) (o2_ (Kd.R_below (oR aD) hb) (o1_ (below_step (oB HB) hb))); clear aE aD HB; obtain ⟨aE, aD, HB⟩ := n_; (try clear hb); (try clear hb2); (try clear hk); (try clear hi)))
      go_ret
      exact ⟨by first | rfl | (simp [errW_none, errW_some] <;> rfl) | (simp [*, errW_none, errW_some] <;> rfl), oB HB⟩
     ·replace bK := Bool.eq_false_iff.mpr bK
      subst bK
      rw [if_neg (show ¬ (false = true) by decide)] at H
      replace H := Option.bind_eq_some_iff.mp H
      obtain ⟨aP, bC, H⟩ := H
      (try dsimp only at H)
      have cJ := Aside0.mk bC
      clear bC
      replace H := Option.bind_eq_some_iff.mp H
      obtain ⟨⟨aU, cC⟩, bD, H⟩ := H
      (try dsimp only at H)
      have cK := Aside0.mk bD
      clear bD
      replace H := Option.bind_eq_some_iff.mp H
      obtain ⟨⟨bJ, cD⟩, bE, H⟩ := H
      (try dsimp only at H)
      have cL := Aside0.mk bE
      clear bE
      by_cases bL : cC = true
      ·subst bL
       rw [if_pos rfl] at H
       by_cases bM : cD = true
       ·subst bM
        rw [if_pos rfl] at H
        replace H := Option.bind_eq_some_iff.mp H
        obtain ⟨aZ, bF, H⟩ := H
        (try dsimp only at H)
        have cM := Aside0.mk bF
        clear bF
        by_cases bN : aZ = true
        ·subst bN
         rw [if_pos rfl] at H
         replace H := Option.bind_eq_some_iff.mp H
         obtain ⟨bA, bG, H⟩ := H
         (try dsimp only at H)
         have cN := Aside0.mk bG
         clear bG
         obtain rfl := Option.some.inj H
         go_wp2_with (first | ((with_reducible refine gate_callee (f := 32) rfl ?_); refine goesL_ (some 32) rfl rfl Try.func32 oK rfl #[.slice aR aC.length aT] rfl oA ?_; (with_reducible refine (impl_PakPut.calls kj7 _ _ aC aP _ ?side1 ?side2 cJ.out).mono ?_); (case side1 => repeat (first | exact (Kd.R_reads' aD.out).2.2 | (with_reducible refine Kd.C_alloc ?_ _) | (with_reducible refine Kd.C_drewN ?_ _) | (with_reducible refine Kd.C_drew ?_))); (case side2 => exact (Kd.R_reads' aD.out).2.1); rintro e dD ⟨cW, rfl, ho0, hb⟩; refine ⟨_, rfl, ?_⟩; have n_ := o2_ (Kd.R_elder' (oR aE) (Kd.R_base ho0) hb) (o2_ (Kd.R_elder' (oR aD) (Kd.R_base ho0) hb) (o2_ (Kd.R_lower (Kd.R_new' (Kd.R_new' ho0 (Kd.R_lt (oR aE))) (Kd.R_lt (oR aD))) (below_size (oB HB))) (o1_ (below_step (oB HB) hb)))); clear aE aD HB; obtain ⟨aE, aD, aH, HB⟩ := n_; (try clear hb); (try clear hb2); (try clear hk); (try clear hi); (try clear ho0); obtain ⟨bQ, bU, bZ⟩ := Kd.R_slice aH.out; subst bZ) | ((with_reducible refine gate_callee (f := 30) rfl ?_); refine goesL_ (some 33) rfl rfl Try.func30 oK rfl #[.slice bQ aP.length bU] rfl oA ?_; (with_reducible refine (impl_PakGet.calls kj7 _ _ aP aU true _ ?side1 ?side2 cK.out).mono ?_); (case side1 => repeat (first | exact (Kd.R_reads' aH.out).2.2 | (with_reducible refine Kd.C_alloc ?_ _) | (with_reducible refine Kd.C_drewN ?_ _) | (with_reducible refine Kd.C_drew ?_))); (case side2 => exact (Kd.R_reads' aH.out).2.1); rintro e dE ⟨cX, rfl, ho0, hb⟩; refine ⟨_, rfl, ?_⟩; have n_ := o2_ (Kd.R_elder' (oR aE) (Kd.R_base ho0) hb) (o2_ (Kd.R_elder' (oR aD) (Kd.R_base ho0) hb) (o2_ (Kd.R_elder' (oR aH) (Kd.R_base ho0) hb) (o2_ (Kd.R_lower (Kd.R_new' (Kd.R_new' (Kd.R_new' ho0 (Kd.R_lt (oR aE))) (Kd.R_lt (oR aD))) (Kd.R_lt (oR aH))) (below_size (oB HB))) (o1_ (below_step (oB HB) hb))))); clear aE aD aH HB; obtain ⟨aE, aD, aH, aG, HB⟩ := n_; (try clear hb); (try clear hb2); (try clear hk); (try clear hi); (try clear ho0); obtain ⟨bR, bV, cA⟩ := Kd.R_slice aG.out; subst cA) | ((with_reducible refine gate_callee (f := 30) rfl ?_); refine goesL_ (some 38) rfl rfl Try.func30 oK rfl #[.slice bR aU.length bV] rfl oA ?_; (with_reducible refine (impl_PakGet.calls kj7 _ _ aU bJ true _ ?side1 ?side2 cL.out).mono ?_); (case side1 => repeat (first | exact (Kd.R_reads' aG.out).2.2 | (with_reducible refine Kd.C_alloc ?_ _) | (with_reducible refine Kd.C_drewN ?_ _) | (with_reducible refine Kd.C_drew ?_))); (case side2 => exact (Kd.R_reads' aG.out).2.1); rintro e dF ⟨cY, rfl, ho0, hb⟩; refine ⟨_, rfl, ?_⟩; have n_ := o2_ (Kd.R_elder' (oR aE) (Kd.R_base ho0) hb) (o2_ (Kd.R_elder' (oR aD) (Kd.R_base ho0) hb) (o2_ (Kd.R_elder' (oR aG) (Kd.R_base ho0) hb) (o2_ (Kd.R_lower (Kd.R_new' (Kd.R_new' (Kd.R_new' (Kd.R_new' ho0 (Kd.R_lt (oR aE))) (Kd.R_lt (oR aD))) (Kd.R_lt (oR aH))) (Kd.R_lt (oR aG))) (below_size (oB HB))) (o1_ (below_step (oB HB) hb))))); clear aE aD aG HB; obtain ⟨aE, aD, aG, aM, HB⟩ := n_; (try clear hb); (try clear hb2); (try clear hk); (try clear hi); (try clear ho0); obtain ⟨cO, cR, cB⟩ := Kd.R_slice aM.out; subst cB) | (go_at_call 23; (with_reducible refine (laws_eaBytes.calls _ _ bJ _ _ aA true _ ?side1 ?side2 ?side3 ?side4 cM.out).mono ?_); (case side1 => repeat (first | exact (Kd.R_reads' aM.out).2.2 | (with_reducible refine Kd.C_alloc ?_ _) | (with_reducible refine Kd.C_drewN ?_ _) | (with_reducible refine Kd.C_drew ?_))); (case side2 => exact (Kd.R_reads' aM.out).2.1); (case side3 => repeat (first | exact (Kd.R_reads' aE.out).2.2 | (with_reducible refine Kd.C_alloc ?_ _) | (with_reducible refine Kd.C_drewN ?_ _) | (with_reducible refine Kd.C_drew ?_))); (case side4 => exact (Kd.R_reads' aE.out).2.1); rintro e w' ⟨rfl, ⟨nd, rfl⟩⟩) | (go_at_call 23; (with_reducible refine (laws_eaBytes.calls _ _ aU _ _ aC bA _ ?side1 ?side2 ?side3 ?side4 cN.out).mono ?_); (case side1 => repeat (first | exact (Kd.R_reads' aG.out).2.2 | (with_reducible refine Kd.C_alloc ?_ _) | (with_reducible refine Kd.C_drewN ?_ _) | (with_reducible refine Kd.C_drew ?_))); (case side2 => exact (Kd.R_reads' aG.out).2.1); (case side3 => repeat (first | exact (Kd.R_reads' aD.out).2.2 | (with_reducible refine Kd.C_alloc ?_ _) | (with_reducible refine Kd.C_drewN ?_ _) | (with_reducible refine Kd.C_drew ?_))); (case side4 => exact (Kd.R_reads' aD.out).2.1); rintro e w' ⟨rfl, ⟨nd, rfl⟩⟩))
         go_ret
         exact ⟨by first | rfl | (simp [errW_none, errW_some] <;> rfl) | (simp [*, errW_none, errW_some] <;> rfl), oB HB⟩
        ·replace bN := Bool.eq_false_iff.mpr bN
         subst bN
         rw [if_neg (show ¬ (false = true) by decide)] at H
         exact absurd H (by simp)
       ·replace bM := Bool.eq_false_iff.mpr bM
        subst bM
        rw [if_neg (show ¬ (false = true) by decide)] at H
        exact absurd H (by simp)
      ·replace bL := Bool.eq_false_iff.mpr bL
       subst bL
       rw [if_neg (show ¬ (false = true) by decide)] at H
       exact absurd H (by simp)
  ·replace c7 := Bool.eq_false_iff.mpr c7
   subst c7
   rw [if_neg (show ¬ (false = true) by decide)] at H
   exact absurd H (by simp)

/-- THE ONE PURE STATEMENT of laws_FnPakMore: yours. -/
def laws_FnPakMore.Pure : Prop := ∀ (l0 : List Int), l0.length ≤ maxLen → l0.length * 1 ≤ 140737488351232 → (∀ x ∈ l0, (Lit.int .u8 x).wf = true) → ∃ k, laws_FnPakMore.f k l0 = some true
theorem laws_FnPakMore.walk (P : laws_FnPakMore.Pure) (a0 : Option Addr) (len0 cap0 : Nat) (z0 : List Int) (w : World) (w0 : (a0 = none ∧ len0 = 0 ∧ cap0 = 0 ∧ z0 = []) ∨ ∃ x, a0 = some x ∧ len0 ≤ cap0 ∧ cap0 ≤ maxLen ∧ z0.length = cap0 ∧ (∀ i, i < z0.length → w.cell? (x.add i) = some (.int .u8 (z0.getD i 0))) ∧ ∀ n ∈ z0, (Lit.int .u8 n).wf = true) (y0 : len0 * 1 ≤ 140737488351232) :
  Calls Try.prog 10 #[.slice a0 len0 cap0] w fun e w' => e = .returned (.bool true) ∧ Below w.heap.size w w' := by
 obtain ⟨l0, rfl, hr0, hm0, hw0, bO⟩ := ReadsInt.ofRowC w0
 obtain ⟨k, h⟩ := P l0 hm0 y0 hw0
 refine (laws_FnPakMore.calls k _ _ l0 true w (Kd.C_of_reads (d := (0 : Int)) (h1 := fun _ => rfl) hr0) bO h).mono ?_
 rintro e w' ⟨rfl, hd⟩
 exact ⟨rfl, hd⟩

end Go.Proofs.Ytfnkaccncmjnaaa.X
