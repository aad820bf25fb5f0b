/- What functions of the program come to, each with its proof. No condition but what each theorem states. -/
import Derived.Test.YtfnkaccncmjnaaaX0
import Derived.Test.YtfnkaccncmjnaaaX23
import Derived.Test.YtfnkaccncmjnaaaX26
import Derived.Test.YtfnkaccncmjnaaaX37
import Derived.Test.YtfnkaccncmjnaaaX41
import Derived.Test.YtfnkaccncmjnaaaX49
import Derived.Test.YtfnkaccncmjnaaaX62
namespace Go.Proofs.Ytfnkaccncmjnaaa.X
open Go.RowKit Go.Proofs.YtfnkaccncmjnaaaW.PrintWords Go.Proofs.YtfnkaccncmjnaaaW.PrintLast Go.Proofs.YtfnkaccncmjnaaaW.PrintMore Go.Proofs.Ytfnkaccncmjnaaa.Hyb
attribute [local go_sem] max2_int min2_int max_two min_two max_three min_three max_four min_four
set_option linter.unusedVariables false
set_option linter.unusedSimpArgs false

/-! ### laws_FnPakGet: function 12 -/
def laws_FnPakGet.j0 : Nat → List Int → List Int → Bool → Bool → Option (Bool)
 | 0, _, _, _, _ => none
 | k + 1, x3, x4, x5, x35 => if x35 = true then (none) else (if x5 = true then ((some (([] : List Int) : List Int)).bind fun aX => (if aX.length + x3.length < 140737488355328 then ((some (aX ++ x3 : List Int)).bind fun aQ => (if aQ.length < 140737488355328 then ((impl_PakGet.f k (aQ ++ [0])).bind fun aM => ((impl_PakPut.f k x4).bind fun aN => ((impl_PakGet.f k aN).bind fun aK => (if aM.2 = true then (none) else (if (x4.length : Int) ≤ 200 then (if aK.2 = true then ((laws_eaBytes.f aK.1 x4).bind fun aU => (some aU)) else (none)) else (none)))))) else (none))) else (none))) else (if (x4.length : Int) = 0 then ((laws_eaOk.f).bind fun bK => (some bK)) else (none)))
def laws_FnPakGet.f (k : Nat) (l0 : List Int) : Option (Bool) := if (l0.length : Int) > 1048576 then (some true) else ((spec_DrawPakGet.f k l0).bind fun aC => ((impl_PakGet.f k aC).bind fun aH => ((spec_PakGet.f k aC).bind fun aW => ((laws_eaBytes.f aH.1 aW.1).bind fun bD => (if bD = true then (laws_FnPakGet.j0 k aC aH.1 aH.2 (aH.2 != aW.2)) else (laws_FnPakGet.j0 k aC aH.1 aH.2 true))))))
theorem laws_FnPakGet.mono_l : ∀ k, (∀ y0 y1 y2 y3, LeO (laws_FnPakGet.j0 k y0 y1 y2 y3) (laws_FnPakGet.j0 (k + 1) y0 y1 y2 y3))
 | 0 => (fun _ _ _ _ r h => nomatch (show none = some r from h))
 | k + 1 => by
  have ih0 := laws_FnPakGet.mono_l k
  ·intro y0 y1 y2 y3
   unfold laws_FnPakGet.j0
   repeat' first
   | (with_reducible exact ih0 _ _ _ _)
   | (with_reducible exact impl_PakGet.mono _ _)
   | (with_reducible exact impl_PakPut.mono _ _)
   | (with_reducible exact spec_DrawPakGet.mono _ _)
   | (with_reducible exact spec_PakGet.mono _ _)
   | (with_reducible exact LeO.refl _)
   | (with_reducible exact LeO.none _)
   | (with_reducible refine LeO.ite ?_ ?_)
   | (with_reducible refine LeO.bind ?_ (fun _ => ?_))
   | exact ih0 _ _ _ _
   | exact impl_PakGet.mono _ _
   | exact impl_PakPut.mono _ _
   | exact spec_DrawPakGet.mono _ _
   | exact spec_PakGet.mono _ _
   | exact LeO.none _
   | refine LeO.ite ?_ ?_
   | refine LeO.bind ?_ (fun _ => ?_)
theorem laws_FnPakGet.mono : ∀ a0 k, LeO (laws_FnPakGet.f k a0) (laws_FnPakGet.f (k + 1) a0) := by
 intro a0 k
 have ih0 := laws_FnPakGet.mono_l k
 unfold laws_FnPakGet.f
 repeat' first
   | (with_reducible exact ih0 _ _ _ _)
   | (with_reducible exact impl_PakGet.mono _ _)
   | (with_reducible exact impl_PakPut.mono _ _)
   | (with_reducible exact spec_DrawPakGet.mono _ _)
   | (with_reducible exact spec_PakGet.mono _ _)
   | (with_reducible exact LeO.refl _)
   | (with_reducible exact LeO.none _)
   | (with_reducible refine LeO.ite ?_ ?_)
   | (with_reducible refine LeO.bind ?_ (fun _ => ?_))
   | exact ih0 _ _ _ _
   | exact impl_PakGet.mono _ _
   | exact impl_PakPut.mono _ _
   | exact spec_DrawPakGet.mono _ _
   | exact spec_PakGet.mono _ _
   | exact LeO.none _
   | refine LeO.ite ?_ ?_
   | refine LeO.bind ?_ (fun _ => ?_)
set_option maxHeartbeats 8000000 in
set_option maxRecDepth 100000 in
theorem laws_FnPakGet.calls (k : Nat) (A0 : Option Addr) (c0 : Nat) (l0 : List Int) (r : Bool) (w : World) (hr0 : Kd.C (Kd.int .u8) w A0 l0.length l0) (cH : l0.length ≤ c0) (h : laws_FnPakGet.f k l0 = some r) :
  Calls Try.prog 12 #[.slice A0 l0.length c0] w fun e w' => e = .returned (.bool r) ∧ Below w.heap.size w w' := by
 have dZ := Aside0.mk hr0
 have dY := Aside0.mk cH
 clear hr0 cH
 have HB := Aside0.mk (Below.refl w.heap.size w)
 have H : (if (l0.length : Int) > 1048576 then (some true) else ((spec_DrawPakGet.f k l0).bind fun aC => ((impl_PakGet.f k aC).bind fun aH => ((spec_PakGet.f k aC).bind fun aW => ((laws_eaBytes.f aH.1 aW.1).bind fun bD => (if bD = true then (laws_FnPakGet.j0 k aC aH.1 aH.2 (aH.2 != aW.2)) else (laws_FnPakGet.j0 k aC aH.1 aH.2 true))))))) = some r := h
 clear h
 by_cases c2 : (l0.length : Int) > 1048576
 ·rw [if_pos c2] at H
  have bU : decide (1048576 < (l0.length : Int)) = true := decide_eq_true c2
  have bV : decide (1048576 < l0.length) = true := decide_eq_true (by omega)
  clear c2
  obtain rfl := Option.some.inj H
  go_enter Try.func12, Try.ntmps12
  go_wp2
  go_ret
  exact ⟨by first | rfl | (simp [errW_none, errW_some] <;> rfl) | (simp [*, errW_none, errW_some] <;> rfl), oB HB⟩
 ·rw [if_neg c2] at H
  have bU : decide (1048576 < (l0.length : Int)) = false := decide_eq_false c2
  have bV : decide (1048576 < l0.length) = false := decide_eq_false (by omega)
  clear c2
  replace H := Option.bind_eq_some_iff.mp H
  obtain ⟨aC, dM, H⟩ := H
  (try dsimp only at H)
  have A3 := Aside0.mk dM
  clear dM
  replace H := Option.bind_eq_some_iff.mp H
  obtain ⟨⟨aD, bE⟩, bZ, H⟩ := H
  (try dsimp only at H)
  have A4 := Aside0.mk bZ
  clear bZ
  replace H := Option.bind_eq_some_iff.mp H
  obtain ⟨⟨bC, bX⟩, dN, H⟩ := H
  (try dsimp only at H)
  have A5 := Aside0.mk dN
  clear dN
  have cP := Aside0.mk H
  clear H
  go_enter Try.func12, Try.ntmps12
  go_upto_region 6 with (first | ((with_reducible refine gate_callee (f := 34) rfl ?_); refine goesL_ (some 16) rfl rfl Try.func34 oK rfl #[.slice A0 l0.length c0] rfl oA ?_; (with_reducible refine (spec_DrawPakGet.calls k _ _ l0 aC _ ?side1 ?side2 A3.out).mono ?_); (case side1 => repeat (first | exact dZ.out | (with_reducible refine Kd.C_alloc ?_ _) | (with_reducible refine Kd.C_drewN ?_ _) | (with_reducible refine Kd.C_drew ?_))); (case side2 => exact dY.out); rintro e w7 ⟨eE, rfl, ho0, hb⟩; refine ⟨_, rfl, ?_⟩; have n_ := o2_ (Kd.R_lower ho0 (below_size (oB HB))) (o1_ (below_step (oB HB) hb)); clear HB; obtain ⟨aE, HB⟩ := n_; (try clear hb); (try clear hb2); (try clear hk); (try clear hi); (try clear ho0); obtain ⟨bF, bJ, eC⟩ := Kd.R_slice aE.out; subst eC) | ((with_reducible refine gate_callee (f := 30) rfl ?_); refine goesL_ (some 19) rfl rfl Try.func30 oK rfl #[.slice bF aC.length bJ] rfl oA ?_; (with_reducible refine (impl_PakGet.calls k _ _ aC aD bE _ ?side1 ?side2 A4.out).mono ?_); (case side1 => repeat (first | exact (Kd.R_reads' aE.out).2.2 | (with_reducible refine Kd.C_alloc ?_ _) | (with_reducible refine Kd.C_drewN ?_ _) | (with_reducible refine Kd.C_drew ?_))); (case side2 => exact (Kd.R_reads' aE.out).2.1); rintro e w9 ⟨bA, rfl, ho0, hb⟩; refine ⟨_, rfl, ?_⟩; have n_ := o2_ (Kd.R_elder' (oR aE) (Kd.R_base ho0) hb) (o2_ (Kd.R_lower (Kd.R_new' ho0 (Kd.R_lt (oR aE))) (below_size (oB HB))) (o1_ (below_step (oB HB) hb))); clear aE HB; obtain ⟨aE, aI, HB⟩ := n_; (try clear hb); (try clear hb2); (try clear hk); (try clear hi); (try clear ho0)) | ((with_reducible refine gate_callee (f := 28) rfl ?_); refine goesL_ (some 24) rfl rfl Try.func28 oK rfl #[.slice bF aC.length bJ] rfl oA ?_; (with_reducible refine (spec_PakGet.calls k _ _ aC bC bX _ ?side1 ?side2 A5.out).mono ?_); (case side1 => repeat (first | exact (Kd.R_reads' aE.out).2.2 | (with_reducible refine Kd.C_alloc ?_ _) | (with_reducible refine Kd.C_drewN ?_ _) | (with_reducible refine Kd.C_drew ?_))); (case side2 => exact (Kd.R_reads' aE.out).2.1); rintro e eL ⟨eF, rfl, ho0, hb⟩; refine ⟨_, rfl, ?_⟩; have n_ := o2_ (Kd.R_elder' (oR aE) (Kd.R_base ho0) hb) (o2_ (Kd.R_elder' (oR aI) (Kd.R_base ho0) hb) (o2_ (Kd.R_lower (Kd.R_new' (Kd.R_new' ho0 (Kd.R_lt (oR aE))) (Kd.R_lt (oR aI))) (below_size (oB HB))) (o1_ (below_step (oB HB) hb)))); clear aE aI HB; obtain ⟨aE, aI, aT, HB⟩ := n_; (try clear hb); (try clear hb2); (try clear hk); (try clear hi); (try clear ho0)))
  (try simp only [Act.put, List.setIfInBounds_toArray, List.set_cons_zero, List.set_cons_succ])
  go_cut [35] (fun eD wc => ∃ (kq : Nat) (aZ : Bool), eD = .bool aZ ∧ Aside0 (laws_FnPakGet.j0 kq aC aD bE aZ = some r) ∧ Aside0 (kq ≤ k) ∧ Aside0 (Kd.R (Kd.int .u8) 5 wc w.heap.size (fun k_ => some k_ ≠ (bA : Value).ownBlock) (.slice bF aC.length bJ) aC) ∧ Aside0 (Kd.R (Kd.int .u8) 5 wc w.heap.size (fun k_ => some k_ ≠ ((.slice bF aC.length bJ) : Value).ownBlock) bA aD) ∧ Aside0 (Below w.heap.size w wc))
  case first =>
   have H := cP.out
   clear cP
   replace H := Option.bind_eq_some_iff.mp H
   obtain ⟨bD, bL, H⟩ := H
   (try dsimp only at H)
   have dL := Aside0.mk bL
   clear bL
   by_cases bT : bD = true
   ·subst bT
    rw [if_pos rfl] at H
    have H' := Aside0.mk H
    clear H
    obtain ⟨cI, cQ, cX⟩ := Kd.R_slice aI.out
    subst cX
    obtain ⟨cJ, cR, cY⟩ := Kd.R_slice aT.out
    subst cY
    go_wp2_with (first | ((with_reducible refine gate_callee (f := 23) rfl ?_); refine goesL_ (some 29) rfl rfl Try.func23 oK rfl #[.slice cI aD.length cQ, .slice cJ bC.length cR] rfl oA ?_; (with_reducible refine (laws_eaBytes.calls _ _ aD _ _ bC true _ ?side1 ?side2 ?side3 ?side4 dL.out).mono ?_); (case side1 => repeat (first | exact (Kd.R_reads' aI.out).2.2 | (with_reducible refine Kd.C_alloc ?_ _) | (with_reducible refine Kd.C_drewN ?_ _) | (with_reducible refine Kd.C_drew ?_))); (case side2 => exact (Kd.R_reads' aI.out).2.1); (case side3 => repeat (first | exact (Kd.R_reads' aT.out).2.2 | (with_reducible refine Kd.C_alloc ?_ _) | (with_reducible refine Kd.C_drewN ?_ _) | (with_reducible refine Kd.C_drew ?_))); (case side4 => exact (Kd.R_reads' aT.out).2.1); rintro e w' ⟨rfl, ⟨nd, rfl⟩⟩; refine ⟨_, rfl, ?_⟩))
    go_meet
    case rel => exact ⟨_, ((bE != bX)), oU, H', ⟨(by first | omega | exact Nat.le_refl _)⟩, ⟨(by (with_reducible repeat (first | apply Kd.R_alloc | apply Kd.R_drewN | apply Kd.R_drew)); exact Kd.R_mono aE.out (fun _ hk => hk.1.2))⟩, ⟨(by (with_reducible repeat (first | apply Kd.R_alloc | apply Kd.R_drewN | apply Kd.R_drew)); exact Kd.R_mono aI.out (fun _ hk => hk.1.2))⟩, ⟨(oB HB)⟩⟩
   ·replace bT := Bool.eq_false_iff.mpr bT
    subst bT
    rw [if_neg (show ¬ (false = true) by decide)] at H
    have H' := Aside0.mk H
    clear H
    obtain ⟨cK, cS, cZ⟩ := Kd.R_slice aI.out
    subst cZ
    obtain ⟨cL, cT, dA⟩ := Kd.R_slice aT.out
    subst dA
    go_wp2_with (first | ((with_reducible refine gate_callee (f := 23) rfl ?_); refine goesL_ (some 29) rfl rfl Try.func23 oK rfl #[.slice cK aD.length cS, .slice cL bC.length cT] rfl oA ?_; (with_reducible refine (laws_eaBytes.calls _ _ aD _ _ bC false _ ?side1 ?side2 ?side3 ?side4 dL.out).mono ?_); (case side1 => repeat (first | exact (Kd.R_reads' aI.out).2.2 | (with_reducible refine Kd.C_alloc ?_ _) | (with_reducible refine Kd.C_drewN ?_ _) | (with_reducible refine Kd.C_drew ?_))); (case side2 => exact (Kd.R_reads' aI.out).2.1); (case side3 => repeat (first | exact (Kd.R_reads' aT.out).2.2 | (with_reducible refine Kd.C_alloc ?_ _) | (with_reducible refine Kd.C_drewN ?_ _) | (with_reducible refine Kd.C_drew ?_))); (case side4 => exact (Kd.R_reads' aT.out).2.1); rintro e w' ⟨rfl, ⟨nd, rfl⟩⟩; refine ⟨_, rfl, ?_⟩))
    go_meet
    case rel => exact ⟨_, (true), oU, H', ⟨(by first | omega | exact Nat.le_refl _)⟩, ⟨(by (with_reducible repeat (first | apply Kd.R_alloc | apply Kd.R_drewN | apply Kd.R_drew)); exact Kd.R_mono aE.out (fun _ hk => hk.1.2))⟩, ⟨(by (with_reducible repeat (first | apply Kd.R_alloc | apply Kd.R_drewN | apply Kd.R_drew)); exact Kd.R_mono aI.out (fun _ hk => hk.1.2))⟩, ⟨(oB HB)⟩⟩
  case rest =>
   clear cP
   try clear c1
   try clear c2
   try clear bU
   try clear bV
   try clear p2
   try clear c3
   try clear bT
   obtain ⟨kq, aZ, rfl, HA, eK, aG, aA, HB⟩ := hcut
   cases kq with
   | zero => exact nomatch (show none = some _ from HA.out)
   | succ kj5 =>
    have H := HA.out
    clear HA
    simp only [laws_FnPakGet.j0] at H
    by_cases cA : aZ = true
    ·subst cA
     rw [if_pos rfl] at H
     exact absurd H (by simp)
    ·replace cA := Bool.eq_false_iff.mpr cA
     subst cA
     rw [if_neg (show ¬ (false = true) by decide)] at H
     by_cases cB : bE = true
     ·subst cB
      rw [if_pos rfl] at H
      obtain ⟨aX, hy845⟩ : ∃ y_ : List Int, y_ = (([] : List Int)) := ⟨_, rfl⟩
      replace H : (if aX.length + aC.length < 140737488355328 then ((some (aX ++ aC : List Int)).bind fun aQ => (if aQ.length < 140737488355328 then ((impl_PakGet.f kj5 (aQ ++ [0])).bind fun aM => ((impl_PakPut.f kj5 aD).bind fun aN => ((impl_PakGet.f kj5 aN).bind fun aK => (if aM.2 = true then (none) else (if (aD.length : Int) ≤ 200 then (if aK.2 = true then ((laws_eaBytes.f aK.1 aD).bind fun aU => (some aU)) else (none)) else (none)))))) else (none))) else (none)) = some r := by first | (rw [hy845]; with_reducible exact H) | (have H2_ := (Option.bind_some _ _).symm.trans H; rw [hy845]; with_reducible exact H2_) | (have H2_ := (Option.bind_some _ _).symm.trans H; with_reducible exact H2_) | with_reducible exact H | (rw [hy845]; exact H) | exact H
      have bI := Aside0.mk hy845
      clear hy845
      by_cases cC : aX.length + aC.length < 140737488355328
      ·rw [if_pos cC] at H
       have LMc19 := Aside0.mk cC
       clear cC
       obtain ⟨aQ, hy848⟩ : ∃ y_ : List Int, y_ = (aX ++ aC) := ⟨_, rfl⟩
       replace H : (if aQ.length < 140737488355328 then ((impl_PakGet.f kj5 (aQ ++ [0])).bind fun aM => ((impl_PakPut.f kj5 aD).bind fun aN => ((impl_PakGet.f kj5 aN).bind fun aK => (if aM.2 = true then (none) else (if (aD.length : Int) ≤ 200 then (if aK.2 = true then ((laws_eaBytes.f aK.1 aD).bind fun aU => (some aU)) else (none)) else (none)))))) else (none)) = some r := by first | (rw [hy848]; with_reducible exact H) | (have H2_ := (Option.bind_some _ _).symm.trans H; rw [hy848]; with_reducible exact H2_) | (have H2_ := (Option.bind_some _ _).symm.trans H; with_reducible exact H2_) | with_reducible exact H | (rw [hy848]; exact H) | exact H
       have bR := Aside0.mk hy848
       clear hy848
       by_cases cD : aQ.length < 140737488355328
       ·rw [if_pos cD] at H
        have LMc20 := Aside0.mk cD
        clear cD
        obtain ⟨y851, hy851⟩ : ∃ y_ : List Int, y_ = (aQ ++ [0]) := ⟨_, rfl⟩
        replace H : ((impl_PakGet.f kj5 y851).bind fun aM => ((impl_PakPut.f kj5 aD).bind fun aN => ((impl_PakGet.f kj5 aN).bind fun aK => (if aM.2 = true then (none) else (if (aD.length : Int) ≤ 200 then (if aK.2 = true then ((laws_eaBytes.f aK.1 aD).bind fun aU => (some aU)) else (none)) else (none)))))) = some r := by first | (rw [hy851]; with_reducible exact H) | (have H2_ := (Option.bind_some _ _).symm.trans H; rw [hy851]; with_reducible exact H2_) | (have H2_ := (Option.bind_some _ _).symm.trans H; with_reducible exact H2_) | with_reducible exact H | (rw [hy851]; exact H) | exact H
        have bS := Aside0.mk hy851
        clear hy851
        replace H := Option.bind_eq_some_iff.mp H
        obtain ⟨⟨dG, dH⟩, bM, H⟩ := H
        (try dsimp only at H)
        have dS := Aside0.mk bM
        clear bM
        replace H := Option.bind_eq_some_iff.mp H
        obtain ⟨aN, bN, H⟩ := H
        (try dsimp only at H)
        have dT := Aside0.mk bN
        clear bN
        replace H := Option.bind_eq_some_iff.mp H
        obtain ⟨⟨bY, dI⟩, bO, H⟩ := H
        (try dsimp only at H)
        have dU := Aside0.mk bO
        clear bO
        by_cases cE : dH = true
        ·subst cE
         rw [if_pos rfl] at H
         exact absurd H (by simp)
        ·replace cE := Bool.eq_false_iff.mpr cE
         subst cE
         rw [if_neg (show ¬ (false = true) by decide)] at H
         by_cases cF : (aD.length : Int) ≤ 200
         ·rw [if_pos cF] at H
          have dO : decide ((aD.length : Int) ≤ 200) = true := decide_eq_true cF
          have dP : decide (aD.length ≤ 200) = true := decide_eq_true (by omega)
          clear cF
          by_cases cG : dI = true
          ·subst cG
           rw [if_pos rfl] at H
           replace H := Option.bind_eq_some_iff.mp H
           obtain ⟨aU, bP, H⟩ := H
           (try dsimp only at H)
           have dV := Aside0.mk bP
           clear bP
           obtain rfl := Option.some.inj H
           go_wp2_with (first | ((with_reducible refine gate_dst (N := 45) rfl ?_); (try (refine gate_guard (by rfl) ?_; dsimp only)); refine Kd.R_lit (Kd.int .u8) _ 5 ?hg (N := 45) ?hd (xs := ([] : List Int)) (inner := []) (ok := fun _ => True) (okp := fun _ => True) ?hr ?hp (fun _ hk => hk) trivial (Below.refl _ _) (Nat.le_refl _) (by simp) ?_; (case hd => rfl); (case hg => rfl); (case hr => first | (go_simp; done) | (go_simp; rfl)); (case hp => exact (Reps.none _ _)); intro dJ eM ho29 hb hg_ hnew_; clear hg_ hnew_; (first | rw [← bI.out] at ho29 | (simp only [Int.reduceToNat] at ho29; rw [← bI.out] at ho29)); have n_ := o2_ (Kd.R_elder' (oR aG) (Kd.R_base ho29) hb) (o2_ (Kd.R_elder' (oR aA) (Kd.R_base ho29) hb) (o2_ (Kd.R_lower (Kd.R_new' (Kd.R_new' ho29 (Kd.R_lt (oR aG))) (Kd.R_lt (oR aA))) (below_size (oB HB))) (o1_ (below_step (oB HB) hb)))); clear aG aA HB; obtain ⟨aG, aA, bG, HB⟩ := n_; clear hb ho29) | ((with_reducible refine gate_builtin (b := .append) (xs := #[.tmp 45, .tmp 46]) rfl ?_); (try (refine gate_guard (by rfl) ?_; dsimp only)); at_builtin; refine Kd.R_append_rows (Kd.int .u8) (w0 := w) w.heap.size rfl (.tmp 45) (.tmp 46) 24 5 (.int .u8 0) 1 rfl Try.underlying24 info5 rfl oD (by omega) dJ aX aC _ _ _ (fun k_ => some k_ ≠ (.slice bF aC.length bJ : Value).ownBlock ∧ some k_ ≠ (bA : Value).ownBlock) (fun _ => False) rfl rfl ?aO ?aR (fun _ _ h => h) (fun _ h => h.elim) ?aF ?aB ?aS ?aL ?_; (case aR => repeat (first | exact (Kd.R_reads' aG.out).2.2 | (with_reducible refine Kd.C_alloc ?_ _) | (with_reducible refine Kd.C_drewN ?_ _) | (with_reducible refine Kd.C_drew ?_))); (case aB => exact (oB HB)); (case aF => exact (fun k_ hk => ⟨Kd.fresh' (Kd.R_lt (oR aG)) k_ hk, Kd.fresh' (Kd.R_lt (oR aA)) k_ hk⟩)); (case aO => exact (by (with_reducible repeat (first | apply Kd.R_alloc | apply Kd.R_drewN | apply Kd.R_drew)); exact Kd.R_mono bG.out (fun _ hk => ⟨hk.1.2, hk.2⟩))); (case aS => exact (below_size (oB HB))); (case aL => have := LMc19.out; omega); intro dK eN ho hb hg hat; rw [← bR.out] at ho; have n_ := o2_ (Kd.R_after (ok := (fun k_ => some k_ ≠ (bA : Value).ownBlock)) (oR aG) hg hat) (o2_ (Kd.R_after (ok := (fun k_ => some k_ ≠ (.slice bF aC.length bJ : Value).ownBlock)) (oR aA) hg hat) (o2_ (hb) (o1_ (ho)))); clear aG aA HB bG; obtain ⟨aG, aA, HB, bH⟩ := n_; clear ho hb hg hat) | ((with_reducible refine gate_builtin (b := .append) (xs := #[.tmp 47, .tmp 48]) rfl ?_); (try (refine gate_guard (by rfl) ?_; dsimp only)); at_builtin; refine Kd.R_append (Kd.int .u8) (w0 := w) w.heap.size rfl (.tmp 47) (.tmp 48) 24 5 (.int .u8 0) 1 rfl Try.underlying24 info5 rfl oD (by omega) dK aQ 0 [.int .u8 0] (fun k_ => some k_ ≠ (.slice bF aC.length bJ : Value).ownBlock ∧ some k_ ≠ (bA : Value).ownBlock) (fun _ => False) rfl rfl ?aP (fun _ hk => hk.elim) ?aF ?aO ?aB ?aS ?aL ?_; (case aP => exact rfl); (case aB => exact (oB HB)); (case aF => exact (fun k_ hk => ⟨Kd.fresh' (Kd.R_lt (oR aG)) k_ hk, Kd.fresh' (Kd.R_lt (oR aA)) k_ hk⟩)); (case aO => exact (oR bH)); (case aS => exact (below_size (oB HB))); (case aL => have := LMc20.out; omega); intro eG eO ho hb hg hat; rw [← bS.out] at ho; have n_ := o2_ (Kd.R_after (ok := (fun k_ => some k_ ≠ (bA : Value).ownBlock)) (oR aG) hg hat) (o2_ (Kd.R_after (ok := (fun k_ => some k_ ≠ (.slice bF aC.length bJ : Value).ownBlock)) (oR aA) hg hat) (o2_ (hb) (o1_ (ho)))); clear aG aA HB bH; obtain ⟨aG, aA, HB, aJ⟩ := n_; clear ho hb hg hat; obtain ⟨cM, cU, dB⟩ := Kd.R_slice aJ.out; subst dB) | ((with_reducible refine gate_callee (f := 30) rfl ?_); refine goesL_ (some 50) rfl rfl Try.func30 oK rfl #[.slice cM y851.length cU] rfl oA ?_; (with_reducible refine (impl_PakGet.calls kj5 _ _ y851 dG false _ ?side1 ?side2 dS.out).mono ?_); (case side1 => repeat (first | exact (Kd.R_reads' aJ.out).2.2 | (with_reducible refine Kd.C_alloc ?_ _) | (with_reducible refine Kd.C_drewN ?_ _) | (with_reducible refine Kd.C_drew ?_))); (case side2 => exact (Kd.R_reads' aJ.out).2.1); rintro e eP ⟨eH, rfl, ho0, hb⟩; refine ⟨_, rfl, ?_⟩; have n_ := o2_ (Kd.R_elder' (oR aG) (Kd.R_base ho0) hb) (o2_ (Kd.R_elder' (oR aA) (Kd.R_base ho0) hb) (o2_ (Kd.R_elder' (oR aJ) (Kd.R_base ho0) hb) (o2_ (Kd.R_lower (Kd.R_new' (Kd.R_new' (Kd.R_new' ho0 (Kd.R_lt (oR aG))) (Kd.R_lt (oR aA))) (Kd.R_lt (oR aJ))) (below_size (oB HB))) (o1_ (below_step (oB HB) hb))))); clear aG aA aJ HB; obtain ⟨aG, aA, aJ, aV, HB⟩ := n_; (try clear hb); (try clear hb2); (try clear hk); (try clear hi); (try clear ho0); obtain ⟨cN, cV, dC⟩ := Kd.R_slice aA.out; subst dC) | ((with_reducible refine gate_callee (f := 32) rfl ?_); refine goesL_ (some 55) rfl rfl Try.func32 oK rfl #[.slice cN aD.length cV] rfl oA ?_; (with_reducible refine (impl_PakPut.calls kj5 _ _ aD aN _ ?side1 ?side2 dT.out).mono ?_); (case side1 => repeat (first | exact (Kd.R_reads' aA.out).2.2 | (with_reducible refine Kd.C_alloc ?_ _) | (with_reducible refine Kd.C_drewN ?_ _) | (with_reducible refine Kd.C_drew ?_))); (case side2 => exact (Kd.R_reads' aA.out).2.1); rintro e eQ ⟨eI, rfl, ho0, hb⟩; refine ⟨_, rfl, ?_⟩; have n_ := o2_ (Kd.R_elder' (oR aG) (Kd.R_base ho0) hb) (o2_ (Kd.R_elder' (oR aA) (Kd.R_base ho0) hb) (o2_ (Kd.R_elder' (oR aJ) (Kd.R_base ho0) hb) (o2_ (Kd.R_elder' (oR aV) (Kd.R_base ho0) hb) (o2_ (Kd.R_lower (Kd.R_new' (Kd.R_new' (Kd.R_new' (Kd.R_new' ho0 (Kd.R_lt (oR aG))) (Kd.R_lt (oR aA))) (Kd.R_lt (oR aJ))) (Kd.R_lt (oR aV))) (below_size (oB HB))) (o1_ (below_step (oB HB) hb)))))); clear aG aA aJ aV HB; obtain ⟨aG, aA, aJ, aV, aY, HB⟩ := n_; (try clear hb); (try clear hb2); (try clear hk); (try clear hi); (try clear ho0); obtain ⟨cO, cW, dD⟩ := Kd.R_slice aY.out; subst dD) | ((with_reducible refine gate_callee (f := 30) rfl ?_); refine goesL_ (some 56) rfl rfl Try.func30 oK rfl #[.slice cO aN.length cW] rfl oA ?_; (with_reducible refine (impl_PakGet.calls kj5 _ _ aN bY true _ ?side1 ?side2 dU.out).mono ?_); (case side1 => repeat (first | exact (Kd.R_reads' aY.out).2.2 | (with_reducible refine Kd.C_alloc ?_ _) | (with_reducible refine Kd.C_drewN ?_ _) | (with_reducible refine Kd.C_drew ?_))); (case side2 => exact (Kd.R_reads' aY.out).2.1); rintro e eR ⟨eJ, rfl, ho0, hb⟩; refine ⟨_, rfl, ?_⟩; have n_ := o2_ (Kd.R_elder' (oR aA) (Kd.R_base ho0) hb) (o2_ (Kd.R_lower (Kd.R_new' (Kd.R_new' (Kd.R_new' (Kd.R_new' (Kd.R_new' ho0 (Kd.R_lt (oR aG))) (Kd.R_lt (oR aA))) (Kd.R_lt (oR aJ))) (Kd.R_lt (oR aV))) (Kd.R_lt (oR aY))) (below_size (oB HB))) (o1_ (below_step (oB HB) hb))); clear aA HB; obtain ⟨aA, bB, HB⟩ := n_; (try clear hb); (try clear hb2); (try clear hk); (try clear hi); (try clear ho0); obtain ⟨dW, eA, dE⟩ := Kd.R_slice bB.out; subst dE) | (go_at_call 23; (with_reducible refine (laws_eaBytes.calls _ _ bY _ _ aD aU _ ?side1 ?side2 ?side3 ?side4 dV.out).mono ?_); (case side1 => repeat (first | exact (Kd.R_reads' bB.out).2.2 | (with_reducible refine Kd.C_alloc ?_ _) | (with_reducible refine Kd.C_drewN ?_ _) | (with_reducible refine Kd.C_drew ?_))); (case side2 => exact (Kd.R_reads' bB.out).2.1); (case side3 => repeat (first | exact (Kd.R_reads' aA.out).2.2 | (with_reducible refine Kd.C_alloc ?_ _) | (with_reducible refine Kd.C_drewN ?_ _) | (with_reducible refine Kd.C_drew ?_))); (case side4 => exact (Kd.R_reads' aA.out).2.1); rintro e w' ⟨rfl, ⟨nd, rfl⟩⟩))
           go_ret
           exact ⟨by first | rfl | (simp [errW_none, errW_some] <;> rfl) | (simp [*, errW_none, errW_some] <;> rfl), oB HB⟩
          ·replace cG := Bool.eq_false_iff.mpr cG
           subst cG
           rw [if_neg (show ¬ (false = true) by decide)] at H
           exact absurd H (by simp)
         ·rw [if_neg cF] at H
          exact absurd H (by simp)
       ·rw [if_neg cD] at H
        exact absurd H (by simp)
      ·rw [if_neg cC] at H
       exact absurd H (by simp)
     ·replace cB := Bool.eq_false_iff.mpr cB
      subst cB
      rw [if_neg (show ¬ (false = true) by decide)] at H
      by_cases bW : (aD.length : Int) = 0
      ·rw [if_pos bW] at H
       have dQ : ((aD.length : Int) == 0) = true := beq_iff_eq.mpr bW
       have dR : ((aD.length : Int) != 0) = false := bne_eq_false_iff_eq.mpr bW
       clear bW
       replace H := Option.bind_eq_some_iff.mp H
       obtain ⟨bK, bQ, H⟩ := H
       (try dsimp only at H)
       have bZ := Aside0.mk bQ
       clear bQ
       obtain rfl := Option.some.inj H
       obtain ⟨dX, eB, dF⟩ := Kd.R_slice aA.out
       subst dF
       go_wp2_with (first | (go_at_call 25; (with_reducible refine (laws_eaOk.calls  bK _ bZ.out).mono ?_); rintro e eS ⟨rfl, hb⟩; replace HB := o1_ (below_step (oB HB) hb); (try clear hb); (try clear hb2); (try clear hk); (try clear hi)))
       go_ret
       exact ⟨by first | rfl | (simp [errW_none, errW_some] <;> rfl) | (simp [*, errW_none, errW_some] <;> rfl), oB HB⟩
      ·rw [if_neg bW] at H
       exact absurd H (by simp)

/-- THE ONE PURE STATEMENT of laws_FnPakGet: yours. -/
def laws_FnPakGet.Pure : Prop := ∀ (l0 : List Int), l0.length ≤ maxLen → l0.length * 1 ≤ 140737488351232 → (∀ x ∈ l0, (Lit.int .u8 x).wf = true) → ∃ k, laws_FnPakGet.f k l0 = some true
theorem laws_FnPakGet.walk (P : laws_FnPakGet.Pure) (a0 : Option Addr) (len0 cap0 : Nat) (z0 : List Int) (w : World) (w0 : (a0 = none ∧ len0 = 0 ∧ cap0 = 0 ∧ z0 = []) ∨ ∃ x, a0 = some x ∧ len0 ≤ cap0 ∧ cap0 ≤ maxLen ∧ z0.length = cap0 ∧ (∀ i, i < z0.length → w.cell? (x.add i) = some (.int .u8 (z0.getD i 0))) ∧ ∀ n ∈ z0, (Lit.int .u8 n).wf = true) (y0 : len0 * 1 ≤ 140737488351232) :
  Calls Try.prog 12 #[.slice a0 len0 cap0] w fun e w' => e = .returned (.bool true) ∧ Below w.heap.size w w' := by
 obtain ⟨l0, rfl, hr0, hm0, hw0, cH⟩ := ReadsInt.ofRowC w0
 obtain ⟨k, h⟩ := P l0 hm0 y0 hw0
 refine (laws_FnPakGet.calls k _ _ l0 true w (Kd.C_of_reads (d := (0 : Int)) (h1 := fun _ => rfl) hr0) cH h).mono ?_
 rintro e w' ⟨rfl, hd⟩
 exact ⟨rfl, hd⟩

end Go.Proofs.Ytfnkaccncmjnaaa.X
