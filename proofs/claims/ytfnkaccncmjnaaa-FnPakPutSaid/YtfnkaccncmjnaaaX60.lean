/- What functions of the program come to, each with its proof. No condition but what each theorem states. -/
import Derived.Test.YtfnkaccncmjnaaaX0
import Derived.Test.YtfnkaccncmjnaaaX23
import Derived.Test.YtfnkaccncmjnaaaX26
import Derived.Test.YtfnkaccncmjnaaaX41
import Derived.Test.YtfnkaccncmjnaaaX45
import Derived.Test.YtfnkaccncmjnaaaX49
import Derived.Test.YtfnkaccncmjnaaaX57
namespace Go.Proofs.Ytfnkaccncmjnaaa.X
open Go.RowKit Go.Proofs.YtfnkaccncmjnaaaW.PrintWords Go.Proofs.YtfnkaccncmjnaaaW.PrintLast Go.Proofs.YtfnkaccncmjnaaaW.PrintMore Go.Proofs.Ytfnkaccncmjnaaa.Hyb
attribute [local go_sem] max2_int min2_int max_two min_two max_three min_three max_four min_four
set_option linter.unusedVariables false
set_option linter.unusedSimpArgs false

/-! ### laws_FnPakPut: function 11 -/
def laws_FnPakPut.f (k : Nat) (l0 : List Int) : Option (Bool) := if (l0.length : Int) > 1048576 then (some true) else ((spec_DrawPakPut.f k l0).bind fun aE => ((impl_PakPut.f k aE).bind fun aC => ((spec_PakPut.f k aE).bind fun aK => ((laws_eaBytes.f aC aK).bind fun aR => (if aR = true then (if (aE.length : Int) > 200 then (if (aC.length : Int) = 0 then ((laws_eaOk.f).bind fun aS => (some aS)) else (none)) else ((impl_PakGet.f k aC).bind fun aN => (if 0 ≤ (mx 0 (wrap64 ((aC.length : Int) - 1))) then (if (mx 0 (wrap64 ((aC.length : Int) - 1))) ≤ (aC.length : Int) then ((impl_PakGet.f k (aC.take ((mx 0 (wrap64 ((aC.length : Int) - 1))) : Int).toNat)).bind fun aI => (if aN.2 = true then ((laws_eaBytes.f aN.1 aE).bind fun aL => (if aL = true then (if aI.2 = true then (none) else (if 0 ≤ (60 + ((l0.length : Int) % 100)) then (if (60 + ((l0.length : Int) % 100) : Int).toNat ≤ 281474976710656 then ((some (List.replicate (60 + ((l0.length : Int) % 100) : Int).toNat 0 : List Int)).bind fun aF => ((impl_PakPut.f k aF).bind fun aH => (if (wrap64 (3 * (aH.length : Int))) < (aF.length : Int) then (some (decide ((aC.length : Int) ≤ (wrap64 (Int.tdiv (wrap64 ((wrap64 (9 * (wrap64 ((aE.length : Int) + 1)))) + 7)) 8))))) else (none)))) else (none)) else (none))) else (none))) else (none))) else (none)) else (none)))) else (none))))))
theorem laws_FnPakPut.mono : ∀ a0 k, LeO (laws_FnPakPut.f k a0) (laws_FnPakPut.f (k + 1) a0) := by
 intro a0 k
 unfold laws_FnPakPut.f
 repeat' first
   | (with_reducible exact impl_PakGet.mono _ _)
   | (with_reducible exact impl_PakPut.mono _ _)
   | (with_reducible exact spec_DrawPakPut.mono _ _)
   | (with_reducible exact spec_PakPut.mono _ _)
   | (with_reducible exact LeO.refl _)
   | (with_reducible exact LeO.none _)
   | (with_reducible refine LeO.ite ?_ ?_)
   | (with_reducible refine LeO.bind ?_ (fun _ => ?_))
   | exact impl_PakGet.mono _ _
   | exact impl_PakPut.mono _ _
   | exact spec_DrawPakPut.mono _ _
   | exact spec_PakPut.mono _ _
   | exact LeO.none _
   | refine LeO.ite ?_ ?_
   | refine LeO.bind ?_ (fun _ => ?_)
set_option maxHeartbeats 8000000 in
set_option maxRecDepth 100000 in
theorem laws_FnPakPut.calls (k : Nat) (A0 : Option Addr) (c0 : Nat) (l0 : List Int) (r : Bool) (w : World) (hr0 : Kd.C (Kd.int .u8) w A0 l0.length l0) (bS : l0.length ≤ c0) (h : laws_FnPakPut.f k l0 = some r) :
  Calls Try.prog 11 #[.slice A0 l0.length c0] w fun e w' => e = .returned (.bool r) ∧ Below w.heap.size w w' := by
 have dE := Aside0.mk hr0
 have dD := Aside0.mk bS
 clear hr0 bS
 have HB := Aside0.mk (Below.refl w.heap.size w)
 have H : (if (l0.length : Int) > 1048576 then (some true) else ((spec_DrawPakPut.f k l0).bind fun aE => ((impl_PakPut.f k aE).bind fun aC => ((spec_PakPut.f k aE).bind fun aK => ((laws_eaBytes.f aC aK).bind fun aR => (if aR = true then (if (aE.length : Int) > 200 then (if (aC.length : Int) = 0 then ((laws_eaOk.f).bind fun aS => (some aS)) else (none)) else ((impl_PakGet.f k aC).bind fun aN => (if 0 ≤ (mx 0 (wrap64 ((aC.length : Int) - 1))) then (if (mx 0 (wrap64 ((aC.length : Int) - 1))) ≤ (aC.length : Int) then ((impl_PakGet.f k (aC.take ((mx 0 (wrap64 ((aC.length : Int) - 1))) : Int).toNat)).bind fun aI => (if aN.2 = true then ((laws_eaBytes.f aN.1 aE).bind fun aL => (if aL = true then (if aI.2 = true then (none) else (if 0 ≤ (60 + ((l0.length : Int) % 100)) then (if (60 + ((l0.length : Int) % 100) : Int).toNat ≤ 281474976710656 then ((some (List.replicate (60 + ((l0.length : Int) % 100) : Int).toNat 0 : List Int)).bind fun aF => ((impl_PakPut.f k aF).bind fun aH => (if (wrap64 (3 * (aH.length : Int))) < (aF.length : Int) then (some (decide ((aC.length : Int) ≤ (wrap64 (Int.tdiv (wrap64 ((wrap64 (9 * (wrap64 ((aE.length : Int) + 1)))) + 7)) 8))))) else (none)))) else (none)) else (none))) else (none))) else (none))) else (none)) else (none)))) else (none))))))) = some r := h
 clear h
 by_cases c2 : (l0.length : Int) > 1048576
 ·rw [if_pos c2] at H
  have bY : decide (1048576 < (l0.length : Int)) = true := decide_eq_true c2
  have bZ : decide (1048576 < l0.length) = true := decide_eq_true (by omega)
  clear c2
  obtain rfl := Option.some.inj H
  go_enter Try.func11, Try.ntmps11
  go_wp2
  go_ret
  exact ⟨by first | rfl | (simp [errW_none, errW_some] <;> rfl) | (simp [*, errW_none, errW_some] <;> rfl), oB HB⟩
 ·rw [if_neg c2] at H
  have bY : decide (1048576 < (l0.length : Int)) = false := decide_eq_false c2
  have bZ : decide (1048576 < l0.length) = false := decide_eq_false (by omega)
  clear c2
  replace H := Option.bind_eq_some_iff.mp H
  obtain ⟨aE, bN, H⟩ := H
  (try dsimp only at H)
  have A3 := Aside0.mk bN
  clear bN
  replace H := Option.bind_eq_some_iff.mp H
  obtain ⟨aC, dA, H⟩ := H
  (try dsimp only at H)
  have A4 := Aside0.mk dA
  clear dA
  replace H := Option.bind_eq_some_iff.mp H
  obtain ⟨aK, dB, H⟩ := H
  (try dsimp only at H)
  have A5 := Aside0.mk dB
  clear dB
  replace H := Option.bind_eq_some_iff.mp H
  obtain ⟨aR, dC, H⟩ := H
  (try dsimp only at H)
  have A6 := Aside0.mk dC
  clear dC
  by_cases c7 : aR = true
  ·subst c7
   rw [if_pos rfl] at H
   by_cases c8 : (aE.length : Int) > 200
   ·rw [if_pos c8] at H
    have cA : decide (200 < (aE.length : Int)) = true := decide_eq_true c8
    have cB : decide (200 < aE.length) = true := decide_eq_true (by omega)
    clear c8
    by_cases c9 : (aC.length : Int) = 0
    ·rw [if_pos c9] at H
     have dR : ((aC.length : Int) == 0) = true := beq_iff_eq.mpr c9
     have dS : ((aC.length : Int) != 0) = false := bne_eq_false_iff_eq.mpr c9
     clear c9
     replace H := Option.bind_eq_some_iff.mp H
     obtain ⟨aS, aY, H⟩ := H
     (try dsimp only at H)
     have dO := Aside0.mk aY
     clear aY
     obtain rfl := Option.some.inj H
     go_enter Try.func11, Try.ntmps11
     go_wp2_with (first | ((with_reducible refine gate_callee (f := 33) rfl ?_); refine goesL_ (some 14) rfl rfl Try.func33 oK rfl #[.slice A0 l0.length c0] rfl oA ?_; (with_reducible refine (spec_DrawPakPut.calls k _ _ l0 aE _ ?side1 ?side2 A3.out).mono ?_); (case side1 => repeat (first | exact dE.out | (with_reducible refine Kd.C_alloc ?_ _) | (with_reducible refine Kd.C_drewN ?_ _) | (with_reducible refine Kd.C_drew ?_))); (case side2 => exact dD.out); rintro e dZ ⟨cV, rfl, ho0, hb⟩; refine ⟨_, rfl, ?_⟩; have n_ := o2_ (Kd.R_lower ho0 (below_size (oB HB))) (o1_ (below_step (oB HB) hb)); clear HB; obtain ⟨aA, HB⟩ := n_; (try clear hb); (try clear hb2); (try clear hk); (try clear hi); (try clear ho0); obtain ⟨bD, bL, cG⟩ := Kd.R_slice aA.out; subst cG) | ((with_reducible refine gate_callee (f := 32) rfl ?_); refine goesL_ (some 16) rfl rfl Try.func32 oK rfl #[.slice bD aE.length bL] rfl oA ?_; (with_reducible refine (impl_PakPut.calls k _ _ aE aC _ ?side1 ?side2 A4.out).mono ?_); (case side1 => repeat (first | exact (Kd.R_reads' aA.out).2.2 | (with_reducible refine Kd.C_alloc ?_ _) | (with_reducible refine Kd.C_drewN ?_ _) | (with_reducible refine Kd.C_drew ?_))); (case side2 => exact (Kd.R_reads' aA.out).2.1); rintro e eA ⟨cW, rfl, ho0, hb⟩; refine ⟨_, rfl, ?_⟩; have n_ := o2_ (Kd.R_elder' (oR aA) (Kd.R_base ho0) hb) (o2_ (Kd.R_lower (Kd.R_new' ho0 (Kd.R_lt (oR aA))) (below_size (oB HB))) (o1_ (below_step (oB HB) hb))); clear aA HB; obtain ⟨aA, aB, HB⟩ := n_; (try clear hb); (try clear hb2); (try clear hk); (try clear hi); (try clear ho0)) | ((with_reducible refine gate_callee (f := 31) rfl ?_); refine goesL_ (some 19) rfl rfl Try.func31 oK rfl #[.slice bD aE.length bL] rfl oA ?_; (with_reducible refine (spec_PakPut.calls k _ _ aE aK _ ?side1 ?side2 A5.out).mono ?_); (case side1 => repeat (first | exact (Kd.R_reads' aA.out).2.2 | (with_reducible refine Kd.C_alloc ?_ _) | (with_reducible refine Kd.C_drewN ?_ _) | (with_reducible refine Kd.C_drew ?_))); (case side2 => exact (Kd.R_reads' aA.out).2.1); rintro e eB ⟨cX, rfl, ho0, hb⟩; refine ⟨_, rfl, ?_⟩; have n_ := o2_ (Kd.R_elder' (oR aA) (Kd.R_base ho0) hb) (o2_ (Kd.R_elder' (oR aB) (Kd.R_base ho0) hb) (o2_ (Kd.R_lower (Kd.R_new' (Kd.R_new' ho0 (Kd.R_lt (oR aA))) (Kd.R_lt (oR aB))) (below_size (oB HB))) (o1_ (below_step (oB HB) hb)))); clear aA aB HB; obtain ⟨aA, aB, aD, HB⟩ := n_; (try clear hb); (try clear hb2); (try clear hk); (try clear hi); (try clear ho0); obtain ⟨bU, cC, cH⟩ := Kd.R_slice aB.out; subst cH; obtain ⟨bV, cD, cI⟩ := Kd.R_slice aD.out; subst cI) | ((with_reducible refine gate_callee (f := 23) rfl ?_); refine goesL_ (some 20) rfl rfl Try.func23 oK rfl #[.slice bU aC.length cC, .slice bV aK.length cD] rfl oA ?_; (with_reducible refine (laws_eaBytes.calls _ _ aC _ _ aK true _ ?side1 ?side2 ?side3 ?side4 A6.out).mono ?_); (case side1 => repeat (first | exact (Kd.R_reads' aB.out).2.2 | (with_reducible refine Kd.C_alloc ?_ _) | (with_reducible refine Kd.C_drewN ?_ _) | (with_reducible refine Kd.C_drew ?_))); (case side2 => exact (Kd.R_reads' aB.out).2.1); (case side3 => repeat (first | exact (Kd.R_reads' aD.out).2.2 | (with_reducible refine Kd.C_alloc ?_ _) | (with_reducible refine Kd.C_drewN ?_ _) | (with_reducible refine Kd.C_drew ?_))); (case side4 => exact (Kd.R_reads' aD.out).2.1); rintro e w' ⟨rfl, ⟨nd, rfl⟩⟩; refine ⟨_, rfl, ?_⟩) | (go_at_call 25; (with_reducible refine (laws_eaOk.calls  aS _ dO.out).mono ?_); rintro e eC ⟨rfl, hb⟩; have n_ := o2_ (Kd.R_below (oR aA) hb) (o2_ (Kd.R_below (oR aB) hb) (o2_ (Kd.R_below (oR aD) hb) (o1_ (below_step (oB HB) hb)))); clear aA aB aD HB; obtain ⟨aA, aB, aD, HB⟩ := n_; (try clear hb); (try clear hb2); (try clear hk); (try clear hi)))
     go_ret
     exact ⟨by first | rfl | (simp [errW_none, errW_some] <;> rfl) | (simp [*, errW_none, errW_some] <;> rfl), oB HB⟩
    ·rw [if_neg c9] at H
     exact absurd H (by simp)
   ·rw [if_neg c8] at H
    have cA : decide (200 < (aE.length : Int)) = false := decide_eq_false c8
    have cB : decide (200 < aE.length) = false := decide_eq_false (by omega)
    clear c8
    replace H := Option.bind_eq_some_iff.mp H
    obtain ⟨⟨aT, aX⟩, aZ, H⟩ := H
    (try dsimp only at H)
    have bT := Aside0.mk aZ
    clear aZ
    obtain ⟨ji19, hji19⟩ : ∃ j_ : Int, (mx 0 (wrap64 ((aC.length : Int) - 1))) = j_ := ⟨_, rfl⟩
    replace H : (if 0 ≤ (ji19) then (if (ji19) ≤ (aC.length : Int) then ((impl_PakGet.f k (aC.take ((ji19) : Int).toNat)).bind fun aI => (if aX = true then ((laws_eaBytes.f aT aE).bind fun aL => (if aL = true then (if aI.2 = true then (none) else (if 0 ≤ (60 + ((l0.length : Int) % 100)) then (if (60 + ((l0.length : Int) % 100) : Int).toNat ≤ 281474976710656 then ((some (List.replicate (60 + ((l0.length : Int) % 100) : Int).toNat 0 : List Int)).bind fun aF => ((impl_PakPut.f k aF).bind fun aH => (if (wrap64 (3 * (aH.length : Int))) < (aF.length : Int) then (some (decide ((aC.length : Int) ≤ (wrap64 (Int.tdiv (wrap64 ((wrap64 (9 * (wrap64 ((aE.length : Int) + 1)))) + 7)) 8))))) else (none)))) else (none)) else (none))) else (none))) else (none))) else (none)) else (none)) = some r := by first | (rw [hji19] at H; exact H) | (simp only [hji19] at H ⊢; exact H)
    (try rw [hji19] at A3)
    (try rw [hji19] at A4)
    (try rw [hji19] at A5)
    (try rw [hji19] at A6)
    (try rw [hji19] at bT)
    (try (have cQ : 0 ≤ ji19 := by (rw [← hji19]; unfold mx; (repeat' split) <;> omega)))
    (try (have cR : 0 ≤ ji19 := by omega))
    have cP : (if 0 < (wrap64 ((aC.length : Int) - 1)) then (wrap64 ((aC.length : Int) - 1)) else 0) = ji19 := hji19
    by_cases bH : 0 ≤ (ji19)
    ·rw [if_pos bH] at H
     have dF := eq_true bH
     have dG : decide (0 ≤ (ji19)) = true := decide_eq_true bH
     clear bH
     by_cases bI : (ji19) ≤ (aC.length : Int)
     ·rw [if_pos bI] at H
      have dH := eq_true bI
      have dI : decide ((ji19) ≤ (aC.length : Int)) = true := decide_eq_true bI
      clear bI
      obtain ⟨y727, hy727⟩ : ∃ y_ : List Int, y_ = (aC.take ((ji19) : Int).toNat) := ⟨_, rfl⟩
      replace H : ((impl_PakGet.f k y727).bind fun aI => (if aX = true then ((laws_eaBytes.f aT aE).bind fun aL => (if aL = true then (if aI.2 = true then (none) else (if 0 ≤ (60 + ((l0.length : Int) % 100)) then (if (60 + ((l0.length : Int) % 100) : Int).toNat ≤ 281474976710656 then ((some (List.replicate (60 + ((l0.length : Int) % 100) : Int).toNat 0 : List Int)).bind fun aF => ((impl_PakPut.f k aF).bind fun aH => (if (wrap64 (3 * (aH.length : Int))) < (aF.length : Int) then (some (decide ((aC.length : Int) ≤ (wrap64 (Int.tdiv (wrap64 ((wrap64 (9 * (wrap64 ((aE.length : Int) + 1)))) + 7)) 8))))) else (none)))) else (none)) else (none))) else (none))) else (none))) = some r := by first | (rw [hy727]; with_reducible exact H) | (have H2_ := (Option.bind_some _ _).symm.trans H; rw [hy727]; with_reducible exact H2_) | (have H2_ := (Option.bind_some _ _).symm.trans H; with_reducible exact H2_) | with_reducible exact H | (rw [hy727]; exact H) | exact H
      have aV := Aside0.mk hy727
      clear hy727
      replace H := Option.bind_eq_some_iff.mp H
      obtain ⟨⟨cT, cU⟩, bA, H⟩ := H
      (try dsimp only at H)
      have cY := Aside0.mk bA
      clear bA
      by_cases bO : aX = true
      ·subst bO
       rw [if_pos rfl] at H
       replace H := Option.bind_eq_some_iff.mp H
       obtain ⟨aL, bB, H⟩ := H
       (try dsimp only at H)
       have cZ := Aside0.mk bB
       clear bB
       by_cases bP : aL = true
       ·subst bP
        rw [if_pos rfl] at H
        by_cases bQ : cU = true
        ·subst bQ
         rw [if_pos rfl] at H
         exact absurd H (by simp)
        ·replace bQ := Bool.eq_false_iff.mpr bQ
         subst bQ
         rw [if_neg (show ¬ (false = true) by decide)] at H
         obtain ⟨aJ, hji27⟩ : ∃ j_ : Int, (60 + ((l0.length : Int) % 100)) = j_ := ⟨_, rfl⟩
         replace H : (if 0 ≤ (aJ) then (if (aJ : Int).toNat ≤ 281474976710656 then ((some (List.replicate (aJ : Int).toNat 0 : List Int)).bind fun aF => ((impl_PakPut.f k aF).bind fun aH => (if (wrap64 (3 * (aH.length : Int))) < (aF.length : Int) then (some (decide ((aC.length : Int) ≤ (wrap64 (Int.tdiv (wrap64 ((wrap64 (9 * (wrap64 ((aE.length : Int) + 1)))) + 7)) 8))))) else (none)))) else (none)) else (none)) = some r := by first | (rw [hji27] at H; exact H) | (simp only [hji27] at H ⊢; exact H)
         (try rw [hji27] at A3)
         (try rw [hji27] at A4)
         (try rw [hji27] at A5)
         (try rw [hji27] at A6)
         (try rw [hji27] at bT)
         (try rw [hji27] at cY)
         (try rw [hji27] at cZ)
         by_cases bJ : 0 ≤ (aJ)
         ·rw [if_pos bJ] at H
          have dJ := eq_true bJ
          have dK : decide (0 ≤ (aJ)) = true := decide_eq_true bJ
          clear bJ
          by_cases bK : (aJ : Int).toNat ≤ 281474976710656
          ·rw [if_pos bK] at H
           have dL := eq_true bK
           have dM : decide ((aJ : Int).toNat ≤ 281474976710656) = true := decide_eq_true bK
           clear bK
           obtain ⟨aF, hy736⟩ : ∃ y_ : List Int, y_ = (List.replicate (aJ : Int).toNat 0) := ⟨_, rfl⟩
           replace H : ((impl_PakPut.f k aF).bind fun aH => (if (wrap64 (3 * (aH.length : Int))) < (aF.length : Int) then (some (decide ((aC.length : Int) ≤ (wrap64 (Int.tdiv (wrap64 ((wrap64 (9 * (wrap64 ((aE.length : Int) + 1)))) + 7)) 8))))) else (none))) = some r := by first | (rw [hy736]; with_reducible exact H) | (have H2_ := (Option.bind_some _ _).symm.trans H; rw [hy736]; with_reducible exact H2_) | (have H2_ := (Option.bind_some _ _).symm.trans H; with_reducible exact H2_) | with_reducible exact H | (rw [hy736]; exact H) | exact H
           have aW := Aside0.mk hy736
           clear hy736
           replace H := Option.bind_eq_some_iff.mp H
           obtain ⟨aH, bC, H⟩ := H
           (try dsimp only at H)
           have bN := Aside0.mk bC
           clear bC
           by_cases bR : (wrap64 (3 * (aH.length : Int))) < (aF.length : Int)
           ·rw [if_pos bR] at H
            have dN : decide ((wrap64 (3 * (aH.length : Int))) < (aF.length : Int)) = true := decide_eq_true bR
            clear bR
            obtain rfl := Option.some.inj H
            go_enter Try.func11, Try.ntmps11
            go_wp2_with (first | ((with_reducible refine gate_callee (f := 33) rfl ?_); refine goesL_ (some 14) rfl rfl Try.func33 oK rfl #[.slice A0 l0.length c0] rfl oA ?_; (with_reducible refine (spec_DrawPakPut.calls k _ _ l0 aE _ ?side1 ?side2 A3.out).mono ?_); (case side1 => repeat (first | exact dE.out | (with_reducible refine Kd.C_alloc ?_ _) | (with_reducible refine Kd.C_drewN ?_ _) | (with_reducible refine Kd.C_drew ?_))); (case side2 => exact dD.out); rintro e eD ⟨cV, rfl, ho0, hb⟩; refine ⟨_, rfl, ?_⟩; have n_ := o2_ (Kd.R_lower ho0 (below_size (oB HB))) (o1_ (below_step (oB HB) hb)); clear HB; obtain ⟨aA, HB⟩ := n_; (try clear hb); (try clear hb2); (try clear hk); (try clear hi); (try clear ho0); obtain ⟨bE, bM, cJ⟩ := Kd.R_slice aA.out; subst cJ) | ((with_reducible refine gate_callee (f := 32) rfl ?_); refine goesL_ (some 16) rfl rfl Try.func32 oK rfl #[.slice bE aE.length bM] rfl oA ?_; (with_reducible refine (impl_PakPut.calls k _ _ aE aC _ ?side1 ?side2 A4.out).mono ?_); (case side1 => repeat (first | exact (Kd.R_reads' aA.out).2.2 | (with_reducible refine Kd.C_alloc ?_ _) | (with_reducible refine Kd.C_drewN ?_ _) | (with_reducible refine Kd.C_drew ?_))); (case side2 => exact (Kd.R_reads' aA.out).2.1); rintro e eE ⟨cW, rfl, ho0, hb⟩; refine ⟨_, rfl, ?_⟩; have n_ := o2_ (Kd.R_elder' (oR aA) (Kd.R_base ho0) hb) (o2_ (Kd.R_lower (Kd.R_new' ho0 (Kd.R_lt (oR aA))) (below_size (oB HB))) (o1_ (below_step (oB HB) hb))); clear aA HB; obtain ⟨aA, aB, HB⟩ := n_; (try clear hb); (try clear hb2); (try clear hk); (try clear hi); (try clear ho0)) | ((with_reducible refine gate_callee (f := 31) rfl ?_); refine goesL_ (some 19) rfl rfl Try.func31 oK rfl #[.slice bE aE.length bM] rfl oA ?_; (with_reducible refine (spec_PakPut.calls k _ _ aE aK _ ?side1 ?side2 A5.out).mono ?_); (case side1 => repeat (first | exact (Kd.R_reads' aA.out).2.2 | (with_reducible refine Kd.C_alloc ?_ _) | (with_reducible refine Kd.C_drewN ?_ _) | (with_reducible refine Kd.C_drew ?_))); (case side2 => exact (Kd.R_reads' aA.out).2.1); rintro e eF ⟨cX, rfl, ho0, hb⟩; refine ⟨_, rfl, ?_⟩; have n_ := o2_ (Kd.R_elder' (oR aA) (Kd.R_base ho0) hb) (o2_ (Kd.R_elder' (oR aB) (Kd.R_base ho0) hb) (o2_ (Kd.R_lower (Kd.R_new' (Kd.R_new' ho0 (Kd.R_lt (oR aA))) (Kd.R_lt (oR aB))) (below_size (oB HB))) (o1_ (below_step (oB HB) hb)))); clear aA aB HB; obtain ⟨aA, aB, aD, HB⟩ := n_; (try clear hb); (try clear hb2); (try clear hk); (try clear hi); (try clear ho0); obtain ⟨aQ, aP, cK⟩ := Kd.R_slice aB.out; subst cK; obtain ⟨bW, cE, cL⟩ := Kd.R_slice aD.out; subst cL) | ((with_reducible refine gate_callee (f := 23) rfl ?_); refine goesL_ (some 20) rfl rfl Try.func23 oK rfl #[.slice aQ aC.length aP, .slice bW aK.length cE] rfl oA ?_; (with_reducible refine (laws_eaBytes.calls _ _ aC _ _ aK true _ ?side1 ?side2 ?side3 ?side4 A6.out).mono ?_); (case side1 => repeat (first | exact (Kd.R_reads' aB.out).2.2 | (with_reducible refine Kd.C_alloc ?_ _) | (with_reducible refine Kd.C_drewN ?_ _) | (with_reducible refine Kd.C_drew ?_))); (case side2 => exact (Kd.R_reads' aB.out).2.1); (case side3 => repeat (first | exact (Kd.R_reads' aD.out).2.2 | (with_reducible refine Kd.C_alloc ?_ _) | (with_reducible refine Kd.C_drewN ?_ _) | (with_reducible refine Kd.C_drew ?_))); (case side4 => exact (Kd.R_reads' aD.out).2.1); rintro e w' ⟨rfl, ⟨nd, rfl⟩⟩; refine ⟨_, rfl, ?_⟩) | ((with_reducible refine gate_callee (f := 30) rfl ?_); refine goesL_ (some 33) rfl rfl Try.func30 oK rfl #[.slice aQ aC.length aP] rfl oA ?_; (with_reducible refine (impl_PakGet.calls k _ _ aC aT true _ ?side1 ?side2 bT.out).mono ?_); (case side1 => repeat (first | exact (Kd.R_reads' aB.out).2.2 | (with_reducible refine Kd.C_alloc ?_ _) | (with_reducible refine Kd.C_drewN ?_ _) | (with_reducible refine Kd.C_drew ?_))); (case side2 => exact (Kd.R_reads' aB.out).2.1); rintro e eG ⟨dV, rfl, ho0, hb⟩; refine ⟨_, rfl, ?_⟩; have n_ := o2_ (Kd.R_elder' (oR aA) (Kd.R_base ho0) hb) (o2_ (Kd.R_elder' (oR aB) (Kd.R_base ho0) hb) (o2_ (Kd.R_elder' (oR aD) (Kd.R_base ho0) hb) (o2_ (Kd.R_lower (Kd.R_new' (Kd.R_new' (Kd.R_new' ho0 (Kd.R_lt (oR aA))) (Kd.R_lt (oR aB))) (Kd.R_lt (oR aD))) (below_size (oB HB))) (o1_ (below_step (oB HB) hb))))); clear aA aB aD HB; obtain ⟨aA, aB, aD, aG, HB⟩ := n_; (try clear hb); (try clear hb2); (try clear hk); (try clear hi); (try clear ho0); have cS : ((ji19) : Int) ≤ ((aC.length : Int) : Int) := of_decide_eq_true oM; obtain ⟨i039, hi039, _, hsz39, _⟩ := info_parts info5; have hroom39 : aC.length ≤ aP := (Kd.R_reads' aB.out).2.1; have hC39 : Kd.C (Kd.int .u8) _ aQ aC.length aC := (Kd.R_reads' aB.out).2.2; have hcut39 := cut_to (P := Try.prog) 24 5 .i64 Try.underlying24 hi039 aQ aC.length aP (ji19) (of_decide_eq_true oM) cS hroom39; have hr39 := Kd.C_take (m := ((ji19) : Int).toNat) hC39 (by omega); have hy39 : y727.length = ((ji19) : Int).toNat := (by rw [aV.out, List.length_take]; omega); rw [← aV.out] at hr39; rw [← hy39] at hcut39; have aU := Aside0.mk hr39; have bF := Aside0.mk (show y727.length ≤ aP from by omega); clear hr39 hC39 hroom39 hi039 hsz39; have KY39 := Aside0.mk hy39; clear hy39; have KL39 := Aside0.mk (show ((ji19) : Int).toNat ≤ aC.length from by omega); replace cS := eq_true cS) | ((with_reducible refine gate_callee (f := 30) rfl ?_); refine goesL_ (some 43) rfl rfl Try.func30 oK rfl #[.slice aQ y727.length aP] rfl oA ?_; (with_reducible refine (impl_PakGet.calls k _ _ y727 cT false _ ?side1 ?side2 cY.out).mono ?_); (case side1 => repeat (first | exact (by repeat (first | (with_reducible exact aU.out) | (with_reducible refine Kd.C_alloc ?_ _) | (with_reducible refine Kd.C_drewN ?_ _) | (with_reducible refine Kd.C_drew ?_) | exact aU.out)) | (with_reducible refine Kd.C_alloc ?_ _) | (with_reducible refine Kd.C_drewN ?_ _) | (with_reducible refine Kd.C_drew ?_))); (case side2 => exact bF.out); rintro e eH ⟨dW, rfl, ho0, hb⟩; refine ⟨_, rfl, ?_⟩; have n_ := o2_ (Kd.R_elder' (oR aA) (Kd.R_base ho0) hb) (o2_ (Kd.R_elder' (oR aB) (Kd.R_base ho0) hb) (o2_ (Kd.R_elder' (oR aD) (Kd.R_base ho0) hb) (o2_ (Kd.R_elder' (oR aG) (Kd.R_base ho0) hb) (o2_ (Kd.R_lower (Kd.R_new' (Kd.R_new' (Kd.R_new' (Kd.R_new' ho0 (Kd.R_lt (oR aA))) (Kd.R_lt (oR aB))) (Kd.R_lt (oR aD))) (Kd.R_lt (oR aG))) (below_size (oB HB))) (o1_ (below_step (oB HB) hb)))))); clear aA aB aD aG HB; obtain ⟨aA, aB, aD, aG, aM, HB⟩ := n_; (try clear hb); (try clear hb2); (try clear hk); (try clear hi); (try clear ho0); obtain ⟨dP, dT, cM⟩ := Kd.R_slice aG.out; subst cM) | (go_at_call 23; (with_reducible refine (laws_eaBytes.calls _ _ aT _ _ aE true _ ?side1 ?side2 ?side3 ?side4 cZ.out).mono ?_); (case side1 => repeat (first | exact (Kd.R_reads' aG.out).2.2 | (with_reducible refine Kd.C_alloc ?_ _) | (with_reducible refine Kd.C_drewN ?_ _) | (with_reducible refine Kd.C_drew ?_))); (case side2 => exact (Kd.R_reads' aG.out).2.1); (case side3 => repeat (first | exact (Kd.R_reads' aA.out).2.2 | (with_reducible refine Kd.C_alloc ?_ _) | (with_reducible refine Kd.C_drewN ?_ _) | (with_reducible refine Kd.C_drew ?_))); (case side4 => exact (Kd.R_reads' aA.out).2.1); rintro e w' ⟨rfl, ⟨nd, rfl⟩⟩) | ((with_reducible refine gate_dst (N := 61) rfl ?_); (try (refine gate_guard (by rfl) ?_; dsimp only)); refine Kd.R_make (Kd.int .u8) _ 5 rfl (N := 61) rfl 24 _ _ rfl aJ rfl rfl Try.underlying24 (.int .u8 0) 1 info5 rfl oD (by omega) 0 (ok := fun _ => True) (okp := fun _ => True) rfl (fun _ hk => hk) trivial (of_decide_eq_true oM) (Nat.le_trans (Nat.mul_le_mul_right _ (of_decide_eq_true oM : aJ.toNat ≤ 281474976710656)) (by omega)) (Below.refl _ _) (Nat.le_refl _) ?_; intro dX eI ho43 hb hg_ hnew_; clear hg_ hnew_; (first | rw [← aW.out] at ho43 | (simp only [Int.reduceToNat] at ho43; rw [← aW.out] at ho43)); have n_ := o2_ (Kd.R_elder' (oR aA) (Kd.R_base ho43) hb) (o2_ (Kd.R_elder' (oR aB) (Kd.R_base ho43) hb) (o2_ (Kd.R_elder' (oR aD) (Kd.R_base ho43) hb) (o2_ (Kd.R_elder' (oR aG) (Kd.R_base ho43) hb) (o2_ (Kd.R_elder' (oR aM) (Kd.R_base ho43) hb) (o2_ (Kd.R_lower (Kd.R_new' (Kd.R_new' (Kd.R_new' (Kd.R_new' (Kd.R_new' ho43 (Kd.R_lt (oR aA))) (Kd.R_lt (oR aB))) (Kd.R_lt (oR aD))) (Kd.R_lt (oR aG))) (Kd.R_lt (oR aM))) (below_size (oB HB))) (o1_ (below_step (oB HB) hb))))))); clear aA aB aD aG aM HB; obtain ⟨aA, aB, aD, aG, aM, aO, HB⟩ := n_; clear hb ho43; obtain ⟨bX, cF, cN⟩ := Kd.R_slice aO.out; subst cN) | ((with_reducible refine gate_callee (f := 32) rfl ?_); refine goesL_ (some 63) rfl rfl Try.func32 oK rfl #[.slice bX aF.length cF] rfl oA ?_; (with_reducible refine (impl_PakPut.calls k _ _ aF aH _ ?side1 ?side2 bN.out).mono ?_); (case side1 => repeat (first | exact (Kd.R_reads' aO.out).2.2 | (with_reducible refine Kd.C_alloc ?_ _) | (with_reducible refine Kd.C_drewN ?_ _) | (with_reducible refine Kd.C_drew ?_))); (case side2 => exact (Kd.R_reads' aO.out).2.1); rintro e eJ ⟨dY, rfl, ho0, hb⟩; refine ⟨_, rfl, ?_⟩; have n_ := o2_ (Kd.R_lower (Kd.R_new' (Kd.R_new' (Kd.R_new' (Kd.R_new' (Kd.R_new' (Kd.R_new' ho0 (Kd.R_lt (oR aA))) (Kd.R_lt (oR aB))) (Kd.R_lt (oR aD))) (Kd.R_lt (oR aG))) (Kd.R_lt (oR aM))) (Kd.R_lt (oR aO))) (below_size (oB HB))) (o1_ (below_step (oB HB) hb)); clear HB; obtain ⟨bG, HB⟩ := n_; (try clear hb); (try clear hb2); (try clear hk); (try clear hi); (try clear ho0); obtain ⟨dQ, dU, cO⟩ := Kd.R_slice bG.out; subst cO))
            go_ret
            exact ⟨by first | rfl | (simp [errW_none, errW_some] <;> rfl) | (simp only [← hji19, ← hji27]; first | rfl | (simp [errW_none, errW_some] <;> rfl)) | (simp [*, errW_none, errW_some] <;> rfl), oB HB⟩
           ·rw [if_neg bR] at H
            exact absurd H (by simp)
          ·rw [if_neg bK] at H
           exact absurd H (by simp)
         ·rw [if_neg bJ] at H
          exact absurd H (by simp)
       ·replace bP := Bool.eq_false_iff.mpr bP
        subst bP
        rw [if_neg (show ¬ (false = true) by decide)] at H
        exact absurd H (by simp)
      ·replace bO := Bool.eq_false_iff.mpr bO
       subst bO
       rw [if_neg (show ¬ (false = true) by decide)] at H
       exact absurd H (by simp)
     ·rw [if_neg bI] at H
      exact absurd H (by simp)
    ·rw [if_neg bH] at H
     exact absurd H (by simp)
  ·replace c7 := Bool.eq_false_iff.mpr c7
   subst c7
   rw [if_neg (show ¬ (false = true) by decide)] at H
   exact absurd H (by simp)

/-- THE ONE PURE STATEMENT of laws_FnPakPut: yours. -/
def laws_FnPakPut.Pure : Prop := ∀ (l0 : List Int), l0.length ≤ maxLen → l0.length * 1 ≤ 140737488351232 → (∀ x ∈ l0, (Lit.int .u8 x).wf = true) → ∃ k, laws_FnPakPut.f k l0 = some true
theorem laws_FnPakPut.walk (P : laws_FnPakPut.Pure) (a0 : Option Addr) (len0 cap0 : Nat) (z0 : List Int) (w : World) (w0 : (a0 = none ∧ len0 = 0 ∧ cap0 = 0 ∧ z0 = []) ∨ ∃ x, a0 = some x ∧ len0 ≤ cap0 ∧ cap0 ≤ maxLen ∧ z0.length = cap0 ∧ (∀ i, i < z0.length → w.cell? (x.add i) = some (.int .u8 (z0.getD i 0))) ∧ ∀ n ∈ z0, (Lit.int .u8 n).wf = true) (y0 : len0 * 1 ≤ 140737488351232) :
  Calls Try.prog 11 #[.slice a0 len0 cap0] w fun e w' => e = .returned (.bool true) ∧ Below w.heap.size w w' := by
 obtain ⟨l0, rfl, hr0, hm0, hw0, bS⟩ := ReadsInt.ofRowC w0
 obtain ⟨k, h⟩ := P l0 hm0 y0 hw0
 refine (laws_FnPakPut.calls k _ _ l0 true w (Kd.C_of_reads (d := (0 : Int)) (h1 := fun _ => rfl) hr0) bS h).mono ?_
 rintro e w' ⟨rfl, hd⟩
 exact ⟨rfl, hd⟩

end Go.Proofs.Ytfnkaccncmjnaaa.X
