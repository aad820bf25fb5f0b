/- What functions of the program come to, each with its proof. No condition but what each theorem states. -/
import Derived.Test.YtfnkaccncmjnaaaX0
import Derived.Test.YtfnkaccncmjnaaaX11
import Derived.Test.YtfnkaccncmjnaaaX15
import Derived.Test.YtfnkaccncmjnaaaX16
import Derived.Test.YtfnkaccncmjnaaaX38
import Derived.Test.YtfnkaccncmjnaaaX45
import Derived.Test.YtfnkaccncmjnaaaX49
namespace Go.Proofs.Ytfnkaccncmjnaaa.X
open Go.RowKit Go.Proofs.YtfnkaccncmjnaaaW.PrintWords Go.Proofs.YtfnkaccncmjnaaaW.PrintLast Go.Proofs.YtfnkaccncmjnaaaW.PrintMore Go.Proofs.Ytfnkaccncmjnaaa.Hyb
attribute [local go_sem] max2_int min2_int max_two min_two max_three min_three max_four min_four
set_option linter.unusedVariables false
set_option linter.unusedSimpArgs false

/-! ### laws_FnExactPakPut: function 8 -/
def laws_FnExactPakPut.j0 : Nat → List Int → List Int → List Int → Bool → Option (Bool)
 | 0, _, _, _, _ => none
 | k + 1, x0, x3, x5, x39 => if x39 = true then (none) else ((laws_markByteS.f k x5 1).bind fun aW => ((laws_heldByteS.f k aW.2 1).bind fun aP => (if aP < 0 then (none) else (if aP = aW.1 then ((laws_toByteS.f k x0).bind fun bF => ((impl_PakPut.f k bF).bind fun bG => ((laws_eqByteS.f k bG x3).bind fun bO => (if bO = true then ((laws_heldByteS.f k aW.2 1).bind fun aQ => (if aQ < 0 then (none) else (if aQ = aW.1 then (some true) else (none)))) else (none))))) else (none)))))
def laws_FnExactPakPut.f (k : Nat) (l0 : List Int) : Option (Bool) := if (l0.length : Int) > 1048576 then (some true) else ((laws_toByteS.f k l0).bind fun aM => ((spec_PakPut.f k aM).bind fun aF => ((laws_toByteS.f k l0).bind fun aH => ((impl_PakPut.f k aH).bind fun aB => ((laws_eqByteS.f k aB aF).bind fun bD => (if bD = true then ((laws_toByteS.f k l0).bind fun aN => ((laws_eqByteS.f k aH aN).bind fun bE => (if bE = true then ((laws_markByteS.f k aH 1).bind fun bB => (if bB.1 < 0 then (laws_FnExactPakPut.j0 k l0 aF aB true) else ((laws_eqByteS.f k aB aF).bind fun aX => (laws_FnExactPakPut.j0 k l0 aF aB (!aX))))) else (none)))) else (none)))))))
theorem laws_FnExactPakPut.mono_l : ∀ k, (∀ y0 y1 y2 y3, LeO (laws_FnExactPakPut.j0 k y0 y1 y2 y3) (laws_FnExactPakPut.j0 (k + 1) y0 y1 y2 y3))
 | 0 => (fun _ _ _ _ r h => nomatch (show none = some r from h))
 | k + 1 => by
  have ih0 := laws_FnExactPakPut.mono_l k
  ·intro y0 y1 y2 y3
   unfold laws_FnExactPakPut.j0
   repeat' first
   | (with_reducible exact ih0 _ _ _ _)
   | (with_reducible exact impl_PakPut.mono _ _)
   | (with_reducible exact laws_eqByteS.mono _ _ _)
   | (with_reducible exact laws_heldByteS.mono _ _ _)
   | (with_reducible exact laws_markByteS.mono _ _ _)
   | (with_reducible exact laws_toByteS.mono _ _)
   | (with_reducible exact spec_PakPut.mono _ _)
   | (with_reducible exact LeO.refl _)
   | (with_reducible exact LeO.none _)
   | (with_reducible refine LeO.ite ?_ ?_)
   | (with_reducible refine LeO.bind ?_ (fun _ => ?_))
   | exact ih0 _ _ _ _
   | exact impl_PakPut.mono _ _
   | exact laws_eqByteS.mono _ _ _
   | exact laws_heldByteS.mono _ _ _
   | exact laws_markByteS.mono _ _ _
   | exact laws_toByteS.mono _ _
   | exact spec_PakPut.mono _ _
   | exact LeO.none _
   | refine LeO.ite ?_ ?_
   | refine LeO.bind ?_ (fun _ => ?_)
theorem laws_FnExactPakPut.mono : ∀ a0 k, LeO (laws_FnExactPakPut.f k a0) (laws_FnExactPakPut.f (k + 1) a0) := by
 intro a0 k
 have ih0 := laws_FnExactPakPut.mono_l k
 unfold laws_FnExactPakPut.f
 repeat' first
   | (with_reducible exact ih0 _ _ _ _)
   | (with_reducible exact impl_PakPut.mono _ _)
   | (with_reducible exact laws_eqByteS.mono _ _ _)
   | (with_reducible exact laws_heldByteS.mono _ _ _)
   | (with_reducible exact laws_markByteS.mono _ _ _)
   | (with_reducible exact laws_toByteS.mono _ _)
   | (with_reducible exact spec_PakPut.mono _ _)
   | (with_reducible exact LeO.refl _)
   | (with_reducible exact LeO.none _)
   | (with_reducible refine LeO.ite ?_ ?_)
   | (with_reducible refine LeO.bind ?_ (fun _ => ?_))
   | exact ih0 _ _ _ _
   | exact impl_PakPut.mono _ _
   | exact laws_eqByteS.mono _ _ _
   | exact laws_heldByteS.mono _ _ _
   | exact laws_markByteS.mono _ _ _
   | exact laws_toByteS.mono _ _
   | exact spec_PakPut.mono _ _
   | exact LeO.none _
   | refine LeO.ite ?_ ?_
   | refine LeO.bind ?_ (fun _ => ?_)
set_option maxHeartbeats 8000000 in
set_option maxRecDepth 100000 in
theorem laws_FnExactPakPut.calls (k : Nat) (A0 : Option Addr) (c0 : Nat) (l0 : List Int) (r : Bool) (w : World) (hr0 : Kd.C (Kd.int .u8) w A0 l0.length l0) (cJ : l0.length ≤ c0) (h : laws_FnExactPakPut.f k l0 = some r) :
  Calls Try.prog 8 #[.slice A0 l0.length c0] w fun e w' => e = .returned (.bool r) ∧ Below w.heap.size w w' := by
 have cE := Aside0.mk hr0
 have cD := Aside0.mk cJ
 clear hr0 cJ
 have HB := Aside0.mk (Below.refl w.heap.size w)
 have H : (if (l0.length : Int) > 1048576 then (some true) else ((laws_toByteS.f k l0).bind fun aM => ((spec_PakPut.f k aM).bind fun aF => ((laws_toByteS.f k l0).bind fun aH => ((impl_PakPut.f k aH).bind fun aB => ((laws_eqByteS.f k aB aF).bind fun bD => (if bD = true then ((laws_toByteS.f k l0).bind fun aN => ((laws_eqByteS.f k aH aN).bind fun bE => (if bE = true then ((laws_markByteS.f k aH 1).bind fun bB => (if bB.1 < 0 then (laws_FnExactPakPut.j0 k l0 aF aB true) else ((laws_eqByteS.f k aB aF).bind fun aX => (laws_FnExactPakPut.j0 k l0 aF aB (!aX))))) else (none)))) else (none)))))))) = some r := h
 clear h
 by_cases c2 : (l0.length : Int) > 1048576
 ·rw [if_pos c2] at H
  have bZ : decide (1048576 < (l0.length : Int)) = true := decide_eq_true c2
  have cA : decide (1048576 < l0.length) = true := decide_eq_true (by omega)
  clear c2
  obtain rfl := Option.some.inj H
  go_enter Try.func8, Try.ntmps8
  go_wp2
  go_ret
  exact ⟨by first | rfl | (simp [errW_none, errW_some] <;> rfl) | (simp [*, errW_none, errW_some] <;> rfl), oB HB⟩
 ·rw [if_neg c2] at H
  have bZ : decide (1048576 < (l0.length : Int)) = false := decide_eq_false c2
  have cA : decide (1048576 < l0.length) = false := decide_eq_false (by omega)
  clear c2
  replace H := Option.bind_eq_some_iff.mp H
  obtain ⟨aM, cW, H⟩ := H
  (try dsimp only at H)
  have A3 := Aside0.mk cW
  clear cW
  replace H := Option.bind_eq_some_iff.mp H
  obtain ⟨aF, cX, H⟩ := H
  (try dsimp only at H)
  have A4 := Aside0.mk cX
  clear cX
  replace H := Option.bind_eq_some_iff.mp H
  obtain ⟨aH, cY, H⟩ := H
  (try dsimp only at H)
  have A5 := Aside0.mk cY
  clear cY
  replace H := Option.bind_eq_some_iff.mp H
  obtain ⟨aB, cZ, H⟩ := H
  (try dsimp only at H)
  have A6 := Aside0.mk cZ
  clear cZ
  replace H := Option.bind_eq_some_iff.mp H
  obtain ⟨bD, dA, H⟩ := H
  (try dsimp only at H)
  have A7 := Aside0.mk dA
  clear dA
  by_cases c8 : bD = true
  ·subst c8
   rw [if_pos rfl] at H
   replace H := Option.bind_eq_some_iff.mp H
   obtain ⟨aN, dB, H⟩ := H
   (try dsimp only at H)
   have A9 := Aside0.mk dB
   clear dB
   replace H := Option.bind_eq_some_iff.mp H
   obtain ⟨bE, bP, H⟩ := H
   (try dsimp only at H)
   have dI := Aside0.mk bP
   clear bP
   by_cases bY : bE = true
   ·subst bY
    rw [if_pos rfl] at H
    replace H := Option.bind_eq_some_iff.mp H
    obtain ⟨⟨bH, cV⟩, bQ, H⟩ := H
    (try dsimp only at H)
    have dJ := Aside0.mk bQ
    clear bQ
    have bK := Aside0.mk H
    clear H
    go_enter Try.func8, Try.ntmps8
    go_upto_region 12 with (first | ((with_reducible refine gate_callee (f := 29) rfl ?_); refine goesL_ (some 14) rfl rfl Try.func29 oK rfl #[.slice A0 l0.length c0] rfl oA ?_; (with_reducible refine (laws_toByteS.calls k _ _ l0 aM _ ?side1 ?side2 A3.out).mono ?_); (case side1 => repeat (first | exact cE.out | (with_reducible refine Kd.C_alloc ?_ _) | (with_reducible refine Kd.C_drewN ?_ _) | (with_reducible refine Kd.C_drew ?_))); (case side2 => exact cD.out); rintro e eA ⟨dT, rfl, ho0, hb⟩; refine ⟨_, rfl, ?_⟩; have n_ := o2_ (Kd.R_lower ho0 (below_size (oB HB))) (o1_ (below_step (oB HB) hb)); clear HB; obtain ⟨aC, HB⟩ := n_; (try clear hb); (try clear hb2); (try clear hk); (try clear hi); (try clear ho0); obtain ⟨bI, bM, cO⟩ := Kd.R_slice aC.out; subst cO) | ((with_reducible refine gate_callee (f := 31) rfl ?_); refine goesL_ (some 15) rfl rfl Try.func31 oK rfl #[.slice bI aM.length bM] rfl oA ?_; (with_reducible refine (spec_PakPut.calls k _ _ aM aF _ ?side1 ?side2 A4.out).mono ?_); (case side1 => repeat (first | exact (Kd.R_reads' aC.out).2.2 | (with_reducible refine Kd.C_alloc ?_ _) | (with_reducible refine Kd.C_drewN ?_ _) | (with_reducible refine Kd.C_drew ?_))); (case side2 => exact (Kd.R_reads' aC.out).2.1); rintro e eB ⟨dU, rfl, ho0, hb⟩; refine ⟨_, rfl, ?_⟩; have n_ := o2_ (Kd.R_elder' (oR aC) (Kd.R_base ho0) hb) (o2_ (Kd.R_lower (Kd.R_new' ho0 (Kd.R_lt (oR aC))) (below_size (oB HB))) (o1_ (below_step (oB HB) hb))); clear aC HB; obtain ⟨aC, aA, HB⟩ := n_; (try clear hb); (try clear hb2); (try clear hk); (try clear hi); (try clear ho0)) | ((with_reducible refine gate_callee (f := 29) rfl ?_); refine goesL_ (some 17) rfl rfl Try.func29 oK rfl #[.slice A0 l0.length c0] rfl oA ?_; (with_reducible refine (laws_toByteS.calls k _ _ l0 aH _ ?side1 ?side2 A5.out).mono ?_); (case side1 => repeat (first | exact (Kd.C_below cE.out HB.out) | (with_reducible refine Kd.C_alloc ?_ _) | (with_reducible refine Kd.C_drewN ?_ _) | (with_reducible refine Kd.C_drew ?_))); (case side2 => exact cD.out); rintro e eC ⟨dV, rfl, ho0, hb⟩; refine ⟨_, rfl, ?_⟩; have n_ := o2_ (Kd.R_elder' (oR aC) (Kd.R_base ho0) hb) (o2_ (Kd.R_elder' (oR aA) (Kd.R_base ho0) hb) (o2_ (Kd.R_lower (Kd.R_new' (Kd.R_new' ho0 (Kd.R_lt (oR aC))) (Kd.R_lt (oR aA))) (below_size (oB HB))) (o1_ (below_step (oB HB) hb)))); clear aC aA HB; obtain ⟨aC, aA, aD, HB⟩ := n_; (try clear hb); (try clear hb2); (try clear hk); (try clear hi); (try clear ho0); obtain ⟨aS, aT, cP⟩ := Kd.R_slice aD.out; subst cP) | ((with_reducible refine gate_callee (f := 32) rfl ?_); refine goesL_ (some 19) rfl rfl Try.func32 oK rfl #[.slice aS aH.length aT] rfl oA ?_; (with_reducible refine (impl_PakPut.calls k _ _ aH aB _ ?side1 ?side2 A6.out).mono ?_); (case side1 => repeat (first | exact (Kd.R_reads' aD.out).2.2 | (with_reducible refine Kd.C_alloc ?_ _) | (with_reducible refine Kd.C_drewN ?_ _) | (with_reducible refine Kd.C_drew ?_))); (case side2 => exact (Kd.R_reads' aD.out).2.1); rintro e eD ⟨dW, rfl, ho0, hb⟩; refine ⟨_, rfl, ?_⟩; have n_ := o2_ (Kd.R_elder' (oR aC) (Kd.R_base ho0) hb) (o2_ (Kd.R_elder' (oR aA) (Kd.R_base ho0) hb) (o2_ (Kd.R_elder' (oR aD) (Kd.R_base ho0) hb) (o2_ (Kd.R_lower (Kd.R_new' (Kd.R_new' (Kd.R_new' ho0 (Kd.R_lt (oR aC))) (Kd.R_lt (oR aA))) (Kd.R_lt (oR aD))) (below_size (oB HB))) (o1_ (below_step (oB HB) hb))))); clear aC aA aD HB; obtain ⟨aC, aA, aD, aE, HB⟩ := n_; (try clear hb); (try clear hb2); (try clear hk); (try clear hi); (try clear ho0); obtain ⟨aJ, aK, cQ⟩ := Kd.R_slice aE.out; subst cQ; obtain ⟨aY, bC, cR⟩ := Kd.R_slice aA.out; subst cR) | ((with_reducible refine gate_callee (f := 17) rfl ?_); refine goesL_ (some 22) rfl rfl Try.func17 oK rfl #[.slice aJ aB.length aK, .slice aY aF.length bC] rfl oA ?_; (with_reducible refine (laws_eqByteS.calls k _ _ aB _ _ aF true _ ?side1 ?side2 ?side3 ?side4 A7.out).mono ?_); (case side1 => repeat (first | exact (Kd.R_reads' aE.out).2.2 | (with_reducible refine Kd.C_alloc ?_ _) | (with_reducible refine Kd.C_drewN ?_ _) | (with_reducible refine Kd.C_drew ?_))); (case side2 => exact (Kd.R_reads' aE.out).2.1); (case side3 => repeat (first | exact (Kd.R_reads' aA.out).2.2 | (with_reducible refine Kd.C_alloc ?_ _) | (with_reducible refine Kd.C_drewN ?_ _) | (with_reducible refine Kd.C_drew ?_))); (case side4 => exact (Kd.R_reads' aA.out).2.1); rintro e w' ⟨rfl, ⟨nd, rfl⟩⟩; refine ⟨_, rfl, ?_⟩) | ((with_reducible refine gate_callee (f := 29) rfl ?_); refine goesL_ (some 26) rfl rfl Try.func29 oK rfl #[.slice A0 l0.length c0] rfl oA ?_; (with_reducible refine (laws_toByteS.calls k _ _ l0 aN _ ?side1 ?side2 A9.out).mono ?_); (case side1 => repeat (first | exact (Kd.C_below cE.out (oB HB)) | (with_reducible refine Kd.C_alloc ?_ _) | (with_reducible refine Kd.C_drewN ?_ _) | (with_reducible refine Kd.C_drew ?_))); (case side2 => exact cD.out); rintro e eE ⟨dX, rfl, ho0, hb⟩; refine ⟨_, rfl, ?_⟩; have n_ := o2_ (Kd.R_elder' (oR aA) (Kd.R_base ho0) hb) (o2_ (Kd.R_elder' (oR aD) (Kd.R_base ho0) hb) (o2_ (Kd.R_elder' (oR aE) (Kd.R_base ho0) hb) (o2_ (Kd.R_lower (Kd.R_new' (Kd.R_new' (Kd.R_new' (Kd.R_new' ho0 (Kd.R_lt (oR aC))) (Kd.R_lt (oR aA))) (Kd.R_lt (oR aD))) (Kd.R_lt (oR aE))) (below_size (oB HB))) (o1_ (below_step (oB HB) hb))))); clear aA aD aE HB; obtain ⟨aA, aD, aE, aZ, HB⟩ := n_; (try clear hb); (try clear hb2); (try clear hk); (try clear hi); (try clear ho0); obtain ⟨bJ, bN, cS⟩ := Kd.R_slice aZ.out; subst cS) | ((with_reducible refine gate_callee (f := 17) rfl ?_); refine goesL_ (some 27) rfl rfl Try.func17 oK rfl #[.slice aS aH.length aT, .slice bJ aN.length bN] rfl oA ?_; (with_reducible refine (laws_eqByteS.calls k _ _ aH _ _ aN true _ ?side1 ?side2 ?side3 ?side4 dI.out).mono ?_); (case side1 => repeat (first | exact (Kd.R_reads' aD.out).2.2 | (with_reducible refine Kd.C_alloc ?_ _) | (with_reducible refine Kd.C_drewN ?_ _) | (with_reducible refine Kd.C_drew ?_))); (case side2 => exact (Kd.R_reads' aD.out).2.1); (case side3 => repeat (first | exact (Kd.R_reads' aZ.out).2.2 | (with_reducible refine Kd.C_alloc ?_ _) | (with_reducible refine Kd.C_drewN ?_ _) | (with_reducible refine Kd.C_drew ?_))); (case side4 => exact (Kd.R_reads' aZ.out).2.1); rintro e w' ⟨rfl, ⟨nd, rfl⟩⟩; refine ⟨_, rfl, ?_⟩) | ((with_reducible refine gate_callee (f := 20) rfl ?_); refine goesL_ (some 31) rfl rfl Try.func20 oK rfl #[.slice aS aH.length aT, .int .i64 1] rfl oA ?_; (with_reducible refine (laws_markByteS.calls k (fun k_ => some k_ = (.slice aS aH.length aT : Value).ownBlock) (.slice aS aH.length aT) aH 1 bH cV w _ ?side1 ?side2 dJ.out).mono ?_); (case side1 => exact oB HB); (case side2 => exact Kd.R_tight rfl aD.out); rintro e eF ⟨rfl, hy0, hb, hkp⟩; refine ⟨_, rfl, ?_⟩; have n_ := o2_ (Kd.R_mono (ok' := fun k_ => some k_ ≠ (.slice bI aM.length bM : Value).ownBlock ∧ some k_ ≠ (.slice aS aH.length aT : Value).ownBlock ∧ some k_ ≠ (.slice aJ aB.length aK : Value).ownBlock ∧ some k_ ≠ (.slice bJ aN.length bN : Value).ownBlock) (Kd.R_keptB (aA.out) hkp (fun k_ hk_ hs_ => (hk_.1.1.2) hs_)) (fun k_ hk_ => ⟨hk_.1.1.1.1.2, hk_.1.1.1.2, hk_.1.1.2, hk_.1.2⟩)) (o2_ (Kd.R_mono (ok' := fun k_ => some k_ ≠ (.slice bI aM.length bM : Value).ownBlock ∧ some k_ ≠ (.slice aY aF.length bC : Value).ownBlock ∧ some k_ ≠ (.slice aS aH.length aT : Value).ownBlock ∧ some k_ ≠ (.slice bJ aN.length bN : Value).ownBlock) (Kd.R_keptB (aE.out) hkp (fun k_ hk_ hs_ => (hk_.1.2) hs_)) (fun k_ hk_ => ⟨hk_.1.1.1.1.2, hk_.1.1.1.2, hk_.1.1.2, hk_.1.2⟩)) (o1_ (hb))); clear aA aE HB; obtain ⟨aA, aE, HB⟩ := n_; (try clear hb); (try clear hkp); (try clear hy0)))
    (try simp only [Act.put, List.setIfInBounds_toArray, List.set_cons_zero, List.set_cons_succ])
    go_cut [39] (fun dS wc => ∃ (kq : Nat) (aR : Bool), dS = .bool aR ∧ Aside0 (laws_FnExactPakPut.j0 kq l0 aF aB aR = some r) ∧ Aside0 (kq ≤ k) ∧ Aside0 (Kd.R (Kd.int .u8) 5 wc w.heap.size (fun k_ => some k_ ≠ ((.slice aJ aB.length aK) : Value).ownBlock) (.slice aY aF.length bC) aF) ∧ Aside0 (Kd.R (Kd.int .u8) 5 wc w.heap.size (fun k_ => some k_ ≠ ((.slice aY aF.length bC) : Value).ownBlock) (.slice aJ aB.length aK) aB) ∧ Aside0 (Below w.heap.size w wc))
    case first =>
     have H := bK.out
     clear bK
     by_cases bL : bH < 0
     ·rw [if_pos bL] at H
      have aL : decide (bH < 0) = true := decide_eq_true bL
      clear bL
      (first | rw [aL] | (simp only [i64_w, i32_w]; rw [aL]) | skip)
      have H' := Aside0.mk H
      clear H
      go_wp2
      go_meet
      case rel => exact ⟨_, (true), oU, H', ⟨(by first | omega | exact Nat.le_refl _)⟩, ⟨(by (with_reducible repeat (first | apply Kd.R_alloc | apply Kd.R_drewN | apply Kd.R_drew)); exact Kd.R_mono aA.out (fun _ hk => hk.2.2.1))⟩, ⟨(by (with_reducible repeat (first | apply Kd.R_alloc | apply Kd.R_drewN | apply Kd.R_drew)); exact Kd.R_mono aE.out (fun _ hk => hk.2.1))⟩, ⟨(oB HB)⟩⟩
     ·rw [if_neg bL] at H
      have aL : decide (bH < 0) = false := decide_eq_false bL
      clear bL
      (first | rw [aL] | (simp only [i64_w, i32_w]; rw [aL]) | skip)
      replace H := Option.bind_eq_some_iff.mp H
      obtain ⟨aX, bR, H⟩ := H
      (try dsimp only at H)
      have dK := Aside0.mk bR
      clear bR
      have H' := Aside0.mk H
      clear H
      go_wp2_with (first | (go_at_call 17; (with_reducible refine (laws_eqByteS.calls k _ _ aB _ _ aF aX _ ?side1 ?side2 ?side3 ?side4 dK.out).mono ?_); (case side1 => repeat (first | exact (Kd.R_reads' aE.out).2.2 | (with_reducible refine Kd.C_alloc ?_ _) | (with_reducible refine Kd.C_drewN ?_ _) | (with_reducible refine Kd.C_drew ?_))); (case side2 => exact (Kd.R_reads' aE.out).2.1); (case side3 => repeat (first | exact (Kd.R_reads' aA.out).2.2 | (with_reducible refine Kd.C_alloc ?_ _) | (with_reducible refine Kd.C_drewN ?_ _) | (with_reducible refine Kd.C_drew ?_))); (case side4 => exact (Kd.R_reads' aA.out).2.1); rintro e w' ⟨rfl, ⟨nd, rfl⟩⟩))
      go_meet
      case rel => exact ⟨_, (!aX), oU, H', ⟨(by first | omega | exact Nat.le_refl _)⟩, ⟨(by (with_reducible repeat (first | apply Kd.R_alloc | apply Kd.R_drewN | apply Kd.R_drew)); exact Kd.R_mono aA.out (fun _ hk => hk.2.2.1))⟩, ⟨(by (with_reducible repeat (first | apply Kd.R_alloc | apply Kd.R_drewN | apply Kd.R_drew)); exact Kd.R_mono aE.out (fun _ hk => hk.2.1))⟩, ⟨(oB HB)⟩⟩
    case rest =>
     clear bK
     try clear c1
     try clear c2
     try clear bZ
     try clear cA
     try clear p2
     try clear c3
     try clear c8
     try clear bY
     try clear c17
     try clear c20
     try clear bL
     try clear aL
     obtain ⟨kq, aR, rfl, HA, dR, aI, aG, HB⟩ := hcut
     cases kq with
     | zero => exact nomatch (show none = some _ from HA.out)
     | succ kj12 =>
      have H := HA.out
      clear HA
      simp only [laws_FnExactPakPut.j0] at H
      by_cases cF : aR = true
      ·subst cF
       rw [if_pos rfl] at H
       exact absurd H (by simp)
      ·replace cF := Bool.eq_false_iff.mpr cF
       subst cF
       rw [if_neg (show ¬ (false = true) by decide)] at H
       replace H := Option.bind_eq_some_iff.mp H
       obtain ⟨⟨aU, aO⟩, bS, H⟩ := H
       (try dsimp only at H)
       have dL := Aside0.mk bS
       clear bS
       replace H := Option.bind_eq_some_iff.mp H
       obtain ⟨aP, bT, H⟩ := H
       (try dsimp only at H)
       have dM := Aside0.mk bT
       clear bT
       by_cases cG : aP < 0
       ·rw [if_pos cG] at H
        exact absurd H (by simp)
       ·rw [if_neg cG] at H
        have dC : decide (aP < 0) = false := decide_eq_false cG
        clear cG
        by_cases cB : aP = aU
        ·rw [if_pos cB] at H
         have dD : (aP == aU) = true := beq_iff_eq.mpr cB
         have dE : (aP != aU) = false := bne_eq_false_iff_eq.mpr cB
         clear cB
         replace H := Option.bind_eq_some_iff.mp H
         obtain ⟨bF, bU, H⟩ := H
         (try dsimp only at H)
         have dN := Aside0.mk bU
         clear bU
         replace H := Option.bind_eq_some_iff.mp H
         obtain ⟨bG, bV, H⟩ := H
         (try dsimp only at H)
         have dO := Aside0.mk bV
         clear bV
         replace H := Option.bind_eq_some_iff.mp H
         obtain ⟨bO, bW, H⟩ := H
         (try dsimp only at H)
         have dP := Aside0.mk bW
         clear bW
         by_cases cH : bO = true
         ·subst cH
          rw [if_pos rfl] at H
          replace H := Option.bind_eq_some_iff.mp H
          obtain ⟨aQ, bX, H⟩ := H
          (try dsimp only at H)
          have dQ := Aside0.mk bX
          clear bX
          by_cases cI : aQ < 0
          ·rw [if_pos cI] at H
           exact absurd H (by simp)
          ·rw [if_neg cI] at H
           have dF : decide (aQ < 0) = false := decide_eq_false cI
           clear cI
           by_cases cC : aQ = aU
           ·rw [if_pos cC] at H
            have dG : (aQ == aU) = true := beq_iff_eq.mpr cC
            have dH : (aQ != aU) = false := bne_eq_false_iff_eq.mpr cC
            clear cC
            obtain rfl := Option.some.inj H
            go_wp2_with (first | ((with_reducible refine gate_callee (f := 20) rfl ?_); refine goesL_ (some 42) rfl rfl Try.func20 oK rfl #[.slice aJ aB.length aK, .int .i64 1] rfl oA ?_; (with_reducible refine (laws_markByteS.calls kj12 (fun k_ => some k_ = (.slice aJ aB.length aK : Value).ownBlock) (.slice aJ aB.length aK) aB 1 aU aO w _ ?side1 ?side2 dL.out).mono ?_); (case side1 => exact oB HB); (case side2 => exact Kd.R_tight rfl aG.out); rintro e eG ⟨rfl, hy0, hb, hkp⟩; refine ⟨_, rfl, ?_⟩; have n_ := o2_ (Kd.R_mono (ok' := fun k_ => some k_ ≠ (.slice aJ aB.length aK : Value).ownBlock) (Kd.R_keptB (aI.out) hkp (fun k_ hk_ hs_ => (hk_) hs_)) (fun k_ hk_ => hk_.1)) (o2_ (Kd.R_reok rfl hy0 (fun k_ e_ => aG.out.1 k_ e_)) (o1_ (hb))); clear aI aG HB; obtain ⟨aI, aG, HB⟩ := n_; (try clear hb); (try clear hkp); (try clear hy0)) | ((with_reducible refine gate_callee (f := 21) rfl ?_); refine goesL_ (some 45) rfl rfl Try.func21 oK rfl #[.slice aJ aO.length aK, .int .i64 1] rfl (by (try simp only [List.map_toArray, List.map_cons, List.map_nil]); first | done | (rw [show aO.length = aB.length from (Kd.R_reads' aG.out).1.symm] <;> rfl) | rfl | (simp only [List.length_drop, List.length_take]; rfl)) ?_; (with_reducible refine (laws_heldByteS.calls kj12 _ _ aO 1 aP _ ?side1 ?side2 dM.out).mono ?_); (case side1 => repeat (first | exact (Kd.R_reads' aG.out).2.2 | (with_reducible refine Kd.C_alloc ?_ _) | (with_reducible refine Kd.C_drewN ?_ _) | (with_reducible refine Kd.C_drew ?_))); (case side2 => rw [show aO.length = aB.length from (Kd.R_reads' aG.out).1.symm]; exact (Kd.R_reads' aG.out).2.1); rintro e w' ⟨rfl, ⟨nd, rfl⟩⟩; refine ⟨_, rfl, ?_⟩) | ((with_reducible refine gate_callee (f := 29) rfl ?_); refine goesL_ (some 52) rfl rfl Try.func29 oK rfl #[.slice A0 l0.length c0] rfl oA ?_; (with_reducible refine (laws_toByteS.calls kj12 _ _ l0 bF _ ?side1 ?side2 dN.out).mono ?_); (case side1 => repeat (first | exact (Kd.C_below cE.out (oB HB)) | (with_reducible refine Kd.C_alloc ?_ _) | (with_reducible refine Kd.C_drewN ?_ _) | (with_reducible refine Kd.C_drew ?_))); (case side2 => exact cD.out); rintro e eH ⟨dY, rfl, ho0, hb⟩; refine ⟨_, rfl, ?_⟩; have n_ := o2_ (Kd.R_elder' (oR aI) (Kd.R_base ho0) hb) (o2_ (Kd.R_elder' (oR aG) (Kd.R_base ho0) hb) (o2_ (Kd.R_lower (Kd.R_new' (Kd.R_new' ho0 (Kd.R_lt (oR aI))) (Kd.R_lt (oR aG))) (below_size (oB HB))) (o1_ (below_step (oB HB) hb)))); clear aI aG HB; obtain ⟨aI, aG, aV, HB⟩ := n_; (try clear hb); (try clear hb2); (try clear hk); (try clear hi); (try clear ho0); obtain ⟨cK, cM, cT⟩ := Kd.R_slice aV.out; subst cT) | ((with_reducible refine gate_callee (f := 32) rfl ?_); refine goesL_ (some 53) rfl rfl Try.func32 oK rfl #[.slice cK bF.length cM] rfl oA ?_; (with_reducible refine (impl_PakPut.calls kj12 _ _ bF bG _ ?side1 ?side2 dO.out).mono ?_); (case side1 => repeat (first | exact (Kd.R_reads' aV.out).2.2 | (with_reducible refine Kd.C_alloc ?_ _) | (with_reducible refine Kd.C_drewN ?_ _) | (with_reducible refine Kd.C_drew ?_))); (case side2 => exact (Kd.R_reads' aV.out).2.1); rintro e eI ⟨dZ, rfl, ho0, hb⟩; refine ⟨_, rfl, ?_⟩; have n_ := o2_ (Kd.R_elder' (oR aI) (Kd.R_base ho0) hb) (o2_ (Kd.R_elder' (oR aG) (Kd.R_base ho0) hb) (o2_ (Kd.R_lower (Kd.R_new' (Kd.R_new' (Kd.R_new' ho0 (Kd.R_lt (oR aI))) (Kd.R_lt (oR aG))) (Kd.R_lt (oR aV))) (below_size (oB HB))) (o1_ (below_step (oB HB) hb)))); clear aI aG HB; obtain ⟨aI, aG, bA, HB⟩ := n_; (try clear hb); (try clear hb2); (try clear hk); (try clear hi); (try clear ho0); obtain ⟨cL, cN, cU⟩ := Kd.R_slice bA.out; subst cU) | ((with_reducible refine gate_callee (f := 17) rfl ?_); refine goesL_ (some 56) rfl rfl Try.func17 oK rfl #[.slice cL bG.length cN, .slice aY aF.length bC] rfl oA ?_; (with_reducible refine (laws_eqByteS.calls kj12 _ _ bG _ _ aF true _ ?side1 ?side2 ?side3 ?side4 dP.out).mono ?_); (case side1 => repeat (first | exact (Kd.R_reads' bA.out).2.2 | (with_reducible refine Kd.C_alloc ?_ _) | (with_reducible refine Kd.C_drewN ?_ _) | (with_reducible refine Kd.C_drew ?_))); (case side2 => exact (Kd.R_reads' bA.out).2.1); (case side3 => repeat (first | exact (Kd.R_reads' aI.out).2.2 | (with_reducible refine Kd.C_alloc ?_ _) | (with_reducible refine Kd.C_drewN ?_ _) | (with_reducible refine Kd.C_drew ?_))); (case side4 => exact (Kd.R_reads' aI.out).2.1); rintro e w' ⟨rfl, ⟨nd, rfl⟩⟩; refine ⟨_, rfl, ?_⟩) | ((with_reducible refine gate_callee (f := 21) rfl ?_); refine goesL_ (some 60) rfl rfl Try.func21 oK rfl #[.slice aJ aO.length aK, .int .i64 1] rfl (by (try simp only [List.map_toArray, List.map_cons, List.map_nil]); first | done | (rw [show aO.length = aB.length from (Kd.R_reads' aG.out).1.symm] <;> rfl) | rfl | (simp only [List.length_drop, List.length_take]; rfl)) ?_; (with_reducible refine (laws_heldByteS.calls kj12 _ _ aO 1 aQ _ ?side1 ?side2 dQ.out).mono ?_); (case side1 => repeat (first | exact (Kd.R_reads' aG.out).2.2 | (with_reducible refine Kd.C_alloc ?_ _) | (with_reducible refine Kd.C_drewN ?_ _) | (with_reducible refine Kd.C_drew ?_))); (case side2 => rw [show aO.length = aB.length from (Kd.R_reads' aG.out).1.symm]; exact (Kd.R_reads' aG.out).2.1); rintro e w' ⟨rfl, ⟨nd, rfl⟩⟩; refine ⟨_, rfl, ?_⟩))
            go_ret
            exact ⟨by first | rfl | (simp [errW_none, errW_some] <;> rfl) | (simp [*, errW_none, errW_some] <;> rfl), oB HB⟩
           ·rw [if_neg cC] at H
            exact absurd H (by simp)
         ·replace cH := Bool.eq_false_iff.mpr cH
          subst cH
          rw [if_neg (show ¬ (false = true) by decide)] at H
          exact absurd H (by simp)
        ·rw [if_neg cB] at H
         exact absurd H (by simp)
   ·replace bY := Bool.eq_false_iff.mpr bY
    subst bY
    rw [if_neg (show ¬ (false = true) by decide)] at H
    exact absurd H (by simp)
  ·replace c8 := Bool.eq_false_iff.mpr c8
   subst c8
   rw [if_neg (show ¬ (false = true) by decide)] at H
   exact absurd H (by simp)

/-- THE ONE PURE STATEMENT of laws_FnExactPakPut: yours. -/
def laws_FnExactPakPut.Pure : Prop := ∀ (l0 : List Int), l0.length ≤ maxLen → l0.length * 1 ≤ 140737488351232 → (∀ x ∈ l0, (Lit.int .u8 x).wf = true) → ∃ k, laws_FnExactPakPut.f k l0 = some true
theorem laws_FnExactPakPut.walk (P : laws_FnExactPakPut.Pure) (a0 : Option Addr) (len0 cap0 : Nat) (z0 : List Int) (w : World) (w0 : (a0 = none ∧ len0 = 0 ∧ cap0 = 0 ∧ z0 = []) ∨ ∃ x, a0 = some x ∧ len0 ≤ cap0 ∧ cap0 ≤ maxLen ∧ z0.length = cap0 ∧ (∀ i, i < z0.length → w.cell? (x.add i) = some (.int .u8 (z0.getD i 0))) ∧ ∀ n ∈ z0, (Lit.int .u8 n).wf = true) (y0 : len0 * 1 ≤ 140737488351232) :
  Calls Try.prog 8 #[.slice a0 len0 cap0] w fun e w' => e = .returned (.bool true) ∧ Below w.heap.size w w' := by
 obtain ⟨l0, rfl, hr0, hm0, hw0, cJ⟩ := ReadsInt.ofRowC w0
 obtain ⟨k, h⟩ := P l0 hm0 y0 hw0
 refine (laws_FnExactPakPut.calls k _ _ l0 true w (Kd.C_of_reads (d := (0 : Int)) (h1 := fun _ => rfl) hr0) cJ h).mono ?_
 rintro e w' ⟨rfl, hd⟩
 exact ⟨rfl, hd⟩

end Go.Proofs.Ytfnkaccncmjnaaa.X
