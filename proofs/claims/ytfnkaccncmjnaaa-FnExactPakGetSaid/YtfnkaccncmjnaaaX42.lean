/- What functions of the program come to, each with its proof. No condition but what each theorem states. -/
import Derived.Test.YtfnkaccncmjnaaaX0
import Derived.Test.YtfnkaccncmjnaaaX11
import Derived.Test.YtfnkaccncmjnaaaX15
import Derived.Test.YtfnkaccncmjnaaaX16
import Derived.Test.YtfnkaccncmjnaaaX37
import Derived.Test.YtfnkaccncmjnaaaX38
import Derived.Test.YtfnkaccncmjnaaaX41
namespace Go.Proofs.Ytfnkaccncmjnaaa.X
open Go.RowKit Go.Proofs.YtfnkaccncmjnaaaW.PrintWords Go.Proofs.YtfnkaccncmjnaaaW.PrintLast Go.Proofs.YtfnkaccncmjnaaaW.PrintMore Go.Proofs.Ytfnkaccncmjnaaa.Hyb
attribute [local go_sem] max2_int min2_int max_two min_two max_three min_three max_four min_four
set_option linter.unusedVariables false
set_option linter.unusedSimpArgs false

/-! ### laws_FnExactPakGet: function 7 -/
mutual
def laws_FnExactPakGet.j0 : Nat → List Int → List Int → Bool → List Int → List Int → Bool → Bool → Option (Bool)
 | 0, _, _, _, _, _, _, _ => none
 | k + 1, x0, x3, x4, x5, x6, x7, x37 => if x37 = true then (none) else ((laws_toByteS.f k x0).bind fun bA => ((laws_eqByteS.f k x5 bA).bind fun bV => (if bV = true then ((laws_markByteS.f k x5 1).bind fun cQ => (if cQ.1 < 0 then (laws_FnExactPakGet.j1 k x0 x3 x4 x6 true) else ((laws_eqByteS.f k x6 x3).bind fun bW => (if bW = true then (laws_FnExactPakGet.j1 k x0 x3 x4 x6 (x7 != x4)) else (laws_FnExactPakGet.j1 k x0 x3 x4 x6 true))))) else (none))))
def laws_FnExactPakGet.j1 : Nat → List Int → List Int → Bool → List Int → Bool → Option (Bool)
 | 0, _, _, _, _, _ => none
 | k + 1, x0, x3, x4, x6, x58 => if x58 = true then (none) else ((laws_markByteS.f k x6 1).bind fun aP => ((laws_heldByteS.f k aP.2 1).bind fun aR => (if aR < 0 then (none) else (if aR = aP.1 then ((laws_toByteS.f k x0).bind fun bI => ((impl_PakGet.f k bI).bind fun bO => ((laws_eqByteS.f k bO.1 x3).bind fun bX => (if bX = true then (laws_FnExactPakGet.j2 k aP.2 aP.1 (bO.2 != x4)) else (laws_FnExactPakGet.j2 k aP.2 aP.1 true))))) else (none)))))
def laws_FnExactPakGet.j2 : Nat → List Int → Int → Bool → Option (Bool)
 | 0, _, _, _ => none
 | k + 1, x6, x9, x84 => if x84 = true then (none) else ((laws_heldByteS.f k x6 1).bind fun aS => (if aS < 0 then (none) else (if aS = x9 then (some true) else (none))))
end
def laws_FnExactPakGet.f (k : Nat) (l0 : List Int) : Option (Bool) := if (l0.length : Int) > 1048576 then (some true) else ((laws_toByteS.f k l0).bind fun aZ => ((spec_PakGet.f k aZ).bind fun aE => ((laws_toByteS.f k l0).bind fun aD => ((impl_PakGet.f k aD).bind fun aF => ((laws_eqByteS.f k aF.1 aE.1).bind fun bH => (if bH = true then (laws_FnExactPakGet.j0 k l0 aE.1 aE.2 aD aF.1 aF.2 (aF.2 != aE.2)) else (laws_FnExactPakGet.j0 k l0 aE.1 aE.2 aD aF.1 aF.2 true)))))))
theorem laws_FnExactPakGet.mono_l : ∀ k, (∀ y0 y1 y2 y3 y4 y5 y6, LeO (laws_FnExactPakGet.j0 k y0 y1 y2 y3 y4 y5 y6) (laws_FnExactPakGet.j0 (k + 1) y0 y1 y2 y3 y4 y5 y6)) ∧ (∀ y0 y1 y2 y3 y4, LeO (laws_FnExactPakGet.j1 k y0 y1 y2 y3 y4) (laws_FnExactPakGet.j1 (k + 1) y0 y1 y2 y3 y4)) ∧ (∀ y0 y1 y2, LeO (laws_FnExactPakGet.j2 k y0 y1 y2) (laws_FnExactPakGet.j2 (k + 1) y0 y1 y2))
 | 0 => ⟨(fun _ _ _ _ _ _ _ r h => nomatch (show none = some r from h)), (fun _ _ _ _ _ r h => nomatch (show none = some r from h)), (fun _ _ _ r h => nomatch (show none = some r from h))⟩
 | k + 1 => by
  obtain ⟨ih0, ih1, ih2⟩ := laws_FnExactPakGet.mono_l k
  refine ⟨?_, ?_, ?_⟩
  ·intro y0 y1 y2 y3 y4 y5 y6
   unfold laws_FnExactPakGet.j0
   repeat' first
   | (with_reducible exact ih0 _ _ _ _ _ _ _)
   | (with_reducible exact ih1 _ _ _ _ _)
   | (with_reducible exact ih2 _ _ _)
   | (with_reducible exact impl_PakGet.mono _ _)
   | (with_reducible exact laws_eqByteS.mono _ _ _)
   | (with_reducible exact laws_heldByteS.mono _ _ _)
   | (with_reducible exact laws_markByteS.mono _ _ _)
   | (with_reducible exact laws_toByteS.mono _ _)
   | (with_reducible exact spec_PakGet.mono _ _)
   | (with_reducible exact LeO.refl _)
   | (with_reducible exact LeO.none _)
   | (with_reducible refine LeO.ite ?_ ?_)
   | (with_reducible refine LeO.bind ?_ (fun _ => ?_))
   | exact ih0 _ _ _ _ _ _ _
   | exact ih1 _ _ _ _ _
   | exact ih2 _ _ _
   | exact impl_PakGet.mono _ _
   | exact laws_eqByteS.mono _ _ _
   | exact laws_heldByteS.mono _ _ _
   | exact laws_markByteS.mono _ _ _
   | exact laws_toByteS.mono _ _
   | exact spec_PakGet.mono _ _
   | exact LeO.none _
   | refine LeO.ite ?_ ?_
   | refine LeO.bind ?_ (fun _ => ?_)
  ·intro y0 y1 y2 y3 y4
   unfold laws_FnExactPakGet.j1
   repeat' first
   | (with_reducible exact ih0 _ _ _ _ _ _ _)
   | (with_reducible exact ih1 _ _ _ _ _)
   | (with_reducible exact ih2 _ _ _)
   | (with_reducible exact impl_PakGet.mono _ _)
   | (with_reducible exact laws_eqByteS.mono _ _ _)
   | (with_reducible exact laws_heldByteS.mono _ _ _)
   | (with_reducible exact laws_markByteS.mono _ _ _)
   | (with_reducible exact laws_toByteS.mono _ _)
   | (with_reducible exact spec_PakGet.mono _ _)
   | (with_reducible exact LeO.refl _)
   | (with_reducible exact LeO.none _)
   | (with_reducible refine LeO.ite ?_ ?_)
   | (with_reducible refine LeO.bind ?_ (fun _ => ?_))
   | exact ih0 _ _ _ _ _ _ _
   | exact ih1 _ _ _ _ _
   | exact ih2 _ _ _
   | exact impl_PakGet.mono _ _
   | exact laws_eqByteS.mono _ _ _
   | exact laws_heldByteS.mono _ _ _
   | exact laws_markByteS.mono _ _ _
   | exact laws_toByteS.mono _ _
   | exact spec_PakGet.mono _ _
   | exact LeO.none _
   | refine LeO.ite ?_ ?_
   | refine LeO.bind ?_ (fun _ => ?_)
  ·intro y0 y1 y2
   unfold laws_FnExactPakGet.j2
   repeat' first
   | (with_reducible exact ih0 _ _ _ _ _ _ _)
   | (with_reducible exact ih1 _ _ _ _ _)
   | (with_reducible exact ih2 _ _ _)
   | (with_reducible exact impl_PakGet.mono _ _)
   | (with_reducible exact laws_eqByteS.mono _ _ _)
   | (with_reducible exact laws_heldByteS.mono _ _ _)
   | (with_reducible exact laws_markByteS.mono _ _ _)
   | (with_reducible exact laws_toByteS.mono _ _)
   | (with_reducible exact spec_PakGet.mono _ _)
   | (with_reducible exact LeO.refl _)
   | (with_reducible exact LeO.none _)
   | (with_reducible refine LeO.ite ?_ ?_)
   | (with_reducible refine LeO.bind ?_ (fun _ => ?_))
   | exact ih0 _ _ _ _ _ _ _
   | exact ih1 _ _ _ _ _
   | exact ih2 _ _ _
   | exact impl_PakGet.mono _ _
   | exact laws_eqByteS.mono _ _ _
   | exact laws_heldByteS.mono _ _ _
   | exact laws_markByteS.mono _ _ _
   | exact laws_toByteS.mono _ _
   | exact spec_PakGet.mono _ _
   | exact LeO.none _
   | refine LeO.ite ?_ ?_
   | refine LeO.bind ?_ (fun _ => ?_)
theorem laws_FnExactPakGet.mono : ∀ a0 k, LeO (laws_FnExactPakGet.f k a0) (laws_FnExactPakGet.f (k + 1) a0) := by
 intro a0 k
 obtain ⟨ih0, ih1, ih2⟩ := laws_FnExactPakGet.mono_l k
 unfold laws_FnExactPakGet.f
 repeat' first
   | (with_reducible exact ih0 _ _ _ _ _ _ _)
   | (with_reducible exact ih1 _ _ _ _ _)
   | (with_reducible exact ih2 _ _ _)
   | (with_reducible exact impl_PakGet.mono _ _)
   | (with_reducible exact laws_eqByteS.mono _ _ _)
   | (with_reducible exact laws_heldByteS.mono _ _ _)
   | (with_reducible exact laws_markByteS.mono _ _ _)
   | (with_reducible exact laws_toByteS.mono _ _)
   | (with_reducible exact spec_PakGet.mono _ _)
   | (with_reducible exact LeO.refl _)
   | (with_reducible exact LeO.none _)
   | (with_reducible refine LeO.ite ?_ ?_)
   | (with_reducible refine LeO.bind ?_ (fun _ => ?_))
   | exact ih0 _ _ _ _ _ _ _
   | exact ih1 _ _ _ _ _
   | exact ih2 _ _ _
   | exact impl_PakGet.mono _ _
   | exact laws_eqByteS.mono _ _ _
   | exact laws_heldByteS.mono _ _ _
   | exact laws_markByteS.mono _ _ _
   | exact laws_toByteS.mono _ _
   | exact spec_PakGet.mono _ _
   | exact LeO.none _
   | refine LeO.ite ?_ ?_
   | refine LeO.bind ?_ (fun _ => ?_)
set_option maxHeartbeats 8000000 in
set_option maxRecDepth 100000 in
theorem laws_FnExactPakGet.calls (k : Nat) (A0 : Option Addr) (c0 : Nat) (l0 : List Int) (r : Bool) (w : World) (hr0 : Kd.C (Kd.int .u8) w A0 l0.length l0) (dD : l0.length ≤ c0) (h : laws_FnExactPakGet.f k l0 = some r) :
  Calls Try.prog 7 #[.slice A0 l0.length c0] w fun e w' => e = .returned (.bool r) ∧ Below w.heap.size w w' := by
 have dA := Aside0.mk hr0
 have cZ := Aside0.mk dD
 clear hr0 dD
 have HB := Aside0.mk (Below.refl w.heap.size w)
 have H : (if (l0.length : Int) > 1048576 then (some true) else ((laws_toByteS.f k l0).bind fun aZ => ((spec_PakGet.f k aZ).bind fun aE => ((laws_toByteS.f k l0).bind fun aD => ((impl_PakGet.f k aD).bind fun aF => ((laws_eqByteS.f k aF.1 aE.1).bind fun bH => (if bH = true then (laws_FnExactPakGet.j0 k l0 aE.1 aE.2 aD aF.1 aF.2 (aF.2 != aE.2)) else (laws_FnExactPakGet.j0 k l0 aE.1 aE.2 aD aF.1 aF.2 true)))))))) = some r := h
 clear h
 by_cases c2 : (l0.length : Int) > 1048576
 ·rw [if_pos c2] at H
  have bK : decide (1048576 < (l0.length : Int)) = true := decide_eq_true c2
  have bL : decide (1048576 < l0.length) = true := decide_eq_true (by omega)
  clear c2
  obtain rfl := Option.some.inj H
  go_enter Try.func7, Try.ntmps7
  go_wp2
  go_ret
  exact ⟨by first | rfl | (simp [errW_none, errW_some] <;> rfl) | (simp [*, errW_none, errW_some] <;> rfl), oB HB⟩
 ·rw [if_neg c2] at H
  have bK : decide (1048576 < (l0.length : Int)) = false := decide_eq_false c2
  have bL : decide (1048576 < l0.length) = false := decide_eq_false (by omega)
  clear c2
  replace H := Option.bind_eq_some_iff.mp H
  obtain ⟨aZ, cG, H⟩ := H
  (try dsimp only at H)
  have A3 := Aside0.mk cG
  clear cG
  replace H := Option.bind_eq_some_iff.mp H
  obtain ⟨⟨aI, bD⟩, eP, H⟩ := H
  (try dsimp only at H)
  have A4 := Aside0.mk eP
  clear eP
  replace H := Option.bind_eq_some_iff.mp H
  obtain ⟨aD, eR, H⟩ := H
  (try dsimp only at H)
  have A5 := Aside0.mk eR
  clear eR
  replace H := Option.bind_eq_some_iff.mp H
  obtain ⟨⟨aG, bM⟩, eS, H⟩ := H
  (try dsimp only at H)
  have A6 := Aside0.mk eS
  clear eS
  have dN := Aside0.mk H
  clear H
  go_enter Try.func7, Try.ntmps7
  go_upto_region 6 with (first | ((with_reducible refine gate_callee (f := 29) rfl ?_); refine goesL_ (some 18) rfl rfl Try.func29 oK rfl #[.slice A0 l0.length c0] rfl oA ?_; (with_reducible refine (laws_toByteS.calls k _ _ l0 aZ _ ?side1 ?side2 A3.out).mono ?_); (case side1 => repeat (first | exact dA.out | (with_reducible refine Kd.C_alloc ?_ _) | (with_reducible refine Kd.C_drewN ?_ _) | (with_reducible refine Kd.C_drew ?_))); (case side2 => exact cZ.out); rintro e w8 ⟨fR, rfl, ho0, hb⟩; refine ⟨_, rfl, ?_⟩; have n_ := o2_ (Kd.R_lower ho0 (below_size (oB HB))) (o1_ (below_step (oB HB) hb)); clear HB; obtain ⟨aH, HB⟩ := n_; (try clear hb); (try clear hb2); (try clear hk); (try clear hi); (try clear ho0); obtain ⟨fI, fO, fP⟩ := Kd.R_slice aH.out; subst fP) | ((with_reducible refine gate_callee (f := 28) rfl ?_); refine goesL_ (some 19) rfl rfl Try.func28 oK rfl #[.slice fI aZ.length fO] rfl oA ?_; (with_reducible refine (spec_PakGet.calls k _ _ aZ aI bD _ ?side1 ?side2 A4.out).mono ?_); (case side1 => repeat (first | exact (Kd.R_reads' aH.out).2.2 | (with_reducible refine Kd.C_alloc ?_ _) | (with_reducible refine Kd.C_drewN ?_ _) | (with_reducible refine Kd.C_drew ?_))); (case side2 => exact (Kd.R_reads' aH.out).2.1); rintro e fY ⟨bE, rfl, ho0, hb⟩; refine ⟨_, rfl, ?_⟩; have n_ := o2_ (Kd.R_elder' (oR aH) (Kd.R_base ho0) hb) (o2_ (Kd.R_lower (Kd.R_new' ho0 (Kd.R_lt (oR aH))) (below_size (oB HB))) (o1_ (below_step (oB HB) hb))); clear aH HB; obtain ⟨aH, aC, HB⟩ := n_; (try clear hb); (try clear hb2); (try clear hk); (try clear hi); (try clear ho0)) | ((with_reducible refine gate_callee (f := 29) rfl ?_); refine goesL_ (some 23) rfl rfl Try.func29 oK rfl #[.slice A0 l0.length c0] rfl oA ?_; (with_reducible refine (laws_toByteS.calls k _ _ l0 aD _ ?side1 ?side2 A5.out).mono ?_); (case side1 => repeat (first | exact (Kd.C_below dA.out HB.out) | (with_reducible refine Kd.C_alloc ?_ _) | (with_reducible refine Kd.C_drewN ?_ _) | (with_reducible refine Kd.C_drew ?_))); (case side2 => exact cZ.out); rintro e fZ ⟨fS, rfl, ho0, hb⟩; refine ⟨_, rfl, ?_⟩; have n_ := o2_ (Kd.R_elder' (oR aH) (Kd.R_base ho0) hb) (o2_ (Kd.R_elder' (oR aC) (Kd.R_base ho0) hb) (o2_ (Kd.R_lower (Kd.R_new' (Kd.R_new' ho0 (Kd.R_lt (oR aH))) (Kd.R_lt (oR aC))) (below_size (oB HB))) (o1_ (below_step (oB HB) hb)))); clear aH aC HB; obtain ⟨aH, aC, aJ, HB⟩ := n_; (try clear hb); (try clear hb2); (try clear hk); (try clear hi); (try clear ho0); obtain ⟨aM, aN, dX⟩ := Kd.R_slice aJ.out; subst dX) | ((with_reducible refine gate_callee (f := 30) rfl ?_); refine goesL_ (some 26) rfl rfl Try.func30 oK rfl #[.slice aM aD.length aN] rfl oA ?_; (with_reducible refine (impl_PakGet.calls k _ _ aD aG bM _ ?side1 ?side2 A6.out).mono ?_); (case side1 => repeat (first | exact (Kd.R_reads' aJ.out).2.2 | (with_reducible refine Kd.C_alloc ?_ _) | (with_reducible refine Kd.C_drewN ?_ _) | (with_reducible refine Kd.C_drew ?_))); (case side2 => exact (Kd.R_reads' aJ.out).2.1); rintro e gA ⟨bF, rfl, ho0, hb⟩; refine ⟨_, rfl, ?_⟩; have n_ := o2_ (Kd.R_elder' (oR aC) (Kd.R_base ho0) hb) (o2_ (Kd.R_elder' (oR aJ) (Kd.R_base ho0) hb) (o2_ (Kd.R_lower (Kd.R_new' (Kd.R_new' (Kd.R_new' ho0 (Kd.R_lt (oR aH))) (Kd.R_lt (oR aC))) (Kd.R_lt (oR aJ))) (below_size (oB HB))) (o1_ (below_step (oB HB) hb)))); clear aC aJ HB; obtain ⟨aC, aJ, aK, HB⟩ := n_; (try clear hb); (try clear hb2); (try clear hk); (try clear hi); (try clear ho0)))
  (try simp only [Act.put, List.setIfInBounds_toArray, List.set_cons_zero, List.set_cons_succ])
  go_cut [37] (fun fQ wc => ∃ (kq : Nat) (bC : Bool), fQ = .bool bC ∧ Aside0 (laws_FnExactPakGet.j0 kq l0 aI bD aD aG bM bC = some r) ∧ Aside0 (kq ≤ k) ∧ Aside0 (Kd.R (Kd.int .u8) 5 wc w.heap.size (fun k_ => some k_ ≠ ((.slice aM aD.length aN) : Value).ownBlock ∧ some k_ ≠ (bF : Value).ownBlock) bE aI) ∧ Aside0 (Kd.R (Kd.int .u8) 5 wc w.heap.size (fun k_ => some k_ ≠ (bE : Value).ownBlock ∧ some k_ ≠ (bF : Value).ownBlock) (.slice aM aD.length aN) aD) ∧ Aside0 (Kd.R (Kd.int .u8) 5 wc w.heap.size (fun k_ => some k_ ≠ (bE : Value).ownBlock ∧ some k_ ≠ ((.slice aM aD.length aN) : Value).ownBlock) bF aG) ∧ Aside0 (Below w.heap.size w wc))
  case first =>
   have H := dN.out
   clear dN
   replace H := Option.bind_eq_some_iff.mp H
   obtain ⟨bH, cC, H⟩ := H
   (try dsimp only at H)
   have eO := Aside0.mk cC
   clear cC
   by_cases bT : bH = true
   ·subst bT
    rw [if_pos rfl] at H
    have H' := Aside0.mk H
    clear H
    obtain ⟨dE, dO, dY⟩ := Kd.R_slice aK.out
    subst dY
    obtain ⟨dF, dP, dZ⟩ := Kd.R_slice aC.out
    subst dZ
    go_wp2_with (first | ((with_reducible refine gate_callee (f := 17) rfl ?_); refine goesL_ (some 31) rfl rfl Try.func17 oK rfl #[.slice dE aG.length dO, .slice dF aI.length dP] rfl oA ?_; (with_reducible refine (laws_eqByteS.calls k _ _ aG _ _ aI true _ ?side1 ?side2 ?side3 ?side4 eO.out).mono ?_); (case side1 => repeat (first | exact (Kd.R_reads' aK.out).2.2 | (with_reducible refine Kd.C_alloc ?_ _) | (with_reducible refine Kd.C_drewN ?_ _) | (with_reducible refine Kd.C_drew ?_))); (case side2 => exact (Kd.R_reads' aK.out).2.1); (case side3 => repeat (first | exact (Kd.R_reads' aC.out).2.2 | (with_reducible refine Kd.C_alloc ?_ _) | (with_reducible refine Kd.C_drewN ?_ _) | (with_reducible refine Kd.C_drew ?_))); (case side4 => exact (Kd.R_reads' aC.out).2.1); rintro e w' ⟨rfl, ⟨nd, rfl⟩⟩; refine ⟨_, rfl, ?_⟩))
    go_meet
    case rel => exact ⟨_, ((bM != bD)), oU, H', ⟨(by first | omega | exact Nat.le_refl _)⟩, ⟨(by (with_reducible repeat (first | apply Kd.R_alloc | apply Kd.R_drewN | apply Kd.R_drew)); exact Kd.R_mono aC.out (fun _ hk => ⟨hk.1.2, hk.2⟩))⟩, ⟨(by (with_reducible repeat (first | apply Kd.R_alloc | apply Kd.R_drewN | apply Kd.R_drew)); exact Kd.R_mono aJ.out (fun _ hk => ⟨hk.1.2, hk.2⟩))⟩, ⟨(by (with_reducible repeat (first | apply Kd.R_alloc | apply Kd.R_drewN | apply Kd.R_drew)); exact Kd.R_mono aK.out (fun _ hk => ⟨hk.1.2, hk.2⟩))⟩, ⟨(oB HB)⟩⟩
   ·replace bT := Bool.eq_false_iff.mpr bT
    subst bT
    rw [if_neg (show ¬ (false = true) by decide)] at H
    have H' := Aside0.mk H
    clear H
    obtain ⟨dG, dQ, eA⟩ := Kd.R_slice aK.out
    subst eA
    obtain ⟨dH, dR, eB⟩ := Kd.R_slice aC.out
    subst eB
    go_wp2_with (first | ((with_reducible refine gate_callee (f := 17) rfl ?_); refine goesL_ (some 31) rfl rfl Try.func17 oK rfl #[.slice dG aG.length dQ, .slice dH aI.length dR] rfl oA ?_; (with_reducible refine (laws_eqByteS.calls k _ _ aG _ _ aI false _ ?side1 ?side2 ?side3 ?side4 eO.out).mono ?_); (case side1 => repeat (first | exact (Kd.R_reads' aK.out).2.2 | (with_reducible refine Kd.C_alloc ?_ _) | (with_reducible refine Kd.C_drewN ?_ _) | (with_reducible refine Kd.C_drew ?_))); (case side2 => exact (Kd.R_reads' aK.out).2.1); (case side3 => repeat (first | exact (Kd.R_reads' aC.out).2.2 | (with_reducible refine Kd.C_alloc ?_ _) | (with_reducible refine Kd.C_drewN ?_ _) | (with_reducible refine Kd.C_drew ?_))); (case side4 => exact (Kd.R_reads' aC.out).2.1); rintro e w' ⟨rfl, ⟨nd, rfl⟩⟩; refine ⟨_, rfl, ?_⟩))
    go_meet
    case rel => exact ⟨_, (true), oU, H', ⟨(by first | omega | exact Nat.le_refl _)⟩, ⟨(by (with_reducible repeat (first | apply Kd.R_alloc | apply Kd.R_drewN | apply Kd.R_drew)); exact Kd.R_mono aC.out (fun _ hk => ⟨hk.1.2, hk.2⟩))⟩, ⟨(by (with_reducible repeat (first | apply Kd.R_alloc | apply Kd.R_drewN | apply Kd.R_drew)); exact Kd.R_mono aJ.out (fun _ hk => ⟨hk.1.2, hk.2⟩))⟩, ⟨(by (with_reducible repeat (first | apply Kd.R_alloc | apply Kd.R_drewN | apply Kd.R_drew)); exact Kd.R_mono aK.out (fun _ hk => ⟨hk.1.2, hk.2⟩))⟩, ⟨(oB HB)⟩⟩
  case rest =>
   clear dN
   try clear c1
   try clear c2
   try clear bK
   try clear bL
   try clear p2
   try clear c3
   try clear c7
   try clear bT
   try clear c17
   obtain ⟨kq, bC, rfl, HA, cP, aB, aX, aA, HB⟩ := hcut
   cases kq with
   | zero => exact nomatch (show none = some _ from HA.out)
   | succ kj6 =>
    have H := HA.out
    clear HA
    simp only [laws_FnExactPakGet.j0] at H
    by_cases bY : bC = true
    ·subst bY
     rw [if_pos rfl] at H
     exact absurd H (by simp)
    ·replace bY := Bool.eq_false_iff.mpr bY
     subst bY
     rw [if_neg (show ¬ (false = true) by decide)] at H
     replace H := Option.bind_eq_some_iff.mp H
     obtain ⟨bA, cD, H⟩ := H
     (try dsimp only at H)
     have eW := Aside0.mk cD
     clear cD
     replace H := Option.bind_eq_some_iff.mp H
     obtain ⟨bV, cE, H⟩ := H
     (try dsimp only at H)
     have eX := Aside0.mk cE
     clear cE
     by_cases bZ : bV = true
     ·subst bZ
      rw [if_pos rfl] at H
      replace H := Option.bind_eq_some_iff.mp H
      obtain ⟨⟨bN, eN⟩, cF, H⟩ := H
      (try dsimp only at H)
      have eY := Aside0.mk cF
      clear cF
      have bR := Aside0.mk H
      clear H
      go_upto_region 12 with (first | ((with_reducible refine gate_callee (f := 29) rfl ?_); refine goesL_ (some 40) rfl rfl Try.func29 oK rfl #[.slice A0 l0.length c0] rfl oA ?_; (with_reducible refine (laws_toByteS.calls kj6 _ _ l0 bA _ ?side1 ?side2 eW.out).mono ?_); (case side1 => repeat (first | exact (Kd.C_below dA.out HB.out) | (with_reducible refine Kd.C_alloc ?_ _) | (with_reducible refine Kd.C_drewN ?_ _) | (with_reducible refine Kd.C_drew ?_))); (case side2 => exact cZ.out); rintro e gB ⟨fT, rfl, ho0, hb⟩; refine ⟨_, rfl, ?_⟩; have n_ := o2_ (Kd.R_elder' (oR aB) (Kd.R_base ho0) hb) (o2_ (Kd.R_elder' (oR aX) (Kd.R_base ho0) hb) (o2_ (Kd.R_elder' (oR aA) (Kd.R_base ho0) hb) (o2_ (Kd.R_lower (Kd.R_new' (Kd.R_new' (Kd.R_new' ho0 (Kd.R_lt (oR aB))) (Kd.R_lt (oR aX))) (Kd.R_lt (oR aA))) (below_size (oB HB))) (o1_ (below_step (oB HB) hb))))); clear aB aX aA HB; obtain ⟨aB, aX, aA, bG, HB⟩ := n_; (try clear hb); (try clear hb2); (try clear hk); (try clear hi); (try clear ho0); obtain ⟨bQ, bU, eC⟩ := Kd.R_slice bG.out; subst eC) | ((with_reducible refine gate_callee (f := 17) rfl ?_); refine goesL_ (some 41) rfl rfl Try.func17 oK rfl #[.slice aM aD.length aN, .slice bQ bA.length bU] rfl oA ?_; (with_reducible refine (laws_eqByteS.calls kj6 _ _ aD _ _ bA true _ ?side1 ?side2 ?side3 ?side4 eX.out).mono ?_); (case side1 => repeat (first | exact (Kd.R_reads' aX.out).2.2 | (with_reducible refine Kd.C_alloc ?_ _) | (with_reducible refine Kd.C_drewN ?_ _) | (with_reducible refine Kd.C_drew ?_))); (case side2 => exact (Kd.R_reads' aX.out).2.1); (case side3 => repeat (first | exact (Kd.R_reads' bG.out).2.2 | (with_reducible refine Kd.C_alloc ?_ _) | (with_reducible refine Kd.C_drewN ?_ _) | (with_reducible refine Kd.C_drew ?_))); (case side4 => exact (Kd.R_reads' bG.out).2.1); rintro e w' ⟨rfl, ⟨nd, rfl⟩⟩; refine ⟨_, rfl, ?_⟩) | ((with_reducible refine gate_callee (f := 20) rfl ?_); refine goesL_ (some 45) rfl rfl Try.func20 oK rfl #[.slice aM aD.length aN, .int .i64 1] rfl oA ?_; (with_reducible refine (laws_markByteS.calls kj6 (fun k_ => some k_ = (.slice aM aD.length aN : Value).ownBlock) (.slice aM aD.length aN) aD 1 bN eN w _ ?side1 ?side2 eY.out).mono ?_); (case side1 => exact oB HB); (case side2 => exact Kd.R_tight rfl aX.out); rintro e gC ⟨rfl, hy0, hb, hkp⟩; refine ⟨_, rfl, ?_⟩; have n_ := o2_ (Kd.R_mono (ok' := fun k_ => some k_ ≠ (.slice aM aD.length aN : Value).ownBlock ∧ some k_ ≠ (bF : Value).ownBlock ∧ some k_ ≠ (.slice bQ bA.length bU : Value).ownBlock) (Kd.R_keptB (aB.out) hkp (fun k_ hk_ hs_ => (hk_.1.1) hs_)) (fun k_ hk_ => ⟨hk_.1.1.1, hk_.1.1.2, hk_.1.2⟩)) (o2_ (Kd.R_mono (ok' := fun k_ => some k_ ≠ (bE : Value).ownBlock ∧ some k_ ≠ (.slice aM aD.length aN : Value).ownBlock ∧ some k_ ≠ (.slice bQ bA.length bU : Value).ownBlock) (Kd.R_keptB (aA.out) hkp (fun k_ hk_ hs_ => (hk_.1.2) hs_)) (fun k_ hk_ => ⟨hk_.1.1.1, hk_.1.1.2, hk_.1.2⟩)) (o1_ (hb))); clear aB aA HB; obtain ⟨aB, aA, HB⟩ := n_; (try clear hb); (try clear hkp); (try clear hy0)))
      (try simp only [Act.put, List.setIfInBounds_toArray, List.set_cons_zero, List.set_cons_succ])
      go_cut [58] (fun fW wc => ∃ (kq : Nat) (aT : Bool), fW = .bool aT ∧ Aside0 (laws_FnExactPakGet.j1 kq l0 aI bD aG aT = some r) ∧ Aside0 (kq ≤ kj6) ∧ Aside0 (Kd.R (Kd.int .u8) 5 wc w.heap.size (fun k_ => some k_ ≠ (bF : Value).ownBlock) bE aI) ∧ Aside0 (Kd.R (Kd.int .u8) 5 wc w.heap.size (fun k_ => some k_ ≠ (bE : Value).ownBlock) bF aG) ∧ Aside0 (Below w.heap.size w wc))
      case first =>
       have H := bR.out
       clear bR
       by_cases bP : bN < 0
       ·rw [if_pos bP] at H
        have aL : decide (bN < 0) = true := decide_eq_true bP
        clear bP
        (first | rw [aL] | (simp only [i64_w, i32_w]; rw [aL]) | skip)
        have H' := Aside0.mk H
        clear H
        go_wp2
        go_meet
        case rel => exact ⟨_, (true), oU, H', ⟨(by have := cP.out; first | omega | exact Nat.le_refl _)⟩, ⟨(by (with_reducible repeat (first | apply Kd.R_alloc | apply Kd.R_drewN | apply Kd.R_drew)); exact Kd.R_mono aB.out (fun _ hk => hk.2.1))⟩, ⟨(by (with_reducible repeat (first | apply Kd.R_alloc | apply Kd.R_drewN | apply Kd.R_drew)); exact Kd.R_mono aA.out (fun _ hk => hk.1))⟩, ⟨(oB HB)⟩⟩
       ·rw [if_neg bP] at H
        have aL : decide (bN < 0) = false := decide_eq_false bP
        clear bP
        (first | rw [aL] | (simp only [i64_w, i32_w]; rw [aL]) | skip)
        replace H := Option.bind_eq_some_iff.mp H
        obtain ⟨bW, cH, H⟩ := H
        (try dsimp only at H)
        have cG := Aside0.mk cH
        clear cH
        by_cases cA : bW = true
        ·subst cA
         rw [if_pos rfl] at H
         have H' := Aside0.mk H
         clear H
         obtain ⟨fE, fK, eD⟩ := Kd.R_slice aA.out
         subst eD
         obtain ⟨fF, fL, eE⟩ := Kd.R_slice aB.out
         subst eE
         go_wp2_with (first | (go_at_call 17; (with_reducible refine (laws_eqByteS.calls kj6 _ _ aG _ _ aI true _ ?side1 ?side2 ?side3 ?side4 cG.out).mono ?_); (case side1 => repeat (first | exact (Kd.R_reads' aA.out).2.2 | (with_reducible refine Kd.C_alloc ?_ _) | (with_reducible refine Kd.C_drewN ?_ _) | (with_reducible refine Kd.C_drew ?_))); (case side2 => exact (Kd.R_reads' aA.out).2.1); (case side3 => repeat (first | exact (Kd.R_reads' aB.out).2.2 | (with_reducible refine Kd.C_alloc ?_ _) | (with_reducible refine Kd.C_drewN ?_ _) | (with_reducible refine Kd.C_drew ?_))); (case side4 => exact (Kd.R_reads' aB.out).2.1); rintro e w' ⟨rfl, ⟨nd, rfl⟩⟩))
         go_meet
         case rel => exact ⟨_, ((bM != bD)), oU, H', ⟨(by have := cP.out; first | omega | exact Nat.le_refl _)⟩, ⟨(by (with_reducible repeat (first | apply Kd.R_alloc | apply Kd.R_drewN | apply Kd.R_drew)); exact Kd.R_mono aB.out (fun _ hk => hk.2.1))⟩, ⟨(by (with_reducible repeat (first | apply Kd.R_alloc | apply Kd.R_drewN | apply Kd.R_drew)); exact Kd.R_mono aA.out (fun _ hk => hk.1))⟩, ⟨(oB HB)⟩⟩
        ·replace cA := Bool.eq_false_iff.mpr cA
         subst cA
         rw [if_neg (show ¬ (false = true) by decide)] at H
         have H' := Aside0.mk H
         clear H
         obtain ⟨fG, fM, eF⟩ := Kd.R_slice aA.out
         subst eF
         obtain ⟨fH, fN, eG⟩ := Kd.R_slice aB.out
         subst eG
         go_wp2_with (first | (go_at_call 17; (with_reducible refine (laws_eqByteS.calls kj6 _ _ aG _ _ aI false _ ?side1 ?side2 ?side3 ?side4 cG.out).mono ?_); (case side1 => repeat (first | exact (Kd.R_reads' aA.out).2.2 | (with_reducible refine Kd.C_alloc ?_ _) | (with_reducible refine Kd.C_drewN ?_ _) | (with_reducible refine Kd.C_drew ?_))); (case side2 => exact (Kd.R_reads' aA.out).2.1); (case side3 => repeat (first | exact (Kd.R_reads' aB.out).2.2 | (with_reducible refine Kd.C_alloc ?_ _) | (with_reducible refine Kd.C_drewN ?_ _) | (with_reducible refine Kd.C_drew ?_))); (case side4 => exact (Kd.R_reads' aB.out).2.1); rintro e w' ⟨rfl, ⟨nd, rfl⟩⟩))
         go_meet
         case rel => exact ⟨_, (true), oU, H', ⟨(by have := cP.out; first | omega | exact Nat.le_refl _)⟩, ⟨(by (with_reducible repeat (first | apply Kd.R_alloc | apply Kd.R_drewN | apply Kd.R_drew)); exact Kd.R_mono aB.out (fun _ hk => hk.2.1))⟩, ⟨(by (with_reducible repeat (first | apply Kd.R_alloc | apply Kd.R_drewN | apply Kd.R_drew)); exact Kd.R_mono aA.out (fun _ hk => hk.1))⟩, ⟨(oB HB)⟩⟩
      case rest =>
       clear bR
       try clear c1
       try clear c2
       try clear bK
       try clear bL
       try clear p2
       try clear c3
       try clear c7
       try clear bT
       try clear c17
       try clear bY
       try clear bZ
       try clear c28
       try clear bP
       try clear aL
       try clear c30
       try clear cA
       try clear p2
       obtain ⟨kq, aT, rfl, HA, cO, aB, aA, HB⟩ := hcut
       cases kq with
       | zero => exact nomatch (show none = some _ from HA.out)
       | succ kj24 =>
        have H := HA.out
        clear HA
        simp only [laws_FnExactPakGet.j1] at H
        by_cases cR : aT = true
        ·subst cR
         rw [if_pos rfl] at H
         exact absurd H (by simp)
        ·replace cR := Bool.eq_false_iff.mpr cR
         subst cR
         rw [if_neg (show ¬ (false = true) by decide)] at H
         replace H := Option.bind_eq_some_iff.mp H
         obtain ⟨⟨aV, aQ⟩, cI, H⟩ := H
         (try dsimp only at H)
         have eZ := Aside0.mk cI
         clear cI
         replace H := Option.bind_eq_some_iff.mp H
         obtain ⟨aR, cJ, H⟩ := H
         (try dsimp only at H)
         have fA := Aside0.mk cJ
         clear cJ
         by_cases cS : aR < 0
         ·rw [if_pos cS] at H
          exact absurd H (by simp)
         ·rw [if_neg cS] at H
          have cT : decide (aR < 0) = false := decide_eq_false cS
          clear cS
          by_cases cB : aR = aV
          ·rw [if_pos cB] at H
           have cU : (aR == aV) = true := beq_iff_eq.mpr cB
           have cV : (aR != aV) = false := bne_eq_false_iff_eq.mpr cB
           clear cB
           replace H := Option.bind_eq_some_iff.mp H
           obtain ⟨bI, cK, H⟩ := H
           (try dsimp only at H)
           have fB := Aside0.mk cK
           clear cK
           replace H := Option.bind_eq_some_iff.mp H
           obtain ⟨⟨bJ, cY⟩, cL, H⟩ := H
           (try dsimp only at H)
           have fC := Aside0.mk cL
           clear cL
           have bS := Aside0.mk H
           clear H
           obtain ⟨aW, aY, eH⟩ := Kd.R_slice aA.out
           subst eH
           go_upto_region 23 with (first | ((with_reducible refine gate_callee (f := 20) rfl ?_); refine goesL_ (some 61) rfl rfl Try.func20 oK rfl #[.slice aW aG.length aY, .int .i64 1] rfl oA ?_; (with_reducible refine (laws_markByteS.calls kj24 (fun k_ => some k_ = (.slice aW aG.length aY : Value).ownBlock) (.slice aW aG.length aY) aG 1 aV aQ w _ ?side1 ?side2 eZ.out).mono ?_); (case side1 => exact oB HB); (case side2 => exact Kd.R_tight rfl aA.out); rintro e gD ⟨rfl, hy0, hb, hkp⟩; refine ⟨_, rfl, ?_⟩; have n_ := o2_ (Kd.R_mono (ok' := fun k_ => some k_ ≠ (.slice aW aG.length aY : Value).ownBlock) (Kd.R_keptB (aB.out) hkp (fun k_ hk_ hs_ => (hk_) hs_)) (fun k_ hk_ => hk_.1)) (o2_ (Kd.R_reok rfl hy0 (fun k_ e_ => aA.out.1 k_ e_)) (o1_ (hb))); clear aB aA HB; obtain ⟨aB, aA, HB⟩ := n_; (try clear hb); (try clear hkp); (try clear hy0)) | ((with_reducible refine gate_callee (f := 21) rfl ?_); refine goesL_ (some 64) rfl rfl Try.func21 oK rfl #[.slice aW aQ.length aY, .int .i64 1] rfl (by (try simp only [List.map_toArray, List.map_cons, List.map_nil]); first | done | (rw [show aQ.length = aG.length from (Kd.R_reads' aA.out).1.symm] <;> rfl) | rfl | (simp only [List.length_drop, List.length_take]; rfl)) ?_; (with_reducible refine (laws_heldByteS.calls kj24 _ _ aQ 1 aR _ ?side1 ?side2 fA.out).mono ?_); (case side1 => repeat (first | exact (Kd.R_reads' aA.out).2.2 | (with_reducible refine Kd.C_alloc ?_ _) | (with_reducible refine Kd.C_drewN ?_ _) | (with_reducible refine Kd.C_drew ?_))); (case side2 => rw [show aQ.length = aG.length from (Kd.R_reads' aA.out).1.symm]; exact (Kd.R_reads' aA.out).2.1); rintro e w' ⟨rfl, ⟨nd, rfl⟩⟩; refine ⟨_, rfl, ?_⟩) | ((with_reducible refine gate_callee (f := 29) rfl ?_); refine goesL_ (some 72) rfl rfl Try.func29 oK rfl #[.slice A0 l0.length c0] rfl oA ?_; (with_reducible refine (laws_toByteS.calls kj24 _ _ l0 bI _ ?side1 ?side2 fB.out).mono ?_); (case side1 => repeat (first | exact (Kd.C_below dA.out (oB HB)) | (with_reducible refine Kd.C_alloc ?_ _) | (with_reducible refine Kd.C_drewN ?_ _) | (with_reducible refine Kd.C_drew ?_))); (case side2 => exact cZ.out); rintro e gE ⟨fU, rfl, ho0, hb⟩; refine ⟨_, rfl, ?_⟩; have n_ := o2_ (Kd.R_elder' (oR aB) (Kd.R_base ho0) hb) (o2_ (Kd.R_elder' (oR aA) (Kd.R_base ho0) hb) (o2_ (Kd.R_lower (Kd.R_new' (Kd.R_new' ho0 (Kd.R_lt (oR aB))) (Kd.R_lt (oR aA))) (below_size (oB HB))) (o1_ (below_step (oB HB) hb)))); clear aB aA HB; obtain ⟨aB, aA, bB, HB⟩ := n_; (try clear hb); (try clear hb2); (try clear hk); (try clear hi); (try clear ho0); obtain ⟨dI, dS, eI⟩ := Kd.R_slice bB.out; subst eI) | ((with_reducible refine gate_callee (f := 30) rfl ?_); refine goesL_ (some 73) rfl rfl Try.func30 oK rfl #[.slice dI bI.length dS] rfl oA ?_; (with_reducible refine (impl_PakGet.calls kj24 _ _ bI bJ cY _ ?side1 ?side2 fC.out).mono ?_); (case side1 => repeat (first | exact (Kd.R_reads' bB.out).2.2 | (with_reducible refine Kd.C_alloc ?_ _) | (with_reducible refine Kd.C_drewN ?_ _) | (with_reducible refine Kd.C_drew ?_))); (case side2 => exact (Kd.R_reads' bB.out).2.1); rintro e gF ⟨fV, rfl, ho0, hb⟩; refine ⟨_, rfl, ?_⟩; have n_ := o2_ (Kd.R_elder' (oR aB) (Kd.R_base ho0) hb) (o2_ (Kd.R_elder' (oR aA) (Kd.R_base ho0) hb) (o2_ (Kd.R_lower (Kd.R_new' (Kd.R_new' (Kd.R_new' ho0 (Kd.R_lt (oR aB))) (Kd.R_lt (oR aA))) (Kd.R_lt (oR bB))) (below_size (oB HB))) (o1_ (below_step (oB HB) hb)))); clear aB aA HB; obtain ⟨aB, aA, aO, HB⟩ := n_; (try clear hb); (try clear hb2); (try clear hk); (try clear hi); (try clear ho0)))
           (try simp only [Act.put, List.setIfInBounds_toArray, List.set_cons_zero, List.set_cons_succ])
           go_cut [84] (fun fX wc => ∃ (kq : Nat) (aU : Bool), fX = .bool aU ∧ Aside0 (laws_FnExactPakGet.j2 kq aQ aV aU = some r) ∧ Aside0 (kq ≤ kj24) ∧ Aside0 (Kd.R (Kd.int .u8) 5 wc w.heap.size (fun _ => True) (.slice aW aG.length aY) aQ) ∧ Aside0 (Below w.heap.size w wc))
           case first =>
            have H := bS.out
            clear bS
            replace H := Option.bind_eq_some_iff.mp H
            obtain ⟨bX, cM, H⟩ := H
            (try dsimp only at H)
            have eQ := Aside0.mk cM
            clear cM
            by_cases cW : bX = true
            ·subst cW
             rw [if_pos rfl] at H
             have H' := Aside0.mk H
             clear H
             obtain ⟨dJ, dT, eJ⟩ := Kd.R_slice aO.out
             subst eJ
             obtain ⟨dK, dU, eK⟩ := Kd.R_slice aB.out
             subst eK
             go_wp2_with (first | ((with_reducible refine gate_callee (f := 17) rfl ?_); refine goesL_ (some 78) rfl rfl Try.func17 oK rfl #[.slice dJ bJ.length dT, .slice dK aI.length dU] rfl oA ?_; (with_reducible refine (laws_eqByteS.calls kj24 _ _ bJ _ _ aI true _ ?side1 ?side2 ?side3 ?side4 eQ.out).mono ?_); (case side1 => repeat (first | exact (Kd.R_reads' aO.out).2.2 | (with_reducible refine Kd.C_alloc ?_ _) | (with_reducible refine Kd.C_drewN ?_ _) | (with_reducible refine Kd.C_drew ?_))); (case side2 => exact (Kd.R_reads' aO.out).2.1); (case side3 => repeat (first | exact (Kd.R_reads' aB.out).2.2 | (with_reducible refine Kd.C_alloc ?_ _) | (with_reducible refine Kd.C_drewN ?_ _) | (with_reducible refine Kd.C_drew ?_))); (case side4 => exact (Kd.R_reads' aB.out).2.1); rintro e w' ⟨rfl, ⟨nd, rfl⟩⟩; refine ⟨_, rfl, ?_⟩))
             go_meet
             case rel => exact ⟨_, ((cY != bD)), oU, H', ⟨(by have := cP.out; have := cO.out; first | omega | exact Nat.le_refl _)⟩, ⟨(by (with_reducible repeat (first | apply Kd.R_alloc | apply Kd.R_drewN | apply Kd.R_drew)); exact Kd.R_mono aA.out (fun _ hk => trivial))⟩, ⟨(oB HB)⟩⟩
            ·replace cW := Bool.eq_false_iff.mpr cW
             subst cW
             rw [if_neg (show ¬ (false = true) by decide)] at H
             have H' := Aside0.mk H
             clear H
             obtain ⟨dL, dV, eL⟩ := Kd.R_slice aO.out
             subst eL
             obtain ⟨dM, dW, eM⟩ := Kd.R_slice aB.out
             subst eM
             go_wp2_with (first | ((with_reducible refine gate_callee (f := 17) rfl ?_); refine goesL_ (some 78) rfl rfl Try.func17 oK rfl #[.slice dL bJ.length dV, .slice dM aI.length dW] rfl oA ?_; (with_reducible refine (laws_eqByteS.calls kj24 _ _ bJ _ _ aI false _ ?side1 ?side2 ?side3 ?side4 eQ.out).mono ?_); (case side1 => repeat (first | exact (Kd.R_reads' aO.out).2.2 | (with_reducible refine Kd.C_alloc ?_ _) | (with_reducible refine Kd.C_drewN ?_ _) | (with_reducible refine Kd.C_drew ?_))); (case side2 => exact (Kd.R_reads' aO.out).2.1); (case side3 => repeat (first | exact (Kd.R_reads' aB.out).2.2 | (with_reducible refine Kd.C_alloc ?_ _) | (with_reducible refine Kd.C_drewN ?_ _) | (with_reducible refine Kd.C_drew ?_))); (case side4 => exact (Kd.R_reads' aB.out).2.1); rintro e w' ⟨rfl, ⟨nd, rfl⟩⟩; refine ⟨_, rfl, ?_⟩))
             go_meet
             case rel => exact ⟨_, (true), oU, H', ⟨(by have := cP.out; have := cO.out; first | omega | exact Nat.le_refl _)⟩, ⟨(by (with_reducible repeat (first | apply Kd.R_alloc | apply Kd.R_drewN | apply Kd.R_drew)); exact Kd.R_mono aA.out (fun _ hk => trivial))⟩, ⟨(oB HB)⟩⟩
           case rest =>
            clear bS
            try clear c1
            try clear c2
            try clear bK
            try clear bL
            try clear p2
            try clear c3
            try clear c4
            try clear c5
            try clear c7
            try clear bT
            try clear c17
            try clear bY
            try clear c21
            try clear bZ
            try clear c28
            try clear bP
            try clear aL
            try clear c30
            try clear cA
            try clear cR
            try clear cS
            try clear cT
            try clear cB
            try clear cU
            try clear cV
            try clear cW
            try clear p2
            obtain ⟨kq, aU, rfl, HA, fJ, aA, HB⟩ := hcut
            have hl6_42 := (Kd.R_reads' aA.out).1
            rw [hl6_42] at aA
            (try simp only [hl6_42])
            cases kq with
            | zero => exact nomatch (show none = some _ from HA.out)
            | succ kj42 =>
             have H := HA.out
             clear HA
             simp only [laws_FnExactPakGet.j2] at H
             by_cases dB : aU = true
             ·subst dB
              rw [if_pos rfl] at H
              exact absurd H (by simp)
             ·replace dB := Bool.eq_false_iff.mpr dB
              subst dB
              rw [if_neg (show ¬ (false = true) by decide)] at H
              replace H := Option.bind_eq_some_iff.mp H
              obtain ⟨aS, cN, H⟩ := H
              (try dsimp only at H)
              have fD := Aside0.mk cN
              clear cN
              by_cases dC : aS < 0
              ·rw [if_pos dC] at H
               exact absurd H (by simp)
              ·rw [if_neg dC] at H
               have eT : decide (aS < 0) = false := decide_eq_false dC
               clear dC
               by_cases cX : aS = aV
               ·rw [if_pos cX] at H
                have eU : (aS == aV) = true := beq_iff_eq.mpr cX
                have eV : (aS != aV) = false := bne_eq_false_iff_eq.mpr cX
                clear cX
                obtain rfl := Option.some.inj H
                go_wp2_with (first | ((with_reducible refine gate_callee (f := 21) rfl ?_); refine goesL_ (some 87) rfl rfl Try.func21 oK rfl #[.slice aW aQ.length aY, .int .i64 1] rfl oA ?_; (with_reducible refine (laws_heldByteS.calls kj42 _ _ aQ 1 aS _ ?side1 ?side2 fD.out).mono ?_); (case side1 => repeat (first | exact (Kd.R_reads' aA.out).2.2 | (with_reducible refine Kd.C_alloc ?_ _) | (with_reducible refine Kd.C_drewN ?_ _) | (with_reducible refine Kd.C_drew ?_))); (case side2 => exact (Kd.R_reads' aA.out).2.1); rintro e w' ⟨rfl, ⟨nd, rfl⟩⟩; refine ⟨_, rfl, ?_⟩))
                go_ret
                exact ⟨by first | rfl | (simp [errW_none, errW_some] <;> rfl) | (simp [*, errW_none, errW_some] <;> rfl), oB HB⟩
               ·rw [if_neg cX] at H
                exact absurd H (by simp)
          ·rw [if_neg cB] at H
           exact absurd H (by simp)
     ·replace bZ := Bool.eq_false_iff.mpr bZ
      subst bZ
      rw [if_neg (show ¬ (false = true) by decide)] at H
      exact absurd H (by simp)

/-- THE ONE PURE STATEMENT of laws_FnExactPakGet: yours. -/
def laws_FnExactPakGet.Pure : Prop := ∀ (l0 : List Int), l0.length ≤ maxLen → l0.length * 1 ≤ 140737488351232 → (∀ x ∈ l0, (Lit.int .u8 x).wf = true) → ∃ k, laws_FnExactPakGet.f k l0 = some true
theorem laws_FnExactPakGet.walk (P : laws_FnExactPakGet.Pure) (a0 : Option Addr) (len0 cap0 : Nat) (z0 : List Int) (w : World) (w0 : (a0 = none ∧ len0 = 0 ∧ cap0 = 0 ∧ z0 = []) ∨ ∃ x, a0 = some x ∧ len0 ≤ cap0 ∧ cap0 ≤ maxLen ∧ z0.length = cap0 ∧ (∀ i, i < z0.length → w.cell? (x.add i) = some (.int .u8 (z0.getD i 0))) ∧ ∀ n ∈ z0, (Lit.int .u8 n).wf = true) (y0 : len0 * 1 ≤ 140737488351232) :
  Calls Try.prog 7 #[.slice a0 len0 cap0] w fun e w' => e = .returned (.bool true) ∧ Below w.heap.size w w' := by
 obtain ⟨l0, rfl, hr0, hm0, hw0, dD⟩ := ReadsInt.ofRowC w0
 obtain ⟨k, h⟩ := P l0 hm0 y0 hw0
 refine (laws_FnExactPakGet.calls k _ _ l0 true w (Kd.C_of_reads (d := (0 : Int)) (h1 := fun _ => rfl) hr0) dD h).mono ?_
 rintro e w' ⟨rfl, hd⟩
 exact ⟨rfl, hd⟩

end Go.Proofs.Ytfnkaccncmjnaaa.X
