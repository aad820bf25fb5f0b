/- What functions of the program come to, each with its proof. No condition but what each theorem states. -/
import Derived.Test.YtjkaalcocgioaaaX0
import Derived.Test.YtjkaalcocgioaaaX5
import Derived.Test.YtjkaalcocgioaaaX14
import Derived.Test.YtjkaalcocgioaaaX16
import Derived.Test.YtjkaalcocgioaaaX22
import Derived.Test.YtjkaalcocgioaaaX24
import Derived.Test.YtjkaalcocgioaaaX26
import Derived.Test.YtjkaalcocgioaaaX32
namespace Go.Proofs.Ytjkaalcocgioaaa.X
open Go.RowKit Go.Proofs.YtjkaalcocgioaaaW.PrintWords Go.Proofs.YtjkaalcocgioaaaW.PrintLast Go.Proofs.YtjkaalcocgioaaaW.PrintMore Go.Proofs.Ytjkaalcocgioaaa.Hyb
attribute [local go_sem] max2_int min2_int max_two min_two max_three min_three max_four min_four
set_option linter.unusedVariables false
set_option linter.unusedSimpArgs false

/-! ### laws_FnFoldShort: function 6 -/
mutual
def laws_FnFoldShort.l0 : Nat → List (S25) → List (S25) → Int → Option (Bool)
 | 0, _, _, _ => none
 | k + 1, x3, x4, x5 => if x5 < (x3.length : Int) then (if 0 ≤ x5 then ((spec_OpOk.f ((rd_T25 x3 x5).f0) ((rd_T25 x3 x5).f1) ((rd_T25 x3 x5).f2) ((rd_T25 x3 x5).f3) ((rd_T25 x3 x5).f4)).bind fun bG => (if bG = true then (laws_FnFoldShort.l0 k x3 x4 (wrap64 (x5 + 1))) else (if (x4.length : Int) = 0 then ((laws_eaOk.f).bind fun bH => (some bH)) else (none)))) else (none)) else (if (x3.length : Int) > 5 then (if (x4.length : Int) = 0 then ((laws_eaOk.f).bind fun bI => (some bI)) else (none)) else (laws_FnFoldShort.l1 k x3 x4 0))
def laws_FnFoldShort.l1 : Nat → List (S25) → List (S25) → Int → Option (Bool)
 | 0, _, _, _ => none
 | k + 1, x3, x4, x6 => if x6 < (x4.length : Int) then (if 0 ≤ x6 then ((impl_OpOk.f k ((rd_T25 x4 x6).f0) ((rd_T25 x4 x6).f1) ((rd_T25 x4 x6).f2) ((rd_T25 x4 x6).f3) ((rd_T25 x4 x6).f4)).bind fun bJ => (if bJ = true then (laws_FnFoldShort.l1 k x3 x4 (wrap64 (x6 + 1))) else (none))) else (none)) else (if (x4.length : Int) ≤ (x3.length : Int) then ((impl_OpsFold.f k x4).bind fun aV => ((laws_eaOps.f k aV x4).bind fun bK => (if bK = true then ((laws_eaOk.f).bind fun bL => (some bL)) else (none)))) else (none))
end
def laws_FnFoldShort.f (k : Nat) (l0 : List Int) : Option (Bool) := if (l0.length : Int) > 1048576 then (some true) else ((spec_DrawOpsFold.f k l0).bind fun aA => ((impl_OpsFold.f k aA).bind fun aB => ((spec_OpsFold.f k aA).bind fun aK => ((laws_eaOps.f k aB aK).bind fun aU => (if aU = true then (laws_FnFoldShort.l0 k aA aB 0) else (none))))))
theorem laws_FnFoldShort.mono_l : ∀ k, (∀ y0 y1 y2, LeO (laws_FnFoldShort.l0 k y0 y1 y2) (laws_FnFoldShort.l0 (k + 1) y0 y1 y2)) ∧ (∀ y0 y1 y2, LeO (laws_FnFoldShort.l1 k y0 y1 y2) (laws_FnFoldShort.l1 (k + 1) y0 y1 y2))
 | 0 => ⟨(fun _ _ _ r h => nomatch (show none = some r from h)), (fun _ _ _ r h => nomatch (show none = some r from h))⟩
 | k + 1 => by
  obtain ⟨ih0, ih1⟩ := laws_FnFoldShort.mono_l k
  refine ⟨?_, ?_⟩
  ·intro y0 y1 y2
   unfold laws_FnFoldShort.l0
   repeat' first
   | (with_reducible exact ih0 _ _ _)
   | (with_reducible exact ih1 _ _ _)
   | (with_reducible exact impl_OpOk.mono _ _ _ _ _ _)
   | (with_reducible exact impl_OpsFold.mono _ _)
   | (with_reducible exact laws_eaOps.mono _ _ _)
   | (with_reducible exact spec_DrawOpsFold.mono _ _)
   | (with_reducible exact spec_OpsFold.mono _ _)
   | (with_reducible exact LeO.refl _)
   | (with_reducible exact LeO.none _)
   | (with_reducible refine LeO.ite ?_ ?_)
   | (with_reducible refine LeO.bind ?_ (fun _ => ?_))
   | exact ih0 _ _ _
   | exact ih1 _ _ _
   | exact impl_OpOk.mono _ _ _ _ _ _
   | exact impl_OpsFold.mono _ _
   | exact laws_eaOps.mono _ _ _
   | exact spec_DrawOpsFold.mono _ _
   | exact spec_OpsFold.mono _ _
   | exact LeO.none _
   | refine LeO.ite ?_ ?_
   | refine LeO.bind ?_ (fun _ => ?_)
  ·intro y0 y1 y2
   unfold laws_FnFoldShort.l1
   repeat' first
   | (with_reducible exact ih0 _ _ _)
   | (with_reducible exact ih1 _ _ _)
   | (with_reducible exact impl_OpOk.mono _ _ _ _ _ _)
   | (with_reducible exact impl_OpsFold.mono _ _)
   | (with_reducible exact laws_eaOps.mono _ _ _)
   | (with_reducible exact spec_DrawOpsFold.mono _ _)
   | (with_reducible exact spec_OpsFold.mono _ _)
   | (with_reducible exact LeO.refl _)
   | (with_reducible exact LeO.none _)
   | (with_reducible refine LeO.ite ?_ ?_)
   | (with_reducible refine LeO.bind ?_ (fun _ => ?_))
   | exact ih0 _ _ _
   | exact ih1 _ _ _
   | exact impl_OpOk.mono _ _ _ _ _ _
   | exact impl_OpsFold.mono _ _
   | exact laws_eaOps.mono _ _ _
   | exact spec_DrawOpsFold.mono _ _
   | exact spec_OpsFold.mono _ _
   | exact LeO.none _
   | refine LeO.ite ?_ ?_
   | refine LeO.bind ?_ (fun _ => ?_)
theorem laws_FnFoldShort.mono : ∀ a0 k, LeO (laws_FnFoldShort.f k a0) (laws_FnFoldShort.f (k + 1) a0) := by
 intro a0 k
 obtain ⟨ih0, ih1⟩ := laws_FnFoldShort.mono_l k
 unfold laws_FnFoldShort.f
 repeat' first
   | (with_reducible exact ih0 _ _ _)
   | (with_reducible exact ih1 _ _ _)
   | (with_reducible exact impl_OpOk.mono _ _ _ _ _ _)
   | (with_reducible exact impl_OpsFold.mono _ _)
   | (with_reducible exact laws_eaOps.mono _ _ _)
   | (with_reducible exact spec_DrawOpsFold.mono _ _)
   | (with_reducible exact spec_OpsFold.mono _ _)
   | (with_reducible exact LeO.refl _)
   | (with_reducible exact LeO.none _)
   | (with_reducible refine LeO.ite ?_ ?_)
   | (with_reducible refine LeO.bind ?_ (fun _ => ?_))
   | exact ih0 _ _ _
   | exact ih1 _ _ _
   | exact impl_OpOk.mono _ _ _ _ _ _
   | exact impl_OpsFold.mono _ _
   | exact laws_eaOps.mono _ _ _
   | exact spec_DrawOpsFold.mono _ _
   | exact spec_OpsFold.mono _ _
   | exact LeO.none _
   | refine LeO.ite ?_ ?_
   | refine LeO.bind ?_ (fun _ => ?_)
set_option maxHeartbeats 8000000 in
set_option maxRecDepth 100000 in
theorem laws_FnFoldShort.calls (k : Nat) (A0 : Option Addr) (c0 : Nat) (l0 : List Int) (r : Bool) (w : World) (hr0 : Kd.C (Kd.int .u8) w A0 l0.length l0) (cL : l0.length ≤ c0) (h : laws_FnFoldShort.f k l0 = some r) :
  Calls Try.prog 6 #[.slice A0 l0.length c0] w fun e w' => e = .returned (.bool r) ∧ Below w.heap.size w w' := by
 have hu25 := Try.underlying25
 have dO := Aside0.mk hr0
 have dN := Aside0.mk cL
 clear hr0 cL
 have HB := Aside0.mk (Below.refl w.heap.size w)
 have H : (if (l0.length : Int) > 1048576 then (some true) else ((spec_DrawOpsFold.f k l0).bind fun aA => ((impl_OpsFold.f k aA).bind fun aB => ((spec_OpsFold.f k aA).bind fun aK => ((laws_eaOps.f k aB aK).bind fun aU => (if aU = true then (laws_FnFoldShort.l0 k aA aB 0) else (none))))))) = some r := h
 clear h
 by_cases c2 : (l0.length : Int) > 1048576
 ·rw [if_pos c2] at H
  have bB : decide (1048576 < (l0.length : Int)) = true := decide_eq_true c2
  have bC : decide (1048576 < l0.length) = true := decide_eq_true (by omega)
  clear c2
  obtain rfl := Option.some.inj H
  go_enter Try.func6, Try.ntmps6
  go_wp2
  go_ret
  exact ⟨by first | rfl | (simp [errW_none, errW_some] <;> rfl) | (simp [*, errW_none, errW_some] <;> rfl), oB HB⟩
 ·rw [if_neg c2] at H
  have bB : decide (1048576 < (l0.length : Int)) = false := decide_eq_false c2
  have bC : decide (1048576 < l0.length) = false := decide_eq_false (by omega)
  clear c2
  replace H := Option.bind_eq_some_iff.mp H
  obtain ⟨aA, cY, H⟩ := H
  (try dsimp only at H)
  have A3 := Aside0.mk cY
  clear cY
  replace H := Option.bind_eq_some_iff.mp H
  obtain ⟨aB, cZ, H⟩ := H
  (try dsimp only at H)
  have A4 := Aside0.mk cZ
  clear cZ
  replace H := Option.bind_eq_some_iff.mp H
  obtain ⟨aK, dA, H⟩ := H
  (try dsimp only at H)
  have A5 := Aside0.mk dA
  clear dA
  replace H := Option.bind_eq_some_iff.mp H
  obtain ⟨aU, dB, H⟩ := H
  (try dsimp only at H)
  have A6 := Aside0.mk dB
  clear dB
  by_cases c7 : aU = true
  ·subst c7
   rw [if_pos rfl] at H
   have H' := Aside0.mk H
   clear H
   go_enter Try.func6, Try.ntmps6
   go_wp2_with (first | ((with_reducible refine gate_callee (f := 10) rfl ?_); refine goesL_ (some 11) rfl rfl Try.func10 oK rfl #[.slice A0 l0.length c0] rfl oA ?_; (with_reducible refine (spec_DrawOpsFold.calls k _ _ l0 aA _ ?side1 ?side2 A3.out).mono ?_); (case side1 => repeat (first | exact dO.out | (with_reducible refine Kd.C_alloc ?_ _) | (with_reducible refine Kd.C_drewN ?_ _) | (with_reducible refine Kd.C_drew ?_))); (case side2 => exact dN.out); rintro e w8 ⟨dR, rfl, ho0, hb⟩; refine ⟨_, rfl, ?_⟩; have n_ := o2_ (Kd.R_lower ho0 (below_size (oB HB))) (o1_ (below_step (oB HB) hb)); clear HB; obtain ⟨aG, HB⟩ := n_; (try clear hb); (try clear hb2); (try clear hk); (try clear hi); (try clear ho0); obtain ⟨bM, bQ, dQ⟩ := Kd.R_slice aG.out; subst dQ) | ((with_reducible refine gate_callee (f := 8) rfl ?_); refine goesL_ (some 13) rfl rfl Try.func8 oK rfl #[.slice bM aA.length bQ] rfl oA ?_; (with_reducible refine (impl_OpsFold.calls k _ _ aA aB _ ?side1 ?side2 A4.out).mono ?_); (case side1 => repeat (first | exact (Kd.R_reads' aG.out).2.2 | (with_reducible refine Kd.C_alloc ?_ _) | (with_reducible refine Kd.C_drewN ?_ _) | (with_reducible refine Kd.C_drew ?_))); (case side2 => exact (Kd.R_reads' aG.out).2.1); rintro e dV ⟨dS, rfl, ho0, hb⟩; refine ⟨_, rfl, ?_⟩; have n_ := o2_ (Kd.R_elder' (oR aG) (Kd.R_base ho0) hb) (o2_ (Kd.R_lower (Kd.R_new' ho0 (Kd.R_lt (oR aG))) (below_size (oB HB))) (o1_ (below_step (oB HB) hb))); clear aG HB; obtain ⟨aG, aH, HB⟩ := n_; (try clear hb); (try clear hb2); (try clear hk); (try clear hi); (try clear ho0)) | ((with_reducible refine gate_callee (f := 13) rfl ?_); refine goesL_ (some 16) rfl rfl Try.func13 oK rfl #[.slice bM aA.length bQ] rfl oA ?_; (with_reducible refine (spec_OpsFold.calls k _ _ aA aK _ ?side1 ?side2 A5.out).mono ?_); (case side1 => repeat (first | exact (Kd.R_reads' aG.out).2.2 | (with_reducible refine Kd.C_alloc ?_ _) | (with_reducible refine Kd.C_drewN ?_ _) | (with_reducible refine Kd.C_drew ?_))); (case side2 => exact (Kd.R_reads' aG.out).2.1); rintro e dW ⟨dT, rfl, ho0, hb⟩; refine ⟨_, rfl, ?_⟩; have n_ := o2_ (Kd.R_elder' (oR aG) (Kd.R_base ho0) hb) (o2_ (Kd.R_elder' (oR aH) (Kd.R_base ho0) hb) (o2_ (Kd.R_lower (Kd.R_new' (Kd.R_new' ho0 (Kd.R_lt (oR aG))) (Kd.R_lt (oR aH))) (below_size (oB HB))) (o1_ (below_step (oB HB) hb)))); clear aG aH HB; obtain ⟨aG, aH, aR, HB⟩ := n_; (try clear hb); (try clear hb2); (try clear hk); (try clear hi); (try clear ho0); obtain ⟨aQ, aT, cU⟩ := Kd.R_slice aH.out; subst cU; obtain ⟨cR, cS, cV⟩ := Kd.R_slice aR.out; subst cV) | ((with_reducible refine gate_callee (f := 9) rfl ?_); refine goesL_ (some 17) rfl rfl Try.func9 oK rfl #[.slice aQ aB.length aT, .slice cR aK.length cS] rfl oA ?_; (with_reducible refine (laws_eaOps.calls k _ _ aB _ _ aK true _ ?side1 ?side2 ?side3 ?side4 A6.out).mono ?_); (case side1 => repeat (first | exact (Kd.R_reads' aH.out).2.2 | (with_reducible refine Kd.C_alloc ?_ _) | (with_reducible refine Kd.C_drewN ?_ _) | (with_reducible refine Kd.C_drew ?_))); (case side2 => exact (Kd.R_reads' aH.out).2.1); (case side3 => repeat (first | exact (Kd.R_reads' aR.out).2.2 | (with_reducible refine Kd.C_alloc ?_ _) | (with_reducible refine Kd.C_drewN ?_ _) | (with_reducible refine Kd.C_drew ?_))); (case side4 => exact (Kd.R_reads' aR.out).2.1); rintro e w' ⟨rfl, ⟨nd, rfl⟩⟩; refine ⟨_, rfl, ?_⟩))
   go_loopg [5] k (fun kq v5 w' => ∃ (aC : Int), v5 = .int .i64 aC ∧ Aside0 (laws_FnFoldShort.l0 kq aA aB aC = some r) ∧ Aside0 (kq ≤ k) ∧ Aside0 (Kd.R k25 25 w' w.heap.size (fun k_ => some k_ ≠ ((.slice aQ aB.length aT) : Value).ownBlock) (.slice bM aA.length bQ) aA) ∧ Aside0 (Kd.R k25 25 w' w.heap.size (fun k_ => some k_ ≠ ((.slice bM aA.length bQ) : Value).ownBlock) (.slice aQ aB.length aT) aB) ∧ Aside0 (Below w.heap.size w w'))
   case atStart => exact ⟨(0), oU, H', ⟨Nat.le_refl _⟩, ⟨(by (with_reducible repeat (first | apply Kd.R_alloc | apply Kd.R_drewN | apply Kd.R_drew)); exact Kd.R_mono aG.out (fun _ hk => hk.1.2))⟩, ⟨(by (with_reducible repeat (first | apply Kd.R_alloc | apply Kd.R_drewN | apply Kd.R_drew)); exact Kd.R_mono aH.out (fun _ hk => hk.1.2))⟩, ⟨(oB HB)⟩⟩
   case round =>
    clear H'
    try clear c1
    try clear c2
    try clear bB
    try clear bC
    try clear p2
    try clear c6
    try clear c7
    try clear c8
    try clear c9
    try clear c10
    try clear c13
    obtain ⟨aC, rfl, HA, HK1, aE, aD, HB⟩ := hrel
    cases gk with
    | zero => exact nomatch (show none = some _ from HA.out)
    | succ k1 =>
     have H := HA.out
     clear HA
     simp only [laws_FnFoldShort.l0] at H
     by_cases aZ : aC < (aA.length : Int)
     ·rw [if_pos aZ] at H
      have aW : decide (aC < (aA.length : Int)) = true := decide_eq_true aZ
      clear aZ
      by_cases bZ : 0 ≤ aC
      ·rw [if_pos bZ] at H
       have cA : decide (0 ≤ aC) = true := decide_eq_true bZ
       clear bZ
       replace H := Option.bind_eq_some_iff.mp H
       obtain ⟨bG, bR, H⟩ := H
       (try dsimp only at H)
       have cX := Aside0.mk bR
       clear bR
       by_cases cB : bG = true
       ·subst cB
        rw [if_pos rfl] at H
        have H' := Aside0.mk H
        clear H
        have aI : 0 ≤ (aC : Int) := of_decide_eq_true oM
        have aJ : aC < (aA.length : Int) := of_decide_eq_true oM
        obtain ⟨bY, bD, aL, aM, aN, aO, aP⟩ := at_T25 (Kd.R_reads' aE.out).2.2 aC aI aJ
        cases bD
        replace aI := eq_true aI
        replace aJ := eq_true aJ
        go_wp2_with (first | ((with_reducible refine gate_callee (f := 12) rfl ?_); refine goesL_ (some 29) rfl rfl Try.func12 oK rfl #[.agg #[.int .i64 ((rd_T25 aA aC).f0), .int .i64 ((rd_T25 aA aC).f1), .int .i64 ((rd_T25 aA aC).f2), .int .i64 ((rd_T25 aA aC).f3), .int .i64 ((rd_T25 aA aC).f4)]] rfl oA ?_; (with_reducible refine (spec_OpOk.calls ((rd_T25 aA aC).f0) ((rd_T25 aA aC).f1) ((rd_T25 aA aC).f2) ((rd_T25 aA aC).f3) ((rd_T25 aA aC).f4) true _ cX.out).mono ?_); rintro e dX ⟨rfl, hb⟩; refine ⟨_, rfl, ?_⟩; have n_ := o2_ (Kd.R_below (oR aE) hb) (o2_ (Kd.R_below (oR aD) hb) (o1_ (below_step (oB HB) hb))); clear aE aD HB; obtain ⟨aE, aD, HB⟩ := n_; (try clear hb); (try clear hb2); (try clear hk); (try clear hi)))
        go_roundg k1
        case measure => have := HK1.out; omega
        case rel => exact ⟨(wrap64 (aC + 1)), oU, H', ⟨(by have := HK1.out; omega)⟩, ⟨(oR aE)⟩, ⟨(oR aD)⟩, ⟨(oB HB)⟩⟩
       ·replace cB := Bool.eq_false_iff.mpr cB
        subst cB
        rw [if_neg (show ¬ (false = true) by decide)] at H
        by_cases bN : (aB.length : Int) = 0
        ·rw [if_pos bN] at H
         have cC : ((aB.length : Int) == 0) = true := beq_iff_eq.mpr bN
         have cD : ((aB.length : Int) != 0) = false := bne_eq_false_iff_eq.mpr bN
         clear bN
         replace H := Option.bind_eq_some_iff.mp H
         obtain ⟨bH, bS, H⟩ := H
         (try dsimp only at H)
         have dG := Aside0.mk bS
         clear bS
         obtain rfl := Option.some.inj H
         have aI : 0 ≤ (aC : Int) := of_decide_eq_true oM
         have aJ : aC < (aA.length : Int) := of_decide_eq_true oM
         obtain ⟨bY, bD, aL, aM, aN, aO, aP⟩ := at_T25 (Kd.R_reads' aE.out).2.2 aC aI aJ
         cases bD
         replace aI := eq_true aI
         replace aJ := eq_true aJ
         go_wp2_with (first | ((with_reducible refine gate_callee (f := 12) rfl ?_); refine goesL_ (some 29) rfl rfl Try.func12 oK rfl #[.agg #[.int .i64 ((rd_T25 aA aC).f0), .int .i64 ((rd_T25 aA aC).f1), .int .i64 ((rd_T25 aA aC).f2), .int .i64 ((rd_T25 aA aC).f3), .int .i64 ((rd_T25 aA aC).f4)]] rfl oA ?_; (with_reducible refine (spec_OpOk.calls ((rd_T25 aA aC).f0) ((rd_T25 aA aC).f1) ((rd_T25 aA aC).f2) ((rd_T25 aA aC).f3) ((rd_T25 aA aC).f4) false _ cX.out).mono ?_); rintro e dY ⟨rfl, hb⟩; refine ⟨_, rfl, ?_⟩; have n_ := o2_ (Kd.R_below (oR aE) hb) (o2_ (Kd.R_below (oR aD) hb) (o1_ (below_step (oB HB) hb))); clear aE aD HB; obtain ⟨aE, aD, HB⟩ := n_; (try clear hb); (try clear hb2); (try clear hk); (try clear hi)) | (go_at_call 11; (with_reducible refine (laws_eaOk.calls  bH _ dG.out).mono ?_); rintro e dZ ⟨rfl, hb⟩; have n_ := o2_ (Kd.R_below (oR aE) hb) (o2_ (Kd.R_below (oR aD) hb) (o1_ (below_step (oB HB) hb))); clear aE aD HB; obtain ⟨aE, aD, HB⟩ := n_; (try clear hb); (try clear hb2); (try clear hk); (try clear hi)))
         go_ret
         exact ⟨by first | rfl | (simp [errW_none, errW_some] <;> rfl) | (simp [*, errW_none, errW_some] <;> rfl), oB HB⟩
        ·rw [if_neg bN] at H
         exact absurd H (by simp)
      ·rw [if_neg bZ] at H
       exact absurd H (by simp)
     ·rw [if_neg aZ] at H
      have aW : decide (aC < (aA.length : Int)) = false := decide_eq_false aZ
      clear aZ
      by_cases bA : (aA.length : Int) > 5
      ·rw [if_pos bA] at H
       have aX : decide (5 < (aA.length : Int)) = true := decide_eq_true bA
       have aY : decide (5 < aA.length) = true := decide_eq_true (by omega)
       clear bA
       by_cases bO : (aB.length : Int) = 0
       ·rw [if_pos bO] at H
        have cE : ((aB.length : Int) == 0) = true := beq_iff_eq.mpr bO
        have cF : ((aB.length : Int) != 0) = false := bne_eq_false_iff_eq.mpr bO
        clear bO
        replace H := Option.bind_eq_some_iff.mp H
        obtain ⟨bI, bT, H⟩ := H
        (try dsimp only at H)
        have dH := Aside0.mk bT
        clear bT
        obtain rfl := Option.some.inj H
        go_wp2_with (first | (go_at_call 11; (with_reducible refine (laws_eaOk.calls  bI _ dH.out).mono ?_); rintro e eA ⟨rfl, hb⟩; have n_ := o2_ (Kd.R_below (oR aE) hb) (o2_ (Kd.R_below (oR aD) hb) (o1_ (below_step (oB HB) hb))); clear aE aD HB; obtain ⟨aE, aD, HB⟩ := n_; (try clear hb); (try clear hb2); (try clear hk); (try clear hi)))
        go_ret
        exact ⟨by first | rfl | (simp [errW_none, errW_some] <;> rfl) | (simp [*, errW_none, errW_some] <;> rfl), oB HB⟩
       ·rw [if_neg bO] at H
        exact absurd H (by simp)
      ·rw [if_neg bA] at H
       have aX : decide (5 < (aA.length : Int)) = false := decide_eq_false bA
       have aY : decide (5 < aA.length) = false := decide_eq_false (by omega)
       clear bA
       have H' := Aside0.mk H
       clear H
       go_wp2
       go_loopg [6] k1 (fun kq v6 w' => ∃ (aF : Int), v6 = .int .i64 aF ∧ Aside0 (laws_FnFoldShort.l1 kq aA aB aF = some r) ∧ Aside0 (kq ≤ k1) ∧ Aside0 (Kd.R k25 25 w' w.heap.size (fun k_ => some k_ ≠ ((.slice aQ aB.length aT) : Value).ownBlock) (.slice bM aA.length bQ) aA) ∧ Aside0 (Kd.R k25 25 w' w.heap.size (fun k_ => some k_ ≠ ((.slice bM aA.length bQ) : Value).ownBlock) (.slice aQ aB.length aT) aB) ∧ Aside0 (Below w.heap.size w w'))
       case atStart => exact ⟨(0), oU, H', ⟨Nat.le_refl _⟩, ⟨(oR aE)⟩, ⟨(oR aD)⟩, ⟨(oB HB)⟩⟩
       case round =>
        clear H'
        try clear c1
        try clear c2
        try clear bB
        try clear bC
        try clear p2
        try clear p4
        try clear q4
        try clear hx4
        try clear c6
        try clear p6
        try clear c7
        try clear c8
        try clear c9
        try clear c10
        try clear c12
        try clear c13
        try clear aZ
        try clear aW
        try clear bZ
        try clear cA
        try clear cB
        try clear bN
        try clear cC
        try clear cD
        try clear bA
        try clear aX
        try clear aY
        try clear bO
        try clear cE
        try clear cF
        try clear aL
        try clear aM
        try clear aN
        try clear aO
        try clear aP
        try clear p2
        try clear aI
        try clear aJ
        obtain ⟨aF, rfl, HA, HK2, aE, aD, HB⟩ := hrel
        cases gk with
        | zero => exact nomatch (show none = some _ from HA.out)
        | succ k2 =>
         have H := HA.out
         clear HA
         simp only [laws_FnFoldShort.l1] at H
         by_cases bP : aF < (aB.length : Int)
         ·rw [if_pos bP] at H
          have cG : decide (aF < (aB.length : Int)) = true := decide_eq_true bP
          clear bP
          by_cases cI : 0 ≤ aF
          ·rw [if_pos cI] at H
           have dD : decide (0 ≤ aF) = true := decide_eq_true cI
           clear cI
           replace H := Option.bind_eq_some_iff.mp H
           obtain ⟨bJ, bU, H⟩ := H
           (try dsimp only at H)
           have dI := Aside0.mk bU
           clear bU
           by_cases cJ : bJ = true
           ·subst cJ
            rw [if_pos rfl] at H
            have H' := Aside0.mk H
            clear H
            have bE : 0 ≤ (aF : Int) := of_decide_eq_true oM
            have bF : aF < (aB.length : Int) := of_decide_eq_true oM
            obtain ⟨dC, cT, cM, cN, cO, cP, cQ⟩ := at_T25 (Kd.R_reads' aD.out).2.2 aF bE bF
            cases cT
            replace bE := eq_true bE
            replace bF := eq_true bF
            go_wp2_with (first | ((with_reducible refine gate_callee (f := 14) rfl ?_); refine goesL_ (some 56) rfl rfl Try.func14 oK rfl #[.agg #[.int .i64 ((rd_T25 aB aF).f0), .int .i64 ((rd_T25 aB aF).f1), .int .i64 ((rd_T25 aB aF).f2), .int .i64 ((rd_T25 aB aF).f3), .int .i64 ((rd_T25 aB aF).f4)]] rfl oA ?_; (with_reducible refine (impl_OpOk.calls k2 ((rd_T25 aB aF).f0) ((rd_T25 aB aF).f1) ((rd_T25 aB aF).f2) ((rd_T25 aB aF).f3) ((rd_T25 aB aF).f4) true _ dI.out).mono ?_); rintro e eB ⟨rfl, hb⟩; refine ⟨_, rfl, ?_⟩; have n_ := o2_ (Kd.R_below (oR aE) hb) (o2_ (Kd.R_below (oR aD) hb) (o1_ (below_step (oB HB) hb))); clear aE aD HB; obtain ⟨aE, aD, HB⟩ := n_; (try clear hb); (try clear hb2); (try clear hk); (try clear hi)))
            go_roundg k2
            case measure => have := HK1.out; have := HK2.out; omega
            case rel => exact ⟨(wrap64 (aF + 1)), oU, H', ⟨(by have := HK1.out; have := HK2.out; omega)⟩, ⟨(oR aE)⟩, ⟨(oR aD)⟩, ⟨(oB HB)⟩⟩
           ·replace cJ := Bool.eq_false_iff.mpr cJ
            subst cJ
            rw [if_neg (show ¬ (false = true) by decide)] at H
            exact absurd H (by simp)
          ·rw [if_neg cI] at H
           exact absurd H (by simp)
         ·rw [if_neg bP] at H
          have cG : decide (aF < (aB.length : Int)) = false := decide_eq_false bP
          clear bP
          by_cases cH : (aB.length : Int) ≤ (aA.length : Int)
          ·rw [if_pos cH] at H
           have dE : decide ((aB.length : Int) ≤ (aA.length : Int)) = true := decide_eq_true cH
           have dF : decide (aB.length ≤ aA.length) = true := decide_eq_true (Int.ofNat_le.mp cH)
           clear cH
           replace H := Option.bind_eq_some_iff.mp H
           obtain ⟨aV, bV, H⟩ := H
           (try dsimp only at H)
           have dJ := Aside0.mk bV
           clear bV
           replace H := Option.bind_eq_some_iff.mp H
           obtain ⟨bK, bW, H⟩ := H
           (try dsimp only at H)
           have dK := Aside0.mk bW
           clear bW
           by_cases cK : bK = true
           ·subst cK
            rw [if_pos rfl] at H
            replace H := Option.bind_eq_some_iff.mp H
            obtain ⟨bL, bX, H⟩ := H
            (try dsimp only at H)
            have dL := Aside0.mk bX
            clear bX
            obtain rfl := Option.some.inj H
            go_wp2_with (first | (go_at_call 8; (with_reducible refine (impl_OpsFold.calls k2 _ _ aB aV _ ?side1 ?side2 dJ.out).mono ?_); (case side1 => repeat (first | exact (Kd.R_reads' aD.out).2.2 | (with_reducible refine Kd.C_alloc ?_ _) | (with_reducible refine Kd.C_drewN ?_ _) | (with_reducible refine Kd.C_drew ?_))); (case side2 => exact (Kd.R_reads' aD.out).2.1); rintro e eC ⟨dU, rfl, ho0, hb⟩; have n_ := o2_ (Kd.R_elder' (oR aD) (Kd.R_base ho0) hb) (o2_ (Kd.R_lower (Kd.R_new' (Kd.R_new' ho0 (Kd.R_lt (oR aE))) (Kd.R_lt (oR aD))) (below_size (oB HB))) (o1_ (below_step (oB HB) hb))); clear aD HB; obtain ⟨aD, aS, HB⟩ := n_; (try clear hb); (try clear hb2); (try clear hk); (try clear hi); (try clear ho0); obtain ⟨dM, dP, cW⟩ := Kd.R_slice aS.out; subst cW) | (go_at_call 9; (with_reducible refine (laws_eaOps.calls k2 _ _ aV _ _ aB true _ ?side1 ?side2 ?side3 ?side4 dK.out).mono ?_); (case side1 => repeat (first | exact (Kd.R_reads' aS.out).2.2 | (with_reducible refine Kd.C_alloc ?_ _) | (with_reducible refine Kd.C_drewN ?_ _) | (with_reducible refine Kd.C_drew ?_))); (case side2 => exact (Kd.R_reads' aS.out).2.1); (case side3 => repeat (first | exact (Kd.R_reads' aD.out).2.2 | (with_reducible refine Kd.C_alloc ?_ _) | (with_reducible refine Kd.C_drewN ?_ _) | (with_reducible refine Kd.C_drew ?_))); (case side4 => exact (Kd.R_reads' aD.out).2.1); rintro e w' ⟨rfl, ⟨nd, rfl⟩⟩) | (go_at_call 11; (with_reducible refine (laws_eaOk.calls  bL _ dL.out).mono ?_); rintro e eD ⟨rfl, hb⟩; replace HB := o1_ (below_step (oB HB) hb); (try clear hb); (try clear hb2); (try clear hk); (try clear hi)))
            go_ret
            exact ⟨by first | rfl | (simp [errW_none, errW_some] <;> rfl) | (simp [*, errW_none, errW_some] <;> rfl), oB HB⟩
           ·replace cK := Bool.eq_false_iff.mpr cK
            subst cK
            rw [if_neg (show ¬ (false = true) by decide)] at H
            exact absurd H (by simp)
          ·rw [if_neg cH] at H
           exact absurd H (by simp)
  ·replace c7 := Bool.eq_false_iff.mpr c7
   subst c7
   rw [if_neg (show ¬ (false = true) by decide)] at H
   exact absurd H (by simp)

/-- THE ONE PURE STATEMENT of laws_FnFoldShort: yours. -/
def laws_FnFoldShort.Pure : Prop := ∀ (l0 : List Int), l0.length ≤ maxLen → l0.length * 1 ≤ 140737488351232 → (∀ x ∈ l0, (Lit.int .u8 x).wf = true) → ∃ k, laws_FnFoldShort.f k l0 = some true
theorem laws_FnFoldShort.walk (P : laws_FnFoldShort.Pure) (a0 : Option Addr) (len0 cap0 : Nat) (z0 : List Int) (w : World) (w0 : (a0 = none ∧ len0 = 0 ∧ cap0 = 0 ∧ z0 = []) ∨ ∃ x, a0 = some x ∧ len0 ≤ cap0 ∧ cap0 ≤ maxLen ∧ z0.length = cap0 ∧ (∀ i, i < z0.length → w.cell? (x.add i) = some (.int .u8 (z0.getD i 0))) ∧ ∀ n ∈ z0, (Lit.int .u8 n).wf = true) (y0 : len0 * 1 ≤ 140737488351232) :
  Calls Try.prog 6 #[.slice a0 len0 cap0] w fun e w' => e = .returned (.bool true) ∧ Below w.heap.size w w' := by
 obtain ⟨l0, rfl, hr0, hm0, hw0, cL⟩ := ReadsInt.ofRowC w0
 obtain ⟨k, h⟩ := P l0 hm0 y0 hw0
 refine (laws_FnFoldShort.calls k _ _ l0 true w (Kd.C_of_reads (d := (0 : Int)) (h1 := fun _ => rfl) hr0) cL h).mono ?_
 rintro e w' ⟨rfl, hd⟩
 exact ⟨rfl, hd⟩

end Go.Proofs.Ytjkaalcocgioaaa.X
