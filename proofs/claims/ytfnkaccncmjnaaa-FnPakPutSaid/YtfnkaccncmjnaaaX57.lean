/- What functions of the program come to, each with its proof. No condition but what each theorem states. -/
import Derived.Test.YtfnkaccncmjnaaaX0
import Derived.Test.YtfnkaccncmjnaaaX18
import Derived.Test.YtfnkaccncmjnaaaX19
import Derived.Test.YtfnkaccncmjnaaaX31
import Derived.Test.YtfnkaccncmjnaaaX54
import Derived.Test.YtfnkaccncmjnaaaX56
namespace Go.Proofs.Ytfnkaccncmjnaaa.X
open Go.RowKit Go.Proofs.YtfnkaccncmjnaaaW.PrintWords Go.Proofs.YtfnkaccncmjnaaaW.PrintLast Go.Proofs.YtfnkaccncmjnaaaW.PrintMore Go.Proofs.Ytfnkaccncmjnaaa.Hyb
attribute [local go_sem] max2_int min2_int max_two min_two max_three min_three max_four min_four
set_option linter.unusedVariables false
set_option linter.unusedSimpArgs false

/-! ### spec_DrawPakPut: function 33 -/
def spec_DrawPakPut.l0 : Nat → List Int → Int → List Int → Int → Option (List Int)
 | 0, _, _, _, _ => none
 | k + 1, x4, x5, x627000, x627001 => if x5 > 0 then ((spec_l20Rd_pick.f k x627000 x627001 2).bind fun bF => (if x4.length < 140737488355328 then (spec_DrawPakPut.l0 k (x4 ++ [(bF.1) % 256]) (wrap64 (x5 - 1)) x627000 bF.2) else (none))) else (some x4)
def spec_DrawPakPut.f (k : Nat) (l0 : List Int) : Option (List Int) := (spec_l20Open.f l0).bind fun aE => ((spec_l20Rd_pick.f k aE.1 aE.2 4).bind fun aG => (if aG.1 = 0 then ((spec_l20Ras.f k aE.1 aG.2 0).bind fun aQ => ((spec_RasBytes.f k aQ.1 aQ.2.1 aQ.2.2.1).bind fun bA => (some bA))) else (if aG.1 = 1 then ((spec_l20Rd_pick.f k aE.1 aG.2 200).bind fun aM => (spec_DrawPakPut.l0 k (([] : List Int)) aM.1 aE.1 aM.2)) else (if aG.1 = 2 then ((some (([200, 201, 9] : List Int) : List Int)).bind fun aD => ((spec_l20Rd_pick.f k aE.1 aG.2 3).bind fun aC => (if 0 ≤ aC.1 then (if aC.1 < (aD.length : Int) then (if 0 ≤ (rd aD aC.1) then (if (rd aD aC.1 : Int).toNat ≤ 281474976710656 then (some (List.replicate (rd aD aC.1 : Int).toNat 0)) else (none)) else (none)) else (none)) else (none)))) else ((spec_l20Bytes.f k aE.1 aG.2 40).bind fun aZ => (some aZ.1))))))
theorem spec_DrawPakPut.mono_l : ∀ k, (∀ y0 y1 y2 y3, LeO (spec_DrawPakPut.l0 k y0 y1 y2 y3) (spec_DrawPakPut.l0 (k + 1) y0 y1 y2 y3))
 | 0 => (fun _ _ _ _ r h => nomatch (show none = some r from h))
 | k + 1 => by
  have ih0 := spec_DrawPakPut.mono_l k
  ·intro y0 y1 y2 y3
   unfold spec_DrawPakPut.l0
   repeat' first
   | (with_reducible exact ih0 _ _ _ _)
   | (with_reducible exact spec_RasBytes.mono _ _ _ _)
   | (with_reducible exact spec_l20Bytes.mono _ _ _ _)
   | (with_reducible exact spec_l20Ras.mono _ _ _ _)
   | (with_reducible exact spec_l20Rd_pick.mono _ _ _ _)
   | (with_reducible exact LeO.refl _)
   | (with_reducible exact LeO.none _)
   | (with_reducible refine LeO.ite ?_ ?_)
   | (with_reducible refine LeO.bind ?_ (fun _ => ?_))
   | exact ih0 _ _ _ _
   | exact spec_RasBytes.mono _ _ _ _
   | exact spec_l20Bytes.mono _ _ _ _
   | exact spec_l20Ras.mono _ _ _ _
   | exact spec_l20Rd_pick.mono _ _ _ _
   | exact LeO.none _
   | refine LeO.ite ?_ ?_
   | refine LeO.bind ?_ (fun _ => ?_)
theorem spec_DrawPakPut.mono : ∀ a0 k, LeO (spec_DrawPakPut.f k a0) (spec_DrawPakPut.f (k + 1) a0) := by
 intro a0 k
 have ih0 := spec_DrawPakPut.mono_l k
 unfold spec_DrawPakPut.f
 repeat' first
   | (with_reducible exact ih0 _ _ _ _)
   | (with_reducible exact spec_RasBytes.mono _ _ _ _)
   | (with_reducible exact spec_l20Bytes.mono _ _ _ _)
   | (with_reducible exact spec_l20Ras.mono _ _ _ _)
   | (with_reducible exact spec_l20Rd_pick.mono _ _ _ _)
   | (with_reducible exact LeO.refl _)
   | (with_reducible exact LeO.none _)
   | (with_reducible refine LeO.ite ?_ ?_)
   | (with_reducible refine LeO.bind ?_ (fun _ => ?_))
   | exact ih0 _ _ _ _
   | exact spec_RasBytes.mono _ _ _ _
   | exact spec_l20Bytes.mono _ _ _ _
   | exact spec_l20Ras.mono _ _ _ _
   | exact spec_l20Rd_pick.mono _ _ _ _
   | exact LeO.none _
   | refine LeO.ite ?_ ?_
   | refine LeO.bind ?_ (fun _ => ?_)
set_option maxHeartbeats 8000000 in
set_option maxRecDepth 100000 in
theorem spec_DrawPakPut.calls (k : Nat) (A0 : Option Addr) (c0 : Nat) (l0 : List Int) (r : List Int) (w : World) (hr0 : Kd.C (Kd.int .u8) w A0 l0.length l0) (dJ : l0.length ≤ c0) (h : spec_DrawPakPut.f k l0 = some r) :
  Calls Try.prog 33 #[.slice A0 l0.length c0] w fun e w' => ∃ dK : Value, e = .returned (dK) ∧ Kd.R (Kd.int .u8) 5 w' w.heap.size (fun _ => True) dK r ∧ Below w.heap.size w w' := by
 have cL := Aside0.mk hr0
 have cK := Aside0.mk dJ
 clear hr0 dJ
 have HB := Aside0.mk (Below.refl w.heap.size w)
 have H : ((spec_l20Open.f l0).bind fun aE => ((spec_l20Rd_pick.f k aE.1 aE.2 4).bind fun aG => (if aG.1 = 0 then ((spec_l20Ras.f k aE.1 aG.2 0).bind fun aQ => ((spec_RasBytes.f k aQ.1 aQ.2.1 aQ.2.2.1).bind fun bA => (some bA))) else (if aG.1 = 1 then ((spec_l20Rd_pick.f k aE.1 aG.2 200).bind fun aM => (spec_DrawPakPut.l0 k (([] : List Int)) aM.1 aE.1 aM.2)) else (if aG.1 = 2 then ((some (([200, 201, 9] : List Int) : List Int)).bind fun aD => ((spec_l20Rd_pick.f k aE.1 aG.2 3).bind fun aC => (if 0 ≤ aC.1 then (if aC.1 < (aD.length : Int) then (if 0 ≤ (rd aD aC.1) then (if (rd aD aC.1 : Int).toNat ≤ 281474976710656 then (some (List.replicate (rd aD aC.1 : Int).toNat 0)) else (none)) else (none)) else (none)) else (none)))) else ((spec_l20Bytes.f k aE.1 aG.2 40).bind fun aZ => (some aZ.1))))))) = some r := h
 clear h
 replace H := Option.bind_eq_some_iff.mp H
 obtain ⟨⟨aH, aT⟩, cJ, H⟩ := H
 (try dsimp only at H)
 have A2 := Aside0.mk cJ
 clear cJ
 replace H := Option.bind_eq_some_iff.mp H
 obtain ⟨⟨aJ, aN⟩, cZ, H⟩ := H
 (try dsimp only at H)
 have A3 := Aside0.mk cZ
 clear cZ
 by_cases c4 : aJ = 0
 ·rw [if_pos c4] at H
  have cF : (aJ == 0) = true := beq_iff_eq.mpr c4
  have cG : (aJ != 0) = false := bne_eq_false_iff_eq.mpr c4
  clear c4
  replace H := Option.bind_eq_some_iff.mp H
  obtain ⟨⟨bM, bN, bO, cV⟩, dA, H⟩ := H
  (try dsimp only at H)
  have A5 := Aside0.mk dA
  clear dA
  replace H := Option.bind_eq_some_iff.mp H
  obtain ⟨bA, dB, H⟩ := H
  (try dsimp only at H)
  have A6 := Aside0.mk dB
  clear dB
  obtain rfl := Option.some.inj H
  go_enter Try.func33, Try.ntmps33
  go_wp2_with (first | ((with_reducible refine gate_callee (f := 39) rfl ?_); refine goesL_ (some 7) rfl rfl Try.func39 oK rfl #[.slice A0 l0.length c0] rfl oA ?_; (with_reducible refine (spec_l20Open.calls _ _ l0 aH aT w _ ?side1 ?side2 ?side3 A2.out).mono ?_); (case side1 => exact oB HB); (case side2 => exact cL.out); (case side3 => exact cK.out); rintro e w7 ⟨g626, rfl, hi, hb, hb2⟩; refine ⟨_, rfl, ?_⟩; have n_ := o2_ (hb) (o1_ (hi)); clear HB; obtain ⟨HB, aA⟩ := n_; (try clear hb); (try clear hb2); (try clear hk); (try clear hi)) | ((with_reducible refine gate_callee (f := 40) rfl ?_); refine goesL_ (some 9) rfl rfl Try.func40 oK rfl #[.pointer (some ⟨g626, 0, none⟩), .int .i64 4] rfl oA ?_; (with_reducible refine (spec_l20Rd_pick.calls k g626 aH aT 4 aJ aN w _ ?side1 ?side2 A3.out).mono ?_); (case side1 => exact oI89 aA); (case side2 => exact oH HB (IsS89.ge aA.out)); rintro e w8 ⟨rfl, hi, hb, hk⟩; refine ⟨_, rfl, ?_⟩; have n_ := o2_ (hb) (o1_ (hi)); clear HB aA; obtain ⟨HB, aA⟩ := n_; (try clear hb); (try clear hb2); (try clear hk); (try clear hi)) | ((with_reducible refine gate_callee (f := 57) rfl ?_); refine goesL_ (some 13) rfl rfl Try.func57 oK rfl #[.pointer (some ⟨g626, 0, none⟩), .int .i64 0] rfl oA ?_; (with_reducible refine (spec_l20Ras.calls k g626 aH aN 0 bM bN bO cV w _ ?side1 ?side2 A5.out).mono ?_); (case side1 => exact oI89 aA); (case side2 => exact oH HB (IsS89.ge aA.out)); rintro e w9 ⟨dQ, rfl, ho0, hi, hb, hk⟩; refine ⟨_, rfl, ?_⟩; have n_ := o2_ (Kd.Q_lower ho0 (below_size (oH HB (IsS89.ge aA.out)))) (o2_ (hb) (o1_ (hi))); clear HB aA; obtain ⟨aY, HB, aA⟩ := n_; (try clear hb); (try clear hb2); (try clear hk); (try clear hi); (try clear ho0); obtain ⟨cQ, cR, cT, _⟩ := Kd.Q_slice aY.out; subst cT) | ((with_reducible refine gate_callee (f := 56) rfl ?_); refine goesL_ (some 14) rfl rfl Try.func56 oK rfl #[.agg #[.int .i64 bM, .int .i64 bN, .slice cQ bO.length cR]] rfl oA ?_; (with_reducible refine (spec_RasBytes.calls k bM bN _ _ bO bA _ ?side1 ?side2 A6.out).mono ?_); (case side1 => repeat (first | exact (Kd.Q_reads' aY.out).2.2 | (with_reducible refine Kd.C_alloc ?_ _) | (with_reducible refine Kd.C_drewN ?_ _) | (with_reducible refine Kd.C_drew ?_))); (case side2 => exact (Kd.Q_reads' aY.out).2.1); rintro e dX ⟨dR, rfl, ho0, hb⟩; refine ⟨_, rfl, ?_⟩; have n_ := o2_ (Kd.R_lower ho0 (below_size (oH HB (IsS89.ge aA.out)))) (o2_ (IsS89.below (oI89 aA) hb) (o1_ (below_step (oH HB (IsS89.ge aA.out)) hb))); clear aA HB; obtain ⟨bV, aA, HB⟩ := n_; (try clear hb); (try clear hb2); (try clear hk); (try clear hi); (try clear ho0)))
  go_ret
  exact ⟨_, by first | rfl | (simp [errW_none, errW_some] <;> rfl) | (simp [*, errW_none, errW_some] <;> rfl), by (with_reducible repeat (first | apply Kd.R_alloc | apply Kd.R_drewN | apply Kd.R_drew)); exact bV.out, oH HB (IsS89.ge aA.out)⟩
 ·rw [if_neg c4] at H
  have cF : (aJ == 0) = false := beq_eq_false_iff_ne.mpr c4
  have cG : (aJ != 0) = true := bne_iff_ne.mpr c4
  by_cases bG : aJ = 1
  ·rw [if_pos bG] at H
   have bH : (aJ == 1) = true := beq_iff_eq.mpr bG
   have bI : (aJ != 1) = false := bne_eq_false_iff_eq.mpr bG
   clear bG
   obtain ⟨y638, hy638⟩ : ∃ y_ : List Int, y_ = (([] : List Int)) := ⟨_, rfl⟩
   replace H : ((spec_l20Rd_pick.f k aH aN 200).bind fun aM => (spec_DrawPakPut.l0 k y638 aM.1 aH aM.2)) = some r := by first | (rw [hy638]; with_reducible exact H) | (have H2_ := (Option.bind_some _ _).symm.trans H; rw [hy638]; with_reducible exact H2_) | (have H2_ := (Option.bind_some _ _).symm.trans H; with_reducible exact H2_) | with_reducible exact H | (rw [hy638]; exact H) | exact H
   have bC := Aside0.mk hy638
   clear hy638
   replace H := Option.bind_eq_some_iff.mp H
   obtain ⟨⟨cH, cI⟩, bR, H⟩ := H
   (try dsimp only at H)
   have dL := Aside0.mk bR
   clear bR
   have H' := Aside0.mk H
   clear H
   go_enter Try.func33, Try.ntmps33
   go_wp2_with (first | ((with_reducible refine gate_callee (f := 39) rfl ?_); refine goesL_ (some 7) rfl rfl Try.func39 oK rfl #[.slice A0 l0.length c0] rfl oA ?_; (with_reducible refine (spec_l20Open.calls _ _ l0 aH aT w _ ?side1 ?side2 ?side3 A2.out).mono ?_); (case side1 => exact oB HB); (case side2 => exact cL.out); (case side3 => exact cK.out); rintro e dY ⟨g626, rfl, hi, hb, hb2⟩; refine ⟨_, rfl, ?_⟩; have n_ := o2_ (hb) (o1_ (hi)); clear HB; obtain ⟨HB, aA⟩ := n_; (try clear hb); (try clear hb2); (try clear hk); (try clear hi)) | ((with_reducible refine gate_callee (f := 40) rfl ?_); refine goesL_ (some 9) rfl rfl Try.func40 oK rfl #[.pointer (some ⟨g626, 0, none⟩), .int .i64 4] rfl oA ?_; (with_reducible refine (spec_l20Rd_pick.calls k g626 aH aT 4 aJ aN w _ ?side1 ?side2 A3.out).mono ?_); (case side1 => exact oI89 aA); (case side2 => exact oH HB (IsS89.ge aA.out)); rintro e dZ ⟨rfl, hi, hb, hk⟩; refine ⟨_, rfl, ?_⟩; have n_ := o2_ (hb) (o1_ (hi)); clear HB aA; obtain ⟨HB, aA⟩ := n_; (try clear hb); (try clear hb2); (try clear hk); (try clear hi)) | ((with_reducible refine gate_dst (N := 17) rfl ?_); refine Kd.R_lit (Kd.int .u8) _ 5 ?hg (N := 17) ?hd (xs := ([] : List Int)) (inner := []) (ok := fun _ => True) (okp := fun _ => True) ?hr ?hp (fun _ hk => hk) trivial (Below.refl _ _) (Nat.le_refl _) (by simp) ?_; (case hd => rfl); (case hg => rfl); (case hr => first | (go_simp; done) | (go_simp; rfl)); (case hp => exact (Reps.none _ _)); intro dS eA ho17 hb hg_ hnew_; clear hg_ hnew_; (first | rw [← bC.out] at ho17 | (simp only [Int.reduceToNat] at ho17; rw [← bC.out] at ho17)); have n_ := o2_ (Kd.R_lower ho17 (below_size (oH HB (IsS89.ge aA.out)))) (o2_ (IsS89.below (oI89 aA) hb) (o1_ (below_step (oH HB (IsS89.ge aA.out)) hb))); clear aA HB; obtain ⟨aW, aA, HB⟩ := n_; clear hb ho17) | ((with_reducible refine gate_callee (f := 40) rfl ?_); refine goesL_ (some 19) rfl rfl Try.func40 oK rfl #[.pointer (some ⟨g626, 0, none⟩), .int .i64 200] rfl oA ?_; (with_reducible refine (spec_l20Rd_pick.calls k g626 aH aN 200 cH cI w _ ?side1 ?side2 dL.out).mono ?_); (case side1 => exact oI89 aA); (case side2 => exact oH HB (IsS89.ge aA.out)); rintro e eB ⟨rfl, hi, hb, hk⟩; refine ⟨_, rfl, ?_⟩; have n_ := o2_ (Kd.R_mono (Kd.R_keep (IsS89.apart (show IsS89 w _ g626 aH aN from oI89 aA) (oR aW) oD) hk (fun _ h => h.2)) (fun _ h => h.1)) (o2_ (hb) (o1_ (hi))); clear aW HB aA; obtain ⟨aW, HB, aA⟩ := n_; (try clear hb); (try clear hb2); (try clear hk); (try clear hi)))
   go_loopg [4, 5] k (fun kq v4 v5 w' => ∃ (aX : List Int) (aU : Int) (aI : Int), v5 = .int .i64 aU ∧ Aside0 (spec_DrawPakPut.l0 kq aX aU aH aI = some r) ∧ Aside0 (kq ≤ k) ∧ Aside0 (Kd.R (Kd.int .u8) 5 w' w.heap.size (fun _ => True) v4 aX) ∧ Aside0 (IsS89 w w' g626 aH aI) ∧ Aside0 (Below w.heap.size w w'))
   case atStart => exact ⟨(y638), (cH), (cI), oU, H', ⟨Nat.le_refl _⟩, ⟨(oR aW)⟩, ⟨(oI89 aA)⟩, ⟨(oH HB (IsS89.ge aA.out))⟩⟩
   case round =>
    clear H'
    try clear c1
    try clear p2
    try clear c3
    try clear c4
    try clear cF
    try clear cG
    try clear c5
    try clear bG
    try clear bH
    try clear bI
    obtain ⟨aX, aU, aI, rfl, HA, HK1, aV, aA, HB⟩ := hrel
    cases gk with
    | zero => exact nomatch (show none = some _ from HA.out)
    | succ k1 =>
     have H := HA.out
     clear HA
     simp only [spec_DrawPakPut.l0] at H
     by_cases bQ : aU > 0
     ·rw [if_pos bQ] at H
      have cA : decide (0 < aU) = true := decide_eq_true bQ
      clear bQ
      replace H := Option.bind_eq_some_iff.mp H
      obtain ⟨⟨bB, bP⟩, bS, H⟩ := H
      (try dsimp only at H)
      have cJ := Aside0.mk bS
      clear bS
      by_cases cM : aX.length < 140737488355328
      ·rw [if_pos cM] at H
       have LMc21 := Aside0.mk cM
       clear cM
       obtain ⟨y645, hy645⟩ : ∃ y_ : List Int, y_ = (aX ++ [(bB) % 256]) := ⟨_, rfl⟩
       replace H : (spec_DrawPakPut.l0 k1 y645 (wrap64 (aU - 1)) aH bP) = some r := by first | (rw [hy645]; with_reducible exact H) | (have H2_ := (Option.bind_some _ _).symm.trans H; rw [hy645]; with_reducible exact H2_) | (have H2_ := (Option.bind_some _ _).symm.trans H; with_reducible exact H2_) | with_reducible exact H | (rw [hy645]; exact H) | exact H
       have bZ := Aside0.mk hy645
       clear hy645
       have H' := Aside0.mk H
       clear H
       go_wp2_with (first | ((with_reducible refine gate_callee (f := 40) rfl ?_); refine goesL_ (some 26) rfl rfl Try.func40 oK rfl #[.pointer (some ⟨g626, 0, none⟩), .int .i64 2] rfl oA ?_; (with_reducible refine (spec_l20Rd_pick.calls k1 g626 aH aI 2 bB bP w _ ?side1 ?side2 cJ.out).mono ?_); (case side1 => exact oI89 aA); (case side2 => exact oH HB (IsS89.ge aA.out)); rintro e eC ⟨rfl, hi, hb, hk⟩; refine ⟨_, rfl, ?_⟩; have n_ := o2_ (Kd.R_mono (Kd.R_keep (IsS89.apart (show IsS89 w _ g626 aH aI from oI89 aA) (oR aV) oD) hk (fun _ h => h.2)) (fun _ h => h.1)) (o2_ (hb) (o1_ (hi))); clear aV HB aA; obtain ⟨aV, HB, aA⟩ := n_; (try clear hb); (try clear hb2); (try clear hk); (try clear hi)) | ((with_reducible refine gate_builtin (b := .append) (xs := #[.tmp 24, .tmp 28]) rfl ?_); at_builtin; refine Kd.R_append (Kd.int .u8) (w0 := w) w.heap.size rfl (.tmp 24) (.tmp 28) 24 5 (.int .u8 0) 1 rfl Try.underlying24 info5 rfl oD (by omega) u4 aX ((bB) % 256) [.int .u8 ((bB) % 256)] (fun _ => True) (fun _ => False) rfl rfl ?aP (fun _ hk => hk.elim) ?aF ?aO ?aB ?aS ?aL ?_; (case aP => exact rfl); (case aB => exact (oH HB (IsS89.ge aA.out))); (case aF => exact (fun _ _ => trivial)); (case aO => exact (oR aV)); (case aS => exact (below_size (oH HB (IsS89.ge aA.out)))); (case aL => have := LMc21.out; omega); intro dT eD ho hb hg hat; rw [← bZ.out] at ho; have n_ := o2_ (IsS89.grownF aA.out (oI89 aA) hg (IsS89.own_ne aA.out aV.out oD)) (o2_ (hb) (o1_ (ho))); clear aA HB aV; obtain ⟨aA, HB, bW⟩ := n_; clear ho hb hg hat))
       go_roundg k1
       case measure => have := HK1.out; omega
       case rel => exact ⟨(y645), (wrap64 (aU - 1)), (bP), oU, H', ⟨(by have := HK1.out; omega)⟩, ⟨(oR bW)⟩, ⟨(oI89 aA)⟩, ⟨(oH HB (IsS89.ge aA.out))⟩⟩
      ·rw [if_neg cM] at H
       exact absurd H (by simp)
     ·rw [if_neg bQ] at H
      have cA : decide (0 < aU) = false := decide_eq_false bQ
      clear bQ
      obtain rfl := Option.some.inj H
      go_wp2
      go_ret
      exact ⟨_, by first | rfl | (simp [errW_none, errW_some] <;> rfl) | (simp [*, errW_none, errW_some] <;> rfl), by (with_reducible repeat (first | apply Kd.R_alloc | apply Kd.R_drewN | apply Kd.R_drew)); exact aV.out, oH HB (IsS89.ge aA.out)⟩
  ·rw [if_neg bG] at H
   have bH : (aJ == 1) = false := beq_eq_false_iff_ne.mpr bG
   have bI : (aJ != 1) = true := bne_iff_ne.mpr bG
   by_cases bJ : aJ = 2
   ·rw [if_pos bJ] at H
    have cB : (aJ == 2) = true := beq_iff_eq.mpr bJ
    have cC : (aJ != 2) = false := bne_eq_false_iff_eq.mpr bJ
    clear bJ
    obtain ⟨aD, hy648⟩ : ∃ y_ : List Int, y_ = (([200, 201, 9] : List Int)) := ⟨_, rfl⟩
    replace H : ((spec_l20Rd_pick.f k aH aN 3).bind fun aC => (if 0 ≤ aC.1 then (if aC.1 < (aD.length : Int) then (if 0 ≤ (rd aD aC.1) then (if (rd aD aC.1 : Int).toNat ≤ 281474976710656 then (some (List.replicate (rd aD aC.1 : Int).toNat 0)) else (none)) else (none)) else (none)) else (none))) = some r := by first | (rw [hy648]; with_reducible exact H) | (have H2_ := (Option.bind_some _ _).symm.trans H; rw [hy648]; with_reducible exact H2_) | (have H2_ := (Option.bind_some _ _).symm.trans H; with_reducible exact H2_) | with_reducible exact H | (rw [hy648]; exact H) | exact H
    have bD := Aside0.mk hy648
    clear hy648
    replace H := Option.bind_eq_some_iff.mp H
    obtain ⟨⟨aK, cW⟩, bT, H⟩ := H
    (try dsimp only at H)
    have dM := Aside0.mk bT
    clear bT
    by_cases cN : 0 ≤ aK
    ·rw [if_pos cN] at H
     have dD : decide (0 ≤ aK) = true := decide_eq_true cN
     clear cN
     by_cases cO : aK < (aD.length : Int)
     ·rw [if_pos cO] at H
      have dE : decide (aK < (aD.length : Int)) = true := decide_eq_true cO
      clear cO
      by_cases cD : 0 ≤ (rd aD aK)
      ·rw [if_pos cD] at H
       have dF := eq_true cD
       have dG : decide (0 ≤ (rd aD aK)) = true := decide_eq_true cD
       clear cD
       by_cases cE : (rd aD aK : Int).toNat ≤ 281474976710656
       ·rw [if_pos cE] at H
        have dH := eq_true cE
        have dI : decide ((rd aD aK : Int).toNat ≤ 281474976710656) = true := decide_eq_true cE
        clear cE
        obtain ⟨y654, hy654⟩ : ∃ y_ : List Int, y_ = (List.replicate (rd aD aK : Int).toNat 0) := ⟨_, rfl⟩
        replace H : (some y654) = some r := by first | (rw [hy654]; with_reducible exact H) | (have H2_ := (Option.bind_some _ _).symm.trans H; rw [hy654]; with_reducible exact H2_) | (have H2_ := (Option.bind_some _ _).symm.trans H; with_reducible exact H2_) | with_reducible exact H | (rw [hy654]; exact H) | exact H
        have bE := Aside0.mk hy654
        clear hy654
        obtain rfl := Option.some.inj H
        go_enter Try.func33, Try.ntmps33
        go_wp2_with (first | ((with_reducible refine gate_callee (f := 39) rfl ?_); refine goesL_ (some 7) rfl rfl Try.func39 oK rfl #[.slice A0 l0.length c0] rfl oA ?_; (with_reducible refine (spec_l20Open.calls _ _ l0 aH aT w _ ?side1 ?side2 ?side3 A2.out).mono ?_); (case side1 => exact oB HB); (case side2 => exact cL.out); (case side3 => exact cK.out); rintro e eE ⟨g626, rfl, hi, hb, hb2⟩; refine ⟨_, rfl, ?_⟩; have n_ := o2_ (hb) (o1_ (hi)); clear HB; obtain ⟨HB, aA⟩ := n_; (try clear hb); (try clear hb2); (try clear hk); (try clear hi)) | ((with_reducible refine gate_callee (f := 40) rfl ?_); refine goesL_ (some 9) rfl rfl Try.func40 oK rfl #[.pointer (some ⟨g626, 0, none⟩), .int .i64 4] rfl oA ?_; (with_reducible refine (spec_l20Rd_pick.calls k g626 aH aT 4 aJ aN w _ ?side1 ?side2 A3.out).mono ?_); (case side1 => exact oI89 aA); (case side2 => exact oH HB (IsS89.ge aA.out)); rintro e eF ⟨rfl, hi, hb, hk⟩; refine ⟨_, rfl, ?_⟩; have n_ := o2_ (hb) (o1_ (hi)); clear HB aA; obtain ⟨HB, aA⟩ := n_; (try clear hb); (try clear hb2); (try clear hk); (try clear hi)) | ((with_reducible refine gate_dst (N := 33) rfl ?_); refine Kd.R_lit (Kd.int .i64) _ 3 ?hg (N := 33) ?hd (xs := ([200, 201, 9] : List Int)) (inner := [.int .i64 200, .int .i64 201, .int .i64 9]) (ok := fun _ => True) (okp := fun _ => True) ?hr ?hp (fun _ hk => hk) trivial (Below.refl _ _) (Nat.le_refl _) (by simp) ?_; (case hd => rfl); (case hg => rfl); (case hr => first | (go_simp; done) | (go_simp; rfl)); (case hp => exact (Reps.one (show Kd.M (Kd.int .i64) _ _ _ 200 [.int .i64 200] from rfl) (Reps.one (show Kd.M (Kd.int .i64) _ _ _ 201 [.int .i64 201] from rfl) (Reps.one (show Kd.M (Kd.int .i64) _ _ _ 9 [.int .i64 9] from rfl) (Reps.none _ _))))); intro dU eG ho33 hb hg_ hnew_; clear hg_ hnew_; (first | rw [← bD.out] at ho33 | (simp only [Int.reduceToNat] at ho33; rw [← bD.out] at ho33)); have n_ := o2_ (Kd.R_lower ho33 (below_size (oH HB (IsS89.ge aA.out)))) (o2_ (IsS89.below (oI89 aA) hb) (o1_ (below_step (oH HB (IsS89.ge aA.out)) hb))); clear aA HB; obtain ⟨aR, aA, HB⟩ := n_; clear hb ho33) | ((with_reducible refine gate_callee (f := 40) rfl ?_); refine goesL_ (some 35) rfl rfl Try.func40 oK rfl #[.pointer (some ⟨g626, 0, none⟩), .int .i64 3] rfl oA ?_; (with_reducible refine (spec_l20Rd_pick.calls k g626 aH aN 3 aK cW w _ ?side1 ?side2 dM.out).mono ?_); (case side1 => exact oI89 aA); (case side2 => exact oH HB (IsS89.ge aA.out)); rintro e eH ⟨rfl, hi, hb, hk⟩; refine ⟨_, rfl, ?_⟩; have n_ := o2_ (Kd.R_mono (Kd.R_keep (IsS89.apart (show IsS89 w _ g626 aH aN from oI89 aA) (oR aR) oD) hk (fun _ h => h.2)) (fun _ h => h.1)) (o2_ (hb) (o1_ (hi))); clear aR HB aA; obtain ⟨aR, HB, aA⟩ := n_; (try clear hb); (try clear hb2); (try clear hk); (try clear hi); obtain ⟨dO, dP, cU⟩ := Kd.R_slice aR.out; subst cU; have bK : 0 ≤ (aK : Int) := of_decide_eq_true oM; have bL : aK < (aD.length : Int) := of_decide_eq_true oM; obtain ⟨dC, cS, cP⟩ := Kd.at_int (Kd.R_reads' aR.out).2.2 aK bK bL; cases cS; replace bK := eq_true bK; replace bL := eq_true bL) | ((with_reducible refine gate_dst (N := 38) rfl ?_); refine Kd.R_make (Kd.int .u8) _ 5 rfl (N := 38) rfl 24 _ _ rfl (rd aD aK) rfl rfl Try.underlying24 (.int .u8 0) 1 info5 rfl oD (by omega) 0 (ok := fun _ => True) (okp := fun _ => True) rfl (fun _ hk => hk) trivial (of_decide_eq_true oM) (Nat.le_trans (Nat.mul_le_mul_right _ (of_decide_eq_true oM : (rd aD aK).toNat ≤ 281474976710656)) (by omega)) (Below.refl _ _) (Nat.le_refl _) ?_; intro dV eI ho37 hb hg_ hnew_; clear hg_ hnew_; (first | rw [← bE.out] at ho37 | (simp only [Int.reduceToNat] at ho37; rw [← bE.out] at ho37)); have n_ := o2_ (Kd.R_lower ho37 (below_size (oH HB (IsS89.ge aA.out)))) (o2_ (IsS89.below (oI89 aA) hb) (o1_ (below_step (oH HB (IsS89.ge aA.out)) hb))); clear aA HB; obtain ⟨bX, aA, HB⟩ := n_; clear hb ho37))
        go_ret
        exact ⟨_, by first | rfl | (simp [errW_none, errW_some] <;> rfl) | (simp [*, errW_none, errW_some] <;> rfl), by (with_reducible repeat (first | apply Kd.R_alloc | apply Kd.R_drewN | apply Kd.R_drew)); exact bX.out, oH HB (IsS89.ge aA.out)⟩
       ·rw [if_neg cE] at H
        exact absurd H (by simp)
      ·rw [if_neg cD] at H
       exact absurd H (by simp)
     ·rw [if_neg cO] at H
      exact absurd H (by simp)
    ·rw [if_neg cN] at H
     exact absurd H (by simp)
   ·rw [if_neg bJ] at H
    have cB : (aJ == 2) = false := beq_eq_false_iff_ne.mpr bJ
    have cC : (aJ != 2) = true := bne_iff_ne.mpr bJ
    replace H := Option.bind_eq_some_iff.mp H
    obtain ⟨⟨cX, cY⟩, bU, H⟩ := H
    (try dsimp only at H)
    have dN := Aside0.mk bU
    clear bU
    obtain rfl := Option.some.inj H
    go_enter Try.func33, Try.ntmps33
    go_wp2_with (first | ((with_reducible refine gate_callee (f := 39) rfl ?_); refine goesL_ (some 7) rfl rfl Try.func39 oK rfl #[.slice A0 l0.length c0] rfl oA ?_; (with_reducible refine (spec_l20Open.calls _ _ l0 aH aT w _ ?side1 ?side2 ?side3 A2.out).mono ?_); (case side1 => exact oB HB); (case side2 => exact cL.out); (case side3 => exact cK.out); rintro e eJ ⟨g626, rfl, hi, hb, hb2⟩; refine ⟨_, rfl, ?_⟩; have n_ := o2_ (hb) (o1_ (hi)); clear HB; obtain ⟨HB, aA⟩ := n_; (try clear hb); (try clear hb2); (try clear hk); (try clear hi)) | ((with_reducible refine gate_callee (f := 40) rfl ?_); refine goesL_ (some 9) rfl rfl Try.func40 oK rfl #[.pointer (some ⟨g626, 0, none⟩), .int .i64 4] rfl oA ?_; (with_reducible refine (spec_l20Rd_pick.calls k g626 aH aT 4 aJ aN w _ ?side1 ?side2 A3.out).mono ?_); (case side1 => exact oI89 aA); (case side2 => exact oH HB (IsS89.ge aA.out)); rintro e eK ⟨rfl, hi, hb, hk⟩; refine ⟨_, rfl, ?_⟩; have n_ := o2_ (hb) (o1_ (hi)); clear HB aA; obtain ⟨HB, aA⟩ := n_; (try clear hb); (try clear hb2); (try clear hk); (try clear hi)) | ((with_reducible refine gate_callee (f := 46) rfl ?_); refine goesL_ (some 40) rfl rfl Try.func46 oK rfl #[.pointer (some ⟨g626, 0, none⟩), .int .i64 40] rfl oA ?_; (with_reducible refine (spec_l20Bytes.calls k g626 aH aN 40 cX cY w _ ?side1 ?side2 dN.out).mono ?_); (case side1 => exact oI89 aA); (case side2 => exact oH HB (IsS89.ge aA.out)); rintro e eL ⟨dW, rfl, ho0, hi, hb, hk⟩; refine ⟨_, rfl, ?_⟩; have n_ := o2_ (Kd.R_lower ho0 (below_size (oH HB (IsS89.ge aA.out)))) (o2_ (hb) (o1_ (hi))); clear HB aA; obtain ⟨bY, HB, aA⟩ := n_; (try clear hb); (try clear hb2); (try clear hk); (try clear hi); (try clear ho0)))
    go_ret
    exact ⟨_, by first | rfl | (simp [errW_none, errW_some] <;> rfl) | (simp [*, errW_none, errW_some] <;> rfl), by (with_reducible repeat (first | apply Kd.R_alloc | apply Kd.R_drewN | apply Kd.R_drew)); exact bY.out, oH HB (IsS89.ge aA.out)⟩

end Go.Proofs.Ytfnkaccncmjnaaa.X
