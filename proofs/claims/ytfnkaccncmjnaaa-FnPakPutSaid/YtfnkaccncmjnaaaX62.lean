/- What functions of the program come to, each with its proof. No condition but what each theorem states. -/
import Derived.Test.YtfnkaccncmjnaaaX0
import Derived.Test.YtfnkaccncmjnaaaX4
import Derived.Test.YtfnkaccncmjnaaaX18
import Derived.Test.YtfnkaccncmjnaaaX19
import Derived.Test.YtfnkaccncmjnaaaX31
import Derived.Test.YtfnkaccncmjnaaaX45
import Derived.Test.YtfnkaccncmjnaaaX61
namespace Go.Proofs.Ytfnkaccncmjnaaa.X
open Go.RowKit Go.Proofs.YtfnkaccncmjnaaaW.PrintWords Go.Proofs.YtfnkaccncmjnaaaW.PrintLast Go.Proofs.YtfnkaccncmjnaaaW.PrintMore Go.Proofs.Ytfnkaccncmjnaaa.Hyb
attribute [local go_sem] max2_int min2_int max_two min_two max_three min_three max_four min_four
set_option linter.unusedVariables false
set_option linter.unusedSimpArgs false

/-! ### spec_DrawPakGet: function 34 -/
def spec_DrawPakGet.l0 : Nat → List (S36) → Int → List Int → Int → Option (List Int)
 | 0, _, _, _, _ => none
 | k + 1, x5, x6, x791000, x791001 => if x6 > 0 then ((spec_l20Rd_pick.f k x791000 x791001 3).bind fun bO => ((spec_l20Rd_pick.f k x791000 bO.2 6).bind fun bP => ((some (([bO.1, wrap64 (257 + bP.1), 256] : List Int) : List Int)).bind fun aR => ((some (([0, 0, 1, 1, 1, 2] : List Int) : List Int)).bind fun aH => ((spec_l20Rd_pick.f k x791000 bP.2 6).bind fun aG => (if 0 ≤ aG.1 then (if aG.1 < (aH.length : Int) then (if 0 ≤ (rd aH aG.1) then (if (rd aH aG.1) < (aR.length : Int) then (if x5.length < 8796093022208 then (spec_DrawPakGet.l0 k (x5 ++ [(⟨rd aR (rd aH aG.1), 9⟩ : S36)]) (wrap64 (x6 - 1)) x791000 aG.2) else (none)) else (none)) else (none)) else (none)) else (none))))))) else (if x5.length < 8796093022208 then ((spec_BitPut.f k (x5 ++ [(⟨256, 9⟩ : S36)])).bind fun bK => (some bK)) else (none))
def spec_DrawPakGet.f (k : Nat) (l0 : List Int) : Option (List Int) := (spec_l20Open.f l0).bind fun aJ => ((spec_l20Bytes.f k aJ.1 aJ.2 30).bind fun bC => ((spec_PakPut.f k bC.1).bind fun aX => ((spec_l20Rd_pick.f k aJ.1 bC.2 4).bind fun aQ => (if aQ.1 = 0 then ((spec_l20Turn.f k aJ.1 aQ.2 aX).bind fun bJ => (some bJ.1)) else (if aQ.1 = 1 then ((spec_l20Rd_pick.f k aJ.1 aQ.2 12).bind fun aV => (spec_DrawPakGet.l0 k (([] : List (S36))) aV.1 aJ.1 aV.2)) else (some aX))))))
theorem spec_DrawPakGet.mono_l : ∀ k, (∀ y0 y1 y2 y3, LeO (spec_DrawPakGet.l0 k y0 y1 y2 y3) (spec_DrawPakGet.l0 (k + 1) y0 y1 y2 y3))
 | 0 => (fun _ _ _ _ r h => nomatch (show none = some r from h))
 | k + 1 => by
  have ih0 := spec_DrawPakGet.mono_l k
  ·intro y0 y1 y2 y3
   unfold spec_DrawPakGet.l0
   repeat' first
   | (with_reducible exact ih0 _ _ _ _)
   | (with_reducible exact spec_BitPut.mono _ _)
   | (with_reducible exact spec_PakPut.mono _ _)
   | (with_reducible exact spec_l20Bytes.mono _ _ _ _)
   | (with_reducible exact spec_l20Rd_pick.mono _ _ _ _)
   | (with_reducible exact spec_l20Turn.mono _ _ _ _)
   | (with_reducible exact LeO.refl _)
   | (with_reducible exact LeO.none _)
   | (with_reducible refine LeO.ite ?_ ?_)
   | (with_reducible refine LeO.bind ?_ (fun _ => ?_))
   | exact ih0 _ _ _ _
   | exact spec_BitPut.mono _ _
   | exact spec_PakPut.mono _ _
   | exact spec_l20Bytes.mono _ _ _ _
   | exact spec_l20Rd_pick.mono _ _ _ _
   | exact spec_l20Turn.mono _ _ _ _
   | exact LeO.none _
   | refine LeO.ite ?_ ?_
   | refine LeO.bind ?_ (fun _ => ?_)
theorem spec_DrawPakGet.mono : ∀ a0 k, LeO (spec_DrawPakGet.f k a0) (spec_DrawPakGet.f (k + 1) a0) := by
 intro a0 k
 have ih0 := spec_DrawPakGet.mono_l k
 unfold spec_DrawPakGet.f
 repeat' first
   | (with_reducible exact ih0 _ _ _ _)
   | (with_reducible exact spec_BitPut.mono _ _)
   | (with_reducible exact spec_PakPut.mono _ _)
   | (with_reducible exact spec_l20Bytes.mono _ _ _ _)
   | (with_reducible exact spec_l20Rd_pick.mono _ _ _ _)
   | (with_reducible exact spec_l20Turn.mono _ _ _ _)
   | (with_reducible exact LeO.refl _)
   | (with_reducible exact LeO.none _)
   | (with_reducible refine LeO.ite ?_ ?_)
   | (with_reducible refine LeO.bind ?_ (fun _ => ?_))
   | exact ih0 _ _ _ _
   | exact spec_BitPut.mono _ _
   | exact spec_PakPut.mono _ _
   | exact spec_l20Bytes.mono _ _ _ _
   | exact spec_l20Rd_pick.mono _ _ _ _
   | exact spec_l20Turn.mono _ _ _ _
   | exact LeO.none _
   | refine LeO.ite ?_ ?_
   | refine LeO.bind ?_ (fun _ => ?_)
set_option maxHeartbeats 8000000 in
set_option maxRecDepth 100000 in
theorem spec_DrawPakGet.calls (k : Nat) (A0 : Option Addr) (c0 : Nat) (l0 : List Int) (r : List Int) (w : World) (hr0 : Kd.C (Kd.int .u8) w A0 l0.length l0) (eH : l0.length ≤ c0) (h : spec_DrawPakGet.f k l0 = some r) :
  Calls Try.prog 34 #[.slice A0 l0.length c0] w fun e w' => ∃ eI : Value, e = .returned (eI) ∧ Kd.R (Kd.int .u8) 5 w' w.heap.size (fun _ => True) eI r ∧ Below w.heap.size w w' := by
 have hu36 := Try.underlying36
 have dF := Aside0.mk hr0
 have dE := Aside0.mk eH
 clear hr0 eH
 have HB := Aside0.mk (Below.refl w.heap.size w)
 have H : ((spec_l20Open.f l0).bind fun aJ => ((spec_l20Bytes.f k aJ.1 aJ.2 30).bind fun bC => ((spec_PakPut.f k bC.1).bind fun aX => ((spec_l20Rd_pick.f k aJ.1 bC.2 4).bind fun aQ => (if aQ.1 = 0 then ((spec_l20Turn.f k aJ.1 aQ.2 aX).bind fun bJ => (some bJ.1)) else (if aQ.1 = 1 then ((spec_l20Rd_pick.f k aJ.1 aQ.2 12).bind fun aV => (spec_DrawPakGet.l0 k (([] : List (S36))) aV.1 aJ.1 aV.2)) else (some aX))))))) = some r := h
 clear h
 replace H := Option.bind_eq_some_iff.mp H
 obtain ⟨⟨aE, bF⟩, dW, H⟩ := H
 (try dsimp only at H)
 have A2 := Aside0.mk dW
 clear dW
 replace H := Option.bind_eq_some_iff.mp H
 obtain ⟨⟨bA, aW⟩, dX, H⟩ := H
 (try dsimp only at H)
 have A3 := Aside0.mk dX
 clear dX
 replace H := Option.bind_eq_some_iff.mp H
 obtain ⟨aX, dY, H⟩ := H
 (try dsimp only at H)
 have A4 := Aside0.mk dY
 clear dY
 replace H := Option.bind_eq_some_iff.mp H
 obtain ⟨⟨aT, aY⟩, dZ, H⟩ := H
 (try dsimp only at H)
 have A5 := Aside0.mk dZ
 clear dZ
 by_cases c6 : aT = 0
 ·rw [if_pos c6] at H
  have cL : (aT == 0) = true := beq_iff_eq.mpr c6
  have cM : (aT != 0) = false := bne_eq_false_iff_eq.mpr c6
  clear c6
  replace H := Option.bind_eq_some_iff.mp H
  obtain ⟨⟨dU, dV⟩, eA, H⟩ := H
  (try dsimp only at H)
  have A7 := Aside0.mk eA
  clear eA
  obtain rfl := Option.some.inj H
  go_enter Try.func34, Try.ntmps34
  go_wp2_with (first | ((with_reducible refine gate_callee (f := 39) rfl ?_); refine goesL_ (some 8) rfl rfl Try.func39 oK rfl #[.slice A0 l0.length c0] rfl oA ?_; (with_reducible refine (spec_l20Open.calls _ _ l0 aE bF w _ ?side1 ?side2 ?side3 A2.out).mono ?_); (case side1 => exact oB HB); (case side2 => exact dF.out); (case side3 => exact dE.out); rintro e w8 ⟨g790, rfl, hi, hb, hb2⟩; refine ⟨_, rfl, ?_⟩; have n_ := o2_ (hb) (o1_ (hi)); clear HB; obtain ⟨HB, aA⟩ := n_; (try clear hb); (try clear hb2); (try clear hk); (try clear hi)) | ((with_reducible refine gate_callee (f := 46) rfl ?_); refine goesL_ (some 10) rfl rfl Try.func46 oK rfl #[.pointer (some ⟨g790, 0, none⟩), .int .i64 30] rfl oA ?_; (with_reducible refine (spec_l20Bytes.calls k g790 aE bF 30 bA aW w _ ?side1 ?side2 A3.out).mono ?_); (case side1 => exact oI89 aA); (case side2 => exact oH HB (IsS89.ge aA.out)); rintro e w9 ⟨cP, rfl, ho0, hi, hb, hk⟩; refine ⟨_, rfl, ?_⟩; have n_ := o2_ (Kd.R_lower ho0 (below_size (oH HB (IsS89.ge aA.out)))) (o2_ (hb) (o1_ (hi))); clear HB aA; obtain ⟨aC, HB, aA⟩ := n_; (try clear hb); (try clear hb2); (try clear hk); (try clear hi); (try clear ho0); obtain ⟨cZ, dG, dN⟩ := Kd.R_slice aC.out; subst dN) | ((with_reducible refine gate_callee (f := 31) rfl ?_); refine goesL_ (some 11) rfl rfl Try.func31 oK rfl #[.slice cZ bA.length dG] rfl oA ?_; (with_reducible refine (spec_PakPut.calls k _ _ bA aX _ ?side1 ?side2 A4.out).mono ?_); (case side1 => repeat (first | exact (Kd.R_reads' aC.out).2.2 | (with_reducible refine Kd.C_alloc ?_ _) | (with_reducible refine Kd.C_drewN ?_ _) | (with_reducible refine Kd.C_drew ?_))); (case side2 => exact (Kd.R_reads' aC.out).2.1); rintro e eZ ⟨cQ, rfl, ho0, hb⟩; refine ⟨_, rfl, ?_⟩; have n_ := o2_ (Kd.R_elder' (oR aC) (Kd.R_base ho0) hb) (o2_ (Kd.R_lower (Kd.R_new' ho0 (Kd.R_lt (oR aC))) (below_size (oH HB (IsS89.ge aA.out)))) (o2_ (IsS89.below (oI89 aA) hb) (o1_ (below_step (oH HB (IsS89.ge aA.out)) hb)))); clear aC aA HB; obtain ⟨aC, aD, aA, HB⟩ := n_; (try clear hb); (try clear hb2); (try clear hk); (try clear hi); (try clear ho0)) | ((with_reducible refine gate_callee (f := 40) rfl ?_); refine goesL_ (some 13) rfl rfl Try.func40 oK rfl #[.pointer (some ⟨g790, 0, none⟩), .int .i64 4] rfl oA ?_; (with_reducible refine (spec_l20Rd_pick.calls k g790 aE aW 4 aT aY w _ ?side1 ?side2 A5.out).mono ?_); (case side1 => exact oI89 aA); (case side2 => exact oH HB (IsS89.ge aA.out)); rintro e fA ⟨rfl, hi, hb, hk⟩; refine ⟨_, rfl, ?_⟩; have n_ := o2_ (Kd.R_mono (Kd.R_keep (IsS89.apart (show IsS89 w _ g790 aE aW from oI89 aA) (oR aC) oD) hk (fun _ h => h.2)) (fun _ h => h.1)) (o2_ (Kd.R_mono (Kd.R_keep (IsS89.apart (show IsS89 w _ g790 aE aW from oI89 aA) (oR aD) oD) hk (fun _ h => h.2)) (fun _ h => h.1)) (o2_ (hb) (o1_ (hi)))); clear aC aD HB aA; obtain ⟨aC, aD, HB, aA⟩ := n_; (try clear hb); (try clear hb2); (try clear hk); (try clear hi); obtain ⟨dA, dH, dO⟩ := Kd.R_slice aD.out; subst dO) | ((with_reducible refine gate_callee (f := 58) rfl ?_); refine goesL_ (some 18) rfl rfl Try.func58 oK rfl #[.pointer (some ⟨g790, 0, none⟩), .slice dA aX.length dH] rfl oA ?_; (with_reducible refine (spec_l20Turn.calls k g790 aE aY _ _ aX dU dV w _ ?side1 ?side2 ?side3 ?side4 ?side5 A7.out).mono ?_); (case side1 => exact oI89 aA); (case side2 => exact oH HB (IsS89.ge aA.out)); (case side3 => repeat (first | exact (Kd.R_reads' aD.out).2.2 | (with_reducible refine Kd.C_alloc ?_ _) | (with_reducible refine Kd.C_drewN ?_ _) | (with_reducible refine Kd.C_drew ?_))); (case side4 => exact (Kd.R_reads' aD.out).2.1); (case side5 => exact far_slice (IsS89.own_ne aA.out aD.out oD)); rintro e fB ⟨eS, rfl, ho0, hi, hb, hk⟩; refine ⟨_, rfl, ?_⟩; have n_ := o2_ (Kd.R_mono (Kd.R_told (Kd.R_oldK (IsS89.apart (show IsS89 w _ g790 aE aY from oI89 aA) (oR aC) oD) hk) (Kd.R_base ho0)) (fun _ h_ => h_.1)) (o2_ (Kd.R_mono (Kd.R_told (Kd.R_oldK (IsS89.apart (show IsS89 w _ g790 aE aY from oI89 aA) (oR aD) oD) hk) (Kd.R_base ho0)) (fun _ h_ => h_.1)) (o2_ (Kd.R_lower (Kd.R_new' (Kd.R_new' ho0 (Kd.R_lt (oR aC))) (Kd.R_lt (oR aD))) (below_size (oH HB (IsS89.ge aA.out)))) (o2_ (hb) (o1_ (hi))))); clear aC aD HB aA; obtain ⟨aC, aD, cF, HB, aA⟩ := n_; (try clear hb); (try clear hb2); (try clear hk); (try clear hi); (try clear ho0)))
  go_ret
  exact ⟨_, by first | rfl | (simp [errW_none, errW_some] <;> rfl) | (simp [*, errW_none, errW_some] <;> rfl), by (with_reducible repeat (first | apply Kd.R_alloc | apply Kd.R_drewN | apply Kd.R_drew)); exact Kd.R_mono cF.out (fun _ hk => trivial), oH HB (IsS89.ge aA.out)⟩
 ·rw [if_neg c6] at H
  have cL : (aT == 0) = false := beq_eq_false_iff_ne.mpr c6
  have cM : (aT != 0) = true := bne_iff_ne.mpr c6
  by_cases bQ : aT = 1
  ·rw [if_pos bQ] at H
   have bR : (aT == 1) = true := beq_iff_eq.mpr bQ
   have bS : (aT != 1) = false := bne_eq_false_iff_eq.mpr bQ
   clear bQ
   obtain ⟨y804, hy804⟩ : ∃ y_ : List (S36), y_ = (([] : List (S36))) := ⟨_, rfl⟩
   replace H : ((spec_l20Rd_pick.f k aE aY 12).bind fun aV => (spec_DrawPakGet.l0 k y804 aV.1 aE aV.2)) = some r := by first | (rw [hy804]; with_reducible exact H) | (have H2_ := (Option.bind_some _ _).symm.trans H; rw [hy804]; with_reducible exact H2_) | (have H2_ := (Option.bind_some _ _).symm.trans H; with_reducible exact H2_) | with_reducible exact H | (rw [hy804]; exact H) | exact H
   have bL := Aside0.mk hy804
   clear hy804
   replace H := Option.bind_eq_some_iff.mp H
   obtain ⟨⟨cN, cO⟩, cA, H⟩ := H
   (try dsimp only at H)
   have eJ := Aside0.mk cA
   clear cA
   have H' := Aside0.mk H
   clear H
   go_enter Try.func34, Try.ntmps34
   go_wp2_with (first | ((with_reducible refine gate_callee (f := 39) rfl ?_); refine goesL_ (some 8) rfl rfl Try.func39 oK rfl #[.slice A0 l0.length c0] rfl oA ?_; (with_reducible refine (spec_l20Open.calls _ _ l0 aE bF w _ ?side1 ?side2 ?side3 A2.out).mono ?_); (case side1 => exact oB HB); (case side2 => exact dF.out); (case side3 => exact dE.out); rintro e fC ⟨g790, rfl, hi, hb, hb2⟩; refine ⟨_, rfl, ?_⟩; have n_ := o2_ (hb) (o1_ (hi)); clear HB; obtain ⟨HB, aA⟩ := n_; (try clear hb); (try clear hb2); (try clear hk); (try clear hi)) | ((with_reducible refine gate_callee (f := 46) rfl ?_); refine goesL_ (some 10) rfl rfl Try.func46 oK rfl #[.pointer (some ⟨g790, 0, none⟩), .int .i64 30] rfl oA ?_; (with_reducible refine (spec_l20Bytes.calls k g790 aE bF 30 bA aW w _ ?side1 ?side2 A3.out).mono ?_); (case side1 => exact oI89 aA); (case side2 => exact oH HB (IsS89.ge aA.out)); rintro e fD ⟨cP, rfl, ho0, hi, hb, hk⟩; refine ⟨_, rfl, ?_⟩; have n_ := o2_ (Kd.R_lower ho0 (below_size (oH HB (IsS89.ge aA.out)))) (o2_ (hb) (o1_ (hi))); clear HB aA; obtain ⟨aC, HB, aA⟩ := n_; (try clear hb); (try clear hb2); (try clear hk); (try clear hi); (try clear ho0); obtain ⟨dB, dI, dP⟩ := Kd.R_slice aC.out; subst dP) | ((with_reducible refine gate_callee (f := 31) rfl ?_); refine goesL_ (some 11) rfl rfl Try.func31 oK rfl #[.slice dB bA.length dI] rfl oA ?_; (with_reducible refine (spec_PakPut.calls k _ _ bA aX _ ?side1 ?side2 A4.out).mono ?_); (case side1 => repeat (first | exact (Kd.R_reads' aC.out).2.2 | (with_reducible refine Kd.C_alloc ?_ _) | (with_reducible refine Kd.C_drewN ?_ _) | (with_reducible refine Kd.C_drew ?_))); (case side2 => exact (Kd.R_reads' aC.out).2.1); rintro e fE ⟨cQ, rfl, ho0, hb⟩; refine ⟨_, rfl, ?_⟩; have n_ := o2_ (Kd.R_elder' (oR aC) (Kd.R_base ho0) hb) (o2_ (Kd.R_lower (Kd.R_new' ho0 (Kd.R_lt (oR aC))) (below_size (oH HB (IsS89.ge aA.out)))) (o2_ (IsS89.below (oI89 aA) hb) (o1_ (below_step (oH HB (IsS89.ge aA.out)) hb)))); clear aC aA HB; obtain ⟨aC, aD, aA, HB⟩ := n_; (try clear hb); (try clear hb2); (try clear hk); (try clear hi); (try clear ho0)) | ((with_reducible refine gate_callee (f := 40) rfl ?_); refine goesL_ (some 13) rfl rfl Try.func40 oK rfl #[.pointer (some ⟨g790, 0, none⟩), .int .i64 4] rfl oA ?_; (with_reducible refine (spec_l20Rd_pick.calls k g790 aE aW 4 aT aY w _ ?side1 ?side2 A5.out).mono ?_); (case side1 => exact oI89 aA); (case side2 => exact oH HB (IsS89.ge aA.out)); rintro e fF ⟨rfl, hi, hb, hk⟩; refine ⟨_, rfl, ?_⟩; have n_ := o2_ (Kd.R_mono (Kd.R_keep (IsS89.apart (show IsS89 w _ g790 aE aW from oI89 aA) (oR aC) oD) hk (fun _ h => h.2)) (fun _ h => h.1)) (o2_ (Kd.R_mono (Kd.R_keep (IsS89.apart (show IsS89 w _ g790 aE aW from oI89 aA) (oR aD) oD) hk (fun _ h => h.2)) (fun _ h => h.1)) (o2_ (hb) (o1_ (hi)))); clear aC aD HB aA; obtain ⟨aC, aD, HB, aA⟩ := n_; (try clear hb); (try clear hb2); (try clear hk); (try clear hi)) | ((with_reducible refine gate_dst (N := 21) rfl ?_); refine Kd.R_lit k36 _ 36 ?hg (N := 21) ?hd (xs := ([] : List (S36))) (inner := []) (ok := fun _ => True) (okp := fun _ => True) ?hr ?hp (fun _ hk => hk) trivial (Below.refl _ _) (Nat.le_refl _) (by simp) ?_; (case hd => rfl); (case hg => rfl); (case hr => first | (go_simp; done) | (go_simp; rfl)); (case hp => exact (Reps.none _ _)); intro eT fG ho23 hb hg_ hnew_; clear hg_ hnew_; (first | rw [← bL.out] at ho23 | (simp only [Int.reduceToNat] at ho23; rw [← bL.out] at ho23)); have n_ := o2_ (Kd.R_below (oR aC) hb) (o2_ (Kd.R_below (oR aD) hb) (o2_ (Kd.R_lower ho23 (below_size (oH HB (IsS89.ge aA.out)))) (o2_ (IsS89.below (oI89 aA) hb) (o1_ (below_step (oH HB (IsS89.ge aA.out)) hb))))); clear aC aD aA HB; obtain ⟨aC, aD, bE, aA, HB⟩ := n_; clear hb ho23) | ((with_reducible refine gate_callee (f := 40) rfl ?_); refine goesL_ (some 23) rfl rfl Try.func40 oK rfl #[.pointer (some ⟨g790, 0, none⟩), .int .i64 12] rfl oA ?_; (with_reducible refine (spec_l20Rd_pick.calls k g790 aE aY 12 cN cO w _ ?side1 ?side2 eJ.out).mono ?_); (case side1 => exact oI89 aA); (case side2 => exact oH HB (IsS89.ge aA.out)); rintro e fH ⟨rfl, hi, hb, hk⟩; refine ⟨_, rfl, ?_⟩; have n_ := o2_ (Kd.R_mono (Kd.R_keep (IsS89.apart (show IsS89 w _ g790 aE aY from oI89 aA) (oR aC) oD) hk (fun _ h => h.2)) (fun _ h => h.1)) (o2_ (Kd.R_mono (Kd.R_keep (IsS89.apart (show IsS89 w _ g790 aE aY from oI89 aA) (oR aD) oD) hk (fun _ h => h.2)) (fun _ h => h.1)) (o2_ (Kd.R_mono (Kd.R_keep (IsS89.apart (show IsS89 w _ g790 aE aY from oI89 aA) (oR bE) oD) hk (fun _ h => h.2)) (fun _ h => h.1)) (o2_ (hb) (o1_ (hi))))); clear aC aD bE HB aA; obtain ⟨aC, aD, bE, HB, aA⟩ := n_; (try clear hb); (try clear hb2); (try clear hk); (try clear hi)))
   go_loopg [5, 6] k (fun kq v5 v6 w' => ∃ (aU : List (S36)) (aZ : Int) (aK : Int), v6 = .int .i64 aZ ∧ Aside0 (spec_DrawPakGet.l0 kq aU aZ aE aK = some r) ∧ Aside0 (kq ≤ k) ∧ Aside0 (Kd.R k36 36 w' w.heap.size (fun _ => True) v5 aU) ∧ Aside0 (IsS89 w w' g790 aE aK) ∧ Aside0 (Below w.heap.size w w'))
   case atStart => exact ⟨(y804), (cN), (cO), oU, H', ⟨Nat.le_refl _⟩, ⟨(oR bE)⟩, ⟨(oI89 aA)⟩, ⟨(oH HB (IsS89.ge aA.out))⟩⟩
   case round =>
    clear H'
    try clear c1
    try clear p2
    try clear c3
    try clear c4
    try clear c5
    try clear c6
    try clear cL
    try clear cM
    try clear bQ
    try clear bR
    try clear bS
    obtain ⟨aU, aZ, aK, rfl, HA, HK1, aI, aA, HB⟩ := hrel
    cases gk with
    | zero => exact nomatch (show none = some _ from HA.out)
    | succ k1 =>
     have H := HA.out
     clear HA
     simp only [spec_DrawPakGet.l0] at H
     by_cases bZ : aZ > 0
     ·rw [if_pos bZ] at H
      have cK : decide (0 < aZ) = true := decide_eq_true bZ
      clear bZ
      replace H := Option.bind_eq_some_iff.mp H
      obtain ⟨⟨bG, bX⟩, cB, H⟩ := H
      (try dsimp only at H)
      have eK := Aside0.mk cB
      clear cB
      replace H := Option.bind_eq_some_iff.mp H
      obtain ⟨⟨bH, bD⟩, cC, H⟩ := H
      (try dsimp only at H)
      have eL := Aside0.mk cC
      clear cC
      obtain ⟨aR, hy813⟩ : ∃ y_ : List Int, y_ = (([bG, wrap64 (257 + bH), 256] : List Int)) := ⟨_, rfl⟩
      replace H : ((some (([0, 0, 1, 1, 1, 2] : List Int) : List Int)).bind fun aH => ((spec_l20Rd_pick.f k1 aE bD 6).bind fun aG => (if 0 ≤ aG.1 then (if aG.1 < (aH.length : Int) then (if 0 ≤ (rd aH aG.1) then (if (rd aH aG.1) < (aR.length : Int) then (if aU.length < 8796093022208 then (spec_DrawPakGet.l0 k1 (aU ++ [(⟨rd aR (rd aH aG.1), 9⟩ : S36)]) (wrap64 (aZ - 1)) aE aG.2) else (none)) else (none)) else (none)) else (none)) else (none)))) = some r := by first | (rw [hy813]; with_reducible exact H) | (have H2_ := (Option.bind_some _ _).symm.trans H; rw [hy813]; with_reducible exact H2_) | (have H2_ := (Option.bind_some _ _).symm.trans H; with_reducible exact H2_) | with_reducible exact H | (rw [hy813]; exact H) | exact H
      have bM := Aside0.mk hy813
      clear hy813
      obtain ⟨aH, hy816⟩ : ∃ y_ : List Int, y_ = (([0, 0, 1, 1, 1, 2] : List Int)) := ⟨_, rfl⟩
      replace H : ((spec_l20Rd_pick.f k1 aE bD 6).bind fun aG => (if 0 ≤ aG.1 then (if aG.1 < (aH.length : Int) then (if 0 ≤ (rd aH aG.1) then (if (rd aH aG.1) < (aR.length : Int) then (if aU.length < 8796093022208 then (spec_DrawPakGet.l0 k1 (aU ++ [(⟨rd aR (rd aH aG.1), 9⟩ : S36)]) (wrap64 (aZ - 1)) aE aG.2) else (none)) else (none)) else (none)) else (none)) else (none))) = some r := by first | (rw [hy816]; with_reducible exact H) | (have H2_ := (Option.bind_some _ _).symm.trans H; rw [hy816]; with_reducible exact H2_) | (have H2_ := (Option.bind_some _ _).symm.trans H; with_reducible exact H2_) | with_reducible exact H | (rw [hy816]; exact H) | exact H
      have bN := Aside0.mk hy816
      clear hy816
      replace H := Option.bind_eq_some_iff.mp H
      obtain ⟨⟨aM, bY⟩, cD, H⟩ := H
      (try dsimp only at H)
      have eM := Aside0.mk cD
      clear cD
      by_cases cR : 0 ≤ aM
      ·rw [if_pos cR] at H
       have eD : decide (0 ≤ aM) = true := decide_eq_true cR
       clear cR
       by_cases cS : aM < (aH.length : Int)
       ·rw [if_pos cS] at H
        have eE : decide (aM < (aH.length : Int)) = true := decide_eq_true cS
        clear cS
        by_cases cT : 0 ≤ (rd aH aM)
        ·rw [if_pos cT] at H
         have eF : decide (0 ≤ (rd aH aM)) = true := decide_eq_true cT
         clear cT
         by_cases cU : (rd aH aM) < (aR.length : Int)
         ·rw [if_pos cU] at H
          have eG : decide ((rd aH aM) < (aR.length : Int)) = true := decide_eq_true cU
          clear cU
          by_cases cV : aU.length < 8796093022208
          ·rw [if_pos cV] at H
           have LMc33 := Aside0.mk cV
           clear cV
           obtain ⟨y823, hy823⟩ : ∃ y_ : List (S36), y_ = (aU ++ [(⟨rd aR (rd aH aM), 9⟩ : S36)]) := ⟨_, rfl⟩
           replace H : (spec_DrawPakGet.l0 k1 y823 (wrap64 (aZ - 1)) aE bY) = some r := by first | (rw [hy823]; with_reducible exact H) | (have H2_ := (Option.bind_some _ _).symm.trans H; rw [hy823]; with_reducible exact H2_) | (have H2_ := (Option.bind_some _ _).symm.trans H; with_reducible exact H2_) | with_reducible exact H | (rw [hy823]; exact H) | exact H
           have cI := Aside0.mk hy823
           clear hy823
           have H' := Aside0.mk H
           clear H
           go_wp2_with (first | ((with_reducible refine gate_callee (f := 40) rfl ?_); refine goesL_ (some 30) rfl rfl Try.func40 oK rfl #[.pointer (some ⟨g790, 0, none⟩), .int .i64 3] rfl oA ?_; (with_reducible refine (spec_l20Rd_pick.calls k1 g790 aE aK 3 bG bX w _ ?side1 ?side2 eK.out).mono ?_); (case side1 => exact oI89 aA); (case side2 => exact oH HB (IsS89.ge aA.out)); rintro e fI ⟨rfl, hi, hb, hk⟩; refine ⟨_, rfl, ?_⟩; have n_ := o2_ (Kd.R_mono (Kd.R_keep (IsS89.apart (show IsS89 w _ g790 aE aK from oI89 aA) (oR aI) oD) hk (fun _ h => h.2)) (fun _ h => h.1)) (o2_ (hb) (o1_ (hi))); clear aI HB aA; obtain ⟨aI, HB, aA⟩ := n_; (try clear hb); (try clear hb2); (try clear hk); (try clear hi)) | ((with_reducible refine gate_callee (f := 40) rfl ?_); refine goesL_ (some 32) rfl rfl Try.func40 oK rfl #[.pointer (some ⟨g790, 0, none⟩), .int .i64 6] rfl oA ?_; (with_reducible refine (spec_l20Rd_pick.calls k1 g790 aE bX 6 bH bD w _ ?side1 ?side2 eL.out).mono ?_); (case side1 => exact oI89 aA); (case side2 => exact oH HB (IsS89.ge aA.out)); rintro e fJ ⟨rfl, hi, hb, hk⟩; refine ⟨_, rfl, ?_⟩; have n_ := o2_ (Kd.R_mono (Kd.R_keep (IsS89.apart (show IsS89 w _ g790 aE bX from oI89 aA) (oR aI) oD) hk (fun _ h => h.2)) (fun _ h => h.1)) (o2_ (hb) (o1_ (hi))); clear aI HB aA; obtain ⟨aI, HB, aA⟩ := n_; (try clear hb); (try clear hb2); (try clear hk); (try clear hi)) | ((with_reducible refine gate_dst (N := 34) rfl ?_); refine Kd.R_lit (Kd.int .i64) _ 3 ?hg (N := 34) ?hd (xs := ([bG, wrap64 (257 + bH), 256] : List Int)) (inner := [.int .i64 bG, .int .i64 (wrap64 (257 + bH)), .int .i64 256]) (ok := fun _ => True) (okp := fun _ => True) ?hr ?hp (fun _ hk => hk) trivial (Below.refl _ _) (Nat.le_refl _) (by simp) ?_; (case hd => rfl); (case hg => rfl); (case hr => first | (go_simp; done) | (go_simp; rfl)); (case hp => exact (Reps.one (show Kd.M (Kd.int .i64) _ _ _ bG [.int .i64 bG] from rfl) (Reps.one (show Kd.M (Kd.int .i64) _ _ _ (wrap64 (257 + bH)) [.int .i64 (wrap64 (257 + bH))] from rfl) (Reps.one (show Kd.M (Kd.int .i64) _ _ _ 256 [.int .i64 256] from rfl) (Reps.none _ _))))); intro eU fK ho37 hb hg_ hnew_; clear hg_ hnew_; (first | rw [← bM.out] at ho37 | (simp only [Int.reduceToNat] at ho37; rw [← bM.out] at ho37)); have n_ := o2_ (Kd.R_below (oR aI) hb) (o2_ (Kd.R_lower ho37 (below_size (oH HB (IsS89.ge aA.out)))) (o2_ (IsS89.below (oI89 aA) hb) (o1_ (below_step (oH HB (IsS89.ge aA.out)) hb)))); clear aI aA HB; obtain ⟨aI, aN, aA, HB⟩ := n_; clear hb ho37) | ((with_reducible refine gate_dst (N := 35) rfl ?_); refine Kd.R_lit (Kd.int .i64) _ 3 ?hg (N := 35) ?hd (xs := ([0, 0, 1, 1, 1, 2] : List Int)) (inner := [.int .i64 0, .int .i64 0, .int .i64 1, .int .i64 1, .int .i64 1, .int .i64 2]) (ok := fun _ => True) (okp := fun _ => True) ?hr ?hp (fun _ hk => hk) trivial (Below.refl _ _) (Nat.le_refl _) (by simp) ?_; (case hd => rfl); (case hg => rfl); (case hr => first | (go_simp; done) | (go_simp; rfl)); (case hp => exact (Reps.one (show Kd.M (Kd.int .i64) _ _ _ 0 [.int .i64 0] from rfl) (Reps.one (show Kd.M (Kd.int .i64) _ _ _ 0 [.int .i64 0] from rfl) (Reps.one (show Kd.M (Kd.int .i64) _ _ _ 1 [.int .i64 1] from rfl) (Reps.one (show Kd.M (Kd.int .i64) _ _ _ 1 [.int .i64 1] from rfl) (Reps.one (show Kd.M (Kd.int .i64) _ _ _ 1 [.int .i64 1] from rfl) (Reps.one (show Kd.M (Kd.int .i64) _ _ _ 2 [.int .i64 2] from rfl) (Reps.none _ _)))))))); intro eV fL ho39 hb hg_ hnew_; clear hg_ hnew_; (first | rw [← bN.out] at ho39 | (simp only [Int.reduceToNat] at ho39; rw [← bN.out] at ho39)); have n_ := o2_ (Kd.R_below (oR aI) hb) (o2_ (Kd.R_elder' (oR aN) (Kd.R_base ho39) hb) (o2_ (Kd.R_lower (Kd.R_new' ho39 (Kd.R_lt (oR aN))) (below_size (oH HB (IsS89.ge aA.out)))) (o2_ (IsS89.below (oI89 aA) hb) (o1_ (below_step (oH HB (IsS89.ge aA.out)) hb))))); clear aI aN aA HB; obtain ⟨aI, aN, bB, aA, HB⟩ := n_; clear hb ho39) | ((with_reducible refine gate_callee (f := 40) rfl ?_); refine goesL_ (some 37) rfl rfl Try.func40 oK rfl #[.pointer (some ⟨g790, 0, none⟩), .int .i64 6] rfl oA ?_; (with_reducible refine (spec_l20Rd_pick.calls k1 g790 aE bD 6 aM bY w _ ?side1 ?side2 eM.out).mono ?_); (case side1 => exact oI89 aA); (case side2 => exact oH HB (IsS89.ge aA.out)); rintro e fM ⟨rfl, hi, hb, hk⟩; refine ⟨_, rfl, ?_⟩; have n_ := o2_ (Kd.R_mono (Kd.R_keep (IsS89.apart (show IsS89 w _ g790 aE bD from oI89 aA) (oR aI) oD) hk (fun _ h => h.2)) (fun _ h => h.1)) (o2_ (Kd.R_mono (Kd.R_keep (IsS89.apart (show IsS89 w _ g790 aE bD from oI89 aA) (oR aN) oD) hk (fun _ h => h.2)) (fun _ h => h.1)) (o2_ (Kd.R_mono (Kd.R_keep (IsS89.apart (show IsS89 w _ g790 aE bD from oI89 aA) (oR bB) oD) hk (fun _ h => h.2)) (fun _ h => h.1)) (o2_ (hb) (o1_ (hi))))); clear aI aN bB HB aA; obtain ⟨aI, aN, bB, HB, aA⟩ := n_; (try clear hb); (try clear hb2); (try clear hk); (try clear hi); obtain ⟨eO, eQ, dQ⟩ := Kd.R_slice bB.out; subst dQ; have bT : 0 ≤ (aM : Int) := of_decide_eq_true oM; have bV : aM < (aH.length : Int) := of_decide_eq_true oM; obtain ⟨eB, dL, cX⟩ := Kd.at_int (Kd.R_reads' bB.out).2.2 aM bT bV; cases dL; replace bT := eq_true bT; replace bV := eq_true bV; obtain ⟨eP, eR, dR⟩ := Kd.R_slice aN.out; subst dR; have bU : 0 ≤ ((rd aH aM) : Int) := of_decide_eq_true oM; have bW : (rd aH aM) < (aR.length : Int) := of_decide_eq_true oM; obtain ⟨eC, dM, cY⟩ := Kd.at_int (Kd.R_reads' aN.out).2.2 (rd aH aM) bU bW; cases dM; replace bU := eq_true bU; replace bW := eq_true bW) | ((with_reducible refine gate_builtin (b := .append) (xs := #[.tmp 28, .tmp 43]) rfl ?_); at_builtin; refine Kd.R_append k36 (w0 := w) w.heap.size rfl (.tmp 28) (.tmp 43) 26 36 (.agg #[(.int .i64 0), (.int .i64 0)]) 16 rfl Try.underlying26 info36 rfl oD (by omega) u5 aU (⟨rd aR (rd aH aM), 9⟩ : S36) [.int .i64 (rd aR (rd aH aM)), .int .i64 9] (fun _ => True) (fun _ => False) rfl rfl ?aP (fun _ hk => hk.elim) ?aF ?aO ?aB ?aS ?aL ?_; (case aP => exact k36_mkM _ _ _ (⟨rd aR (rd aH aM), 9⟩ : S36)); (case aB => exact (oH HB (IsS89.ge aA.out))); (case aF => exact (fun _ _ => trivial)); (case aO => exact (oR aI)); (case aS => exact (below_size (oH HB (IsS89.ge aA.out)))); (case aL => have := LMc33.out; omega); intro eW fN ho hb hg hat; rw [← cI.out] at ho; have n_ := o2_ (IsS89.grownF aA.out (oI89 aA) hg (IsS89.own_ne aA.out aI.out oD)) (o2_ (hb) (o1_ (ho))); clear aA HB aI; obtain ⟨aA, HB, cG⟩ := n_; clear ho hb hg hat))
           go_roundg k1
           case measure => have := HK1.out; omega
           case rel => exact ⟨(y823), (wrap64 (aZ - 1)), (bY), oU, H', ⟨(by have := HK1.out; omega)⟩, ⟨(oR cG)⟩, ⟨(oI89 aA)⟩, ⟨(oH HB (IsS89.ge aA.out))⟩⟩
          ·rw [if_neg cV] at H
           exact absurd H (by simp)
         ·rw [if_neg cU] at H
          exact absurd H (by simp)
        ·rw [if_neg cT] at H
         exact absurd H (by simp)
       ·rw [if_neg cS] at H
        exact absurd H (by simp)
      ·rw [if_neg cR] at H
       exact absurd H (by simp)
     ·rw [if_neg bZ] at H
      have cK : decide (0 < aZ) = false := decide_eq_false bZ
      clear bZ
      by_cases cW : aU.length < 8796093022208
      ·rw [if_pos cW] at H
       have LMc44 := Aside0.mk cW
       clear cW
       obtain ⟨y826, hy826⟩ : ∃ y_ : List (S36), y_ = (aU ++ [(⟨256, 9⟩ : S36)]) := ⟨_, rfl⟩
       replace H : ((spec_BitPut.f k1 y826).bind fun bK => (some bK)) = some r := by first | (rw [hy826]; with_reducible exact H) | (have H2_ := (Option.bind_some _ _).symm.trans H; rw [hy826]; with_reducible exact H2_) | (have H2_ := (Option.bind_some _ _).symm.trans H; with_reducible exact H2_) | with_reducible exact H | (rw [hy826]; exact H) | exact H
       have cJ := Aside0.mk hy826
       clear hy826
       replace H := Option.bind_eq_some_iff.mp H
       obtain ⟨bK, cE, H⟩ := H
       (try dsimp only at H)
       have eN := Aside0.mk cE
       clear cE
       obtain rfl := Option.some.inj H
       go_wp2_with (first | ((with_reducible refine gate_builtin (b := .append) (xs := #[.tmp 45, .tmp 47]) rfl ?_); at_builtin; refine Kd.R_append k36 (w0 := w) w.heap.size rfl (.tmp 45) (.tmp 47) 26 36 (.agg #[(.int .i64 0), (.int .i64 0)]) 16 rfl Try.underlying26 info36 rfl oD (by omega) u5 aU (⟨256, 9⟩ : S36) [.int .i64 256, .int .i64 9] (fun _ => True) (fun _ => False) rfl rfl ?aP (fun _ hk => hk.elim) ?aF ?aO ?aB ?aS ?aL ?_; (case aP => exact k36_mkM _ _ _ (⟨256, 9⟩ : S36)); (case aB => exact (oH HB (IsS89.ge aA.out))); (case aF => exact (fun _ _ => trivial)); (case aO => exact (oR aI)); (case aS => exact (below_size (oH HB (IsS89.ge aA.out)))); (case aL => have := LMc44.out; omega); intro eX fO ho hb hg hat; rw [← cJ.out] at ho; have n_ := o2_ (IsS89.grownF aA.out (oI89 aA) hg (IsS89.own_ne aA.out aI.out oD)) (o2_ (hb) (o1_ (ho))); clear aA HB aI; obtain ⟨aA, HB, bI⟩ := n_; clear ho hb hg hat; obtain ⟨dC, dJ, dS⟩ := Kd.R_slice bI.out; subst dS) | ((with_reducible refine gate_callee (f := 14) rfl ?_); refine goesL_ (some 49) rfl rfl Try.func14 oK rfl #[.slice dC y826.length dJ] rfl oA ?_; (with_reducible refine (spec_BitPut.calls k1 _ _ y826 bK _ ?side1 ?side2 eN.out).mono ?_); (case side1 => repeat (first | exact (Kd.R_reads' bI.out).2.2 | (with_reducible refine Kd.C_alloc ?_ _) | (with_reducible refine Kd.C_drewN ?_ _) | (with_reducible refine Kd.C_drew ?_))); (case side2 => exact (Kd.R_reads' bI.out).2.1); rintro e fP ⟨eY, rfl, ho0, hb⟩; refine ⟨_, rfl, ?_⟩; have n_ := o2_ (Kd.R_lower ho0 (below_size (oH HB (IsS89.ge aA.out)))) (o2_ (IsS89.below (oI89 aA) hb) (o1_ (below_step (oH HB (IsS89.ge aA.out)) hb))); clear aA HB; obtain ⟨cH, aA, HB⟩ := n_; (try clear hb); (try clear hb2); (try clear hk); (try clear hi); (try clear ho0)))
       go_ret
       exact ⟨_, by first | rfl | (simp [errW_none, errW_some] <;> rfl) | (simp [*, errW_none, errW_some] <;> rfl), by (with_reducible repeat (first | apply Kd.R_alloc | apply Kd.R_drewN | apply Kd.R_drew)); exact cH.out, oH HB (IsS89.ge aA.out)⟩
      ·rw [if_neg cW] at H
       exact absurd H (by simp)
  ·rw [if_neg bQ] at H
   have bR : (aT == 1) = false := beq_eq_false_iff_ne.mpr bQ
   have bS : (aT != 1) = true := bne_iff_ne.mpr bQ
   obtain rfl := Option.some.inj H
   go_enter Try.func34, Try.ntmps34
   go_wp2_with (first | ((with_reducible refine gate_callee (f := 39) rfl ?_); refine goesL_ (some 8) rfl rfl Try.func39 oK rfl #[.slice A0 l0.length c0] rfl oA ?_; (with_reducible refine (spec_l20Open.calls _ _ l0 aE bF w _ ?side1 ?side2 ?side3 A2.out).mono ?_); (case side1 => exact oB HB); (case side2 => exact dF.out); (case side3 => exact dE.out); rintro e fQ ⟨g790, rfl, hi, hb, hb2⟩; refine ⟨_, rfl, ?_⟩; have n_ := o2_ (hb) (o1_ (hi)); clear HB; obtain ⟨HB, aA⟩ := n_; (try clear hb); (try clear hb2); (try clear hk); (try clear hi)) | ((with_reducible refine gate_callee (f := 46) rfl ?_); refine goesL_ (some 10) rfl rfl Try.func46 oK rfl #[.pointer (some ⟨g790, 0, none⟩), .int .i64 30] rfl oA ?_; (with_reducible refine (spec_l20Bytes.calls k g790 aE bF 30 bA aW w _ ?side1 ?side2 A3.out).mono ?_); (case side1 => exact oI89 aA); (case side2 => exact oH HB (IsS89.ge aA.out)); rintro e fR ⟨cP, rfl, ho0, hi, hb, hk⟩; refine ⟨_, rfl, ?_⟩; have n_ := o2_ (Kd.R_lower ho0 (below_size (oH HB (IsS89.ge aA.out)))) (o2_ (hb) (o1_ (hi))); clear HB aA; obtain ⟨aC, HB, aA⟩ := n_; (try clear hb); (try clear hb2); (try clear hk); (try clear hi); (try clear ho0); obtain ⟨dD, dK, dT⟩ := Kd.R_slice aC.out; subst dT) | ((with_reducible refine gate_callee (f := 31) rfl ?_); refine goesL_ (some 11) rfl rfl Try.func31 oK rfl #[.slice dD bA.length dK] rfl oA ?_; (with_reducible refine (spec_PakPut.calls k _ _ bA aX _ ?side1 ?side2 A4.out).mono ?_); (case side1 => repeat (first | exact (Kd.R_reads' aC.out).2.2 | (with_reducible refine Kd.C_alloc ?_ _) | (with_reducible refine Kd.C_drewN ?_ _) | (with_reducible refine Kd.C_drew ?_))); (case side2 => exact (Kd.R_reads' aC.out).2.1); rintro e fS ⟨cQ, rfl, ho0, hb⟩; refine ⟨_, rfl, ?_⟩; have n_ := o2_ (Kd.R_lower (Kd.R_new' ho0 (Kd.R_lt (oR aC))) (below_size (oH HB (IsS89.ge aA.out)))) (o2_ (IsS89.below (oI89 aA) hb) (o1_ (below_step (oH HB (IsS89.ge aA.out)) hb))); clear aA HB; obtain ⟨aD, aA, HB⟩ := n_; (try clear hb); (try clear hb2); (try clear hk); (try clear hi); (try clear ho0)) | ((with_reducible refine gate_callee (f := 40) rfl ?_); refine goesL_ (some 13) rfl rfl Try.func40 oK rfl #[.pointer (some ⟨g790, 0, none⟩), .int .i64 4] rfl oA ?_; (with_reducible refine (spec_l20Rd_pick.calls k g790 aE aW 4 aT aY w _ ?side1 ?side2 A5.out).mono ?_); (case side1 => exact oI89 aA); (case side2 => exact oH HB (IsS89.ge aA.out)); rintro e fT ⟨rfl, hi, hb, hk⟩; refine ⟨_, rfl, ?_⟩; have n_ := o2_ (Kd.R_mono (Kd.R_keep (IsS89.apart (show IsS89 w _ g790 aE aW from oI89 aA) (oR aD) oD) hk (fun _ h => h.2)) (fun _ h => h.1)) (o2_ (hb) (o1_ (hi))); clear aD HB aA; obtain ⟨aD, HB, aA⟩ := n_; (try clear hb); (try clear hb2); (try clear hk); (try clear hi)))
   go_ret
   exact ⟨_, by first | rfl | (simp [errW_none, errW_some] <;> rfl) | (simp [*, errW_none, errW_some] <;> rfl), by (with_reducible repeat (first | apply Kd.R_alloc | apply Kd.R_drewN | apply Kd.R_drew)); exact Kd.R_mono aD.out (fun _ hk => trivial), oH HB (IsS89.ge aA.out)⟩

end Go.Proofs.Ytfnkaccncmjnaaa.X
