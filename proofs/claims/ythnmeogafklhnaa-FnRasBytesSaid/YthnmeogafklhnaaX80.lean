/- What functions of the program come to, each with its proof. No condition but what each theorem states. -/
import Derived.Test.YthnmeogafklhnaaX0
import Derived.Test.YthnmeogafklhnaaX3
import Derived.Test.YthnmeogafklhnaaX4
import Derived.Test.YthnmeogafklhnaaX7
import Derived.Test.YthnmeogafklhnaaX78
import Derived.Test.YthnmeogafklhnaaX79
namespace Go.Proofs.Ythnmeogafklhnaa.X
open Go.RowKit Go.Proofs.YthnmeogafklhnaaW.PrintWords Go.Proofs.YthnmeogafklhnaaW.PrintLast Go.Proofs.YthnmeogafklhnaaW.PrintMore Go.Proofs.Ythnmeogafklhnaa.Hyb
attribute [local go_sem] max2_int min2_int max_two min_two max_three min_three max_four min_four
set_option linter.unusedVariables false
set_option linter.unusedSimpArgs false

/-! ### spec_DrawRasRead: function 40 -/
def spec_DrawRasRead.f (k : Nat) (l0 : List Int) : Option (List Int) := (spec_l20Open.f l0).bind fun aD => ((spec_l20Ras.f k aD.1 aD.2 0).bind fun aE => ((spec_RasBytes.f k aE.1 aE.2.1 aE.2.2.1).bind fun aG => ((spec_l20Rd_pick.f k aD.1 aE.2.2.2 3).bind fun aH => (if aH.1 = 0 then ((spec_l20Turn.f k aD.1 aH.2 aG).bind fun aO => (some aO.1)) else (some aG)))))
theorem spec_DrawRasRead.mono : ∀ a0 k, LeO (spec_DrawRasRead.f k a0) (spec_DrawRasRead.f (k + 1) a0) := by
 intro a0 k
 unfold spec_DrawRasRead.f
 repeat' first
   | (with_reducible exact spec_RasBytes.mono _ _ _ _)
   | (with_reducible exact spec_l20Ras.mono _ _ _ _)
   | (with_reducible exact spec_l20Rd_pick.mono _ _ _ _)
   | (with_reducible exact spec_l20Turn.mono _ _ _ _)
   | (with_reducible exact LeO.refl _)
   | (with_reducible exact LeO.none _)
   | (with_reducible refine LeO.ite ?_ ?_)
   | (with_reducible refine LeO.bind ?_ (fun _ => ?_))
   | exact spec_RasBytes.mono _ _ _ _
   | exact spec_l20Ras.mono _ _ _ _
   | exact spec_l20Rd_pick.mono _ _ _ _
   | exact spec_l20Turn.mono _ _ _ _
   | exact LeO.none _
   | refine LeO.ite ?_ ?_
   | refine LeO.bind ?_ (fun _ => ?_)
set_option maxHeartbeats 8000000 in
set_option maxRecDepth 100000 in
theorem spec_DrawRasRead.calls (k : Nat) (A0 : Option Addr) (c0 : Nat) (l0 : List Int) (r : List Int) (w : World) (hr0 : Kd.C (Kd.int .u8) w A0 l0.length l0) (bN : l0.length ≤ c0) (h : spec_DrawRasRead.f k l0 = some r) :
  Calls Try.prog 40 #[.slice A0 l0.length c0] w fun e w' => ∃ bO : Value, e = .returned (bO) ∧ Kd.R (Kd.int .u8) 5 w' w.heap.size (fun _ => True) bO r ∧ Below w.heap.size w w' := by
 have bM := Aside0.mk hr0
 have bL := Aside0.mk bN
 clear hr0 bN
 have HB := Aside0.mk (Below.refl w.heap.size w)
 have H : ((spec_l20Open.f l0).bind fun aD => ((spec_l20Ras.f k aD.1 aD.2 0).bind fun aE => ((spec_RasBytes.f k aE.1 aE.2.1 aE.2.2.1).bind fun aG => ((spec_l20Rd_pick.f k aD.1 aE.2.2.2 3).bind fun aH => (if aH.1 = 0 then ((spec_l20Turn.f k aD.1 aH.2 aG).bind fun aO => (some aO.1)) else (some aG)))))) = some r := h
 clear h
 replace H := Option.bind_eq_some_iff.mp H
 obtain ⟨⟨aF, aP⟩, bG, H⟩ := H
 (try dsimp only at H)
 have A2 := Aside0.mk bG
 clear bG
 replace H := Option.bind_eq_some_iff.mp H
 obtain ⟨⟨aK, aL, aM, aI⟩, bH, H⟩ := H
 (try dsimp only at H)
 have A3 := Aside0.mk bH
 clear bH
 replace H := Option.bind_eq_some_iff.mp H
 obtain ⟨aG, bI, H⟩ := H
 (try dsimp only at H)
 have A4 := Aside0.mk bI
 clear bI
 replace H := Option.bind_eq_some_iff.mp H
 obtain ⟨⟨aJ, aN⟩, bJ, H⟩ := H
 (try dsimp only at H)
 have A5 := Aside0.mk bJ
 clear bJ
 by_cases c6 : aJ = 0
 ·rw [if_pos c6] at H
  have aY : (aJ == 0) = true := beq_iff_eq.mpr c6
  have aZ : (aJ != 0) = false := bne_eq_false_iff_eq.mpr c6
  clear c6
  replace H := Option.bind_eq_some_iff.mp H
  obtain ⟨⟨aR, aS⟩, bK, H⟩ := H
  (try dsimp only at H)
  have A7 := Aside0.mk bK
  clear bK
  obtain rfl := Option.some.inj H
  go_enter Try.func40, Try.ntmps40
  go_wp2_with (first | ((with_reducible refine gate_callee (f := 44) rfl ?_); refine goesL_ (some 6) rfl rfl Try.func44 oK rfl #[.slice A0 l0.length c0] rfl oA ?_; (with_reducible refine (spec_l20Open.calls _ _ l0 aF aP w _ ?side1 ?side2 ?side3 A2.out).mono ?_); (case side1 => exact oB HB); (case side2 => exact bM.out); (case side3 => exact bL.out); rintro e w8 ⟨g1378, rfl, hi, hb, hb2⟩; refine ⟨_, rfl, ?_⟩; have n_ := o2_ (hb) (o1_ (hi)); clear HB; obtain ⟨HB, aA⟩ := n_; (try clear hb); (try clear hb2); (try clear hk); (try clear hi)) | ((with_reducible refine gate_callee (f := 45) rfl ?_); refine goesL_ (some 8) rfl rfl Try.func45 oK rfl #[.pointer (some ⟨g1378, 0, none⟩), .int .i64 0] rfl oA ?_; (with_reducible refine (spec_l20Ras.calls k g1378 aF aP 0 aK aL aM aI w _ ?side1 ?side2 A3.out).mono ?_); (case side1 => exact oI72 aA); (case side2 => exact oH HB (IsS72.ge aA.out)); rintro e w9 ⟨aT, rfl, ho0, hi, hb, hk⟩; refine ⟨_, rfl, ?_⟩; have n_ := o2_ (Kd.Q_lower ho0 (below_size (oH HB (IsS72.ge aA.out)))) (o2_ (hb) (o1_ (hi))); clear HB aA; obtain ⟨aB, HB, aA⟩ := n_; (try clear hb); (try clear hb2); (try clear hk); (try clear hi); (try clear ho0); obtain ⟨aV, bA, bD, _⟩ := Kd.Q_slice aB.out; subst bD) | ((with_reducible refine gate_callee (f := 43) rfl ?_); refine goesL_ (some 9) rfl rfl Try.func43 oK rfl #[.agg #[.int .i64 aK, .int .i64 aL, .slice aV aM.length bA]] rfl oA ?_; (with_reducible refine (spec_RasBytes.calls k aK aL _ _ aM aG _ ?side1 ?side2 A4.out).mono ?_); (case side1 => repeat (first | exact (Kd.Q_reads' aB.out).2.2 | (with_reducible refine Kd.C_alloc ?_ _) | (with_reducible refine Kd.C_drewN ?_ _) | (with_reducible refine Kd.C_drew ?_))); (case side2 => exact (Kd.Q_reads' aB.out).2.1); rintro e bQ ⟨aU, rfl, ho0, hb⟩; refine ⟨_, rfl, ?_⟩; have n_ := o2_ (Kd.Q_below (oQ aB) hb) (o2_ (Kd.R_lower ho0 (below_size (oH HB (IsS72.ge aA.out)))) (o2_ (IsS72.below (oI72 aA) hb) (o1_ (below_step (oH HB (IsS72.ge aA.out)) hb)))); clear aB aA HB; obtain ⟨aB, aC, aA, HB⟩ := n_; (try clear hb); (try clear hb2); (try clear hk); (try clear hi); (try clear ho0)) | ((with_reducible refine gate_callee (f := 56) rfl ?_); refine goesL_ (some 11) rfl rfl Try.func56 oK rfl #[.pointer (some ⟨g1378, 0, none⟩), .int .i64 3] rfl oA ?_; (with_reducible refine (spec_l20Rd_pick.calls k g1378 aF aI 3 aJ aN w _ ?side1 ?side2 A5.out).mono ?_); (case side1 => exact oI72 aA); (case side2 => exact oH HB (IsS72.ge aA.out)); rintro e bR ⟨rfl, hi, hb, hk⟩; refine ⟨_, rfl, ?_⟩; have n_ := o2_ (Kd.Q_mono (Kd.Q_keep (IsS72.apartQ (show IsS72 w _ g1378 aF aI from oI72 aA) (oQ aB) oD) hk (fun _ h => h.2)) (fun _ h => h.1)) (o2_ (Kd.R_mono (Kd.R_keep (IsS72.apart (show IsS72 w _ g1378 aF aI from oI72 aA) (oR aC) oD) hk (fun _ h => h.2)) (fun _ h => h.1)) (o2_ (hb) (o1_ (hi)))); clear aB aC HB aA; obtain ⟨aB, aC, HB, aA⟩ := n_; (try clear hb); (try clear hb2); (try clear hk); (try clear hi); obtain ⟨aW, bB, bE⟩ := Kd.R_slice aC.out; subst bE) | ((with_reducible refine gate_callee (f := 63) rfl ?_); refine goesL_ (some 15) rfl rfl Try.func63 oK rfl #[.pointer (some ⟨g1378, 0, none⟩), .slice aW aG.length bB] rfl oA ?_; (with_reducible refine (spec_l20Turn.calls k g1378 aF aN _ _ aG aR aS w _ ?side1 ?side2 ?side3 ?side4 ?side5 A7.out).mono ?_); (case side1 => exact oI72 aA); (case side2 => exact oH HB (IsS72.ge aA.out)); (case side3 => repeat (first | exact (Kd.R_reads' aC.out).2.2 | (with_reducible refine Kd.C_alloc ?_ _) | (with_reducible refine Kd.C_drewN ?_ _) | (with_reducible refine Kd.C_drew ?_))); (case side4 => exact (Kd.R_reads' aC.out).2.1); (case side5 => exact far_slice (IsS72.own_ne aA.out aC.out oD)); rintro e bS ⟨bP, rfl, ho0, hi, hb, hk⟩; refine ⟨_, rfl, ?_⟩; have n_ := o2_ (Kd.Q_mono (Kd.Q_keep (IsS72.apartQ (show IsS72 w _ g1378 aF aN from oI72 aA) (oQ aB) oD) hk (fun _ h => h.2)) (fun _ h => h.1)) (o2_ (Kd.R_mono (Kd.R_told (Kd.R_oldK (IsS72.apart (show IsS72 w _ g1378 aF aN from oI72 aA) (oR aC) oD) hk) (Kd.R_base ho0)) (fun _ h_ => h_.1)) (o2_ (Kd.R_lower (Kd.R_new' ho0 (Kd.R_lt (oR aC))) (below_size (oH HB (IsS72.ge aA.out)))) (o2_ (hb) (o1_ (hi))))); clear aB aC HB aA; obtain ⟨aB, aC, aQ, HB, aA⟩ := n_; (try clear hb); (try clear hb2); (try clear hk); (try clear hi); (try clear ho0)))
  go_ret
  exact ⟨_, by first | rfl | (simp [errW_none, errW_some] <;> rfl) | (simp [*, errW_none, errW_some] <;> rfl), by (with_reducible repeat (first | apply Kd.R_alloc | apply Kd.R_drewN | apply Kd.R_drew)); exact Kd.R_mono aQ.out (fun _ hk => trivial), oH HB (IsS72.ge aA.out)⟩
 ·rw [if_neg c6] at H
  have aY : (aJ == 0) = false := beq_eq_false_iff_ne.mpr c6
  have aZ : (aJ != 0) = true := bne_iff_ne.mpr c6
  obtain rfl := Option.some.inj H
  go_enter Try.func40, Try.ntmps40
  go_wp2_with (first | ((with_reducible refine gate_callee (f := 44) rfl ?_); refine goesL_ (some 6) rfl rfl Try.func44 oK rfl #[.slice A0 l0.length c0] rfl oA ?_; (with_reducible refine (spec_l20Open.calls _ _ l0 aF aP w _ ?side1 ?side2 ?side3 A2.out).mono ?_); (case side1 => exact oB HB); (case side2 => exact bM.out); (case side3 => exact bL.out); rintro e bT ⟨g1378, rfl, hi, hb, hb2⟩; refine ⟨_, rfl, ?_⟩; have n_ := o2_ (hb) (o1_ (hi)); clear HB; obtain ⟨HB, aA⟩ := n_; (try clear hb); (try clear hb2); (try clear hk); (try clear hi)) | ((with_reducible refine gate_callee (f := 45) rfl ?_); refine goesL_ (some 8) rfl rfl Try.func45 oK rfl #[.pointer (some ⟨g1378, 0, none⟩), .int .i64 0] rfl oA ?_; (with_reducible refine (spec_l20Ras.calls k g1378 aF aP 0 aK aL aM aI w _ ?side1 ?side2 A3.out).mono ?_); (case side1 => exact oI72 aA); (case side2 => exact oH HB (IsS72.ge aA.out)); rintro e bU ⟨aT, rfl, ho0, hi, hb, hk⟩; refine ⟨_, rfl, ?_⟩; have n_ := o2_ (Kd.Q_lower ho0 (below_size (oH HB (IsS72.ge aA.out)))) (o2_ (hb) (o1_ (hi))); clear HB aA; obtain ⟨aB, HB, aA⟩ := n_; (try clear hb); (try clear hb2); (try clear hk); (try clear hi); (try clear ho0); obtain ⟨aX, bC, bF, _⟩ := Kd.Q_slice aB.out; subst bF) | ((with_reducible refine gate_callee (f := 43) rfl ?_); refine goesL_ (some 9) rfl rfl Try.func43 oK rfl #[.agg #[.int .i64 aK, .int .i64 aL, .slice aX aM.length bC]] rfl oA ?_; (with_reducible refine (spec_RasBytes.calls k aK aL _ _ aM aG _ ?side1 ?side2 A4.out).mono ?_); (case side1 => repeat (first | exact (Kd.Q_reads' aB.out).2.2 | (with_reducible refine Kd.C_alloc ?_ _) | (with_reducible refine Kd.C_drewN ?_ _) | (with_reducible refine Kd.C_drew ?_))); (case side2 => exact (Kd.Q_reads' aB.out).2.1); rintro e bV ⟨aU, rfl, ho0, hb⟩; refine ⟨_, rfl, ?_⟩; have n_ := o2_ (Kd.R_lower ho0 (below_size (oH HB (IsS72.ge aA.out)))) (o2_ (IsS72.below (oI72 aA) hb) (o1_ (below_step (oH HB (IsS72.ge aA.out)) hb))); clear aA HB; obtain ⟨aC, aA, HB⟩ := n_; (try clear hb); (try clear hb2); (try clear hk); (try clear hi); (try clear ho0)) | ((with_reducible refine gate_callee (f := 56) rfl ?_); refine goesL_ (some 11) rfl rfl Try.func56 oK rfl #[.pointer (some ⟨g1378, 0, none⟩), .int .i64 3] rfl oA ?_; (with_reducible refine (spec_l20Rd_pick.calls k g1378 aF aI 3 aJ aN w _ ?side1 ?side2 A5.out).mono ?_); (case side1 => exact oI72 aA); (case side2 => exact oH HB (IsS72.ge aA.out)); rintro e bW ⟨rfl, hi, hb, hk⟩; refine ⟨_, rfl, ?_⟩; have n_ := o2_ (Kd.R_mono (Kd.R_keep (IsS72.apart (show IsS72 w _ g1378 aF aI from oI72 aA) (oR aC) oD) hk (fun _ h => h.2)) (fun _ h => h.1)) (o2_ (hb) (o1_ (hi))); clear aC HB aA; obtain ⟨aC, HB, aA⟩ := n_; (try clear hb); (try clear hb2); (try clear hk); (try clear hi)))
  go_ret
  exact ⟨_, by first | rfl | (simp [errW_none, errW_some] <;> rfl) | (simp [*, errW_none, errW_some] <;> rfl), by (with_reducible repeat (first | apply Kd.R_alloc | apply Kd.R_drewN | apply Kd.R_drew)); exact aC.out, oH HB (IsS72.ge aA.out)⟩

end Go.Proofs.Ythnmeogafklhnaa.X
