/- What functions of the program come to, each with its proof. No condition but what each theorem states. -/
import Derived.Test.YthnmeogafklhnaaX0
import Derived.Test.YthnmeogafklhnaaX3
import Derived.Test.YthnmeogafklhnaaX7
import Derived.Test.YthnmeogafklhnaaX8
namespace Go.Proofs.Ythnmeogafklhnaa.X
open Go.RowKit Go.Proofs.YthnmeogafklhnaaW.PrintWords Go.Proofs.YthnmeogafklhnaaW.PrintLast Go.Proofs.YthnmeogafklhnaaW.PrintMore Go.Proofs.Ythnmeogafklhnaa.Hyb
attribute [local go_sem] max2_int min2_int max_two min_two max_three min_three max_four min_four
set_option linter.unusedVariables false
set_option linter.unusedSimpArgs false

/-! ### spec_DrawOpDo: function 18 -/
def spec_DrawOpDo.f (k : Nat) (l0 : List Int) : Option (Int × Int × (List (S38)) × Int × Int × Int × Int × Int) := (spec_l20Open.f l0).bind fun aK => ((spec_l20Ras.f k aK.1 aK.2 16).bind fun aG => ((spec_l20Op.f k aK.1 aG.2.2.2 9).bind fun aF => (some (aG.1, aG.2.1, aG.2.2.1, aF.1, aF.2.1, aF.2.2.1, aF.2.2.2.1, aF.2.2.2.2.1))))
theorem spec_DrawOpDo.mono : ∀ a0 k, LeO (spec_DrawOpDo.f k a0) (spec_DrawOpDo.f (k + 1) a0) := by
 intro a0 k
 unfold spec_DrawOpDo.f
 repeat' first
   | (with_reducible exact spec_l20Op.mono _ _ _ _)
   | (with_reducible exact spec_l20Ras.mono _ _ _ _)
   | (with_reducible exact LeO.refl _)
   | (with_reducible exact LeO.none _)
   | (with_reducible refine LeO.ite ?_ ?_)
   | (with_reducible refine LeO.bind ?_ (fun _ => ?_))
   | exact spec_l20Op.mono _ _ _ _
   | exact spec_l20Ras.mono _ _ _ _
   | exact LeO.none _
   | refine LeO.ite ?_ ?_
   | refine LeO.bind ?_ (fun _ => ?_)
set_option maxHeartbeats 8000000 in
set_option maxRecDepth 100000 in
theorem spec_DrawOpDo.calls (k : Nat) (A0 : Option Addr) (c0 : Nat) (l0 : List Int) (r1 : Int) (r2 : Int) (r3 : List (S38)) (r4 : Int) (r5 : Int) (r6 : Int) (r7 : Int) (r8 : Int) (w : World) (hr0 : Kd.C (Kd.int .u8) w A0 l0.length l0) (cB : l0.length ≤ c0) (h : spec_DrawOpDo.f k l0 = some (r1, r2, r3, r4, r5, r6, r7, r8)) :
  Calls Try.prog 18 #[.slice A0 l0.length c0] w fun e w' => ∃ cI : Value, e = .returned (.tuple #[.agg #[.int .i64 r1, .int .i64 r2, cI], .agg #[.int .i64 r4, .int .i64 r5, .int .i64 r6, .int .i64 r7, .int .i64 r8]]) ∧ Kd.Q k38 38 w' w.heap.size (fun _ => True) cI r3 ∧ Below w.heap.size w w' := by
 have hu25 := Try.underlying25
 have hu27 := Try.underlying27
 have cK := Aside0.mk hr0
 have cJ := Aside0.mk cB
 clear hr0 cB
 have HB := Aside0.mk (Below.refl w.heap.size w)
 have H : ((spec_l20Open.f l0).bind fun aK => ((spec_l20Ras.f k aK.1 aK.2 16).bind fun aG => ((spec_l20Op.f k aK.1 aG.2.2.2 9).bind fun aF => (some (aG.1, aG.2.1, aG.2.2.1, aF.1, aF.2.1, aF.2.2.1, aF.2.2.2.1, aF.2.2.2.2.1))))) = some (r1, r2, r3, r4, r5, r6, r7, r8) := h
 clear h
 replace H := Option.bind_eq_some_iff.mp H
 obtain ⟨⟨aP, bB⟩, bU, H⟩ := H
 (try dsimp only at H)
 have A2 := Aside0.mk bU
 clear bU
 replace H := Option.bind_eq_some_iff.mp H
 obtain ⟨⟨aQ, aR, aS, aT⟩, bV, H⟩ := H
 (try dsimp only at H)
 have A3 := Aside0.mk bV
 clear bV
 replace H := Option.bind_eq_some_iff.mp H
 obtain ⟨⟨aU, aV, aW, aX, aY, bT⟩, bW, H⟩ := H
 (try dsimp only at H)
 have A4 := Aside0.mk bW
 clear bW
 simp only [Option.some.injEq, Prod.mk.injEq] at H
 obtain ⟨rfl, rfl, rfl, rfl, rfl, rfl, rfl, rfl⟩ := H
 go_enter Try.func18, Try.ntmps18
 go_wp2_with (first | ((with_reducible refine gate_dst (N := 2) rfl ?_); refine box_event rfl (N := 2) rfl (cs := #[.int .i64 0, .int .i64 0, .slice none 0 0]) (t := 25) oS ?_; intro aH hg w5 hbox hb; have n_ := o2_ (below_step (oB HB) hb) (o2_ (hbox) (o2_ ((oG hg (below_size (oB HB)) : w.heap.size ≤ aH)) (o1_ ((oG hg (below_size (oB HB)) : w.heap.size ≤ aH))))); clear HB; obtain ⟨HB, aA, bZ, bX⟩ := n_; clear hb hbox hg) | ((with_reducible refine gate_dst (N := 3) rfl ?_); refine box_event rfl (N := 3) rfl (cs := #[.int .i64 0, .int .i64 0, .int .i64 0, .int .i64 0, .int .i64 0]) (t := 27) oS ?_; intro aD hg w6 hbox hb; have n_ := o2_ (blk_below (oP aA) hb) (o2_ (below_step (oB HB) hb) (o2_ (hbox) (o2_ ((oG hg (below_size (oB HB)) : w.heap.size ≤ aD)) (o2_ ((oG hg (below_size (oB HB)) : w.heap.size ≤ aD)) (o2_ ((oL hg (blk_lt (oP aA)))) (o1_ ((oN hg (blk_lt (oP aA)))))))))); clear aA HB; obtain ⟨aA, HB, aB, cA, bY, aC, aM⟩ := n_; clear hb hbox hg) | ((with_reducible refine gate_callee (f := 44) rfl ?_); refine goesL_ (some 6) rfl rfl Try.func44 oK rfl #[.slice A0 l0.length c0] rfl oA ?_; (with_reducible refine (spec_l20Open.calls _ _ l0 aP bB w _ ?side1 ?side2 ?side3 A2.out).mono ?_); (case side1 => exact oB HB); (case side2 => exact cK.out); (case side3 => exact cJ.out); rintro e w7 ⟨g249, rfl, hi, hb, hb2⟩; refine ⟨_, rfl, ?_⟩; have n_ := o2_ (blk_below (oP aA) hb2) (o2_ (blk_below (oP aB) hb2) (o2_ (hb) (o2_ (hi) (o2_ (IsS72.ne_blk hi (blk_below (oP aA) hb2) oD) (o2_ (Ne.symm (IsS72.ne_blk hi (blk_below (oP aA) hb2) oD)) (o2_ (IsS72.ne_blk hi (blk_below (oP aB) hb2) oD) (o1_ (Ne.symm (IsS72.ne_blk hi (blk_below (oP aB) hb2) oD))))))))); clear aA aB HB; obtain ⟨aA, aB, HB, aE, aN, aI, aO, aJ⟩ := n_; (try clear hb); (try clear hb2); (try clear hk); (try clear hi)) | ((with_reducible refine gate_callee (f := 45) rfl ?_); refine goesL_ (some 8) rfl rfl Try.func45 oK rfl #[.pointer (some ⟨g249, 0, none⟩), .int .i64 16] rfl oA ?_; (with_reducible refine (spec_l20Ras.calls k g249 aP bB 16 aQ aR aS aT w _ ?side1 ?side2 A3.out).mono ?_); (case side1 => exact oI72 aE); (case side2 => exact oH HB (IsS72.ge aE.out)); rintro e w8 ⟨cL, rfl, ho0, hi, hb, hk⟩; refine ⟨_, rfl, ?_⟩; have n_ := o2_ (oJ hk aA aI) (o2_ (oJ hk aB aJ) (o2_ (Kd.Q_lower ho0 (below_size (oH HB (IsS72.ge aE.out)))) (o2_ (hb) (o1_ (hi))))); clear aA aB HB aE; obtain ⟨aA, aB, aL, HB, aE⟩ := n_; (try clear hb); (try clear hb2); (try clear hk); (try clear hi); (try clear ho0)) | ((with_reducible refine gate_callee (f := 46) rfl ?_); refine goesL_ (some 10) rfl rfl Try.func46 oK rfl #[.pointer (some ⟨g249, 0, none⟩), .int .i64 9] rfl oA ?_; (with_reducible refine (spec_l20Op.calls k g249 aP aT 9 aU aV aW aX aY bT w _ ?side1 ?side2 A4.out).mono ?_); (case side1 => exact oI72 aE); (case side2 => exact oH HB (IsS72.ge aE.out)); rintro e w9 ⟨rfl, hi, hb, hk⟩; refine ⟨_, rfl, ?_⟩; have n_ := o2_ (oJ hk aA aI) (o2_ (oJ hk aB aJ) (o2_ (Kd.Q_mono (Kd.Q_keep (IsS72.apartQ (show IsS72 w _ g249 aP aT from oI72 aE) (oQ aL) oD) hk (fun _ h => h.2)) (fun _ h => h.1)) (o2_ (hb) (o1_ (hi))))); clear aA aB aL HB aE; obtain ⟨aA, aB, aL, HB, aE⟩ := n_; (try clear hb); (try clear hb2); (try clear hk); (try clear hi); have cC := aC.out; have cF := aM.out; have cD := aI.out; have cG := aN.out; have bC : w9.cell? ⟨aH, 0, none⟩ = some (.int .i64 0) := (blk_cell aA.out 0).trans rfl; have bD : w9.cell? ⟨aH, 1, none⟩ = some (.int .i64 0) := (blk_cell aA.out 1).trans rfl; have bE : w9.cell? ⟨aH, 2, none⟩ = some (.slice none 0 0) := (blk_cell aA.out 2).trans rfl; have bK := blk_frozen aA.out 0; have bL := blk_frozen aA.out 1; have bM := blk_frozen aA.out 2; obtain ⟨aZ, bA, bS, _⟩ := Kd.Q_slice aL.out; subst bS; have cE := aJ.out; have cH := aO.out; have bF : w9.cell? ⟨aD, 0, none⟩ = some (.int .i64 0) := (blk_cell aB.out 0).trans rfl; have bG : w9.cell? ⟨aD, 1, none⟩ = some (.int .i64 0) := (blk_cell aB.out 1).trans rfl; have bH : w9.cell? ⟨aD, 2, none⟩ = some (.int .i64 0) := (blk_cell aB.out 2).trans rfl; have bI : w9.cell? ⟨aD, 3, none⟩ = some (.int .i64 0) := (blk_cell aB.out 3).trans rfl; have bJ : w9.cell? ⟨aD, 4, none⟩ = some (.int .i64 0) := (blk_cell aB.out 4).trans rfl; have bN := blk_frozen aB.out 0; have bO := blk_frozen aB.out 1; have bP := blk_frozen aB.out 2; have bQ := blk_frozen aB.out 3; have bR := blk_frozen aB.out 4))
 refine bodyPost_ret (results_cc rfl _ _ aH aD 25 27 #[.int .i64 aQ, .int .i64 aR, .slice aZ aS.length bA] #[.int .i64 aU, .int .i64 aV, .int .i64 aW, .int .i64 aX, .int .i64 aY] (0, 0) (0, 0) _ _ rfl (blk_far (blk_far (blk_far (blk_far (blk_far (blk_put (blk_put (blk_put (oP aA) 0 _ rfl) 1 _ rfl) 2 _ rfl) aC.out _) aC.out _) aC.out _) aC.out _) aC.out _) Try.underlying25 rfl oK rfl (blk_put (blk_put (blk_put (blk_put (blk_put (oP aB) 0 _ rfl) 1 _ rfl) 2 _ rfl) 3 _ rfl) 4 _ rfl) Try.underlying27 rfl oK) rfl ?_
 exact ⟨_, by first | rfl | (simp [errW_none, errW_some] <;> rfl) | (simp [*, errW_none, errW_some] <;> rfl), by (with_reducible repeat (first | apply Kd.Q_alloc | apply Kd.Q_drewN | apply Kd.Q_drew)); exact Kd.Q_mono (Kd.Q_far (p := ⟨aD, 4, none⟩) (Kd.Q_far (p := ⟨aD, 3, none⟩) (Kd.Q_far (p := ⟨aD, 2, none⟩) (Kd.Q_far (p := ⟨aD, 1, none⟩) (Kd.Q_far (p := ⟨aD, 0, none⟩) (Kd.Q_far (p := ⟨aH, 2, none⟩) (Kd.Q_far (p := ⟨aH, 1, none⟩) (Kd.Q_far (p := ⟨aH, 0, none⟩) (Kd.Q_types (Kd.Q_types aL.out aA.out oD) aB.out oD) (fun _ hk => hk.1.2) (.int .i64 aQ)) (fun _ hk => hk.1.2) (.int .i64 aR)) (fun _ hk => hk.1.2) (.slice aZ aS.length bA)) (fun _ hk => hk.2) (.int .i64 aU)) (fun _ hk => hk.2) (.int .i64 aV)) (fun _ hk => hk.2) (.int .i64 aW)) (fun _ hk => hk.2) (.int .i64 aX)) (fun _ hk => hk.2) (.int .i64 aY)) (fun _ hk => trivial), oH HB (IsS72.ge aE.out)⟩

end Go.Proofs.Ythnmeogafklhnaa.X
