/- What functions of the program come to, each with its proof. No condition but what each theorem states. -/
import Derived.Test.YthnmeogafklhnaaX0
import Derived.Test.YthnmeogafklhnaaX3
import Derived.Test.YthnmeogafklhnaaX4
import Derived.Test.YthnmeogafklhnaaX6
namespace Go.Proofs.Ythnmeogafklhnaa.X
open Go.RowKit Go.Proofs.YthnmeogafklhnaaW.PrintWords Go.Proofs.YthnmeogafklhnaaW.PrintLast Go.Proofs.YthnmeogafklhnaaW.PrintMore Go.Proofs.Ythnmeogafklhnaa.Hyb
attribute [local go_sem] max2_int min2_int max_two min_two max_three min_three max_four min_four
set_option linter.unusedVariables false
set_option linter.unusedSimpArgs false

/-! ### spec_l20Op: function 46 -/
def spec_l20Op.j0 : Nat → Int → List Int → Int → Int → Int → Int → Int → Int → Option (Int × Int × Int × Int × Int × Int)
 | 0, _, _, _, _, _, _, _, _ => none
 | k + 1, x1, x1000, x1001, x199000, x199001, x199002, x199003, x199004 => (spec_l20Rd_odd.f k x1000 x1001 x1).bind fun bZ => (if bZ.1 = true then ((spec_l20Rd_pick.f k x1000 bZ.2 4).bind fun aZ => (if aZ.1 = 0 then ((some (([0, 9] : List Int) : List Int)).bind fun bH => ((spec_l20Rd_pick.f k x1000 aZ.2 2).bind fun aV => (if 0 ≤ aV.1 then (if aV.1 < (bH.length : Int) then (some (rd bH aV.1, x199001, x199002, x199003, x199004, aV.2)) else (none)) else (none)))) else (if aZ.1 = 1 then ((some (([(-1), 256] : List Int) : List Int)).bind fun bI => ((spec_l20Rd_pick.f k x1000 aZ.2 2).bind fun aW => (if 0 ≤ aW.1 then (if aW.1 < (bI.length : Int) then (some (x199000, rd bI aW.1, x199002, x199003, x199004, aW.2)) else (none)) else (none)))) else (if aZ.1 = 2 then ((some (([(-1), 256] : List Int) : List Int)).bind fun bJ => ((spec_l20Rd_pick.f k x1000 aZ.2 2).bind fun aX => (if 0 ≤ aX.1 then (if aX.1 < (bJ.length : Int) then (some (x199000, x199001, x199002, rd bJ aX.1, x199004, aX.2)) else (none)) else (none)))) else ((some (([1, 7] : List Int) : List Int)).bind fun bK => ((spec_l20Rd_pick.f k x1000 aZ.2 2).bind fun aY => (if 0 ≤ aY.1 then (if aY.1 < (bK.length : Int) then (some (x199000, x199001, x199002, x199003, rd bK aY.1, aY.2)) else (none)) else (none)))))))) else (some (x199000, x199001, x199002, x199003, x199004, bZ.2)))
def spec_l20Op.f (k : Nat) (s0_0 : List Int) (s0_1 : Int) (a1 : Int) : Option (Int × Int × Int × Int × Int × Int) := (spec_l20Rd_pick.f k s0_0 s0_1 8).bind fun aO => (if (wrap64 (1 + aO.1)) = 1 then ((spec_l20Rd_pick.f k s0_0 aO.2 3).bind fun bP => ((spec_l20Rd_pick.f k s0_0 bP.2 3).bind fun bQ => ((spec_l20Rd_pick.f k s0_0 bQ.2 4).bind fun bR => ((spec_l20Rd_pick.f k s0_0 bR.2 4).bind fun bS => (spec_l20Op.j0 k a1 s0_0 bS.2 1 bP.1 bQ.1 (wrap64 (1 + bR.1)) (wrap64 (1 + bS.1))))))) else (if (wrap64 (1 + aO.1)) = 7 then ((spec_l20Rd_pick.f k s0_0 aO.2 6).bind fun bT => ((spec_l20Rd_pick.f k s0_0 bT.2 6).bind fun bU => (spec_l20Op.j0 k a1 s0_0 bU.2 7 (wrap64 (1 + bT.1)) (wrap64 (1 + bU.1)) 0 0))) else (if (wrap64 (1 + aO.1)) = 8 then ((spec_l20Rd_pick.f k s0_0 aO.2 256).bind fun bV => ((spec_l20Rd_pick.f k s0_0 bV.2 256).bind fun bW => ((spec_l20Rd_pick.f k s0_0 bW.2 256).bind fun bX => (spec_l20Op.j0 k a1 s0_0 bX.2 8 bV.1 bW.1 bX.1 0)))) else (spec_l20Op.j0 k a1 s0_0 aO.2 (wrap64 (1 + aO.1)) 0 0 0 0))))
theorem spec_l20Op.mono_l : ∀ k, (∀ y0 y1 y2 y3 y4 y5 y6 y7, LeO (spec_l20Op.j0 k y0 y1 y2 y3 y4 y5 y6 y7) (spec_l20Op.j0 (k + 1) y0 y1 y2 y3 y4 y5 y6 y7))
 | 0 => (fun _ _ _ _ _ _ _ _ r h => nomatch (show none = some r from h))
 | k + 1 => by
  have ih0 := spec_l20Op.mono_l k
  ·intro y0 y1 y2 y3 y4 y5 y6 y7
   unfold spec_l20Op.j0
   repeat' first
   | (with_reducible exact ih0 _ _ _ _ _ _ _ _)
   | (with_reducible exact spec_l20Rd_odd.mono _ _ _ _)
   | (with_reducible exact spec_l20Rd_pick.mono _ _ _ _)
   | (with_reducible exact LeO.refl _)
   | (with_reducible exact LeO.none _)
   | (with_reducible refine LeO.ite ?_ ?_)
   | (with_reducible refine LeO.bind ?_ (fun _ => ?_))
   | exact ih0 _ _ _ _ _ _ _ _
   | exact spec_l20Rd_odd.mono _ _ _ _
   | exact spec_l20Rd_pick.mono _ _ _ _
   | exact LeO.none _
   | refine LeO.ite ?_ ?_
   | refine LeO.bind ?_ (fun _ => ?_)
theorem spec_l20Op.mono : ∀ a0 a1 a2 k, LeO (spec_l20Op.f k a0 a1 a2) (spec_l20Op.f (k + 1) a0 a1 a2) := by
 intro a0 a1 a2 k
 have ih0 := spec_l20Op.mono_l k
 unfold spec_l20Op.f
 repeat' first
   | (with_reducible exact ih0 _ _ _ _ _ _ _ _)
   | (with_reducible exact spec_l20Rd_odd.mono _ _ _ _)
   | (with_reducible exact spec_l20Rd_pick.mono _ _ _ _)
   | (with_reducible exact LeO.refl _)
   | (with_reducible exact LeO.none _)
   | (with_reducible refine LeO.ite ?_ ?_)
   | (with_reducible refine LeO.bind ?_ (fun _ => ?_))
   | exact ih0 _ _ _ _ _ _ _ _
   | exact spec_l20Rd_odd.mono _ _ _ _
   | exact spec_l20Rd_pick.mono _ _ _ _
   | exact LeO.none _
   | refine LeO.ite ?_ ?_
   | refine LeO.bind ?_ (fun _ => ?_)
set_option maxHeartbeats 8000000 in
set_option maxRecDepth 100000 in
theorem spec_l20Op.calls (k : Nat) (g : Nat) (s0_0 : List Int) (s0_1 : Int) (a1 : Int) (r1 : Int) (r2 : Int) (r3 : Int) (r4 : Int) (r5 : Int) (r6 : Int) (w0 w : World) (hI : IsS72 w0 w g s0_0 s0_1) (hB : Below w0.heap.size w0 w) (h : spec_l20Op.f k s0_0 s0_1 a1 = some (r1, r2, r3, r4, r5, r6)) :
  Calls Try.prog 46 #[.pointer (some ⟨g, 0, none⟩), .int .i64 a1] w fun e w' => e = .returned (.agg #[.int .i64 r1, .int .i64 r2, .int .i64 r3, .int .i64 r4, .int .i64 r5]) ∧ IsS72 w0 w' g s0_0 r6 ∧ Below w0.heap.size w0 w' ∧ KeepBut w w' g none := by
 have hu27 := Try.underlying27
 have aF := Aside0.mk hI
 have HK := Aside0.mk (KeepBut.refl w g none)
 have HL := Aside0.mk hB.size
 clear hI
 have HW0 := Aside0.mk hB.size
 have HB := Aside0.mk hB
 clear hB
 have H : ((spec_l20Rd_pick.f k s0_0 s0_1 8).bind fun aO => (if (wrap64 (1 + aO.1)) = 1 then ((spec_l20Rd_pick.f k s0_0 aO.2 3).bind fun bP => ((spec_l20Rd_pick.f k s0_0 bP.2 3).bind fun bQ => ((spec_l20Rd_pick.f k s0_0 bQ.2 4).bind fun bR => ((spec_l20Rd_pick.f k s0_0 bR.2 4).bind fun bS => (spec_l20Op.j0 k a1 s0_0 bS.2 1 bP.1 bQ.1 (wrap64 (1 + bR.1)) (wrap64 (1 + bS.1))))))) else (if (wrap64 (1 + aO.1)) = 7 then ((spec_l20Rd_pick.f k s0_0 aO.2 6).bind fun bT => ((spec_l20Rd_pick.f k s0_0 bT.2 6).bind fun bU => (spec_l20Op.j0 k a1 s0_0 bU.2 7 (wrap64 (1 + bT.1)) (wrap64 (1 + bU.1)) 0 0))) else (if (wrap64 (1 + aO.1)) = 8 then ((spec_l20Rd_pick.f k s0_0 aO.2 256).bind fun bV => ((spec_l20Rd_pick.f k s0_0 bV.2 256).bind fun bW => ((spec_l20Rd_pick.f k s0_0 bW.2 256).bind fun bX => (spec_l20Op.j0 k a1 s0_0 bX.2 8 bV.1 bW.1 bX.1 0)))) else (spec_l20Op.j0 k a1 s0_0 aO.2 (wrap64 (1 + aO.1)) 0 0 0 0))))) = some (r1, r2, r3, r4, r5, r6) := h
 clear h
 replace H := Option.bind_eq_some_iff.mp H
 obtain ⟨⟨aQ, bY⟩, lO, H⟩ := H
 (try dsimp only at H)
 have A3 := Aside0.mk lO
 clear lO
 have kS := Aside0.mk H
 clear H
 go_enter Try.func46, Try.ntmps46
 go_upto_block 0 with (first | ((with_reducible refine gate_dst (N := 4) rfl ?_); refine box_event rfl (N := 4) rfl (cs := #[.int .i64 0, .int .i64 0, .int .i64 0, .int .i64 0, .int .i64 0]) (t := 27) oS ?_; intro aL hg w5 hbox hb; have n_ := o2_ (IsS72.below (oI72 aF) hb) (o2_ (KeepBut.trans (oE HK) (KeepBut.of_below hb g none) (.inl rfl)) (o2_ (below_step (oH HB (IsS72.ge aF.out)) hb) (o2_ (hbox) (o2_ ((by rw [hg]; exact (keep_size (w := w) (g := g) (row := none) (oE HK)) : w.heap.size ≤ aL)) (o2_ ((Nat.le_trans HW0.out (by rw [hg]; exact (keep_size (w := w) (g := g) (row := none) (oE HK)) : w.heap.size ≤ aL) : w0.heap.size ≤ aL)) (o2_ ((by rw [hg]; exact Nat.ne_of_lt (IsS72.lt (show IsS72 w0 _ g s0_0 s0_1 from oI72 aF)) : g ≠ aL)) (o1_ ((by rw [hg]; exact Nat.ne_of_gt (IsS72.lt (show IsS72 w0 _ g s0_0 s0_1 from oI72 aF)) : aL ≠ g))))))))); clear aF HK HB; obtain ⟨aF, HK, HB, aB, lR, lP, aU, aE⟩ := n_; clear hb hbox hg) | ((with_reducible refine gate_callee (f := 56) rfl ?_); refine goesL_ (some 7) rfl rfl Try.func56 oK rfl #[.pointer (some ⟨g, 0, none⟩), .int .i64 8] rfl oA ?_; (with_reducible refine (spec_l20Rd_pick.calls k g s0_0 s0_1 8 aQ bY w0 _ ?side1 ?side2 A3.out).mono ?_); (case side1 => exact oI72 aF); (case side2 => exact oH HB (IsS72.ge aF.out)); rintro e w6 ⟨rfl, hi, hb, hk⟩; refine ⟨_, rfl, ?_⟩; have n_ := o2_ (oJ hk aB aE) (o2_ (KeepBut.trans (oE HK) hk (.inl rfl)) (o2_ (hb) (o1_ (hi)))); clear aB HK HB aF; obtain ⟨aB, HK, HB, aF⟩ := n_; (try clear hb); (try clear hb2); (try clear hk); (try clear hi)) | ((with_reducible refine gate_dst (N := 5) rfl ?_); refine box_event rfl (N := 5) rfl (cs := #[.int .i64 0, .int .i64 0, .int .i64 0, .int .i64 0, .int .i64 0]) (t := 27) oS ?_; intro aC hg w7 hbox hb; have n_ := o2_ (IsS72.below (oI72 aF) hb) (o2_ (blk_below (oP aB) hb) (o2_ (KeepBut.trans (oE HK) (KeepBut.of_below hb g none) (.inl rfl)) (o2_ (below_step (oH HB (IsS72.ge aF.out)) hb) (o2_ (hbox) (o2_ ((by rw [hg]; exact (keep_size (w := w) (g := g) (row := none) (oE HK)) : w.heap.size ≤ aC)) (o2_ ((Nat.le_trans HW0.out (by rw [hg]; exact (keep_size (w := w) (g := g) (row := none) (oE HK)) : w.heap.size ≤ aC) : w0.heap.size ≤ aC)) (o2_ ((oL hg (blk_lt (oP aB)))) (o2_ ((oN hg (blk_lt (oP aB)))) (o2_ ((by rw [hg]; exact Nat.ne_of_lt (IsS72.lt (show IsS72 w0 _ g s0_0 bY from oI72 aF)) : g ≠ aC)) (o1_ ((by rw [hg]; exact Nat.ne_of_gt (IsS72.lt (show IsS72 w0 _ g s0_0 bY from oI72 aF)) : aC ≠ g)))))))))))); clear aF aB HK HB; obtain ⟨aF, aB, HK, HB, aA, lS, lQ, aM, aN, aP, aD⟩ := n_; clear hb hbox hg; have pH := aN.out; have pJ := aM.out; have pI := aD.out; have pK := aP.out; have cE : w7.cell? ⟨aC, 0, none⟩ = some (.int .i64 0) := (blk_cell aA.out 0).trans rfl; have cF : w7.cell? ⟨aC, 1, none⟩ = some (.int .i64 0) := (blk_cell aA.out 1).trans rfl; have cG : w7.cell? ⟨aC, 2, none⟩ = some (.int .i64 0) := (blk_cell aA.out 2).trans rfl; have cH : w7.cell? ⟨aC, 3, none⟩ = some (.int .i64 0) := (blk_cell aA.out 3).trans rfl; have cI : w7.cell? ⟨aC, 4, none⟩ = some (.int .i64 0) := (blk_cell aA.out 4).trans rfl; have cY := blk_frozen aA.out 0; have cZ := blk_frozen aA.out 1; have dA := blk_frozen aA.out 2; have dB := blk_frozen aA.out 3; have dC := blk_frozen aA.out 4))
 (try simp only [Act.put, List.setIfInBounds_toArray, List.set_cons_zero, List.set_cons_succ])
 go_cut [] (fun wc => ∃ (kq : Nat) (aR : Int) (aH : Int) (aI : Int) (aG : Int) (aJ : Int) (aK : Int), Aside0 (spec_l20Op.j0 kq a1 s0_0 aR aH aI aG aJ aK = some (r1, r2, r3, r4, r5, r6)) ∧ Aside0 (kq ≤ k) ∧ Aside0 (wc.heap[aL]? = some (.cells #[.int .i64 0, .int .i64 0, .int .i64 0, .int .i64 0, .int .i64 0] 27 (0, 0))) ∧ Aside0 (wc.heap[aC]? = some (.cells #[.int .i64 aH, .int .i64 aI, .int .i64 aG, .int .i64 aJ, .int .i64 aK] 27 (0, 0))) ∧ Aside0 (IsS72 w0 wc g s0_0 aR) ∧ Aside0 (KeepBut w wc g none) ∧ Aside0 (Below w0.heap.size w0 wc))
 case first =>
  have H := kS.out
  clear kS
  by_cases dW : (wrap64 (1 + aQ)) = 1
  ·rw [if_pos dW] at H
   have bB : ((wrap64 (1 + aQ)) == 1) = true := beq_iff_eq.mpr dW
   have dX : ((wrap64 (1 + aQ)) != 1) = false := bne_eq_false_iff_eq.mpr dW
   clear dW
   (first | rw [bB] | (simp only [i64_w, i32_w]; rw [bB]) | skip)
   replace H := Option.bind_eq_some_iff.mp H
   obtain ⟨⟨gZ, hA⟩, eP, H⟩ := H
   (try dsimp only at H)
   have nN := Aside0.mk eP
   clear eP
   replace H := Option.bind_eq_some_iff.mp H
   obtain ⟨⟨hC, hD⟩, eQ, H⟩ := H
   (try dsimp only at H)
   have nO := Aside0.mk eQ
   clear eQ
   replace H := Option.bind_eq_some_iff.mp H
   obtain ⟨⟨hE, hF⟩, eR, H⟩ := H
   (try dsimp only at H)
   have nP := Aside0.mk eR
   clear eR
   replace H := Option.bind_eq_some_iff.mp H
   obtain ⟨⟨hG, hH⟩, eS, H⟩ := H
   (try dsimp only at H)
   have nQ := Aside0.mk eS
   clear eS
   have H' := Aside0.mk H
   clear H
   go_wp2_with (first | ((with_reducible refine gate_callee (f := 56) rfl ?_); refine goesL_ (some 15) rfl rfl Try.func56 oK rfl #[.pointer (some ⟨g, 0, none⟩), .int .i64 3] rfl oA ?_; (with_reducible refine (spec_l20Rd_pick.calls k g s0_0 bY 3 gZ hA w0 _ ?side1 ?side2 nN.out).mono ?_); (case side1 => exact oI72 aF); (case side2 => exact oH HB (IsS72.ge aF.out)); rintro e pQ ⟨rfl, hi, hb, hk⟩; refine ⟨_, rfl, ?_⟩; have n_ := o2_ (oJ hk aB aE) (o2_ (KeepBut.blk hk (g' := aC) (o := .cells #[.int .i64 (wrap64 (1 + aQ)), .int .i64 0, .int .i64 0, .int .i64 0, .int .i64 0] 27 (0, 0)) (blk_put (blk_put (blk_put (blk_put (blk_put aA.out 0 _ rfl) 1 _ rfl) 2 _ rfl) 3 _ rfl) 4 _ rfl) aD.out (by simp)) (o2_ (KeepBut.trans (oE HK) hk (.inl rfl)) (o2_ (hb) (o1_ (hi))))); clear aB aA HK HB aF; obtain ⟨aB, aA, HK, HB, aF⟩ := n_; (try clear hb); (try clear hb2); (try clear hk); (try clear hi)) | ((with_reducible refine gate_callee (f := 56) rfl ?_); refine goesL_ (some 17) rfl rfl Try.func56 oK rfl #[.pointer (some ⟨g, 0, none⟩), .int .i64 3] rfl oA ?_; (with_reducible refine (spec_l20Rd_pick.calls k g s0_0 hA 3 hC hD w0 _ ?side1 ?side2 nO.out).mono ?_); (case side1 => exact oI72 aF); (case side2 => exact oH HB (IsS72.ge aF.out)); rintro e pR ⟨rfl, hi, hb, hk⟩; refine ⟨_, rfl, ?_⟩; have n_ := o2_ (oJ hk aB aE) (o2_ (oJ hk aA aD) (o2_ (KeepBut.trans (oE HK) hk (.inl rfl)) (o2_ (hb) (o1_ (hi))))); clear aB aA HK HB aF; obtain ⟨aB, aA, HK, HB, aF⟩ := n_; (try clear hb); (try clear hb2); (try clear hk); (try clear hi)) | ((with_reducible refine gate_callee (f := 56) rfl ?_); refine goesL_ (some 19) rfl rfl Try.func56 oK rfl #[.pointer (some ⟨g, 0, none⟩), .int .i64 4] rfl oA ?_; (with_reducible refine (spec_l20Rd_pick.calls k g s0_0 hD 4 hE hF w0 _ ?side1 ?side2 nP.out).mono ?_); (case side1 => exact oI72 aF); (case side2 => exact oH HB (IsS72.ge aF.out)); rintro e pS ⟨rfl, hi, hb, hk⟩; refine ⟨_, rfl, ?_⟩; have n_ := o2_ (oJ hk aB aE) (o2_ (oJ hk aA aD) (o2_ (KeepBut.trans (oE HK) hk (.inl rfl)) (o2_ (hb) (o1_ (hi))))); clear aB aA HK HB aF; obtain ⟨aB, aA, HK, HB, aF⟩ := n_; (try clear hb); (try clear hb2); (try clear hk); (try clear hi)) | ((with_reducible refine gate_callee (f := 56) rfl ?_); refine goesL_ (some 22) rfl rfl Try.func56 oK rfl #[.pointer (some ⟨g, 0, none⟩), .int .i64 4] rfl oA ?_; (with_reducible refine (spec_l20Rd_pick.calls k g s0_0 hF 4 hG hH w0 _ ?side1 ?side2 nQ.out).mono ?_); (case side1 => exact oI72 aF); (case side2 => exact oH HB (IsS72.ge aF.out)); rintro e hT ⟨rfl, hi, hb, hk⟩; refine ⟨_, rfl, ?_⟩; have n_ := o2_ (oJ hk aB aE) (o2_ (oJ hk aA aD) (o2_ (KeepBut.trans (oE HK) hk (.inl rfl)) (o2_ (hb) (o1_ (hi))))); clear aB aA HK HB aF; obtain ⟨aB, aA, HK, HB, aF⟩ := n_; (try clear hb); (try clear hb2); (try clear hk); (try clear hi); have mF := aN.out; have mW := aM.out; have mG := aD.out; have mX := aP.out; have cJ : hT.cell? ⟨aC, 0, none⟩ = some (.int .i64 (wrap64 (1 + aQ))) := (blk_cell aA.out 0).trans rfl; have cK : hT.cell? ⟨aC, 1, none⟩ = some (.int .i64 0) := (blk_cell aA.out 1).trans rfl; have cL : hT.cell? ⟨aC, 2, none⟩ = some (.int .i64 0) := (blk_cell aA.out 2).trans rfl; have cM : hT.cell? ⟨aC, 3, none⟩ = some (.int .i64 0) := (blk_cell aA.out 3).trans rfl; have cN : hT.cell? ⟨aC, 4, none⟩ = some (.int .i64 0) := (blk_cell aA.out 4).trans rfl; have dD := blk_frozen aA.out 0; have dE := blk_frozen aA.out 1; have dF := blk_frozen aA.out 2; have dG := blk_frozen aA.out 3; have dH := blk_frozen aA.out 4))
   go_meet
   case rel => exact ⟨_, (hH), (1), (gZ), (hC), (wrap64 (1 + hE)), (wrap64 (1 + hG)), H', ⟨(by first | omega | exact Nat.le_refl _)⟩, ⟨(oP aB)⟩, ⟨(blk_put (blk_put (blk_put (blk_put (blk_put aA.out 0 _ rfl) 1 _ rfl) 2 _ rfl) 3 _ rfl) 4 _ rfl)⟩, ⟨(oI72 aF)⟩, ⟨(oE HK)⟩, ⟨(oH HB (IsS72.ge aF.out))⟩⟩
  ·rw [if_neg dW] at H
   have bB : ((wrap64 (1 + aQ)) == 1) = false := beq_eq_false_iff_ne.mpr dW
   have dX : ((wrap64 (1 + aQ)) != 1) = true := bne_iff_ne.mpr dW
   (first | rw [bB] | (simp only [i64_w, i32_w]; rw [bB]) | skip)
   by_cases dY : (wrap64 (1 + aQ)) = 7
   ·rw [if_pos dY] at H
    have dZ : ((wrap64 (1 + aQ)) == 7) = true := beq_iff_eq.mpr dY
    have eA : ((wrap64 (1 + aQ)) != 7) = false := bne_eq_false_iff_eq.mpr dY
    clear dY
    replace H := Option.bind_eq_some_iff.mp H
    obtain ⟨⟨hJ, hK⟩, eT, H⟩ := H
    (try dsimp only at H)
    have nR := Aside0.mk eT
    clear eT
    replace H := Option.bind_eq_some_iff.mp H
    obtain ⟨⟨hL, hM⟩, eU, H⟩ := H
    (try dsimp only at H)
    have nS := Aside0.mk eU
    clear eU
    have H' := Aside0.mk H
    clear H
    go_wp2_with (first | ((with_reducible refine gate_callee (f := 56) rfl ?_); refine goesL_ (some 28) rfl rfl Try.func56 oK rfl #[.pointer (some ⟨g, 0, none⟩), .int .i64 6] rfl oA ?_; (with_reducible refine (spec_l20Rd_pick.calls k g s0_0 bY 6 hJ hK w0 _ ?side1 ?side2 nR.out).mono ?_); (case side1 => exact oI72 aF); (case side2 => exact oH HB (IsS72.ge aF.out)); rintro e pT ⟨rfl, hi, hb, hk⟩; refine ⟨_, rfl, ?_⟩; have n_ := o2_ (oJ hk aB aE) (o2_ (KeepBut.blk hk (g' := aC) (o := .cells #[.int .i64 (wrap64 (1 + aQ)), .int .i64 0, .int .i64 0, .int .i64 0, .int .i64 0] 27 (0, 0)) (blk_put (blk_put (blk_put (blk_put (blk_put aA.out 0 _ rfl) 1 _ rfl) 2 _ rfl) 3 _ rfl) 4 _ rfl) aD.out (by simp)) (o2_ (KeepBut.trans (oE HK) hk (.inl rfl)) (o2_ (hb) (o1_ (hi))))); clear aB aA HK HB aF; obtain ⟨aB, aA, HK, HB, aF⟩ := n_; (try clear hb); (try clear hb2); (try clear hk); (try clear hi)) | ((with_reducible refine gate_callee (f := 56) rfl ?_); refine goesL_ (some 31) rfl rfl Try.func56 oK rfl #[.pointer (some ⟨g, 0, none⟩), .int .i64 6] rfl oA ?_; (with_reducible refine (spec_l20Rd_pick.calls k g s0_0 hK 6 hL hM w0 _ ?side1 ?side2 nS.out).mono ?_); (case side1 => exact oI72 aF); (case side2 => exact oH HB (IsS72.ge aF.out)); rintro e hU ⟨rfl, hi, hb, hk⟩; refine ⟨_, rfl, ?_⟩; have n_ := o2_ (oJ hk aB aE) (o2_ (oJ hk aA aD) (o2_ (KeepBut.trans (oE HK) hk (.inl rfl)) (o2_ (hb) (o1_ (hi))))); clear aB aA HK HB aF; obtain ⟨aB, aA, HK, HB, aF⟩ := n_; (try clear hb); (try clear hb2); (try clear hk); (try clear hi); have mH := aN.out; have mY := aM.out; have mI := aD.out; have mZ := aP.out; have cO : hU.cell? ⟨aC, 0, none⟩ = some (.int .i64 (wrap64 (1 + aQ))) := (blk_cell aA.out 0).trans rfl; have cP : hU.cell? ⟨aC, 1, none⟩ = some (.int .i64 0) := (blk_cell aA.out 1).trans rfl; have cQ : hU.cell? ⟨aC, 2, none⟩ = some (.int .i64 0) := (blk_cell aA.out 2).trans rfl; have cR : hU.cell? ⟨aC, 3, none⟩ = some (.int .i64 0) := (blk_cell aA.out 3).trans rfl; have cS : hU.cell? ⟨aC, 4, none⟩ = some (.int .i64 0) := (blk_cell aA.out 4).trans rfl; have dI := blk_frozen aA.out 0; have dJ := blk_frozen aA.out 1; have dK := blk_frozen aA.out 2; have dL := blk_frozen aA.out 3; have dM := blk_frozen aA.out 4))
    go_meet
    case rel => exact ⟨_, (hM), (7), (wrap64 (1 + hJ)), (wrap64 (1 + hL)), (0), (0), H', ⟨(by first | omega | exact Nat.le_refl _)⟩, ⟨(oP aB)⟩, ⟨(blk_put (blk_put (blk_put (blk_put (blk_put aA.out 0 _ rfl) 1 _ rfl) 2 _ rfl) 3 _ rfl) 4 _ rfl)⟩, ⟨(oI72 aF)⟩, ⟨(oE HK)⟩, ⟨(oH HB (IsS72.ge aF.out))⟩⟩
   ·rw [if_neg dY] at H
    have dZ : ((wrap64 (1 + aQ)) == 7) = false := beq_eq_false_iff_ne.mpr dY
    have eA : ((wrap64 (1 + aQ)) != 7) = true := bne_iff_ne.mpr dY
    by_cases eB : (wrap64 (1 + aQ)) = 8
    ·rw [if_pos eB] at H
     have eC : ((wrap64 (1 + aQ)) == 8) = true := beq_iff_eq.mpr eB
     have eD : ((wrap64 (1 + aQ)) != 8) = false := bne_eq_false_iff_eq.mpr eB
     clear eB
     replace H := Option.bind_eq_some_iff.mp H
     obtain ⟨⟨hN, hO⟩, eV, H⟩ := H
     (try dsimp only at H)
     have nT := Aside0.mk eV
     clear eV
     replace H := Option.bind_eq_some_iff.mp H
     obtain ⟨⟨hP, hQ⟩, eW, H⟩ := H
     (try dsimp only at H)
     have nU := Aside0.mk eW
     clear eW
     replace H := Option.bind_eq_some_iff.mp H
     obtain ⟨⟨hR, hS⟩, eX, H⟩ := H
     (try dsimp only at H)
     have nV := Aside0.mk eX
     clear eX
     have H' := Aside0.mk H
     clear H
     go_wp2_with (first | ((with_reducible refine gate_callee (f := 56) rfl ?_); refine goesL_ (some 37) rfl rfl Try.func56 oK rfl #[.pointer (some ⟨g, 0, none⟩), .int .i64 256] rfl oA ?_; (with_reducible refine (spec_l20Rd_pick.calls k g s0_0 bY 256 hN hO w0 _ ?side1 ?side2 nT.out).mono ?_); (case side1 => exact oI72 aF); (case side2 => exact oH HB (IsS72.ge aF.out)); rintro e pU ⟨rfl, hi, hb, hk⟩; refine ⟨_, rfl, ?_⟩; have n_ := o2_ (oJ hk aB aE) (o2_ (KeepBut.blk hk (g' := aC) (o := .cells #[.int .i64 (wrap64 (1 + aQ)), .int .i64 0, .int .i64 0, .int .i64 0, .int .i64 0] 27 (0, 0)) (blk_put (blk_put (blk_put (blk_put (blk_put aA.out 0 _ rfl) 1 _ rfl) 2 _ rfl) 3 _ rfl) 4 _ rfl) aD.out (by simp)) (o2_ (KeepBut.trans (oE HK) hk (.inl rfl)) (o2_ (hb) (o1_ (hi))))); clear aB aA HK HB aF; obtain ⟨aB, aA, HK, HB, aF⟩ := n_; (try clear hb); (try clear hb2); (try clear hk); (try clear hi)) | ((with_reducible refine gate_callee (f := 56) rfl ?_); refine goesL_ (some 39) rfl rfl Try.func56 oK rfl #[.pointer (some ⟨g, 0, none⟩), .int .i64 256] rfl oA ?_; (with_reducible refine (spec_l20Rd_pick.calls k g s0_0 hO 256 hP hQ w0 _ ?side1 ?side2 nU.out).mono ?_); (case side1 => exact oI72 aF); (case side2 => exact oH HB (IsS72.ge aF.out)); rintro e pV ⟨rfl, hi, hb, hk⟩; refine ⟨_, rfl, ?_⟩; have n_ := o2_ (oJ hk aB aE) (o2_ (oJ hk aA aD) (o2_ (KeepBut.trans (oE HK) hk (.inl rfl)) (o2_ (hb) (o1_ (hi))))); clear aB aA HK HB aF; obtain ⟨aB, aA, HK, HB, aF⟩ := n_; (try clear hb); (try clear hb2); (try clear hk); (try clear hi)) | ((with_reducible refine gate_callee (f := 56) rfl ?_); refine goesL_ (some 41) rfl rfl Try.func56 oK rfl #[.pointer (some ⟨g, 0, none⟩), .int .i64 256] rfl oA ?_; (with_reducible refine (spec_l20Rd_pick.calls k g s0_0 hQ 256 hR hS w0 _ ?side1 ?side2 nV.out).mono ?_); (case side1 => exact oI72 aF); (case side2 => exact oH HB (IsS72.ge aF.out)); rintro e hV ⟨rfl, hi, hb, hk⟩; refine ⟨_, rfl, ?_⟩; have n_ := o2_ (oJ hk aB aE) (o2_ (oJ hk aA aD) (o2_ (KeepBut.trans (oE HK) hk (.inl rfl)) (o2_ (hb) (o1_ (hi))))); clear aB aA HK HB aF; obtain ⟨aB, aA, HK, HB, aF⟩ := n_; (try clear hb); (try clear hb2); (try clear hk); (try clear hi); have mJ := aN.out; have nA := aM.out; have mK := aD.out; have nB := aP.out; have cT : hV.cell? ⟨aC, 0, none⟩ = some (.int .i64 (wrap64 (1 + aQ))) := (blk_cell aA.out 0).trans rfl; have cU : hV.cell? ⟨aC, 1, none⟩ = some (.int .i64 0) := (blk_cell aA.out 1).trans rfl; have cV : hV.cell? ⟨aC, 2, none⟩ = some (.int .i64 0) := (blk_cell aA.out 2).trans rfl; have cW : hV.cell? ⟨aC, 3, none⟩ = some (.int .i64 0) := (blk_cell aA.out 3).trans rfl; have cX : hV.cell? ⟨aC, 4, none⟩ = some (.int .i64 0) := (blk_cell aA.out 4).trans rfl; have dN := blk_frozen aA.out 0; have dO := blk_frozen aA.out 1; have dP := blk_frozen aA.out 2; have dQ := blk_frozen aA.out 3; have dR := blk_frozen aA.out 4))
     go_meet
     case rel => exact ⟨_, (hS), (8), (hN), (hP), (hR), (0), H', ⟨(by first | omega | exact Nat.le_refl _)⟩, ⟨(oP aB)⟩, ⟨(blk_put (blk_put (blk_put (blk_put (blk_put aA.out 0 _ rfl) 1 _ rfl) 2 _ rfl) 3 _ rfl) 4 _ rfl)⟩, ⟨(oI72 aF)⟩, ⟨(oE HK)⟩, ⟨(oH HB (IsS72.ge aF.out))⟩⟩
    ·rw [if_neg eB] at H
     have eC : ((wrap64 (1 + aQ)) == 8) = false := beq_eq_false_iff_ne.mpr eB
     have eD : ((wrap64 (1 + aQ)) != 8) = true := bne_iff_ne.mpr eB
     have H' := Aside0.mk H
     clear H
     go_wp2
     go_meet
     case rel => exact ⟨_, (bY), (wrap64 (1 + aQ)), (0), (0), (0), (0), H', ⟨(by first | omega | exact Nat.le_refl _)⟩, ⟨(oP aB)⟩, ⟨(blk_put (blk_put (blk_put (blk_put (blk_put aA.out 0 _ rfl) 1 _ rfl) 2 _ rfl) 3 _ rfl) 4 _ rfl)⟩, ⟨(oI72 aF)⟩, ⟨(oE HK)⟩, ⟨(oH HB (IsS72.ge aF.out))⟩⟩
 case rest =>
  clear kS
  try clear c1
  try clear c2
  try clear p2
  try clear c3
  try clear c4
  try clear c5
  try clear p6
  try clear c8
  try clear c9
  try clear dW
  try clear bB
  try clear dX
  try clear c20
  try clear c21
  try clear dY
  try clear dZ
  try clear eA
  try clear c28
  try clear c29
  try clear eB
  try clear eC
  try clear eD
  try clear c38
  try clear c39
  try clear cE
  try clear cF
  try clear cG
  try clear cH
  try clear cI
  try clear cJ
  try clear cK
  try clear cL
  try clear cM
  try clear cN
  try clear cO
  try clear cP
  try clear cQ
  try clear cR
  try clear cS
  try clear cT
  try clear cU
  try clear cV
  try clear cW
  try clear cX
  try clear cY
  try clear cZ
  try clear dA
  try clear dB
  try clear dC
  try clear dD
  try clear dE
  try clear dF
  try clear dG
  try clear dH
  try clear dI
  try clear dJ
  try clear dK
  try clear dL
  try clear dM
  try clear dN
  try clear dO
  try clear dP
  try clear dQ
  try clear dR
  obtain ⟨kq, aR, aH, aI, aG, aJ, aK, HA, pP, aB, aA, aF, HK, HB⟩ := hcut
  cases kq with
  | zero => exact nomatch (show none = some _ from HA.out)
  | succ kj3 =>
   have H := HA.out
   clear HA
   simp only [spec_l20Op.j0] at H
   replace H := Option.bind_eq_some_iff.mp H
   obtain ⟨⟨lJ, bC⟩, eZ, H⟩ := H
   (try dsimp only at H)
   have eY := Aside0.mk eZ
   clear eZ
   by_cases hX : lJ = true
   ·subst hX
    rw [if_pos rfl] at H
    replace H := Option.bind_eq_some_iff.mp H
    obtain ⟨⟨aS, aT⟩, fA, H⟩ := H
    (try dsimp only at H)
    have hW := Aside0.mk fA
    clear fA
    by_cases eE : aS = 0
    ·rw [if_pos eE] at H
     have fF : (aS == 0) = true := beq_iff_eq.mpr eE
     have fG : (aS != 0) = false := bne_eq_false_iff_eq.mpr eE
     clear eE
     obtain ⟨bH, hy221⟩ : ∃ y_ : List Int, y_ = (([0, 9] : List Int)) := ⟨_, rfl⟩
     replace H : ((spec_l20Rd_pick.f kj3 s0_0 aT 2).bind fun aV => (if 0 ≤ aV.1 then (if aV.1 < (bH.length : Int) then (some (rd bH aV.1, aI, aG, aJ, aK, aV.2)) else (none)) else (none))) = some (r1, r2, r3, r4, r5, r6) := by first | (rw [hy221]; with_reducible exact H) | (have H2_ := (Option.bind_some _ _).symm.trans H; rw [hy221]; with_reducible exact H2_) | (have H2_ := (Option.bind_some _ _).symm.trans H; with_reducible exact H2_) | with_reducible exact H | (rw [hy221]; exact H) | exact H
     have dS := Aside0.mk hy221
     clear hy221
     replace H := Option.bind_eq_some_iff.mp H
     obtain ⟨⟨bD, lK⟩, fB, H⟩ := H
     (try dsimp only at H)
     have nW := Aside0.mk fB
     clear fB
     by_cases hY : 0 ≤ bD
     ·rw [if_pos hY] at H
      have lX : decide (0 ≤ bD) = true := decide_eq_true hY
      clear hY
      by_cases hZ : bD < (bH.length : Int)
      ·rw [if_pos hZ] at H
       have lY : decide (bD < (bH.length : Int)) = true := decide_eq_true hZ
       clear hZ
       simp only [Option.some.injEq, Prod.mk.injEq] at H
       obtain ⟨rfl, rfl, rfl, rfl, rfl, rfl⟩ := H
       go_wp2_with (first | ((with_reducible refine gate_callee (f := 67) rfl ?_); refine goesL_ (some 45) rfl rfl Try.func67 oK rfl #[.pointer (some ⟨g, 0, none⟩), .int .i64 a1] rfl oA ?_; (with_reducible refine (spec_l20Rd_odd.calls kj3 g s0_0 aR a1 true bC w0 _ ?side1 ?side2 eY.out).mono ?_); (case side1 => exact oI72 aF); (case side2 => exact oH HB (IsS72.ge aF.out)); rintro e pW ⟨rfl, hi, hb, hk⟩; refine ⟨_, rfl, ?_⟩; have n_ := o2_ (oJ hk aB aE) (o2_ (oJ hk aA aD) (o2_ (KeepBut.trans (oE HK) hk (.inl rfl)) (o2_ (hb) (o1_ (hi))))); clear aB aA HK HB aF; obtain ⟨aB, aA, HK, HB, aF⟩ := n_; (try clear hb); (try clear hb2); (try clear hk); (try clear hi)) | ((with_reducible refine gate_callee (f := 56) rfl ?_); refine goesL_ (some 47) rfl rfl Try.func56 oK rfl #[.pointer (some ⟨g, 0, none⟩), .int .i64 4] rfl oA ?_; (with_reducible refine (spec_l20Rd_pick.calls kj3 g s0_0 bC 4 aS aT w0 _ ?side1 ?side2 hW.out).mono ?_); (case side1 => exact oI72 aF); (case side2 => exact oH HB (IsS72.ge aF.out)); rintro e pX ⟨rfl, hi, hb, hk⟩; refine ⟨_, rfl, ?_⟩; have n_ := o2_ (oJ hk aB aE) (o2_ (oJ hk aA aD) (o2_ (KeepBut.trans (oE HK) hk (.inl rfl)) (o2_ (hb) (o1_ (hi))))); clear aB aA HK HB aF; obtain ⟨aB, aA, HK, HB, aF⟩ := n_; (try clear hb); (try clear hb2); (try clear hk); (try clear hi)) | ((with_reducible refine gate_dst (N := 56) rfl ?_); refine Kd.R_lit (Kd.int .i64) _ 3 ?hg (N := 56) ?hd (xs := ([0, 9] : List Int)) (inner := [.int .i64 0, .int .i64 9]) (ok := fun _ => True) (okp := fun _ => True) ?hr ?hp (fun _ hk => hk) trivial (Below.refl _ _) (Nat.le_refl _) (by simp) ?_; (case hd => rfl); (case hg => rfl); (case hr => first | (go_simp; done) | (go_simp; rfl)); (case hp => exact (Reps.one (show Kd.M (Kd.int .i64) _ _ _ 0 [.int .i64 0] from rfl) (Reps.one (show Kd.M (Kd.int .i64) _ _ _ 9 [.int .i64 9] from rfl) (Reps.none _ _)))); intro pL pY ho51 hb hg_ hnew_; clear hg_ hnew_; (first | rw [← dS.out] at ho51 | (simp only [Int.reduceToNat] at ho51; rw [← dS.out] at ho51)); have n_ := o2_ (Kd.R_lower ho51 (keep_size (w := w) (g := g) (row := none) (oE HK))) (o2_ (blk_below (oP aB) hb) (o2_ (blk_below (oP aA) hb) (o2_ (IsS72.below (oI72 aF) hb) (o2_ (KeepBut.trans (oE HK) (KeepBut.of_below hb g none) (.inl rfl)) (o1_ (below_step (oH HB (IsS72.ge aF.out)) hb)))))); clear aB aA aF HK HB; obtain ⟨bL, aB, aA, aF, HK, HB⟩ := n_; clear hb ho51) | ((with_reducible refine gate_callee (f := 56) rfl ?_); refine goesL_ (some 58) rfl rfl Try.func56 oK rfl #[.pointer (some ⟨g, 0, none⟩), .int .i64 2] rfl oA ?_; (with_reducible refine (spec_l20Rd_pick.calls kj3 g s0_0 aT 2 bD lK w0 _ ?side1 ?side2 nW.out).mono ?_); (case side1 => exact oI72 aF); (case side2 => exact oH HB (IsS72.ge aF.out)); rintro e cA ⟨rfl, hi, hb, hk⟩; refine ⟨_, rfl, ?_⟩; have n_ := o2_ (oJ hk aB aE) (o2_ (oJ hk aA aD) (o2_ (Kd.R_mono (Kd.R_keep (IsS72.apart (show IsS72 w0 _ g s0_0 aT from oI72 aF) (oR bL) oD) hk (fun _ h => h.2)) (fun _ h => h.1)) (o2_ (KeepBut.trans (oE HK) hk (.inl rfl)) (o2_ (hb) (o1_ (hi)))))); clear aB aA bL HK HB aF; obtain ⟨aB, aA, bL, HK, HB, aF⟩ := n_; (try clear hb); (try clear hb2); (try clear hk); (try clear hi); obtain ⟨oO, pD, kX⟩ := Kd.R_slice bL.out; subst kX; have eH : 0 ≤ (bD : Int) := of_decide_eq_true oM; have eL : bD < (bH.length : Int) := of_decide_eq_true oM; obtain ⟨lT, kT, kO⟩ := Kd.at_int (Kd.R_reads' bL.out).2.2 bD eH eL; cases kT; replace eH := eq_true eH; replace eL := eq_true eL; have mL := aN.out; have nC := aM.out; have mM := aD.out; have nD := aP.out; have iG : cA.cell? ⟨aC, 0, none⟩ = some (.int .i64 aH) := (blk_cell aA.out 0).trans rfl; have iH : cA.cell? ⟨aC, 1, none⟩ = some (.int .i64 aI) := (blk_cell aA.out 1).trans rfl; have iI : cA.cell? ⟨aC, 2, none⟩ = some (.int .i64 aG) := (blk_cell aA.out 2).trans rfl; have iJ : cA.cell? ⟨aC, 3, none⟩ = some (.int .i64 aJ) := (blk_cell aA.out 3).trans rfl; have iK : cA.cell? ⟨aC, 4, none⟩ = some (.int .i64 aK) := (blk_cell aA.out 4).trans rfl; have jK := blk_frozen aA.out 0; have jL := blk_frozen aA.out 1; have jM := blk_frozen aA.out 2; have jN := blk_frozen aA.out 3; have jO := blk_frozen aA.out 4; have mN := aE.out; have nE := aU.out; have iL : cA.cell? ⟨aL, 0, none⟩ = some (.int .i64 0) := (blk_cell aB.out 0).trans rfl; have iM : cA.cell? ⟨aL, 1, none⟩ = some (.int .i64 0) := (blk_cell aB.out 1).trans rfl; have iN : cA.cell? ⟨aL, 2, none⟩ = some (.int .i64 0) := (blk_cell aB.out 2).trans rfl; have iO : cA.cell? ⟨aL, 3, none⟩ = some (.int .i64 0) := (blk_cell aB.out 3).trans rfl; have iP : cA.cell? ⟨aL, 4, none⟩ = some (.int .i64 0) := (blk_cell aB.out 4).trans rfl; have jP := blk_frozen aB.out 0; have jQ := blk_frozen aB.out 1; have jR := blk_frozen aB.out 2; have jS := blk_frozen aB.out 3; have jT := blk_frozen aB.out 4))
       refine bodyPost_ret (results_cell_row rfl _ _ aL 27 #[.int .i64 (rd bH bD), .int .i64 aI, .int .i64 aG, .int .i64 aJ, .int .i64 aK] (0, 0) _ rfl (blk_put (blk_put (blk_put (blk_put (blk_put (oP aB) 0 _ rfl) 1 _ rfl) 2 _ rfl) 3 _ rfl) 4 _ rfl) Try.underlying27 rfl oK) rfl ?_
       exact ⟨by first | rfl | (simp [errW_none, errW_some] <;> rfl) | (simp [*, errW_none, errW_some] <;> rfl), oI72 aF, oH HB (IsS72.ge aF.out), oE HK⟩
      ·rw [if_neg hZ] at H
       exact absurd H (by simp)
     ·rw [if_neg hY] at H
      exact absurd H (by simp)
    ·rw [if_neg eE] at H
     have fF : (aS == 0) = false := beq_eq_false_iff_ne.mpr eE
     have fG : (aS != 0) = true := bne_iff_ne.mpr eE
     by_cases eF : aS = 1
     ·rw [if_pos eF] at H
      have fH : (aS == 1) = true := beq_iff_eq.mpr eF
      have fI : (aS != 1) = false := bne_eq_false_iff_eq.mpr eF
      clear eF
      obtain ⟨bI, hy227⟩ : ∃ y_ : List Int, y_ = (([(-1), 256] : List Int)) := ⟨_, rfl⟩
      replace H : ((spec_l20Rd_pick.f kj3 s0_0 aT 2).bind fun aW => (if 0 ≤ aW.1 then (if aW.1 < (bI.length : Int) then (some (aH, rd bI aW.1, aG, aJ, aK, aW.2)) else (none)) else (none))) = some (r1, r2, r3, r4, r5, r6) := by first | (rw [hy227]; with_reducible exact H) | (have H2_ := (Option.bind_some _ _).symm.trans H; rw [hy227]; with_reducible exact H2_) | (have H2_ := (Option.bind_some _ _).symm.trans H; with_reducible exact H2_) | with_reducible exact H | (rw [hy227]; exact H) | exact H
      have dT := Aside0.mk hy227
      clear hy227
      replace H := Option.bind_eq_some_iff.mp H
      obtain ⟨⟨bE, lL⟩, fC, H⟩ := H
      (try dsimp only at H)
      have nX := Aside0.mk fC
      clear fC
      by_cases iA : 0 ≤ bE
      ·rw [if_pos iA] at H
       have lZ : decide (0 ≤ bE) = true := decide_eq_true iA
       clear iA
       by_cases iB : bE < (bI.length : Int)
       ·rw [if_pos iB] at H
        have mA : decide (bE < (bI.length : Int)) = true := decide_eq_true iB
        clear iB
        simp only [Option.some.injEq, Prod.mk.injEq] at H
        obtain ⟨rfl, rfl, rfl, rfl, rfl, rfl⟩ := H
        go_wp2_with (first | ((with_reducible refine gate_callee (f := 67) rfl ?_); refine goesL_ (some 45) rfl rfl Try.func67 oK rfl #[.pointer (some ⟨g, 0, none⟩), .int .i64 a1] rfl oA ?_; (with_reducible refine (spec_l20Rd_odd.calls kj3 g s0_0 aR a1 true bC w0 _ ?side1 ?side2 eY.out).mono ?_); (case side1 => exact oI72 aF); (case side2 => exact oH HB (IsS72.ge aF.out)); rintro e pZ ⟨rfl, hi, hb, hk⟩; refine ⟨_, rfl, ?_⟩; have n_ := o2_ (oJ hk aB aE) (o2_ (oJ hk aA aD) (o2_ (KeepBut.trans (oE HK) hk (.inl rfl)) (o2_ (hb) (o1_ (hi))))); clear aB aA HK HB aF; obtain ⟨aB, aA, HK, HB, aF⟩ := n_; (try clear hb); (try clear hb2); (try clear hk); (try clear hi)) | ((with_reducible refine gate_callee (f := 56) rfl ?_); refine goesL_ (some 47) rfl rfl Try.func56 oK rfl #[.pointer (some ⟨g, 0, none⟩), .int .i64 4] rfl oA ?_; (with_reducible refine (spec_l20Rd_pick.calls kj3 g s0_0 bC 4 aS aT w0 _ ?side1 ?side2 hW.out).mono ?_); (case side1 => exact oI72 aF); (case side2 => exact oH HB (IsS72.ge aF.out)); rintro e qA ⟨rfl, hi, hb, hk⟩; refine ⟨_, rfl, ?_⟩; have n_ := o2_ (oJ hk aB aE) (o2_ (oJ hk aA aD) (o2_ (KeepBut.trans (oE HK) hk (.inl rfl)) (o2_ (hb) (o1_ (hi))))); clear aB aA HK HB aF; obtain ⟨aB, aA, HK, HB, aF⟩ := n_; (try clear hb); (try clear hb2); (try clear hk); (try clear hi)) | ((with_reducible refine gate_dst (N := 64) rfl ?_); refine Kd.R_lit (Kd.int .i64) _ 3 ?hg (N := 64) ?hd (xs := ([(-1), 256] : List Int)) (inner := [.int .i64 (-1), .int .i64 256]) (ok := fun _ => True) (okp := fun _ => True) ?hr ?hp (fun _ hk => hk) trivial (Below.refl _ _) (Nat.le_refl _) (by simp) ?_; (case hd => rfl); (case hg => rfl); (case hr => first | (go_simp; done) | (go_simp; rfl)); (case hp => exact (Reps.one (show Kd.M (Kd.int .i64) _ _ _ (-1) [.int .i64 (-1)] from rfl) (Reps.one (show Kd.M (Kd.int .i64) _ _ _ 256 [.int .i64 256] from rfl) (Reps.none _ _)))); intro pM qB ho66 hb hg_ hnew_; clear hg_ hnew_; (first | rw [← dT.out] at ho66 | (simp only [Int.reduceToNat] at ho66; rw [← dT.out] at ho66)); have n_ := o2_ (Kd.R_lower ho66 (keep_size (w := w) (g := g) (row := none) (oE HK))) (o2_ (blk_below (oP aB) hb) (o2_ (blk_below (oP aA) hb) (o2_ (IsS72.below (oI72 aF) hb) (o2_ (KeepBut.trans (oE HK) (KeepBut.of_below hb g none) (.inl rfl)) (o1_ (below_step (oH HB (IsS72.ge aF.out)) hb)))))); clear aB aA aF HK HB; obtain ⟨bM, aB, aA, aF, HK, HB⟩ := n_; clear hb ho66) | ((with_reducible refine gate_callee (f := 56) rfl ?_); refine goesL_ (some 66) rfl rfl Try.func56 oK rfl #[.pointer (some ⟨g, 0, none⟩), .int .i64 2] rfl oA ?_; (with_reducible refine (spec_l20Rd_pick.calls kj3 g s0_0 aT 2 bE lL w0 _ ?side1 ?side2 nX.out).mono ?_); (case side1 => exact oI72 aF); (case side2 => exact oH HB (IsS72.ge aF.out)); rintro e cB ⟨rfl, hi, hb, hk⟩; refine ⟨_, rfl, ?_⟩; have n_ := o2_ (oJ hk aB aE) (o2_ (oJ hk aA aD) (o2_ (Kd.R_mono (Kd.R_keep (IsS72.apart (show IsS72 w0 _ g s0_0 aT from oI72 aF) (oR bM) oD) hk (fun _ h => h.2)) (fun _ h => h.1)) (o2_ (KeepBut.trans (oE HK) hk (.inl rfl)) (o2_ (hb) (o1_ (hi)))))); clear aB aA bM HK HB aF; obtain ⟨aB, aA, bM, HK, HB, aF⟩ := n_; (try clear hb); (try clear hb2); (try clear hk); (try clear hi); obtain ⟨pA, pE, kY⟩ := Kd.R_slice bM.out; subst kY; have eI : 0 ≤ (bE : Int) := of_decide_eq_true oM; have eM : bE < (bI.length : Int) := of_decide_eq_true oM; obtain ⟨lU, kU, kP⟩ := Kd.at_int (Kd.R_reads' bM.out).2.2 bE eI eM; cases kU; replace eI := eq_true eI; replace eM := eq_true eM; have mO := aN.out; have nF := aM.out; have mP := aD.out; have nG := aP.out; have iQ : cB.cell? ⟨aC, 0, none⟩ = some (.int .i64 aH) := (blk_cell aA.out 0).trans rfl; have iR : cB.cell? ⟨aC, 1, none⟩ = some (.int .i64 aI) := (blk_cell aA.out 1).trans rfl; have iS : cB.cell? ⟨aC, 2, none⟩ = some (.int .i64 aG) := (blk_cell aA.out 2).trans rfl; have iT : cB.cell? ⟨aC, 3, none⟩ = some (.int .i64 aJ) := (blk_cell aA.out 3).trans rfl; have iU : cB.cell? ⟨aC, 4, none⟩ = some (.int .i64 aK) := (blk_cell aA.out 4).trans rfl; have jU := blk_frozen aA.out 0; have jV := blk_frozen aA.out 1; have jW := blk_frozen aA.out 2; have jX := blk_frozen aA.out 3; have jY := blk_frozen aA.out 4; have mQ := aE.out; have nH := aU.out; have iV : cB.cell? ⟨aL, 0, none⟩ = some (.int .i64 0) := (blk_cell aB.out 0).trans rfl; have iW : cB.cell? ⟨aL, 1, none⟩ = some (.int .i64 0) := (blk_cell aB.out 1).trans rfl; have iX : cB.cell? ⟨aL, 2, none⟩ = some (.int .i64 0) := (blk_cell aB.out 2).trans rfl; have iY : cB.cell? ⟨aL, 3, none⟩ = some (.int .i64 0) := (blk_cell aB.out 3).trans rfl; have iZ : cB.cell? ⟨aL, 4, none⟩ = some (.int .i64 0) := (blk_cell aB.out 4).trans rfl; have jZ := blk_frozen aB.out 0; have kA := blk_frozen aB.out 1; have kB := blk_frozen aB.out 2; have kC := blk_frozen aB.out 3; have kD := blk_frozen aB.out 4))
        refine bodyPost_ret (results_cell_row rfl _ _ aL 27 #[.int .i64 aH, .int .i64 (rd bI bE), .int .i64 aG, .int .i64 aJ, .int .i64 aK] (0, 0) _ rfl (blk_put (blk_put (blk_put (blk_put (blk_put (oP aB) 0 _ rfl) 1 _ rfl) 2 _ rfl) 3 _ rfl) 4 _ rfl) Try.underlying27 rfl oK) rfl ?_
        exact ⟨by first | rfl | (simp [errW_none, errW_some] <;> rfl) | (simp [*, errW_none, errW_some] <;> rfl), oI72 aF, oH HB (IsS72.ge aF.out), oE HK⟩
       ·rw [if_neg iB] at H
        exact absurd H (by simp)
      ·rw [if_neg iA] at H
       exact absurd H (by simp)
     ·rw [if_neg eF] at H
      have fH : (aS == 1) = false := beq_eq_false_iff_ne.mpr eF
      have fI : (aS != 1) = true := bne_iff_ne.mpr eF
      by_cases eG : aS = 2
      ·rw [if_pos eG] at H
       have fJ : (aS == 2) = true := beq_iff_eq.mpr eG
       have fK : (aS != 2) = false := bne_eq_false_iff_eq.mpr eG
       clear eG
       obtain ⟨bJ, hy233⟩ : ∃ y_ : List Int, y_ = (([(-1), 256] : List Int)) := ⟨_, rfl⟩
       replace H : ((spec_l20Rd_pick.f kj3 s0_0 aT 2).bind fun aX => (if 0 ≤ aX.1 then (if aX.1 < (bJ.length : Int) then (some (aH, aI, aG, rd bJ aX.1, aK, aX.2)) else (none)) else (none))) = some (r1, r2, r3, r4, r5, r6) := by first | (rw [hy233]; with_reducible exact H) | (have H2_ := (Option.bind_some _ _).symm.trans H; rw [hy233]; with_reducible exact H2_) | (have H2_ := (Option.bind_some _ _).symm.trans H; with_reducible exact H2_) | with_reducible exact H | (rw [hy233]; exact H) | exact H
       have dU := Aside0.mk hy233
       clear hy233
       replace H := Option.bind_eq_some_iff.mp H
       obtain ⟨⟨bF, lM⟩, fD, H⟩ := H
       (try dsimp only at H)
       have nY := Aside0.mk fD
       clear fD
       by_cases iC : 0 ≤ bF
       ·rw [if_pos iC] at H
        have mB : decide (0 ≤ bF) = true := decide_eq_true iC
        clear iC
        by_cases iD : bF < (bJ.length : Int)
        ·rw [if_pos iD] at H
         have mC : decide (bF < (bJ.length : Int)) = true := decide_eq_true iD
         clear iD
         simp only [Option.some.injEq, Prod.mk.injEq] at H
         obtain ⟨rfl, rfl, rfl, rfl, rfl, rfl⟩ := H
         go_wp2_with (first | ((with_reducible refine gate_callee (f := 67) rfl ?_); refine goesL_ (some 45) rfl rfl Try.func67 oK rfl #[.pointer (some ⟨g, 0, none⟩), .int .i64 a1] rfl oA ?_; (with_reducible refine (spec_l20Rd_odd.calls kj3 g s0_0 aR a1 true bC w0 _ ?side1 ?side2 eY.out).mono ?_); (case side1 => exact oI72 aF); (case side2 => exact oH HB (IsS72.ge aF.out)); rintro e qC ⟨rfl, hi, hb, hk⟩; refine ⟨_, rfl, ?_⟩; have n_ := o2_ (oJ hk aB aE) (o2_ (oJ hk aA aD) (o2_ (KeepBut.trans (oE HK) hk (.inl rfl)) (o2_ (hb) (o1_ (hi))))); clear aB aA HK HB aF; obtain ⟨aB, aA, HK, HB, aF⟩ := n_; (try clear hb); (try clear hb2); (try clear hk); (try clear hi)) | ((with_reducible refine gate_callee (f := 56) rfl ?_); refine goesL_ (some 47) rfl rfl Try.func56 oK rfl #[.pointer (some ⟨g, 0, none⟩), .int .i64 4] rfl oA ?_; (with_reducible refine (spec_l20Rd_pick.calls kj3 g s0_0 bC 4 aS aT w0 _ ?side1 ?side2 hW.out).mono ?_); (case side1 => exact oI72 aF); (case side2 => exact oH HB (IsS72.ge aF.out)); rintro e qD ⟨rfl, hi, hb, hk⟩; refine ⟨_, rfl, ?_⟩; have n_ := o2_ (oJ hk aB aE) (o2_ (oJ hk aA aD) (o2_ (KeepBut.trans (oE HK) hk (.inl rfl)) (o2_ (hb) (o1_ (hi))))); clear aB aA HK HB aF; obtain ⟨aB, aA, HK, HB, aF⟩ := n_; (try clear hb); (try clear hb2); (try clear hk); (try clear hi)) | ((with_reducible refine gate_dst (N := 72) rfl ?_); refine Kd.R_lit (Kd.int .i64) _ 3 ?hg (N := 72) ?hd (xs := ([(-1), 256] : List Int)) (inner := [.int .i64 (-1), .int .i64 256]) (ok := fun _ => True) (okp := fun _ => True) ?hr ?hp (fun _ hk => hk) trivial (Below.refl _ _) (Nat.le_refl _) (by simp) ?_; (case hd => rfl); (case hg => rfl); (case hr => first | (go_simp; done) | (go_simp; rfl)); (case hp => exact (Reps.one (show Kd.M (Kd.int .i64) _ _ _ (-1) [.int .i64 (-1)] from rfl) (Reps.one (show Kd.M (Kd.int .i64) _ _ _ 256 [.int .i64 256] from rfl) (Reps.none _ _)))); intro pN qE ho81 hb hg_ hnew_; clear hg_ hnew_; (first | rw [← dU.out] at ho81 | (simp only [Int.reduceToNat] at ho81; rw [← dU.out] at ho81)); have n_ := o2_ (Kd.R_lower ho81 (keep_size (w := w) (g := g) (row := none) (oE HK))) (o2_ (blk_below (oP aB) hb) (o2_ (blk_below (oP aA) hb) (o2_ (IsS72.below (oI72 aF) hb) (o2_ (KeepBut.trans (oE HK) (KeepBut.of_below hb g none) (.inl rfl)) (o1_ (below_step (oH HB (IsS72.ge aF.out)) hb)))))); clear aB aA aF HK HB; obtain ⟨bN, aB, aA, aF, HK, HB⟩ := n_; clear hb ho81) | ((with_reducible refine gate_callee (f := 56) rfl ?_); refine goesL_ (some 74) rfl rfl Try.func56 oK rfl #[.pointer (some ⟨g, 0, none⟩), .int .i64 2] rfl oA ?_; (with_reducible refine (spec_l20Rd_pick.calls kj3 g s0_0 aT 2 bF lM w0 _ ?side1 ?side2 nY.out).mono ?_); (case side1 => exact oI72 aF); (case side2 => exact oH HB (IsS72.ge aF.out)); rintro e cC ⟨rfl, hi, hb, hk⟩; refine ⟨_, rfl, ?_⟩; have n_ := o2_ (oJ hk aB aE) (o2_ (oJ hk aA aD) (o2_ (Kd.R_mono (Kd.R_keep (IsS72.apart (show IsS72 w0 _ g s0_0 aT from oI72 aF) (oR bN) oD) hk (fun _ h => h.2)) (fun _ h => h.1)) (o2_ (KeepBut.trans (oE HK) hk (.inl rfl)) (o2_ (hb) (o1_ (hi)))))); clear aB aA bN HK HB aF; obtain ⟨aB, aA, bN, HK, HB, aF⟩ := n_; (try clear hb); (try clear hb2); (try clear hk); (try clear hi); obtain ⟨pB, pF, kZ⟩ := Kd.R_slice bN.out; subst kZ; have eJ : 0 ≤ (bF : Int) := of_decide_eq_true oM; have eN : bF < (bJ.length : Int) := of_decide_eq_true oM; obtain ⟨lV, kV, kQ⟩ := Kd.at_int (Kd.R_reads' bN.out).2.2 bF eJ eN; cases kV; replace eJ := eq_true eJ; replace eN := eq_true eN; have mR := aN.out; have nI := aM.out; have mS := aD.out; have nJ := aP.out; have jA : cC.cell? ⟨aC, 0, none⟩ = some (.int .i64 aH) := (blk_cell aA.out 0).trans rfl; have jB : cC.cell? ⟨aC, 1, none⟩ = some (.int .i64 aI) := (blk_cell aA.out 1).trans rfl; have jC : cC.cell? ⟨aC, 2, none⟩ = some (.int .i64 aG) := (blk_cell aA.out 2).trans rfl; have jD : cC.cell? ⟨aC, 3, none⟩ = some (.int .i64 aJ) := (blk_cell aA.out 3).trans rfl; have jE : cC.cell? ⟨aC, 4, none⟩ = some (.int .i64 aK) := (blk_cell aA.out 4).trans rfl; have kE := blk_frozen aA.out 0; have kF := blk_frozen aA.out 1; have kG := blk_frozen aA.out 2; have kH := blk_frozen aA.out 3; have kI := blk_frozen aA.out 4; have mT := aE.out; have nK := aU.out; have jF : cC.cell? ⟨aL, 0, none⟩ = some (.int .i64 0) := (blk_cell aB.out 0).trans rfl; have jG : cC.cell? ⟨aL, 1, none⟩ = some (.int .i64 0) := (blk_cell aB.out 1).trans rfl; have jH : cC.cell? ⟨aL, 2, none⟩ = some (.int .i64 0) := (blk_cell aB.out 2).trans rfl; have jI : cC.cell? ⟨aL, 3, none⟩ = some (.int .i64 0) := (blk_cell aB.out 3).trans rfl; have jJ : cC.cell? ⟨aL, 4, none⟩ = some (.int .i64 0) := (blk_cell aB.out 4).trans rfl; have kJ := blk_frozen aB.out 0; have kK := blk_frozen aB.out 1; have kL := blk_frozen aB.out 2; have kM := blk_frozen aB.out 3; have kN := blk_frozen aB.out 4))
         refine bodyPost_ret (results_cell_row rfl _ _ aL 27 #[.int .i64 aH, .int .i64 aI, .int .i64 aG, .int .i64 (rd bJ bF), .int .i64 aK] (0, 0) _ rfl (blk_put (blk_put (blk_put (blk_put (blk_put (oP aB) 0 _ rfl) 1 _ rfl) 2 _ rfl) 3 _ rfl) 4 _ rfl) Try.underlying27 rfl oK) rfl ?_
         exact ⟨by first | rfl | (simp [errW_none, errW_some] <;> rfl) | (simp [*, errW_none, errW_some] <;> rfl), oI72 aF, oH HB (IsS72.ge aF.out), oE HK⟩
        ·rw [if_neg iD] at H
         exact absurd H (by simp)
       ·rw [if_neg iC] at H
        exact absurd H (by simp)
      ·rw [if_neg eG] at H
       have fJ : (aS == 2) = false := beq_eq_false_iff_ne.mpr eG
       have fK : (aS != 2) = true := bne_iff_ne.mpr eG
       obtain ⟨bK, hy239⟩ : ∃ y_ : List Int, y_ = (([1, 7] : List Int)) := ⟨_, rfl⟩
       replace H : ((spec_l20Rd_pick.f kj3 s0_0 aT 2).bind fun aY => (if 0 ≤ aY.1 then (if aY.1 < (bK.length : Int) then (some (aH, aI, aG, aJ, rd bK aY.1, aY.2)) else (none)) else (none))) = some (r1, r2, r3, r4, r5, r6) := by first | (rw [hy239]; with_reducible exact H) | (have H2_ := (Option.bind_some _ _).symm.trans H; rw [hy239]; with_reducible exact H2_) | (have H2_ := (Option.bind_some _ _).symm.trans H; with_reducible exact H2_) | with_reducible exact H | (rw [hy239]; exact H) | exact H
       have dV := Aside0.mk hy239
       clear hy239
       replace H := Option.bind_eq_some_iff.mp H
       obtain ⟨⟨bG, lN⟩, fE, H⟩ := H
       (try dsimp only at H)
       have nZ := Aside0.mk fE
       clear fE
       by_cases iE : 0 ≤ bG
       ·rw [if_pos iE] at H
        have mD : decide (0 ≤ bG) = true := decide_eq_true iE
        clear iE
        by_cases iF : bG < (bK.length : Int)
        ·rw [if_pos iF] at H
         have mE : decide (bG < (bK.length : Int)) = true := decide_eq_true iF
         clear iF
         simp only [Option.some.injEq, Prod.mk.injEq] at H
         obtain ⟨rfl, rfl, rfl, rfl, rfl, rfl⟩ := H
         go_wp2_with (first | ((with_reducible refine gate_callee (f := 67) rfl ?_); refine goesL_ (some 45) rfl rfl Try.func67 oK rfl #[.pointer (some ⟨g, 0, none⟩), .int .i64 a1] rfl oA ?_; (with_reducible refine (spec_l20Rd_odd.calls kj3 g s0_0 aR a1 true bC w0 _ ?side1 ?side2 eY.out).mono ?_); (case side1 => exact oI72 aF); (case side2 => exact oH HB (IsS72.ge aF.out)); rintro e qF ⟨rfl, hi, hb, hk⟩; refine ⟨_, rfl, ?_⟩; have n_ := o2_ (oJ hk aB aE) (o2_ (oJ hk aA aD) (o2_ (KeepBut.trans (oE HK) hk (.inl rfl)) (o2_ (hb) (o1_ (hi))))); clear aB aA HK HB aF; obtain ⟨aB, aA, HK, HB, aF⟩ := n_; (try clear hb); (try clear hb2); (try clear hk); (try clear hi)) | ((with_reducible refine gate_callee (f := 56) rfl ?_); refine goesL_ (some 47) rfl rfl Try.func56 oK rfl #[.pointer (some ⟨g, 0, none⟩), .int .i64 4] rfl oA ?_; (with_reducible refine (spec_l20Rd_pick.calls kj3 g s0_0 bC 4 aS aT w0 _ ?side1 ?side2 hW.out).mono ?_); (case side1 => exact oI72 aF); (case side2 => exact oH HB (IsS72.ge aF.out)); rintro e qG ⟨rfl, hi, hb, hk⟩; refine ⟨_, rfl, ?_⟩; have n_ := o2_ (oJ hk aB aE) (o2_ (oJ hk aA aD) (o2_ (KeepBut.trans (oE HK) hk (.inl rfl)) (o2_ (hb) (o1_ (hi))))); clear aB aA HK HB aF; obtain ⟨aB, aA, HK, HB, aF⟩ := n_; (try clear hb); (try clear hb2); (try clear hk); (try clear hi)) | ((with_reducible refine gate_dst (N := 48) rfl ?_); refine Kd.R_lit (Kd.int .i64) _ 3 ?hg (N := 48) ?hd (xs := ([1, 7] : List Int)) (inner := [.int .i64 1, .int .i64 7]) (ok := fun _ => True) (okp := fun _ => True) ?hr ?hp (fun _ hk => hk) trivial (Below.refl _ _) (Nat.le_refl _) (by simp) ?_; (case hd => rfl); (case hg => rfl); (case hr => first | (go_simp; done) | (go_simp; rfl)); (case hp => exact (Reps.one (show Kd.M (Kd.int .i64) _ _ _ 1 [.int .i64 1] from rfl) (Reps.one (show Kd.M (Kd.int .i64) _ _ _ 7 [.int .i64 7] from rfl) (Reps.none _ _)))); intro pO qH ho95 hb hg_ hnew_; clear hg_ hnew_; (first | rw [← dV.out] at ho95 | (simp only [Int.reduceToNat] at ho95; rw [← dV.out] at ho95)); have n_ := o2_ (Kd.R_lower ho95 (keep_size (w := w) (g := g) (row := none) (oE HK))) (o2_ (blk_below (oP aB) hb) (o2_ (blk_below (oP aA) hb) (o2_ (IsS72.below (oI72 aF) hb) (o2_ (KeepBut.trans (oE HK) (KeepBut.of_below hb g none) (.inl rfl)) (o1_ (below_step (oH HB (IsS72.ge aF.out)) hb)))))); clear aB aA aF HK HB; obtain ⟨bO, aB, aA, aF, HK, HB⟩ := n_; clear hb ho95) | ((with_reducible refine gate_callee (f := 56) rfl ?_); refine goesL_ (some 50) rfl rfl Try.func56 oK rfl #[.pointer (some ⟨g, 0, none⟩), .int .i64 2] rfl oA ?_; (with_reducible refine (spec_l20Rd_pick.calls kj3 g s0_0 aT 2 bG lN w0 _ ?side1 ?side2 nZ.out).mono ?_); (case side1 => exact oI72 aF); (case side2 => exact oH HB (IsS72.ge aF.out)); rintro e cD ⟨rfl, hi, hb, hk⟩; refine ⟨_, rfl, ?_⟩; have n_ := o2_ (oJ hk aB aE) (o2_ (oJ hk aA aD) (o2_ (Kd.R_mono (Kd.R_keep (IsS72.apart (show IsS72 w0 _ g s0_0 aT from oI72 aF) (oR bO) oD) hk (fun _ h => h.2)) (fun _ h => h.1)) (o2_ (KeepBut.trans (oE HK) hk (.inl rfl)) (o2_ (hb) (o1_ (hi)))))); clear aB aA bO HK HB aF; obtain ⟨aB, aA, bO, HK, HB, aF⟩ := n_; (try clear hb); (try clear hb2); (try clear hk); (try clear hi); obtain ⟨pC, pG, lA⟩ := Kd.R_slice bO.out; subst lA; have eK : 0 ≤ (bG : Int) := of_decide_eq_true oM; have eO : bG < (bK.length : Int) := of_decide_eq_true oM; obtain ⟨lW, kW, kR⟩ := Kd.at_int (Kd.R_reads' bO.out).2.2 bG eK eO; cases kW; replace eK := eq_true eK; replace eO := eq_true eO; have mU := aN.out; have nL := aM.out; have mV := aD.out; have nM := aP.out; have fL : cD.cell? ⟨aC, 0, none⟩ = some (.int .i64 aH) := (blk_cell aA.out 0).trans rfl; have fM : cD.cell? ⟨aC, 1, none⟩ = some (.int .i64 aI) := (blk_cell aA.out 1).trans rfl; have fN : cD.cell? ⟨aC, 2, none⟩ = some (.int .i64 aG) := (blk_cell aA.out 2).trans rfl; have fO : cD.cell? ⟨aC, 3, none⟩ = some (.int .i64 aJ) := (blk_cell aA.out 3).trans rfl; have fP : cD.cell? ⟨aC, 4, none⟩ = some (.int .i64 aK) := (blk_cell aA.out 4).trans rfl; have gF := blk_frozen aA.out 0; have gG := blk_frozen aA.out 1; have gH := blk_frozen aA.out 2; have gI := blk_frozen aA.out 3; have gJ := blk_frozen aA.out 4; have lB := aE.out; have lF := aU.out; have fQ : cD.cell? ⟨aL, 0, none⟩ = some (.int .i64 0) := (blk_cell aB.out 0).trans rfl; have fR : cD.cell? ⟨aL, 1, none⟩ = some (.int .i64 0) := (blk_cell aB.out 1).trans rfl; have fS : cD.cell? ⟨aL, 2, none⟩ = some (.int .i64 0) := (blk_cell aB.out 2).trans rfl; have fT : cD.cell? ⟨aL, 3, none⟩ = some (.int .i64 0) := (blk_cell aB.out 3).trans rfl; have fU : cD.cell? ⟨aL, 4, none⟩ = some (.int .i64 0) := (blk_cell aB.out 4).trans rfl; have gK := blk_frozen aB.out 0; have gL := blk_frozen aB.out 1; have gM := blk_frozen aB.out 2; have gN := blk_frozen aB.out 3; have gO := blk_frozen aB.out 4))
         refine bodyPost_ret (results_cell_row rfl _ _ aL 27 #[.int .i64 aH, .int .i64 aI, .int .i64 aG, .int .i64 aJ, .int .i64 (rd bK bG)] (0, 0) _ rfl (blk_put (blk_put (blk_put (blk_put (blk_put (oP aB) 0 _ rfl) 1 _ rfl) 2 _ rfl) 3 _ rfl) 4 _ rfl) Try.underlying27 rfl oK) rfl ?_
         exact ⟨by first | rfl | (simp [errW_none, errW_some] <;> rfl) | (simp [*, errW_none, errW_some] <;> rfl), oI72 aF, oH HB (IsS72.ge aF.out), oE HK⟩
        ·rw [if_neg iF] at H
         exact absurd H (by simp)
       ·rw [if_neg iE] at H
        exact absurd H (by simp)
   ·replace hX := Bool.eq_false_iff.mpr hX
    subst hX
    rw [if_neg (show ¬ (false = true) by decide)] at H
    simp only [Option.some.injEq, Prod.mk.injEq] at H
    obtain ⟨rfl, rfl, rfl, rfl, rfl, rfl⟩ := H
    go_wp2_with (first | ((with_reducible refine gate_callee (f := 67) rfl ?_); refine goesL_ (some 45) rfl rfl Try.func67 oK rfl #[.pointer (some ⟨g, 0, none⟩), .int .i64 a1] rfl oA ?_; (with_reducible refine (spec_l20Rd_odd.calls kj3 g s0_0 aR a1 false bC w0 _ ?side1 ?side2 eY.out).mono ?_); (case side1 => exact oI72 aF); (case side2 => exact oH HB (IsS72.ge aF.out)); rintro e bA ⟨rfl, hi, hb, hk⟩; refine ⟨_, rfl, ?_⟩; have n_ := o2_ (oJ hk aB aE) (o2_ (oJ hk aA aD) (o2_ (KeepBut.trans (oE HK) hk (.inl rfl)) (o2_ (hb) (o1_ (hi))))); clear aB aA HK HB aF; obtain ⟨aB, aA, HK, HB, aF⟩ := n_; (try clear hb); (try clear hb2); (try clear hk); (try clear hi); have lC := aN.out; have lG := aM.out; have lD := aD.out; have lH := aP.out; have fV : bA.cell? ⟨aC, 0, none⟩ = some (.int .i64 aH) := (blk_cell aA.out 0).trans rfl; have fW : bA.cell? ⟨aC, 1, none⟩ = some (.int .i64 aI) := (blk_cell aA.out 1).trans rfl; have fX : bA.cell? ⟨aC, 2, none⟩ = some (.int .i64 aG) := (blk_cell aA.out 2).trans rfl; have fY : bA.cell? ⟨aC, 3, none⟩ = some (.int .i64 aJ) := (blk_cell aA.out 3).trans rfl; have fZ : bA.cell? ⟨aC, 4, none⟩ = some (.int .i64 aK) := (blk_cell aA.out 4).trans rfl; have gP := blk_frozen aA.out 0; have gQ := blk_frozen aA.out 1; have gR := blk_frozen aA.out 2; have gS := blk_frozen aA.out 3; have gT := blk_frozen aA.out 4; have lE := aE.out; have lI := aU.out; have gA : bA.cell? ⟨aL, 0, none⟩ = some (.int .i64 0) := (blk_cell aB.out 0).trans rfl; have gB : bA.cell? ⟨aL, 1, none⟩ = some (.int .i64 0) := (blk_cell aB.out 1).trans rfl; have gC : bA.cell? ⟨aL, 2, none⟩ = some (.int .i64 0) := (blk_cell aB.out 2).trans rfl; have gD : bA.cell? ⟨aL, 3, none⟩ = some (.int .i64 0) := (blk_cell aB.out 3).trans rfl; have gE : bA.cell? ⟨aL, 4, none⟩ = some (.int .i64 0) := (blk_cell aB.out 4).trans rfl; have gU := blk_frozen aB.out 0; have gV := blk_frozen aB.out 1; have gW := blk_frozen aB.out 2; have gX := blk_frozen aB.out 3; have gY := blk_frozen aB.out 4))
    refine bodyPost_ret (results_cell_row rfl _ _ aL 27 #[.int .i64 aH, .int .i64 aI, .int .i64 aG, .int .i64 aJ, .int .i64 aK] (0, 0) _ rfl (blk_put (blk_put (blk_put (blk_put (blk_put aB.out 0 _ rfl) 1 _ rfl) 2 _ rfl) 3 _ rfl) 4 _ rfl) Try.underlying27 rfl oK) rfl ?_
    exact ⟨by first | rfl | (simp [errW_none, errW_some] <;> rfl) | (simp [*, errW_none, errW_some] <;> rfl), oI72 aF, oH HB (IsS72.ge aF.out), oE HK⟩

end Go.Proofs.Ythnmeogafklhnaa.X
