/- What functions of the program come to, each with its proof. No condition but what each theorem states. -/
import Derived.Test.YthnmeogafklhnaaX0
import Derived.Test.YthnmeogafklhnaaX3
import Derived.Test.YthnmeogafklhnaaX4
import Derived.Test.YthnmeogafklhnaaX5
import Derived.Test.YthnmeogafklhnaaX6
namespace Go.Proofs.Ythnmeogafklhnaa.X
open Go.RowKit Go.Proofs.YthnmeogafklhnaaW.PrintWords Go.Proofs.YthnmeogafklhnaaW.PrintLast Go.Proofs.YthnmeogafklhnaaW.PrintMore Go.Proofs.Ythnmeogafklhnaa.Hyb
attribute [local go_sem] max2_int min2_int max_two min_two max_three min_three max_four min_four
set_option linter.unusedVariables false
set_option linter.unusedSimpArgs false

/-! ### spec_l20Ras: function 45 -/
def spec_l20Ras.l0 : Nat → Int → Int → List Int → Int → Int → Int → List (S38) → Int → Int → Int → Int → Option (Int × Int × (List (S38)) × Int)
 | 0, _, _, _, _, _, _, _, _, _, _, _ => none
 | k + 1, x1, x7, x1000, x1001, x148000, x148001, x148002, x154000, x154001, x154002, x154003 => if x7 < (wrap64 (x148000 * x148001)) then ((spec_l20Rd_pick.f k x1000 x1001 3).bind fun dB => (if dB.1 > 0 then ((spec_l20Pix.f k x1000 dB.2).bind fun bW => (if x148002.length < 4398046511104 then (spec_l20Ras.l0 k x1 (wrap64 (x7 + 1)) x1000 bW.2.2.2.2 x148000 x148001 (x148002 ++ [(⟨bW.1, bW.2.1, bW.2.2.1, bW.2.2.2.1⟩ : S38)]) bW.1 bW.2.1 bW.2.2.1 bW.2.2.2.1) else (none))) else (if x148002.length < 4398046511104 then (spec_l20Ras.l0 k x1 (wrap64 (x7 + 1)) x1000 dB.2 x148000 x148001 (x148002 ++ [(⟨x154000, x154001, x154002, x154003⟩ : S38)]) x154000 x154001 x154002 x154003) else (none)))) else ((spec_l20Rd_odd.f k x1000 x1001 x1).bind fun dC => (if dC.1 = true then ((spec_l20Rd_pick.f k x1000 dC.2 4).bind fun cE => (if cE.1 = 0 then ((some (([0, (-1), 7, wrap64 (x148000 + 1)] : List Int) : List Int)).bind fun bR => ((spec_l20Rd_pick.f k x1000 cE.2 4).bind fun bX => (if 0 ≤ bX.1 then (if bX.1 < (bR.length : Int) then (some (rd bR bX.1, x148001, x148002, bX.2)) else (none)) else (none)))) else (if cE.1 = 1 then ((some (([0, 7] : List Int) : List Int)).bind fun cI => ((spec_l20Rd_pick.f k x1000 cE.2 2).bind fun bY => (if 0 ≤ bY.1 then (if bY.1 < (cI.length : Int) then (some (x148000, rd cI bY.1, x148002, bY.2)) else (none)) else (none)))) else (if cE.1 = 2 then (if 1 ≤ (x148002.length : Int) then (some (x148000, x148001, (x148002.drop (1 : Int).toNat), cE.2)) else (none)) else ((spec_l20Rd_pick.f k x1000 cE.2 (x148002.length : Int)).bind fun cF => ((some (([(-1), 256] : List Int) : List Int)).bind fun bH => ((spec_l20Rd_pick.f k x1000 cF.2 2).bind fun bZ => (if 0 ≤ bZ.1 then (if bZ.1 < (bH.length : Int) then (if 0 ≤ cF.1 then (if cF.1 < (x148002.length : Int) then (some (x148000, x148001, (x148002.set (cF.1 : Int).toNat (⟨(rd_T38 x148002 cF.1).f0, rd bH bZ.1, (rd_T38 x148002 cF.1).f2, (rd_T38 x148002 cF.1).f3⟩ : S38)), bZ.2)) else (none)) else (none)) else (none)) else (none))))))))) else (some (x148000, x148001, x148002, dC.2))))
def spec_l20Ras.f (k : Nat) (s0_0 : List Int) (s0_1 : Int) (a1 : Int) : Option (Int × Int × (List (S38)) × Int) := (spec_l20Rd_pick.f k s0_0 s0_1 6).bind fun cT => ((spec_l20Rd_pick.f k s0_0 cT.2 6).bind fun cU => ((spec_l20Pix.f k s0_0 cU.2).bind fun bS => (spec_l20Ras.l0 k a1 0 s0_0 bS.2.2.2.2 (wrap64 (1 + cT.1)) (wrap64 (1 + cU.1)) ([] : List (S38)) bS.1 bS.2.1 bS.2.2.1 bS.2.2.2.1)))
theorem spec_l20Ras.mono_l : ∀ k, (∀ y0 y1 y2 y3 y4 y5 y6 y7 y8 y9 qM, LeO (spec_l20Ras.l0 k y0 y1 y2 y3 y4 y5 y6 y7 y8 y9 qM) (spec_l20Ras.l0 (k + 1) y0 y1 y2 y3 y4 y5 y6 y7 y8 y9 qM))
 | 0 => (fun _ _ _ _ _ _ _ _ _ _ _ r h => nomatch (show none = some r from h))
 | k + 1 => by
  have ih0 := spec_l20Ras.mono_l k
  ·intro y0 y1 y2 y3 y4 y5 y6 y7 y8 y9 qM
   unfold spec_l20Ras.l0
   repeat' first
   | (with_reducible exact ih0 _ _ _ _ _ _ _ _ _ _ _)
   | (with_reducible exact spec_l20Pix.mono _ _ _)
   | (with_reducible exact spec_l20Rd_odd.mono _ _ _ _)
   | (with_reducible exact spec_l20Rd_pick.mono _ _ _ _)
   | (with_reducible exact LeO.refl _)
   | (with_reducible exact LeO.none _)
   | (with_reducible refine LeO.ite ?_ ?_)
   | (with_reducible refine LeO.bind ?_ (fun _ => ?_))
   | exact ih0 _ _ _ _ _ _ _ _ _ _ _
   | exact spec_l20Pix.mono _ _ _
   | exact spec_l20Rd_odd.mono _ _ _ _
   | exact spec_l20Rd_pick.mono _ _ _ _
   | exact LeO.none _
   | refine LeO.ite ?_ ?_
   | refine LeO.bind ?_ (fun _ => ?_)
theorem spec_l20Ras.mono : ∀ a0 a1 a2 k, LeO (spec_l20Ras.f k a0 a1 a2) (spec_l20Ras.f (k + 1) a0 a1 a2) := by
 intro a0 a1 a2 k
 have ih0 := spec_l20Ras.mono_l k
 unfold spec_l20Ras.f
 repeat' first
   | (with_reducible exact ih0 _ _ _ _ _ _ _ _ _ _ _)
   | (with_reducible exact spec_l20Pix.mono _ _ _)
   | (with_reducible exact spec_l20Rd_odd.mono _ _ _ _)
   | (with_reducible exact spec_l20Rd_pick.mono _ _ _ _)
   | (with_reducible exact LeO.refl _)
   | (with_reducible exact LeO.none _)
   | (with_reducible refine LeO.ite ?_ ?_)
   | (with_reducible refine LeO.bind ?_ (fun _ => ?_))
   | exact ih0 _ _ _ _ _ _ _ _ _ _ _
   | exact spec_l20Pix.mono _ _ _
   | exact spec_l20Rd_odd.mono _ _ _ _
   | exact spec_l20Rd_pick.mono _ _ _ _
   | exact LeO.none _
   | refine LeO.ite ?_ ?_
   | refine LeO.bind ?_ (fun _ => ?_)
def spec_l20Ras.T11 : Bool × List (List Nat × List Nat) := (true, [([], []), ([0], [0]), ([], []), ([], []), ([3], [3]), ([4], [4]), ([2, 5], [2, 5]), ([], []), ([], []), ([8, 6], [8]), ([7, 9], [7, 9]), ([10], [10]), ([1, 6, 0, 1, 2, 3, 4, 5, 6, 7, 8, 9, 10, 11], [1, 6]), ([12, 0, 1, 2, 3, 4, 5, 6, 7, 8, 9, 10, 11], [12]), ([13, 11, 9, 0, 1, 2, 3, 4, 5, 6, 7, 8, 9, 10, 11], [11, 13])])
def spec_l20Ras.B11 : List Nat := [0, 1, 0, 0, 8, 24, 60, 0, 0, 380, 1020, 2044, 4095, 8191, 16383]
theorem spec_l20Ras.tab11 : rtab .any (opsOf Try.f45 11) = spec_l20Ras.T11 := by kernel_rfl
theorem spec_l20Ras.bits11 : waitsOk spec_l20Ras.T11.2 spec_l20Ras.B11 = true := by kernel_rfl
def spec_l20Ras.T13 : Bool × List (List Nat × List Nat) := (true, [([], []), ([0], [0]), ([1], [1]), ([2], [2]), ([], []), ([4], [4]), ([3, 5], [3, 5]), ([6], [6]), ([0, 1, 2, 3, 4, 5, 6, 7], []), ([8, 7, 5, 0, 1, 2, 3, 4, 5, 6, 7], [7, 8])])
def spec_l20Ras.B13 : List Nat := [0, 1, 3, 7, 0, 16, 63, 127, 255, 511]
theorem spec_l20Ras.tab13 : rtab .any (opsOf Try.f45 13) = spec_l20Ras.T13 := by kernel_rfl
theorem spec_l20Ras.bits13 : waitsOk spec_l20Ras.T13.2 spec_l20Ras.B13 = true := by kernel_rfl
set_option maxHeartbeats 8000000 in
set_option maxRecDepth 100000 in
theorem spec_l20Ras.calls (k : Nat) (g : Nat) (s0_0 : List Int) (s0_1 : Int) (a1 : Int) (r1 : Int) (r2 : Int) (r3 : List (S38)) (r4 : Int) (w0 w : World) (hI : IsS72 w0 w g s0_0 s0_1) (hB : Below w0.heap.size w0 w) (h : spec_l20Ras.f k s0_0 s0_1 a1 = some (r1, r2, r3, r4)) :
  Calls Try.prog 45 #[.pointer (some ⟨g, 0, none⟩), .int .i64 a1] w fun e w' => ∃ tJ : Value, e = .returned (.agg #[.int .i64 r1, .int .i64 r2, tJ]) ∧ Kd.Q k38 38 w' w.heap.size (fun _ => True) tJ r3 ∧ IsS72 w0 w' g s0_0 r4 ∧ Below w0.heap.size w0 w' ∧ KeepBut w w' g none := by
 have hu25 := Try.underlying25
 have hu38 := Try.underlying38
 have aH := Aside0.mk hI
 have HK := Aside0.mk (KeepBut.refl w g none)
 have HL := Aside0.mk hB.size
 clear hI
 have HW0 := Aside0.mk hB.size
 have HB := Aside0.mk hB
 clear hB
 have H : ((spec_l20Rd_pick.f k s0_0 s0_1 6).bind fun cT => ((spec_l20Rd_pick.f k s0_0 cT.2 6).bind fun cU => ((spec_l20Pix.f k s0_0 cU.2).bind fun bS => (spec_l20Ras.l0 k a1 0 s0_0 bS.2.2.2.2 (wrap64 (1 + cT.1)) (wrap64 (1 + cU.1)) ([] : List (S38)) bS.1 bS.2.1 bS.2.2.1 bS.2.2.2.1)))) = some (r1, r2, r3, r4) := h
 clear h
 replace H := Option.bind_eq_some_iff.mp H
 obtain ⟨⟨aV, jJ⟩, qO, H⟩ := H
 (try dsimp only at H)
 have A3 := Aside0.mk qO
 clear qO
 replace H := Option.bind_eq_some_iff.mp H
 obtain ⟨⟨aY, eH⟩, qP, H⟩ := H
 (try dsimp only at H)
 have A4 := Aside0.mk qP
 clear qP
 replace H := Option.bind_eq_some_iff.mp H
 obtain ⟨⟨jK, jL, jM, jN, eI⟩, eN, H⟩ := H
 (try dsimp only at H)
 have A5 := Aside0.mk eN
 clear eN
 have H' := Aside0.mk H
 clear H
 go_enter Try.func45, Try.ntmps45
 go_wp2_with (first | ((with_reducible refine gate_dst (N := 4) rfl ?_); refine box_event rfl (N := 4) rfl (cs := #[.int .i64 0, .int .i64 0, .slice none 0 0]) (t := 25) oS ?_; intro aK hg w6 hbox hb; have n_ := o2_ (IsS72.below (oI72 aH) hb) (o2_ (KeepBut.trans (oE HK) (KeepBut.of_below hb g none) (.inl rfl)) (o2_ (below_step (oH HB (IsS72.ge aH.out)) hb) (o2_ (hbox) (o2_ ((by rw [hg]; exact (keep_size (w := w) (g := g) (row := none) (oE HK)) : w.heap.size ≤ aK)) (o2_ ((Nat.le_trans HW0.out (by rw [hg]; exact (keep_size (w := w) (g := g) (row := none) (oE HK)) : w.heap.size ≤ aK) : w0.heap.size ≤ aK)) (o2_ ((by rw [hg]; exact Nat.ne_of_lt (IsS72.lt (show IsS72 w0 _ g s0_0 s0_1 from oI72 aH)) : g ≠ aK)) (o1_ ((by rw [hg]; exact Nat.ne_of_gt (IsS72.lt (show IsS72 w0 _ g s0_0 s0_1 from oI72 aH)) : aK ≠ g))))))))); clear aH HK HB; obtain ⟨aH, HK, HB, aC, qU, fX, bT, aJ⟩ := n_; clear hb hbox hg) | ((with_reducible refine gate_callee (f := 56) rfl ?_); refine goesL_ (some 9) rfl rfl Try.func56 oK rfl #[.pointer (some ⟨g, 0, none⟩), .int .i64 6] rfl oA ?_; (with_reducible refine (spec_l20Rd_pick.calls k g s0_0 s0_1 6 aV jJ w0 _ ?side1 ?side2 A3.out).mono ?_); (case side1 => exact oI72 aH); (case side2 => exact oH HB (IsS72.ge aH.out)); rintro e w7 ⟨rfl, hi, hb, hk⟩; refine ⟨_, rfl, ?_⟩; have n_ := o2_ (oJ hk aC aJ) (o2_ (KeepBut.trans (oE HK) hk (.inl rfl)) (o2_ (hb) (o1_ (hi)))); clear aC HK HB aH; obtain ⟨aC, HK, HB, aH⟩ := n_; (try clear hb); (try clear hb2); (try clear hk); (try clear hi)) | ((with_reducible refine gate_callee (f := 56) rfl ?_); refine goesL_ (some 12) rfl rfl Try.func56 oK rfl #[.pointer (some ⟨g, 0, none⟩), .int .i64 6] rfl oA ?_; (with_reducible refine (spec_l20Rd_pick.calls k g s0_0 jJ 6 aY eH w0 _ ?side1 ?side2 A4.out).mono ?_); (case side1 => exact oI72 aH); (case side2 => exact oH HB (IsS72.ge aH.out)); rintro e w8 ⟨rfl, hi, hb, hk⟩; refine ⟨_, rfl, ?_⟩; have n_ := o2_ (oJ hk aC aJ) (o2_ (KeepBut.trans (oE HK) hk (.inl rfl)) (o2_ (hb) (o1_ (hi)))); clear aC HK HB aH; obtain ⟨aC, HK, HB, aH⟩ := n_; (try clear hb); (try clear hb2); (try clear hk); (try clear hi)) | ((with_reducible refine gate_dst (N := 5) rfl ?_); refine box_event rfl (N := 5) rfl (cs := #[.int .i64 0, .int .i64 0, .slice none 0 0]) (t := 25) oS ?_; intro aG hg w9 hbox hb; have n_ := o2_ (IsS72.below (oI72 aH) hb) (o2_ (blk_below (oP aC) hb) (o2_ (KeepBut.trans (oE HK) (KeepBut.of_below hb g none) (.inl rfl)) (o2_ (below_step (oH HB (IsS72.ge aH.out)) hb) (o2_ (hbox) (o2_ ((by rw [hg]; exact (keep_size (w := w) (g := g) (row := none) (oE HK)) : w.heap.size ≤ aG)) (o2_ ((Nat.le_trans HW0.out (by rw [hg]; exact (keep_size (w := w) (g := g) (row := none) (oE HK)) : w.heap.size ≤ aG) : w0.heap.size ≤ aG)) (o2_ ((oL hg (blk_lt (oP aC)))) (o2_ ((oN hg (blk_lt (oP aC)))) (o2_ ((by rw [hg]; exact Nat.ne_of_lt (IsS72.lt (show IsS72 w0 _ g s0_0 eH from oI72 aH)) : g ≠ aG)) (o1_ ((by rw [hg]; exact Nat.ne_of_gt (IsS72.lt (show IsS72 w0 _ g s0_0 eH from oI72 aH)) : aG ≠ g)))))))))))); clear aH aC HK HB; obtain ⟨aH, aC, HK, HB, aB, qV, fY, bD, bE, bL, aI⟩ := n_; clear hb hbox hg; have rF := bE.out; have sH := bD.out; have rG := aI.out; have sI := bL.out; have dJ : w9.cell? ⟨aG, 0, none⟩ = some (.int .i64 0) := (blk_cell aB.out 0).trans rfl; have dK : w9.cell? ⟨aG, 1, none⟩ = some (.int .i64 0) := (blk_cell aB.out 1).trans rfl; have dL : w9.cell? ⟨aG, 2, none⟩ = some (.slice none 0 0) := (blk_cell aB.out 2).trans rfl; have dQ := blk_frozen aB.out 0; have dR := blk_frozen aB.out 1; have dS := blk_frozen aB.out 2) | ((with_reducible refine gate_callee (f := 55) rfl ?_); refine goesL_ (some 16) rfl rfl Try.func55 oK rfl #[.pointer (some ⟨g, 0, none⟩)] rfl oA ?_; (with_reducible refine (spec_l20Pix.calls k g s0_0 eH jK jL jM jN eI w0 _ ?side1 ?side2 A5.out).mono ?_); (case side1 => exact oI72 aH); (case side2 => exact oH HB (IsS72.ge aH.out)); rintro e uB ⟨rfl, hi, hb, hk⟩; refine ⟨_, rfl, ?_⟩; have n_ := o2_ (oJ hk aC aJ) (o2_ (KeepBut.blk hk (g' := aG) (o := .cells #[.int .i64 (wrap64 (1 + aV)), .int .i64 (wrap64 (1 + aY)), .slice none 0 0] 25 (0, 0)) (blk_put (blk_put (blk_put aB.out 0 _ rfl) 1 _ rfl) 2 _ rfl) aI.out (by simp)) (o2_ (KeepBut.trans (oE HK) hk (.inl rfl)) (o2_ (hb) (o1_ (hi))))); clear aC aB HK HB aH; obtain ⟨aC, aB, HK, HB, aH⟩ := n_; (try clear hb); (try clear hb2); (try clear hk); (try clear hi)) | ((with_reducible refine gate_dst (N := 6) rfl ?_); refine box_event rfl (N := 6) rfl (cs := #[.int .i64 0, .int .i64 0, .int .i64 0, .int .i64 0]) (t := 38) oS ?_; intro aN hg nL hbox hb; have n_ := o2_ (IsS72.below (oI72 aH) hb) (o2_ (blk_below (oP aC) hb) (o2_ (blk_below (oP aB) hb) (o2_ (KeepBut.trans (oE HK) (KeepBut.of_below hb g none) (.inl rfl)) (o2_ (below_step (oH HB (IsS72.ge aH.out)) hb) (o2_ (hbox) (o2_ ((by rw [hg]; exact (keep_size (w := w) (g := g) (row := none) (oE HK)) : w.heap.size ≤ aN)) (o2_ ((Nat.le_trans HW0.out (by rw [hg]; exact (keep_size (w := w) (g := g) (row := none) (oE HK)) : w.heap.size ≤ aN) : w0.heap.size ≤ aN)) (o2_ ((oL hg (blk_lt (oP aC)))) (o2_ ((oN hg (blk_lt (oP aC)))) (o2_ ((oL hg (blk_lt (oP aB)))) (o2_ ((oN hg (blk_lt (oP aB)))) (o2_ ((by rw [hg]; exact Nat.ne_of_lt (IsS72.lt (show IsS72 w0 _ g s0_0 eI from oI72 aH)) : g ≠ aN)) (o1_ ((by rw [hg]; exact Nat.ne_of_gt (IsS72.lt (show IsS72 w0 _ g s0_0 eI from oI72 aH)) : aN ≠ g))))))))))))))); clear aH aC aB HK HB; obtain ⟨aH, aC, aB, HK, HB, aE, qW, fZ, bI, bJ, bF, bG, cB, aW⟩ := n_; clear hb hbox hg; have rH := bJ.out; have sJ := bI.out; have rI := bG.out; have sK := bF.out; have rJ := aW.out; have sL := cB.out; have dM : nL.cell? ⟨aN, 0, none⟩ = some (.int .i64 0) := (blk_cell aE.out 0).trans rfl; have dN : nL.cell? ⟨aN, 1, none⟩ = some (.int .i64 0) := (blk_cell aE.out 1).trans rfl; have dO : nL.cell? ⟨aN, 2, none⟩ = some (.int .i64 0) := (blk_cell aE.out 2).trans rfl; have dP : nL.cell? ⟨aN, 3, none⟩ = some (.int .i64 0) := (blk_cell aE.out 3).trans rfl; have dT := blk_frozen aE.out 0; have dU := blk_frozen aE.out 1; have dV := blk_frozen aE.out 2; have dW := blk_frozen aE.out 3))
 go_loopg [7] k (fun kq v7 w' => ∃ (cN : Int) (aZ : Int) (aD : List (S38)) (aQ : Int) (aR : Int) (aT : Int) (aU : Int) (aM : Value), v7 = .int .i64 cN ∧ Aside0 (spec_l20Ras.l0 kq a1 cN s0_0 aZ (wrap64 (1 + aV)) (wrap64 (1 + aY)) aD aQ aR aT aU = some (r1, r2, r3, r4)) ∧ Aside0 (kq ≤ k) ∧ Aside0 (Kd.Q k38 38 w' w.heap.size (fun k_ => k_ ≠ aN) aM aD) ∧ Aside0 (w'.heap[aK]? = some (.cells #[.int .i64 0, .int .i64 0, (.slice none 0 0)] 25 (0, 0))) ∧ Aside0 (w'.heap[aG]? = some (.cells #[.int .i64 (wrap64 (1 + aV)), .int .i64 (wrap64 (1 + aY)), aM] 25 (0, 0))) ∧ Aside0 (w'.heap[aN]? = some (.cells #[.int .i64 aQ, .int .i64 aR, .int .i64 aT, .int .i64 aU] 38 (0, 0))) ∧ Aside0 (IsS72 w0 w' g s0_0 aZ) ∧ Aside0 (KeepBut w w' g none) ∧ Aside0 (Below w0.heap.size w0 w'))
 case atStart => exact ⟨(0), (eI), (([] : List (S38))), (jK), (jL), (jM), (jN), (.slice none 0 0), oU, H', ⟨Nat.le_refl _⟩, ⟨Kd.Q_of_R oZ⟩, ⟨(oP aC)⟩, ⟨(oP aB)⟩, ⟨(blk_put (blk_put (blk_put (blk_put aE.out 0 _ rfl) 1 _ rfl) 2 _ rfl) 3 _ rfl)⟩, ⟨(oI72 aH)⟩, ⟨(oE HK)⟩, ⟨(oH HB (IsS72.ge aH.out))⟩⟩
 case round =>
  clear H'
  try clear c1
  try clear p2
  try clear c4
  try clear c5
  try clear p6
  try clear c10
  try clear c11
  try clear c15
  try clear c16
  try clear c17
  try clear dJ
  try clear dK
  try clear dL
  try clear dM
  try clear dN
  try clear dO
  try clear dP
  try clear dQ
  try clear dR
  try clear dS
  try clear dT
  try clear dU
  try clear dV
  try clear dW
  obtain ⟨cN, aZ, aD, aQ, aR, aT, aU, aM, rfl, HA, HK1, aA, aC, aB, aE, aH, HK, HB⟩ := hrel
  cases gk with
  | zero => exact nomatch (show none = some _ from HA.out)
  | succ k1 =>
   have H := HA.out
   clear HA
   simp only [spec_l20Ras.l0] at H
   by_cases fJ : cN < (wrap64 ((wrap64 (1 + aV)) * (wrap64 (1 + aY))))
   ·rw [if_pos fJ] at H
    have gG : decide (cN < (wrap64 ((wrap64 (1 + aV)) * (wrap64 (1 + aY))))) = true := decide_eq_true fJ
    clear fJ
    replace H := Option.bind_eq_some_iff.mp H
    obtain ⟨⟨dD, cY⟩, fN, H⟩ := H
    (try dsimp only at H)
    have qN := Aside0.mk fN
    clear fN
    by_cases fK : dD > 0
    ·rw [if_pos fK] at H
     have gH : decide (0 < dD) = true := decide_eq_true fK
     clear fK
     replace H := Option.bind_eq_some_iff.mp H
     obtain ⟨⟨cJ, cK, cL, cM, fG⟩, fO, H⟩ := H
     (try dsimp only at H)
     have tK := Aside0.mk fO
     clear fO
     by_cases jP : aD.length < 4398046511104
     ·rw [if_pos jP] at H
      have LMc23 := Aside0.mk jP
      clear jP
      obtain ⟨y161, hy161⟩ : ∃ y_ : List (S38), y_ = (aD ++ [(⟨cJ, cK, cL, cM⟩ : S38)]) := ⟨_, rfl⟩
      replace H : (spec_l20Ras.l0 k1 a1 (wrap64 (cN + 1)) s0_0 fG (wrap64 (1 + aV)) (wrap64 (1 + aY)) y161 cJ cK cL cM) = some (r1, r2, r3, r4) := by first | (rw [hy161]; with_reducible exact H) | (have H2_ := (Option.bind_some _ _).symm.trans H; rw [hy161]; with_reducible exact H2_) | (have H2_ := (Option.bind_some _ _).symm.trans H; with_reducible exact H2_) | with_reducible exact H | (rw [hy161]; exact H) | exact H
      have gB := Aside0.mk hy161
      clear hy161
      have H' := Aside0.mk H
      clear H
      have rK := bE.out
      have sM := bD.out
      have rL := bF.out
      have sN := bG.out
      have rM := aI.out
      have sO := bL.out
      have jW : wr.cell? ⟨aG, 0, none⟩ = some (.int .i64 (wrap64 (1 + aV))) := (blk_cell aB.out 0).trans rfl
      have jX : wr.cell? ⟨aG, 1, none⟩ = some (.int .i64 (wrap64 (1 + aY))) := (blk_cell aB.out 1).trans rfl
      have jY : wr.cell? ⟨aG, 2, none⟩ = some (aM) := (blk_cell aB.out 2).trans rfl
      have lO := blk_frozen aB.out 0
      have lP := blk_frozen aB.out 1
      have lQ := blk_frozen aB.out 2
      go_wp2_with (first | ((with_reducible refine gate_callee (f := 56) rfl ?_); refine goesL_ (some 27) rfl rfl Try.func56 oK rfl #[.pointer (some ⟨g, 0, none⟩), .int .i64 3] rfl oA ?_; (with_reducible refine (spec_l20Rd_pick.calls k1 g s0_0 aZ 3 dD cY w0 _ ?side1 ?side2 qN.out).mono ?_); (case side1 => exact oI72 aH); (case side2 => exact oH HB (IsS72.ge aH.out)); rintro e uD ⟨rfl, hi, hb, hk⟩; refine ⟨_, rfl, ?_⟩; have n_ := o2_ (Kd.Q_mono (Kd.Q_keep (IsS72.apartQ (show IsS72 w0 _ g s0_0 aZ from oI72 aH) (oQ aA) oD) hk (fun _ h => h.2)) (fun _ h => h.1)) (o2_ (oJ hk aC aJ) (o2_ (oJ hk aB aI) (o2_ (oJ hk aE aW) (o2_ (KeepBut.trans (oE HK) hk (.inl rfl)) (o2_ (hb) (o1_ (hi))))))); clear aA aC aB aE HK HB aH; obtain ⟨aA, aC, aB, aE, HK, HB, aH⟩ := n_; (try clear hb); (try clear hb2); (try clear hk); (try clear hi)) | ((with_reducible refine gate_callee (f := 55) rfl ?_); refine goesL_ (some 30) rfl rfl Try.func55 oK rfl #[.pointer (some ⟨g, 0, none⟩)] rfl oA ?_; (with_reducible refine (spec_l20Pix.calls k1 g s0_0 cY cJ cK cL cM fG w0 _ ?side1 ?side2 tK.out).mono ?_); (case side1 => exact oI72 aH); (case side2 => exact oH HB (IsS72.ge aH.out)); rintro e fH ⟨rfl, hi, hb, hk⟩; refine ⟨_, rfl, ?_⟩; have n_ := o2_ (Kd.Q_mono (Kd.Q_keep (IsS72.apartQ (show IsS72 w0 _ g s0_0 cY from oI72 aH) (oQ aA) oD) hk (fun _ h => h.2)) (fun _ h => h.1)) (o2_ (oJ hk aC aJ) (o2_ (oJ hk aB aI) (o2_ (oJ hk aE aW) (o2_ (KeepBut.trans (oE HK) hk (.inl rfl)) (o2_ (hb) (o1_ (hi))))))); clear aA aC aB aE HK HB aH; obtain ⟨aA, aC, aB, aE, HK, HB, aH⟩ := n_; (try clear hb); (try clear hb2); (try clear hk); (try clear hi); have rN := bJ.out; have sP := bI.out; have rO := aW.out; have sQ := cB.out; have jZ : fH.cell? ⟨aN, 0, none⟩ = some (.int .i64 aQ) := (blk_cell aE.out 0).trans rfl; have kA : fH.cell? ⟨aN, 1, none⟩ = some (.int .i64 aR) := (blk_cell aE.out 1).trans rfl; have kB : fH.cell? ⟨aN, 2, none⟩ = some (.int .i64 aT) := (blk_cell aE.out 2).trans rfl; have kC : fH.cell? ⟨aN, 3, none⟩ = some (.int .i64 aU) := (blk_cell aE.out 3).trans rfl; have lR := blk_frozen aE.out 0; have lS := blk_frozen aE.out 1; have lT := blk_frozen aE.out 2; have lU := blk_frozen aE.out 3; have kD : fH.cell? ⟨aG, 0, none⟩ = some (.int .i64 (wrap64 (1 + aV))) := (blk_cell aB.out 0).trans rfl; have kE : fH.cell? ⟨aG, 1, none⟩ = some (.int .i64 (wrap64 (1 + aY))) := (blk_cell aB.out 1).trans rfl; have kF : fH.cell? ⟨aG, 2, none⟩ = some (aM) := (blk_cell aB.out 2).trans rfl; have lV := blk_frozen aB.out 0; have lW := blk_frozen aB.out 1; have lX := blk_frozen aB.out 2) | ((with_reducible refine gate_builtin (b := .append) (xs := #[.tmp 32, .tmp 34]) rfl ?_); at_builtin; refine Kd.Q_append k38 w.heap.size rfl (.tmp 32) (.tmp 34) 23 38 (.agg #[(.int .i64 0), (.int .i64 0), (.int .i64 0), (.int .i64 0)]) 32 rfl Try.underlying23 info38 rfl oD (by omega) aM aD (⟨cJ, cK, cL, cM⟩ : S38) [.int .i64 cJ, .int .i64 cK, .int .i64 cL, .int .i64 cM] (fun k_ => k_ ≠ aN) (fun _ => False) rfl oS ?aP (fun _ hk => hk.elim) ?aF ?aO (Below.refl _ _) ?aS ?aL ?_; (case aP => exact k38_mkM _ _ _ (⟨cJ, cK, cL, cM⟩ : S38)); (case aF => exact (fun k_ hk => Kd.freshB (g := aN) (o := .cells #[.int .i64 cJ, .int .i64 cK, .int .i64 cL, .int .i64 cM] 38 (0, 0)) (blk_put (blk_put (blk_put (blk_put aE.out 0 _ rfl) 1 _ rfl) 2 _ rfl) 3 _ rfl) k_ hk)); (case aO => exact (by (with_reducible repeat (first | apply Kd.Q_alloc | apply Kd.Q_drewN | apply Kd.Q_drew)); exact Kd.Q_mono (Kd.Q_far (p := ⟨aN, 3, none⟩) (Kd.Q_far (p := ⟨aN, 2, none⟩) (Kd.Q_far (p := ⟨aN, 1, none⟩) (Kd.Q_far (p := ⟨aN, 0, none⟩) (Kd.Q_mono aA.out (fun k_ hk => (⟨hk, hk⟩ : _ ∧ k_ ≠ aN))) (fun _ hk => hk.2) (.int .i64 cJ)) (fun _ hk => hk.2) (.int .i64 cK)) (fun _ hk => hk.2) (.int .i64 cL)) (fun _ hk => hk.2) (.int .i64 cM)) (fun _ hk => hk.1))); (case aS => exact (keep_size (w := w) (g := g) (row := none) (oE HK))); (case aL => have := LMc23.out; omega); intro tR qK ho hb hg hat; rw [← gB.out] at ho; have n_ := o2_ (blk_grown (oP aC) hg (Kd.Q_ne aA.out aC.out oD)) (o2_ (blk_grown (oP aB) hg (Kd.Q_ne aA.out aB.out oD)) (o2_ (blk_grown (g := aN) (o := .cells #[.int .i64 cJ, .int .i64 cK, .int .i64 cL, .int .i64 cM] 38 (0, 0)) (blk_put (blk_put (blk_put (blk_put aE.out 0 _ rfl) 1 _ rfl) 2 _ rfl) 3 _ rfl) hg (Kd.Q_away aA.out (fun _ hk => hk))) (o2_ (IsS72.grownF aH.out (oI72 aH) hg (IsS72.own_neQ aH.out aA.out oD)) (o2_ (below_weaken (oH HB (IsS72.ge aH.out)) HL.out hb) (o2_ (KeepBut.trans (oE HK) (KeepBut.of_grown hg g) (Kd.Q_base2 aA.out)) (o1_ (ho))))))); clear aC aB aE aH HB HK aA; obtain ⟨aC, aB, aE, aH, HB, HK, eP⟩ := n_; clear ho hb hg hat; obtain ⟨fT, gT, nV, _⟩ := Kd.Q_slice eP.out; subst nV; have kG : qK.cell? ⟨aG, 0, none⟩ = some (.int .i64 (wrap64 (1 + aV))) := (blk_cell aB.out 0).trans rfl; have kH : qK.cell? ⟨aG, 1, none⟩ = some (.int .i64 (wrap64 (1 + aY))) := (blk_cell aB.out 1).trans rfl; have kI : qK.cell? ⟨aG, 2, none⟩ = some (aM) := (blk_cell aB.out 2).trans rfl; have lY := blk_frozen aB.out 0; have lZ := blk_frozen aB.out 1; have mA := blk_frozen aB.out 2))
      go_roundg k1
      case measure => have := HK1.out; omega
      case rel => exact ⟨(wrap64 (cN + 1)), (fG), (y161), (cJ), (cK), (cL), (cM), (.slice fT y161.length gT), oU, H', ⟨(by have := HK1.out; omega)⟩, ⟨(by (with_reducible repeat (first | apply Kd.Q_alloc | apply Kd.Q_drewN | apply Kd.Q_drew)); exact Kd.Q_mono (Kd.Q_far (p := ⟨aG, 2, none⟩) (Kd.Q_types eP.out aB.out oD) (fun _ hk => hk.2) (.slice fT y161.length gT)) (fun _ hk => hk.1))⟩, ⟨(oP aC)⟩, ⟨(blk_put aB.out 2 _ rfl)⟩, ⟨(oP aE)⟩, ⟨(oI72 aH)⟩, ⟨(oE HK)⟩, ⟨(oH HB (IsS72.ge aH.out))⟩⟩
     ·rw [if_neg jP] at H
      exact absurd H (by simp)
    ·rw [if_neg fK] at H
     have gH : decide (0 < dD) = false := decide_eq_false fK
     clear fK
     by_cases jQ : aD.length < 4398046511104
     ·rw [if_pos jQ] at H
      have LMc37 := Aside0.mk jQ
      clear jQ
      obtain ⟨y164, hy164⟩ : ∃ y_ : List (S38), y_ = (aD ++ [(⟨aQ, aR, aT, aU⟩ : S38)]) := ⟨_, rfl⟩
      replace H : (spec_l20Ras.l0 k1 a1 (wrap64 (cN + 1)) s0_0 cY (wrap64 (1 + aV)) (wrap64 (1 + aY)) y164 aQ aR aT aU) = some (r1, r2, r3, r4) := by first | (rw [hy164]; with_reducible exact H) | (have H2_ := (Option.bind_some _ _).symm.trans H; rw [hy164]; with_reducible exact H2_) | (have H2_ := (Option.bind_some _ _).symm.trans H; with_reducible exact H2_) | with_reducible exact H | (rw [hy164]; exact H) | exact H
      have gC := Aside0.mk hy164
      clear hy164
      have H' := Aside0.mk H
      clear H
      have rP := bE.out
      have sR := bD.out
      have rQ := bF.out
      have sS := bG.out
      have rR := aI.out
      have sT := bL.out
      have kJ : wr.cell? ⟨aG, 0, none⟩ = some (.int .i64 (wrap64 (1 + aV))) := (blk_cell aB.out 0).trans rfl
      have kK : wr.cell? ⟨aG, 1, none⟩ = some (.int .i64 (wrap64 (1 + aY))) := (blk_cell aB.out 1).trans rfl
      have kL : wr.cell? ⟨aG, 2, none⟩ = some (aM) := (blk_cell aB.out 2).trans rfl
      have mB := blk_frozen aB.out 0
      have mC := blk_frozen aB.out 1
      have mD := blk_frozen aB.out 2
      go_wp2_with (first | ((with_reducible refine gate_callee (f := 56) rfl ?_); refine goesL_ (some 27) rfl rfl Try.func56 oK rfl #[.pointer (some ⟨g, 0, none⟩), .int .i64 3] rfl oA ?_; (with_reducible refine (spec_l20Rd_pick.calls k1 g s0_0 aZ 3 dD cY w0 _ ?side1 ?side2 qN.out).mono ?_); (case side1 => exact oI72 aH); (case side2 => exact oH HB (IsS72.ge aH.out)); rintro e fI ⟨rfl, hi, hb, hk⟩; refine ⟨_, rfl, ?_⟩; have n_ := o2_ (Kd.Q_mono (Kd.Q_keep (IsS72.apartQ (show IsS72 w0 _ g s0_0 aZ from oI72 aH) (oQ aA) oD) hk (fun _ h => h.2)) (fun _ h => h.1)) (o2_ (oJ hk aC aJ) (o2_ (oJ hk aB aI) (o2_ (oJ hk aE aW) (o2_ (KeepBut.trans (oE HK) hk (.inl rfl)) (o2_ (hb) (o1_ (hi))))))); clear aA aC aB aE HK HB aH; obtain ⟨aA, aC, aB, aE, HK, HB, aH⟩ := n_; (try clear hb); (try clear hb2); (try clear hk); (try clear hi); have kM : fI.cell? ⟨aG, 0, none⟩ = some (.int .i64 (wrap64 (1 + aV))) := (blk_cell aB.out 0).trans rfl; have kN : fI.cell? ⟨aG, 1, none⟩ = some (.int .i64 (wrap64 (1 + aY))) := (blk_cell aB.out 1).trans rfl; have kO : fI.cell? ⟨aG, 2, none⟩ = some (aM) := (blk_cell aB.out 2).trans rfl; have mE := blk_frozen aB.out 0; have mF := blk_frozen aB.out 1; have mG := blk_frozen aB.out 2; have rS := bJ.out; have sU := bI.out; have rT := aW.out; have sV := cB.out; have kP : fI.cell? ⟨aN, 0, none⟩ = some (.int .i64 aQ) := (blk_cell aE.out 0).trans rfl; have kQ : fI.cell? ⟨aN, 1, none⟩ = some (.int .i64 aR) := (blk_cell aE.out 1).trans rfl; have kR : fI.cell? ⟨aN, 2, none⟩ = some (.int .i64 aT) := (blk_cell aE.out 2).trans rfl; have kS : fI.cell? ⟨aN, 3, none⟩ = some (.int .i64 aU) := (blk_cell aE.out 3).trans rfl; have mH := blk_frozen aE.out 0; have mI := blk_frozen aE.out 1; have mJ := blk_frozen aE.out 2; have mK := blk_frozen aE.out 3) | ((with_reducible refine gate_builtin (b := .append) (xs := #[.tmp 32, .tmp 34]) rfl ?_); at_builtin; refine Kd.Q_append k38 w.heap.size rfl (.tmp 32) (.tmp 34) 23 38 (.agg #[(.int .i64 0), (.int .i64 0), (.int .i64 0), (.int .i64 0)]) 32 rfl Try.underlying23 info38 rfl oD (by omega) aM aD (⟨aQ, aR, aT, aU⟩ : S38) [.int .i64 aQ, .int .i64 aR, .int .i64 aT, .int .i64 aU] (fun k_ => k_ ≠ aN) (fun _ => False) rfl rfl ?aP (fun _ hk => hk.elim) ?aF ?aO (Below.refl _ _) ?aS ?aL ?_; (case aP => exact k38_mkM _ _ _ (⟨aQ, aR, aT, aU⟩ : S38)); (case aF => exact (fun k_ hk => Kd.freshB (oP aE) k_ hk)); (case aO => exact (oQ aA)); (case aS => exact (keep_size (w := w) (g := g) (row := none) (oE HK))); (case aL => have := LMc37.out; omega); intro tS qL ho hb hg hat; rw [← gC.out] at ho; have n_ := o2_ (blk_grown (oP aC) hg (Kd.Q_ne aA.out aC.out oD)) (o2_ (blk_grown (oP aB) hg (Kd.Q_ne aA.out aB.out oD)) (o2_ (blk_grown (oP aE) hg (Kd.Q_away aA.out (fun _ hk => hk))) (o2_ (IsS72.grownF aH.out (oI72 aH) hg (IsS72.own_neQ aH.out aA.out oD)) (o2_ (below_weaken (oH HB (IsS72.ge aH.out)) HL.out hb) (o2_ (KeepBut.trans (oE HK) (KeepBut.of_grown hg g) (Kd.Q_base2 aA.out)) (o1_ (ho))))))); clear aC aB aE aH HB HK aA; obtain ⟨aC, aB, aE, aH, HB, HK, eQ⟩ := n_; clear ho hb hg hat; obtain ⟨fU, gU, nW, _⟩ := Kd.Q_slice eQ.out; subst nW; have kT : qL.cell? ⟨aG, 0, none⟩ = some (.int .i64 (wrap64 (1 + aV))) := (blk_cell aB.out 0).trans rfl; have kU : qL.cell? ⟨aG, 1, none⟩ = some (.int .i64 (wrap64 (1 + aY))) := (blk_cell aB.out 1).trans rfl; have kV : qL.cell? ⟨aG, 2, none⟩ = some (aM) := (blk_cell aB.out 2).trans rfl; have mL := blk_frozen aB.out 0; have mM := blk_frozen aB.out 1; have mN := blk_frozen aB.out 2))
      go_roundg k1
      case measure => have := HK1.out; omega
      case rel => exact ⟨(wrap64 (cN + 1)), (cY), (y164), (aQ), (aR), (aT), (aU), (.slice fU y164.length gU), oU, H', ⟨(by have := HK1.out; omega)⟩, ⟨(by (with_reducible repeat (first | apply Kd.Q_alloc | apply Kd.Q_drewN | apply Kd.Q_drew)); exact Kd.Q_mono (Kd.Q_far (p := ⟨aG, 2, none⟩) (Kd.Q_types eQ.out aB.out oD) (fun _ hk => hk.2) (.slice fU y164.length gU)) (fun _ hk => hk.1))⟩, ⟨(oP aC)⟩, ⟨(blk_put aB.out 2 _ rfl)⟩, ⟨(oP aE)⟩, ⟨(oI72 aH)⟩, ⟨(oE HK)⟩, ⟨(oH HB (IsS72.ge aH.out))⟩⟩
     ·rw [if_neg jQ] at H
      exact absurd H (by simp)
   ·rw [if_neg fJ] at H
    have gG : decide (cN < (wrap64 ((wrap64 (1 + aV)) * (wrap64 (1 + aY))))) = false := decide_eq_false fJ
    clear fJ
    replace H := Option.bind_eq_some_iff.mp H
    obtain ⟨⟨qE, cA⟩, fP, H⟩ := H
    (try dsimp only at H)
    have eN := Aside0.mk fP
    clear fP
    by_cases jR : qE = true
    ·subst jR
     rw [if_pos rfl] at H
     replace H := Option.bind_eq_some_iff.mp H
     obtain ⟨⟨bO, bM⟩, fQ, H⟩ := H
     (try dsimp only at H)
     have jO := Aside0.mk fQ
     clear fQ
     by_cases eY : bO = 0
     ·rw [if_pos eY] at H
      have gI : (bO == 0) = true := beq_iff_eq.mpr eY
      have gJ : (bO != 0) = false := bne_eq_false_iff_eq.mpr eY
      clear eY
      obtain ⟨bR, hy171⟩ : ∃ y_ : List Int, y_ = (([0, (-1), 7, wrap64 ((wrap64 (1 + aV)) + 1)] : List Int)) := ⟨_, rfl⟩
      replace H : ((spec_l20Rd_pick.f k1 s0_0 bM 4).bind fun bX => (if 0 ≤ bX.1 then (if bX.1 < (bR.length : Int) then (some (rd bR bX.1, (wrap64 (1 + aY)), aD, bX.2)) else (none)) else (none))) = some (r1, r2, r3, r4) := by first | (rw [hy171]; with_reducible exact H) | (have H2_ := (Option.bind_some _ _).symm.trans H; rw [hy171]; with_reducible exact H2_) | (have H2_ := (Option.bind_some _ _).symm.trans H; with_reducible exact H2_) | with_reducible exact H | (rw [hy171]; exact H) | exact H
      have cO := Aside0.mk hy171
      clear hy171
      replace H := Option.bind_eq_some_iff.mp H
      obtain ⟨⟨bU, eJ⟩, fR, H⟩ := H
      (try dsimp only at H)
      have qQ := Aside0.mk fR
      clear fR
      by_cases jS : 0 ≤ bU
      ·rw [if_pos jS] at H
       have qY : decide (0 ≤ bU) = true := decide_eq_true jS
       clear jS
       by_cases jT : bU < (bR.length : Int)
       ·rw [if_pos jT] at H
        have qZ : decide (bU < (bR.length : Int)) = true := decide_eq_true jT
        clear jT
        simp only [Option.some.injEq, Prod.mk.injEq] at H
        obtain ⟨rfl, rfl, rfl, rfl⟩ := H
        have rU := bE.out
        have sW := bD.out
        have rV := bF.out
        have sX := bG.out
        have rW := aI.out
        have sY := bL.out
        have kW : wr.cell? ⟨aG, 0, none⟩ = some (.int .i64 (wrap64 (1 + aV))) := (blk_cell aB.out 0).trans rfl
        have kX : wr.cell? ⟨aG, 1, none⟩ = some (.int .i64 (wrap64 (1 + aY))) := (blk_cell aB.out 1).trans rfl
        have kY : wr.cell? ⟨aG, 2, none⟩ = some (aM) := (blk_cell aB.out 2).trans rfl
        have mO := blk_frozen aB.out 0
        have mP := blk_frozen aB.out 1
        have mQ := blk_frozen aB.out 2
        try go_wp2_with (first | ((with_reducible refine gate_callee (f := 67) rfl ?_); refine goesL_ (some 39) rfl rfl Try.func67 oK rfl #[.pointer (some ⟨g, 0, none⟩), .int .i64 a1] rfl oA ?_; (with_reducible refine (spec_l20Rd_odd.calls k1 g s0_0 aZ a1 true cA w0 _ ?side1 ?side2 eN.out).mono ?_); (case side1 => exact oI72 aH); (case side2 => exact oH HB (IsS72.ge aH.out)); rintro e uE ⟨rfl, hi, hb, hk⟩; refine ⟨_, rfl, ?_⟩; have n_ := o2_ (Kd.Q_mono (Kd.Q_keep (IsS72.apartQ (show IsS72 w0 _ g s0_0 aZ from oI72 aH) (oQ aA) oD) hk (fun _ h => h.2)) (fun _ h => h.1)) (o2_ (oJ hk aC aJ) (o2_ (oJ hk aB aI) (o2_ (oJ hk aE aW) (o2_ (KeepBut.trans (oE HK) hk (.inl rfl)) (o2_ (hb) (o1_ (hi))))))); clear aA aC aB aE HK HB aH; obtain ⟨aA, aC, aB, aE, HK, HB, aH⟩ := n_; (try clear hb); (try clear hb2); (try clear hk); (try clear hi)) | ((with_reducible refine gate_callee (f := 56) rfl ?_); refine goesL_ (some 41) rfl rfl Try.func56 oK rfl #[.pointer (some ⟨g, 0, none⟩), .int .i64 4] rfl oA ?_; (with_reducible refine (spec_l20Rd_pick.calls k1 g s0_0 cA 4 bO bM w0 _ ?side1 ?side2 jO.out).mono ?_); (case side1 => exact oI72 aH); (case side2 => exact oH HB (IsS72.ge aH.out)); rintro e tZ ⟨rfl, hi, hb, hk⟩; refine ⟨_, rfl, ?_⟩; have n_ := o2_ (Kd.Q_mono (Kd.Q_keep (IsS72.apartQ (show IsS72 w0 _ g s0_0 cA from oI72 aH) (oQ aA) oD) hk (fun _ h => h.2)) (fun _ h => h.1)) (o2_ (oJ hk aC aJ) (o2_ (oJ hk aB aI) (o2_ (oJ hk aE aW) (o2_ (KeepBut.trans (oE HK) hk (.inl rfl)) (o2_ (hb) (o1_ (hi))))))); clear aA aC aB aE HK HB aH; obtain ⟨aA, aC, aB, aE, HK, HB, aH⟩ := n_; (try clear hb); (try clear hb2); (try clear hk); (try clear hi)))
        have pi176 : (0 ≤ (bU : Int)) = True := eq_true (of_decide_eq_true oM)
        have qi176 : (bU < (bR.length : Int)) = True := eq_true (of_decide_eq_true oM)
        have n_ := o2_ (Kd.Q_drew aA.out) (o2_ (blk_drew aC.out) (o2_ (blk_drew aB.out) (o2_ (blk_drew aE.out) (o2_ (IsS72.drew aH.out) (o2_ (keep_drew HK.out) (o1_ (below_drew1 HB.out)))))))
        clear aA aC aB aE aH HK HB
        obtain ⟨aA, aC, aB, aE, aH, HK, HB⟩ := n_
        refine start_ (n := 10) (S := fun w' => w'.cell? ⟨aG, 0, none⟩ = some (.int .i64 (wrap64 (1 + aV))) ∧ w'.cell? ⟨aG, 1, none⟩ = some (.int .i64 (wrap64 (1 + aY))) ∧ w'.cell? ⟨aG, 2, none⟩ = some (aM)) (ds := [9]) #[false, false, false, false, false, false, false, false, false, false] oK rfl rfl ⟨(blk_cell aB.out 0).trans rfl, (blk_cell aB.out 1).trans rfl, (blk_cell aB.out 2).trans rfl⟩ (fun hHeld => ?_); refine with_tabW spec_l20Ras.tab13 spec_l20Ras.bits13 (fun HT_ HW_ => ?_)
        generalize tZ.drew = uF at aA aC aB aE aH HK HB hHeld ⊢
        refine pure_ (i := 0) (N := some 58) (v := ?_) (a' := ?_) #[true, false, false, false, false, false, false, false, false, false] rfl rfl (any_of HT_.out oK) (fun _ _ _ h => h) (Or.inl ⟨by rfl, ?_⟩) ?_ ?_
        rotate_left
        ·intro w'
         go_simp
         with_reducible rfl
        rotate_left
        ·exact oT
        refine pure_ (i := 4) (N := some 62) (v := ?_) (a' := ?_) #[true, false, false, false, true, false, false, false, false, false] rfl rfl (any_of HT_.out oK) (fun _ _ _ h => h) (Or.inl ⟨by rfl, ?_⟩) ?_ ?_
        rotate_left
        ·intro w'
         go_simp
         with_reducible rfl
        rotate_left
        ·exact oT
        refine take_ (i := 1) (N := some 59) (v := ?_) (a' := ?_) #[true, true, false, false, true, false, false, false, false, false] rfl rfl (take_ofW HT_.out HW_.out oK) (fun _ _ _ h => h) (Or.inl ⟨by rfl, ?_⟩) hHeld ?_ ?_
        rotate_left
        ·rintro w' ⟨s0, s1, s2⟩
         go_simp
         with_reducible rfl
        rotate_left
        ·exact oT
        refine pure_ (i := 2) (N := some 60) (v := ?_) (a' := ?_) #[true, true, true, false, true, false, false, false, false, false] rfl rfl (any_of HT_.out oK) (fun _ _ _ h => h) (Or.inl ⟨by rfl, ?_⟩) ?_ ?_
        rotate_left
        ·intro w'
         go_simp
         with_reducible rfl
        rotate_left
        ·exact oT
        refine join_ (σ := Value × Addr) 4 #[true, true, true, true, true, true, false, false, false, false] (fun s_ => [(61, s_.1), (63, .int .i64 bU)]) (fun s_ w' => (w'.cell? ⟨aG, 0, none⟩ = some (.int .i64 (wrap64 (1 + aV))) ∧ w'.cell? ⟨aG, 1, none⟩ = some (.int .i64 (wrap64 (1 + aY))) ∧ w'.cell? ⟨aG, 2, none⟩ = some (aM)) ∧ (Kd.R (Kd.int .i64) 3 w' w.heap.size (fun _ => True) s_.1 bR) ∧ (Kd.Q k38 38 w' w.heap.size (fun k_ => k_ ≠ aN) aM aD) ∧ (∃ c_, (s_.1 : Value) = .slice (some s_.2) bR.length c_) ∧ (w'.heap[aK]? = some (.cells #[.int .i64 0, .int .i64 0, .slice none 0 0] 25 (0, 0))) ∧ (w'.heap[aG]? = some (.cells #[.int .i64 (wrap64 (1 + aV)), .int .i64 (wrap64 (1 + aY)), aM] 25 (0, 0))) ∧ (w'.heap[aN]? = some (.cells #[.int .i64 aQ, .int .i64 aR, .int .i64 aT, .int .i64 aU] 38 (0, 0))) ∧ (IsS72 w0 w' g s0_0 eJ) ∧ (KeepBut w w' g none) ∧ (Below w0.heap.size w0 w')) ?_ ?_
        rotate_left
        ·intro hCont
         refine two_ (i := 3) (j := 5) (Ni := some 61) (Nj := some 63) #[true, true, true, true, true, false, false, false, false, false] #[true, true, true, false, true, true, false, false, false, false] rfl rfl rfl rfl (two_of HT_.out oK) oD oD (fun K hK => ?_) (fun K hK => ?_)
         ·skip
          refine Kd.R_lit_step (Kd.int .i64) _ 3 ?hg (N := 61) ?hd (xs := ([0, (-1), 7, wrap64 ((wrap64 (1 + aV)) + 1)] : List Int)) (inner := [.int .i64 0, .int .i64 (-1), .int .i64 7, .int .i64 (wrap64 ((wrap64 (1 + aV)) + 1))]) (ok := fun _ => True) (okp := fun _ => True) ?hr ?hp (fun _ hk => hk) trivial (Below.refl _ _) (Nat.le_refl _) (by simp) ?_; (case hd => rfl); (case hg => rfl); (case hr => first | (go_simp; done) | (go_simp; rfl)); (case hp => exact (Reps.one (show Kd.M (Kd.int .i64) _ _ _ 0 [.int .i64 0] from rfl) (Reps.one (show Kd.M (Kd.int .i64) _ _ _ (-1) [.int .i64 (-1)] from rfl) (Reps.one (show Kd.M (Kd.int .i64) _ _ _ 7 [.int .i64 7] from rfl) (Reps.one (show Kd.M (Kd.int .i64) _ _ _ (wrap64 ((wrap64 (1 + aV)) + 1)) [.int .i64 (wrap64 ((wrap64 (1 + aV)) + 1))] from rfl) (Reps.none _ _))))))
          intro eK uA ho65 hb hg_ hnew_
          clear hg_ hnew_
          (first | rw [← cO.out] at ho65 | (simp only [Int.reduceToNat] at ho65; rw [← cO.out] at ho65))
          have n_ := o2_ (Kd.Q_below (oQ aA) hb) (o2_ (Kd.R_lower ho65 (keep_size (w := w) (g := g) (row := none) (oE HK))) (o2_ (blk_below (oP aC) hb) (o2_ (blk_below (oP aB) hb) (o2_ (blk_below (oP aE) hb) (o2_ (IsS72.below (oI72 aH) hb) (o2_ (KeepBut.trans (oE HK) (KeepBut.of_below hb g none) (.inl rfl)) (o1_ (below_step (oH HB (IsS72.ge aH.out)) hb))))))))
          clear aA aC aB aE aH HK HB
          obtain ⟨aA, bP, aC, aB, aE, aH, HK, HB⟩ := n_
          clear hb ho65
          obtain ⟨tM, nQ, nX⟩ := Kd.R_slice bP.out
          subst nX
          obtain ⟨ado66, fo66, _⟩ := Kd.at_int (Kd.R_reads' bP.out).2.2 0 oD (by rw [cO.out]; simp)
          cases fo66
          refine hK.out _ _ ⟨(blk_cell aB.out 0).trans rfl, (blk_cell aB.out 1).trans rfl, (blk_cell aB.out 2).trans rfl⟩ (fun hHeld => ?_)
          clear hK K
          refine norm_ (a' := ?_) ?_ ?_
          rotate_left
          ·show Act.put _ (some 61) _ = _
           exact oT
          refine one_ (i := 5) (N := some 63) #[true, true, true, true, true, true, false, false, false, false] rfl rfl (one_of HT_.out oK) oD (fun K hK => ?_)
          refine goes_ Try.func56 oK rfl #[.pointer (some ⟨g, 0, none⟩), .int .i64 4] (by rfl) rfl rfl oA ?_
          with_reducible refine (spec_l20Rd_pick.calls k1 g s0_0 bM 4 bU eJ w0 _ ?side1 ?side2 qQ.out).mono ?_
          (case side1 => exact oI72 aH)
          (case side2 => exact oH HB (IsS72.ge aH.out))
          rintro e uH ⟨rfl, hi, hb, hk⟩
          refine ⟨_, rfl, ?_⟩
          have n_ := o2_ (Kd.Q_mono (Kd.Q_keep (IsS72.apartQ (show IsS72 w0 _ g s0_0 bM from oI72 aH) (oQ aA) oD) hk (fun _ h => h.2)) (fun _ h => h.1)) (o2_ (oJ hk aC aJ) (o2_ (oJ hk aB aI) (o2_ (oJ hk aE aW) (o2_ (Kd.R_mono (Kd.R_keep (IsS72.apart (show IsS72 w0 _ g s0_0 bM from oI72 aH) (oR bP) oD) hk (fun _ h => h.2)) (fun _ h => h.1)) (o2_ (KeepBut.trans (oE HK) hk (.inl rfl)) (o2_ (hb) (o1_ (hi))))))))
          clear aA aC aB aE bP HK HB aH
          obtain ⟨aA, aC, aB, aE, bP, HK, HB, aH⟩ := n_
          (try clear hb)
          (try clear hb2)
          (try clear hk)
          (try clear hi)
          refine hK.out _ _ ⟨(blk_cell aB.out 0).trans rfl, (blk_cell aB.out 1).trans rfl, (blk_cell aB.out 2).trans rfl⟩ (fun hHeld => ?_)
          clear hK K
          refine norm_ (a' := ?_) ?_ ?_
          rotate_left
          ·show Act.put _ (some 63) _ = _
           exact oT
          exact norm_ (by simp only [putAll, Act.put, List.setIfInBounds_toArray, List.set_cons_zero, List.set_cons_succ]) (hCont (.slice (some ado66) bR.length nQ, ado66) _ ⟨hHeld, (oR bP), (oQ aA), ⟨_, rfl⟩, (oP aC), (oP aB), (oP aE), (oI72 aH), (oE HK), (oH HB (IsS72.ge aH.out))⟩)
         ·skip
          refine goes_ Try.func56 oK rfl #[.pointer (some ⟨g, 0, none⟩), .int .i64 4] (by rfl) rfl rfl oA ?_
          with_reducible refine (spec_l20Rd_pick.calls k1 g s0_0 bM 4 bU eJ w0 _ ?side1 ?side2 qQ.out).mono ?_
          (case side1 => exact oI72 aH)
          (case side2 => exact oH HB (IsS72.ge aH.out))
          rintro e uA ⟨rfl, hi, hb, hk⟩
          refine ⟨_, rfl, ?_⟩
          have n_ := o2_ (Kd.Q_mono (Kd.Q_keep (IsS72.apartQ (show IsS72 w0 _ g s0_0 bM from oI72 aH) (oQ aA) oD) hk (fun _ h => h.2)) (fun _ h => h.1)) (o2_ (oJ hk aC aJ) (o2_ (oJ hk aB aI) (o2_ (oJ hk aE aW) (o2_ (KeepBut.trans (oE HK) hk (.inl rfl)) (o2_ (hb) (o1_ (hi)))))))
          clear aA aC aB aE HK HB aH
          obtain ⟨aA, aC, aB, aE, HK, HB, aH⟩ := n_
          (try clear hb)
          (try clear hb2)
          (try clear hk)
          (try clear hi)
          refine hK.out _ _ ⟨(blk_cell aB.out 0).trans rfl, (blk_cell aB.out 1).trans rfl, (blk_cell aB.out 2).trans rfl⟩ (fun hHeld => ?_)
          clear hK K
          refine norm_ (a' := ?_) ?_ ?_
          rotate_left
          ·show Act.put _ (some 63) _ = _
           exact oT
          refine one_ (i := 3) (N := some 61) #[true, true, true, true, true, true, false, false, false, false] rfl rfl (one_of HT_.out oK) oD (fun K hK => ?_)
          refine Kd.R_lit_step (Kd.int .i64) _ 3 ?hg (N := 61) ?hd (xs := ([0, (-1), 7, wrap64 ((wrap64 (1 + aV)) + 1)] : List Int)) (inner := [.int .i64 0, .int .i64 (-1), .int .i64 7, .int .i64 (wrap64 ((wrap64 (1 + aV)) + 1))]) (ok := fun _ => True) (okp := fun _ => True) ?hr ?hp (fun _ hk => hk) trivial (Below.refl _ _) (Nat.le_refl _) (by simp) ?_; (case hd => rfl); (case hg => rfl); (case hr => first | (go_simp; done) | (go_simp; rfl)); (case hp => exact (Reps.one (show Kd.M (Kd.int .i64) _ _ _ 0 [.int .i64 0] from rfl) (Reps.one (show Kd.M (Kd.int .i64) _ _ _ (-1) [.int .i64 (-1)] from rfl) (Reps.one (show Kd.M (Kd.int .i64) _ _ _ 7 [.int .i64 7] from rfl) (Reps.one (show Kd.M (Kd.int .i64) _ _ _ (wrap64 ((wrap64 (1 + aV)) + 1)) [.int .i64 (wrap64 ((wrap64 (1 + aV)) + 1))] from rfl) (Reps.none _ _))))))
          intro eK uG ho66 hb hg_ hnew_
          clear hg_ hnew_
          (first | rw [← cO.out] at ho66 | (simp only [Int.reduceToNat] at ho66; rw [← cO.out] at ho66))
          have n_ := o2_ (Kd.Q_below (oQ aA) hb) (o2_ (Kd.R_lower ho66 (keep_size (w := w) (g := g) (row := none) (oE HK))) (o2_ (blk_below (oP aC) hb) (o2_ (blk_below (oP aB) hb) (o2_ (blk_below (oP aE) hb) (o2_ (IsS72.below (oI72 aH) hb) (o2_ (KeepBut.trans (oE HK) (KeepBut.of_below hb g none) (.inl rfl)) (o1_ (below_step (oH HB (IsS72.ge aH.out)) hb))))))))
          clear aA aC aB aE aH HK HB
          obtain ⟨aA, bP, aC, aB, aE, aH, HK, HB⟩ := n_
          clear hb ho66
          obtain ⟨tN, nR, nY⟩ := Kd.R_slice bP.out
          subst nY
          obtain ⟨ado67, fo67, _⟩ := Kd.at_int (Kd.R_reads' bP.out).2.2 0 oD (by rw [cO.out]; simp)
          cases fo67
          refine hK.out _ _ ⟨(blk_cell aB.out 0).trans rfl, (blk_cell aB.out 1).trans rfl, (blk_cell aB.out 2).trans rfl⟩ (fun hHeld => ?_)
          clear hK K
          refine norm_ (a' := ?_) ?_ ?_
          rotate_left
          ·show Act.put _ (some 61) _ = _
           exact oT
          exact norm_ (by simp only [putAll, Act.put, List.setIfInBounds_toArray, List.set_cons_zero, List.set_cons_succ]) (hCont (.slice (some ado67) bR.length nR, ado67) _ ⟨hHeld, (oR bP), (oQ aA), ⟨_, rfl⟩, (oP aC), (oP aB), (oP aE), (oI72 aH), (oE HK), (oH HB (IsS72.ge aH.out))⟩)
        rintro ⟨eK, cS⟩ cP ⟨hS_, h0_, h1_, h2_, h3_, h4_, h5_, h6_, h7_, h8_⟩
        have dZ : Aside0 (Kd.R (Kd.int .i64) 3 cP w.heap.size (fun _ => True) eK bR) := ⟨h0_⟩
        have eA : Aside0 (Kd.Q k38 38 cP w.heap.size (fun k_ => k_ ≠ aN) aM aD) := ⟨h1_⟩
        have eB : Aside0 (∃ c_, (eK : Value) = .slice (some cS) bR.length c_) := ⟨h2_⟩
        have eC : Aside0 (cP.heap[aK]? = some (.cells #[.int .i64 0, .int .i64 0, .slice none 0 0] 25 (0, 0))) := ⟨h3_⟩
        have eD : Aside0 (cP.heap[aG]? = some (.cells #[.int .i64 (wrap64 (1 + aV)), .int .i64 (wrap64 (1 + aY)), aM] 25 (0, 0))) := ⟨h4_⟩
        have eE : Aside0 (cP.heap[aN]? = some (.cells #[.int .i64 aQ, .int .i64 aR, .int .i64 aT, .int .i64 aU] 38 (0, 0))) := ⟨h5_⟩
        have eF : Aside0 (IsS72 w0 cP g s0_0 eJ) := ⟨h6_⟩
        have eG : Aside0 (KeepBut w cP g none) := ⟨h7_⟩
        have jI : Aside0 (Below w0.heap.size w0 cP) := ⟨h8_⟩
        clear aA
        clear aC
        clear aB
        clear aE
        clear aH
        clear HK
        clear HB
        clear h0_ h1_ h2_ h3_ h4_ h5_ h6_ h7_ h8_
        have bP := dZ
        have aA := eA
        have HA_HO173 := eB
        have aC := eC
        have aB := eD
        have aE := eE
        have aH := eF
        have HK := eG
        have HB := jI
        clear dZ eA eB eC eD eE eF eG jI
        have hHeld : cP.cell? ⟨aG, 0, none⟩ = some (.int .i64 (wrap64 (1 + aV))) ∧ cP.cell? ⟨aG, 1, none⟩ = some (.int .i64 (wrap64 (1 + aY))) ∧ cP.cell? ⟨aG, 2, none⟩ = some (aM) := hS_
        obtain ⟨tP, nZ⟩ := HA_HO173.out
        clear HA_HO173
        subst nZ
        refine norm_ (a' := ?_) ?_ ?_
        rotate_left
        ·simp only [putAll, Act.put, List.setIfInBounds_toArray, List.set_cons_zero, List.set_cons_succ]
         rfl
        refine pure_ (i := 6) (N := some 64) (v := ?_) (a' := ?_) #[true, true, true, true, true, true, true, false, false, false] rfl rfl (any_of HT_.out oK) (fun _ _ _ h => h) (Or.inl ⟨by rfl, ?_⟩) ?_ ?_
        rotate_left
        ·intro w'
         go_simp
         with_reducible rfl
        rotate_left
        ·exact oT
        refine one_ (i := 7) (N := some 65) #[true, true, true, true, true, true, true, true, false, false] rfl rfl (one_of HT_.out oK) oD (fun K hK => ?_)
        (have qA : 0 ≤ (bU : Int) := of_decide_eq_true oM; have qC : bU < (bR.length : Int) := of_decide_eq_true oM; obtain ⟨gE, nS, dX⟩ := Kd.at_int (Kd.R_reads' bP.out).2.2 bU qA qC; obtain rfl : cS = gE := (by injection nS))
        refine value_ (w1 := ?_) (v := ?_) (by rfl) rfl ?_ ?_
        rotate_left 2
        ·go_simp
         constructor
         ·rfl
         ·rfl
        clear dX
        refine hK.out _ _ ⟨(blk_cell aB.out 0).trans rfl, (blk_cell aB.out 1).trans rfl, (blk_cell aB.out 2).trans rfl⟩ (fun hHeld => ?_)
        clear hK K
        refine norm_ (a' := ?_) ?_ ?_
        rotate_left
        ·show Act.put _ (some 65) _ = _
         exact oT
        refine pure_ (i := 8) (N := some 66) (v := ?_) (a' := ?_) #[true, true, true, true, true, true, true, true, true, false] rfl rfl (any_of HT_.out oK) (fun _ _ _ h => h) (Or.inl ⟨by rfl, ?_⟩) ?_ ?_
        rotate_left
        ·intro w'
         go_simp
         with_reducible rfl
        rotate_left
        ·exact oT
        refine last_ (i := 9) (N := none) #[true, true, true, true, true, true, true, true, true, true] rfl rfl (one_of HT_.out oK) oD (fun K hK => ?_)
        have hs70 : cP.cell? ⟨aG, 0, none⟩ = some (.int .i64 (wrap64 (1 + aV))) := (blk_cell aB.out 0).trans rfl
        have hfs70 := blk_frozen aB.out 0
        have hns70_0 := bD.out
        have hns70_2 := bG.out
        have hms70_0 := bE.out
        have hms70_2 := bF.out
        refine skip_ (w1 := ?_) (by rfl) rfl ?_ ?_
        rotate_left
        ·go_simp
         rfl
        refine hK.out _ _ ?_
        clear hK K
        refine done_ (done_of HT_.out oK) ?_
        have kZ : cP.cell? ⟨aG, 0, none⟩ = some (.int .i64 (wrap64 (1 + aV))) := (blk_cell aB.out 0).trans rfl
        have lA : cP.cell? ⟨aG, 1, none⟩ = some (.int .i64 (wrap64 (1 + aY))) := (blk_cell aB.out 1).trans rfl
        have lB : cP.cell? ⟨aG, 2, none⟩ = some (aM) := (blk_cell aB.out 2).trans rfl
        have mR := blk_frozen aB.out 0
        have mS := blk_frozen aB.out 1
        have mT := blk_frozen aB.out 2
        have rX := bI.out
        have sZ := bJ.out
        have rY := aJ.out
        have tA := bT.out
        have lC : cP.cell? ⟨aK, 0, none⟩ = some (.int .i64 0) := (blk_cell aC.out 0).trans rfl
        have lD : cP.cell? ⟨aK, 1, none⟩ = some (.int .i64 0) := (blk_cell aC.out 1).trans rfl
        have lE : cP.cell? ⟨aK, 2, none⟩ = some (.slice none 0 0) := (blk_cell aC.out 2).trans rfl
        have mU := blk_frozen aC.out 0
        have mV := blk_frozen aC.out 1
        have mW := blk_frozen aC.out 2
        obtain ⟨fV, gV, oO, _⟩ := Kd.Q_slice aA.out
        subst oO
        try go_wp2
        refine bodyPost_ret (results_cell_row rfl _ _ aK 25 #[.int .i64 (rd bR bU), .int .i64 (wrap64 (1 + aY)), .slice fV aD.length gV] (0, 0) _ rfl (blk_put (blk_put (blk_put (oP aC) 0 _ rfl) 1 _ rfl) 2 _ rfl) Try.underlying25 rfl oK) rfl ?_
        exact ⟨_, by first | rfl | (simp [errW_none, errW_some] <;> rfl) | (simp [*, errW_none, errW_some] <;> rfl), by (with_reducible repeat (first | apply Kd.Q_alloc | apply Kd.Q_drewN | apply Kd.Q_drew)); exact Kd.Q_mono (Kd.Q_far (p := ⟨aK, 2, none⟩) (Kd.Q_far (p := ⟨aK, 1, none⟩) (Kd.Q_far (p := ⟨aK, 0, none⟩) (Kd.Q_far (p := ⟨aG, 0, none⟩) (Kd.Q_types (Kd.Q_types aA.out aB.out oD) aC.out oD) (fun _ hk => hk.1.2) (.int .i64 (rd bR bU))) (fun _ hk => hk.2) (.int .i64 (rd bR bU))) (fun _ hk => hk.2) (.int .i64 (wrap64 (1 + aY)))) (fun _ hk => hk.2) (.slice fV aD.length gV)) (fun _ hk => trivial), oI72 aH, oH HB (IsS72.ge aH.out), oE HK⟩
       ·rw [if_neg jT] at H
        exact absurd H (by simp)
      ·rw [if_neg jS] at H
       exact absurd H (by simp)
     ·rw [if_neg eY] at H
      have gI : (bO == 0) = false := beq_eq_false_iff_ne.mpr eY
      have gJ : (bO != 0) = true := bne_iff_ne.mpr eY
      by_cases eZ : bO = 1
      ·rw [if_pos eZ] at H
       have gK : (bO == 1) = true := beq_iff_eq.mpr eZ
       have gL : (bO != 1) = false := bne_eq_false_iff_eq.mpr eZ
       clear eZ
       obtain ⟨cI, hy177⟩ : ∃ y_ : List Int, y_ = (([0, 7] : List Int)) := ⟨_, rfl⟩
       replace H : ((spec_l20Rd_pick.f k1 s0_0 bM 2).bind fun bY => (if 0 ≤ bY.1 then (if bY.1 < (cI.length : Int) then (some ((wrap64 (1 + aV)), rd cI bY.1, aD, bY.2)) else (none)) else (none))) = some (r1, r2, r3, r4) := by first | (rw [hy177]; with_reducible exact H) | (have H2_ := (Option.bind_some _ _).symm.trans H; rw [hy177]; with_reducible exact H2_) | (have H2_ := (Option.bind_some _ _).symm.trans H; with_reducible exact H2_) | with_reducible exact H | (rw [hy177]; exact H) | exact H
       have eR := Aside0.mk hy177
       clear hy177
       replace H := Option.bind_eq_some_iff.mp H
       obtain ⟨⟨cG, qF⟩, fS, H⟩ := H
       (try dsimp only at H)
       have tL := Aside0.mk fS
       clear fS
       by_cases jU : 0 ≤ cG
       ·rw [if_pos jU] at H
        have rA : decide (0 ≤ cG) = true := decide_eq_true jU
        clear jU
        by_cases jV : cG < (cI.length : Int)
        ·rw [if_pos jV] at H
         have rB : decide (cG < (cI.length : Int)) = true := decide_eq_true jV
         clear jV
         simp only [Option.some.injEq, Prod.mk.injEq] at H
         obtain ⟨rfl, rfl, rfl, rfl⟩ := H
         have rZ := bE.out
         have tB := bD.out
         have sA := bF.out
         have tC := bG.out
         have sB := aI.out
         have tD := bL.out
         have lF : wr.cell? ⟨aG, 0, none⟩ = some (.int .i64 (wrap64 (1 + aV))) := (blk_cell aB.out 0).trans rfl
         have lG : wr.cell? ⟨aG, 1, none⟩ = some (.int .i64 (wrap64 (1 + aY))) := (blk_cell aB.out 1).trans rfl
         have lH : wr.cell? ⟨aG, 2, none⟩ = some (aM) := (blk_cell aB.out 2).trans rfl
         have mX := blk_frozen aB.out 0
         have mY := blk_frozen aB.out 1
         have mZ := blk_frozen aB.out 2
         go_wp2_with (first | ((with_reducible refine gate_callee (f := 67) rfl ?_); refine goesL_ (some 39) rfl rfl Try.func67 oK rfl #[.pointer (some ⟨g, 0, none⟩), .int .i64 a1] rfl oA ?_; (with_reducible refine (spec_l20Rd_odd.calls k1 g s0_0 aZ a1 true cA w0 _ ?side1 ?side2 eN.out).mono ?_); (case side1 => exact oI72 aH); (case side2 => exact oH HB (IsS72.ge aH.out)); rintro e uI ⟨rfl, hi, hb, hk⟩; refine ⟨_, rfl, ?_⟩; have n_ := o2_ (Kd.Q_mono (Kd.Q_keep (IsS72.apartQ (show IsS72 w0 _ g s0_0 aZ from oI72 aH) (oQ aA) oD) hk (fun _ h => h.2)) (fun _ h => h.1)) (o2_ (oJ hk aC aJ) (o2_ (oJ hk aB aI) (o2_ (oJ hk aE aW) (o2_ (KeepBut.trans (oE HK) hk (.inl rfl)) (o2_ (hb) (o1_ (hi))))))); clear aA aC aB aE HK HB aH; obtain ⟨aA, aC, aB, aE, HK, HB, aH⟩ := n_; (try clear hb); (try clear hb2); (try clear hk); (try clear hi)) | ((with_reducible refine gate_callee (f := 56) rfl ?_); refine goesL_ (some 41) rfl rfl Try.func56 oK rfl #[.pointer (some ⟨g, 0, none⟩), .int .i64 4] rfl oA ?_; (with_reducible refine (spec_l20Rd_pick.calls k1 g s0_0 cA 4 bO bM w0 _ ?side1 ?side2 jO.out).mono ?_); (case side1 => exact oI72 aH); (case side2 => exact oH HB (IsS72.ge aH.out)); rintro e uJ ⟨rfl, hi, hb, hk⟩; refine ⟨_, rfl, ?_⟩; have n_ := o2_ (Kd.Q_mono (Kd.Q_keep (IsS72.apartQ (show IsS72 w0 _ g s0_0 cA from oI72 aH) (oQ aA) oD) hk (fun _ h => h.2)) (fun _ h => h.1)) (o2_ (oJ hk aC aJ) (o2_ (oJ hk aB aI) (o2_ (oJ hk aE aW) (o2_ (KeepBut.trans (oE HK) hk (.inl rfl)) (o2_ (hb) (o1_ (hi))))))); clear aA aC aB aE HK HB aH; obtain ⟨aA, aC, aB, aE, HK, HB, aH⟩ := n_; (try clear hb); (try clear hb2); (try clear hk); (try clear hi)) | ((with_reducible refine gate_dst (N := 69) rfl ?_); refine Kd.R_lit (Kd.int .i64) _ 3 ?hg (N := 69) ?hd (xs := ([0, 7] : List Int)) (inner := [.int .i64 0, .int .i64 7]) (ok := fun _ => True) (okp := fun _ => True) ?hr ?hp (fun _ hk => hk) trivial (Below.refl _ _) (Nat.le_refl _) (by simp) ?_; (case hd => rfl); (case hg => rfl); (case hr => first | (go_simp; done) | (go_simp; rfl)); (case hp => exact (Reps.one (show Kd.M (Kd.int .i64) _ _ _ 0 [.int .i64 0] from rfl) (Reps.one (show Kd.M (Kd.int .i64) _ _ _ 7 [.int .i64 7] from rfl) (Reps.none _ _)))); intro tT uK ho87 hb hg_ hnew_; clear hg_ hnew_; (first | rw [← eR.out] at ho87 | (simp only [Int.reduceToNat] at ho87; rw [← eR.out] at ho87)); have n_ := o2_ (Kd.Q_below (oQ aA) hb) (o2_ (Kd.R_lower ho87 (keep_size (w := w) (g := g) (row := none) (oE HK))) (o2_ (blk_below (oP aC) hb) (o2_ (blk_below (oP aB) hb) (o2_ (blk_below (oP aE) hb) (o2_ (IsS72.below (oI72 aH) hb) (o2_ (KeepBut.trans (oE HK) (KeepBut.of_below hb g none) (.inl rfl)) (o1_ (below_step (oH HB (IsS72.ge aH.out)) hb)))))))); clear aA aC aB aE aH HK HB; obtain ⟨aA, cR, aC, aB, aE, aH, HK, HB⟩ := n_; clear hb ho87) | ((with_reducible refine gate_callee (f := 56) rfl ?_); refine goesL_ (some 71) rfl rfl Try.func56 oK rfl #[.pointer (some ⟨g, 0, none⟩), .int .i64 2] rfl oA ?_; (with_reducible refine (spec_l20Rd_pick.calls k1 g s0_0 bM 2 cG qF w0 _ ?side1 ?side2 tL.out).mono ?_); (case side1 => exact oI72 aH); (case side2 => exact oH HB (IsS72.ge aH.out)); rintro e fL ⟨rfl, hi, hb, hk⟩; refine ⟨_, rfl, ?_⟩; have n_ := o2_ (Kd.Q_mono (Kd.Q_keep (IsS72.apartQ (show IsS72 w0 _ g s0_0 bM from oI72 aH) (oQ aA) oD) hk (fun _ h => h.2)) (fun _ h => h.1)) (o2_ (oJ hk aC aJ) (o2_ (oJ hk aB aI) (o2_ (oJ hk aE aW) (o2_ (Kd.R_mono (Kd.R_keep (IsS72.apart (show IsS72 w0 _ g s0_0 bM from oI72 aH) (oR cR) oD) hk (fun _ h => h.2)) (fun _ h => h.1)) (o2_ (KeepBut.trans (oE HK) hk (.inl rfl)) (o2_ (hb) (o1_ (hi)))))))); clear aA aC aB aE cR HK HB aH; obtain ⟨aA, aC, aB, aE, cR, HK, HB, aH⟩ := n_; (try clear hb); (try clear hb2); (try clear hk); (try clear hi); obtain ⟨tO, tQ, pA⟩ := Kd.R_slice cR.out; subst pA; have fC : 0 ≤ (cG : Int) := of_decide_eq_true oM; have fF : cG < (cI.length : Int) := of_decide_eq_true oM; obtain ⟨qX, nT, nK⟩ := Kd.at_int (Kd.R_reads' cR.out).2.2 cG fC fF; cases nT; replace fC := eq_true fC; replace fF := eq_true fF; have lI : fL.cell? ⟨aG, 0, none⟩ = some (.int .i64 (wrap64 (1 + aV))) := (blk_cell aB.out 0).trans rfl; have lJ : fL.cell? ⟨aG, 1, none⟩ = some (.int .i64 (wrap64 (1 + aY))) := (blk_cell aB.out 1).trans rfl; have lK : fL.cell? ⟨aG, 2, none⟩ = some (aM) := (blk_cell aB.out 2).trans rfl; have nA := blk_frozen aB.out 0; have nB := blk_frozen aB.out 1; have nC := blk_frozen aB.out 2; have sC := bI.out; have tE := bJ.out; have sD := aJ.out; have tF := bT.out; have lL : fL.cell? ⟨aK, 0, none⟩ = some (.int .i64 0) := (blk_cell aC.out 0).trans rfl; have lM : fL.cell? ⟨aK, 1, none⟩ = some (.int .i64 0) := (blk_cell aC.out 1).trans rfl; have lN : fL.cell? ⟨aK, 2, none⟩ = some (.slice none 0 0) := (blk_cell aC.out 2).trans rfl; have nD := blk_frozen aC.out 0; have nE := blk_frozen aC.out 1; have nF := blk_frozen aC.out 2; obtain ⟨fW, gW, pB, _⟩ := Kd.Q_slice aA.out; subst pB))
         refine bodyPost_ret (results_cell_row rfl _ _ aK 25 #[.int .i64 (wrap64 (1 + aV)), .int .i64 (rd cI cG), .slice fW aD.length gW] (0, 0) _ rfl (blk_put (blk_put (blk_put (oP aC) 0 _ rfl) 1 _ rfl) 2 _ rfl) Try.underlying25 rfl oK) rfl ?_
         exact ⟨_, by first | rfl | (simp [errW_none, errW_some] <;> rfl) | (simp [*, errW_none, errW_some] <;> rfl), by (with_reducible repeat (first | apply Kd.Q_alloc | apply Kd.Q_drewN | apply Kd.Q_drew)); exact Kd.Q_mono (Kd.Q_far (p := ⟨aK, 2, none⟩) (Kd.Q_far (p := ⟨aK, 1, none⟩) (Kd.Q_far (p := ⟨aK, 0, none⟩) (Kd.Q_far (p := ⟨aG, 1, none⟩) (Kd.Q_types (Kd.Q_types aA.out aB.out oD) aC.out oD) (fun _ hk => hk.1.2) (.int .i64 (rd cI cG))) (fun _ hk => hk.2) (.int .i64 (wrap64 (1 + aV)))) (fun _ hk => hk.2) (.int .i64 (rd cI cG))) (fun _ hk => hk.2) (.slice fW aD.length gW)) (fun _ hk => trivial), oI72 aH, oH HB (IsS72.ge aH.out), oE HK⟩
        ·rw [if_neg jV] at H
         exact absurd H (by simp)
       ·rw [if_neg jU] at H
        exact absurd H (by simp)
      ·rw [if_neg eZ] at H
       have gK : (bO == 1) = false := beq_eq_false_iff_ne.mpr eZ
       have gL : (bO != 1) = true := bne_iff_ne.mpr eZ
       by_cases fA : bO = 2
       ·rw [if_pos fA] at H
        have gM : (bO == 2) = true := beq_iff_eq.mpr fA
        have gN : (bO != 2) = false := bne_eq_false_iff_eq.mpr fA
        clear fA
        by_cases gO : 1 ≤ (aD.length : Int)
        ·rw [if_pos gO] at H
         have rC := eq_true gO
         have rD : decide (1 ≤ (aD.length : Int)) = true := decide_eq_true gO
         clear gO
         obtain ⟨y183, hy183⟩ : ∃ y_ : List (S38), y_ = (aD.drop (1 : Int).toNat) := ⟨_, rfl⟩
         replace H : (some ((wrap64 (1 + aV)), (wrap64 (1 + aY)), y183, bM)) = some (r1, r2, r3, r4) := by first | (rw [hy183]; with_reducible exact H) | (have H2_ := (Option.bind_some _ _).symm.trans H; rw [hy183]; with_reducible exact H2_) | (have H2_ := (Option.bind_some _ _).symm.trans H; with_reducible exact H2_) | with_reducible exact H | (rw [hy183]; exact H) | exact H
         have eS := Aside0.mk hy183
         clear hy183
         simp only [Option.some.injEq, Prod.mk.injEq] at H
         obtain ⟨rfl, rfl, rfl, rfl⟩ := H
         have sE := bE.out
         have tG := bD.out
         have sF := bF.out
         have tH := bG.out
         have sG := aI.out
         have tI := bL.out
         have hE : wr.cell? ⟨aG, 0, none⟩ = some (.int .i64 (wrap64 (1 + aV))) := (blk_cell aB.out 0).trans rfl
         have hF : wr.cell? ⟨aG, 1, none⟩ = some (.int .i64 (wrap64 (1 + aY))) := (blk_cell aB.out 1).trans rfl
         have hG : wr.cell? ⟨aG, 2, none⟩ = some (aM) := (blk_cell aB.out 2).trans rfl
         have iH := blk_frozen aB.out 0
         have iI := blk_frozen aB.out 1
         have iJ := blk_frozen aB.out 2
         go_wp2_with (first | ((with_reducible refine gate_callee (f := 67) rfl ?_); refine goesL_ (some 39) rfl rfl Try.func67 oK rfl #[.pointer (some ⟨g, 0, none⟩), .int .i64 a1] rfl oA ?_; (with_reducible refine (spec_l20Rd_odd.calls k1 g s0_0 aZ a1 true cA w0 _ ?side1 ?side2 eN.out).mono ?_); (case side1 => exact oI72 aH); (case side2 => exact oH HB (IsS72.ge aH.out)); rintro e tU ⟨rfl, hi, hb, hk⟩; refine ⟨_, rfl, ?_⟩; have n_ := o2_ (Kd.Q_mono (Kd.Q_keep (IsS72.apartQ (show IsS72 w0 _ g s0_0 aZ from oI72 aH) (oQ aA) oD) hk (fun _ h => h.2)) (fun _ h => h.1)) (o2_ (oJ hk aC aJ) (o2_ (oJ hk aB aI) (o2_ (oJ hk aE aW) (o2_ (KeepBut.trans (oE HK) hk (.inl rfl)) (o2_ (hb) (o1_ (hi))))))); clear aA aC aB aE HK HB aH; obtain ⟨aA, aC, aB, aE, HK, HB, aH⟩ := n_; (try clear hb); (try clear hb2); (try clear hk); (try clear hi)) | ((with_reducible refine gate_callee (f := 56) rfl ?_); refine goesL_ (some 41) rfl rfl Try.func56 oK rfl #[.pointer (some ⟨g, 0, none⟩), .int .i64 4] rfl oA ?_; (with_reducible refine (spec_l20Rd_pick.calls k1 g s0_0 cA 4 bO bM w0 _ ?side1 ?side2 jO.out).mono ?_); (case side1 => exact oI72 aH); (case side2 => exact oH HB (IsS72.ge aH.out)); rintro e cW ⟨rfl, hi, hb, hk⟩; refine ⟨_, rfl, ?_⟩; have n_ := o2_ (Kd.Q_mono (Kd.Q_keep (IsS72.apartQ (show IsS72 w0 _ g s0_0 cA from oI72 aH) (oQ aA) oD) hk (fun _ h => h.2)) (fun _ h => h.1)) (o2_ (oJ hk aC aJ) (o2_ (oJ hk aB aI) (o2_ (oJ hk aE aW) (o2_ (KeepBut.trans (oE HK) hk (.inl rfl)) (o2_ (hb) (o1_ (hi))))))); clear aA aC aB aE HK HB aH; obtain ⟨aA, aC, aB, aE, HK, HB, aH⟩ := n_; (try clear hb); (try clear hb2); (try clear hk); (try clear hi); have hH : cW.cell? ⟨aG, 0, none⟩ = some (.int .i64 (wrap64 (1 + aV))) := (blk_cell aB.out 0).trans rfl; have hJ : cW.cell? ⟨aG, 1, none⟩ = some (.int .i64 (wrap64 (1 + aY))) := (blk_cell aB.out 1).trans rfl; have hL : cW.cell? ⟨aG, 2, none⟩ = some (aM) := (blk_cell aB.out 2).trans rfl; have iK := blk_frozen aB.out 0; have iL := blk_frozen aB.out 1; have iM := blk_frozen aB.out 2; obtain ⟨cQ, cX, gX, _⟩ := Kd.Q_slice aA.out; subst gX; have fD : (1 : Int) ≤ ((aD.length : Int) : Int) := of_decide_eq_true oM; obtain ⟨i0105, hi0105, _, hsz105, _⟩ := info_parts info38; have hcut105 := cut_from (P := Try.prog) 23 38 .i64 Try.underlying23 hi0105 4 hsz105 cQ aD.length cX 1 (by omega) fD; have hr105 := Kd.Q_drop (k := (1 : Int).toNat) aA.out (by omega); obtain ⟨A105, hA105⟩ : ∃ A1, A1 = (if cX = (1 : Int).toNat then cQ else (cQ : Option Addr).map (·.add ((1 : Int).toNat * 4))) := ⟨_, rfl⟩; obtain ⟨c105, hc105⟩ : ∃ c1, c1 = cX - (1 : Int).toNat := ⟨_, rfl⟩; have hy105 : y183.length = aD.length - (1 : Int).toNat := (by rw [eS.out, List.length_drop]); rw [← eS.out] at hr105; rw [← hy105, ← hA105, ← hc105] at hcut105; replace hr105 : Kd.Q k38 38 cW w.heap.size (fun k_ => k_ ≠ aN) (.slice A105 y183.length c105) y183 := (by rw [hA105, hc105, hy105]; exact hr105); have HE105 : Aside0 ((Value.slice A105 y183.length c105).ownBlock = (.slice cQ aD.length cX : Value).ownBlock) := ⟨(by rw [hA105]; split <;> (cases (cQ : Option Addr) <;> rfl))⟩; clear hy105 hi0105 hsz105 aA hA105 hc105; have gA := Aside0.mk hr105; clear hr105; replace fD := eq_true fD; have pC := bI.out; have pO := bJ.out; have pD := aJ.out; have pP := bT.out; have hM : cW.cell? ⟨aK, 0, none⟩ = some (.int .i64 0) := (blk_cell aC.out 0).trans rfl; have hN : cW.cell? ⟨aK, 1, none⟩ = some (.int .i64 0) := (blk_cell aC.out 1).trans rfl; have hO : cW.cell? ⟨aK, 2, none⟩ = some (.slice none 0 0) := (blk_cell aC.out 2).trans rfl; have iN := blk_frozen aC.out 0; have iO := blk_frozen aC.out 1; have iP := blk_frozen aC.out 2))
         refine bodyPost_ret (results_cell_row rfl _ _ aK 25 #[.int .i64 (wrap64 (1 + aV)), .int .i64 (wrap64 (1 + aY)), .slice A105 y183.length c105] (0, 0) _ rfl (blk_put (blk_put (blk_put (oP aC) 0 _ rfl) 1 _ rfl) 2 _ rfl) Try.underlying25 rfl oK) rfl ?_
         exact ⟨_, by first | rfl | (simp [errW_none, errW_some] <;> rfl) | (simp [*, errW_none, errW_some] <;> rfl), by (with_reducible repeat (first | apply Kd.Q_alloc | apply Kd.Q_drewN | apply Kd.Q_drew)); exact Kd.Q_mono (Kd.Q_far (p := ⟨aK, 2, none⟩) (Kd.Q_far (p := ⟨aK, 1, none⟩) (Kd.Q_far (p := ⟨aK, 0, none⟩) (Kd.Q_far (p := ⟨aG, 2, none⟩) (Kd.Q_types (Kd.Q_types gA.out aB.out oD) aC.out oD) (fun _ hk => hk.1.2) (.slice A105 y183.length c105)) (fun _ hk => hk.2) (.int .i64 (wrap64 (1 + aV)))) (fun _ hk => hk.2) (.int .i64 (wrap64 (1 + aY)))) (fun _ hk => hk.2) (.slice A105 y183.length c105)) (fun _ hk => trivial), oI72 aH, oH HB (IsS72.ge aH.out), oE HK⟩
        ·rw [if_neg gO] at H
         exact absurd H (by simp)
       ·rw [if_neg fA] at H
        have gM : (bO == 2) = false := beq_eq_false_iff_ne.mpr fA
        have gN : (bO != 2) = true := bne_iff_ne.mpr fA
        replace H := Option.bind_eq_some_iff.mp H
        obtain ⟨⟨aX, cH⟩, eL, H⟩ := H
        (try dsimp only at H)
        have fM := Aside0.mk eL
        clear eL
        obtain ⟨bH, hy188⟩ : ∃ y_ : List Int, y_ = (([(-1), 256] : List Int)) := ⟨_, rfl⟩
        replace H : ((spec_l20Rd_pick.f k1 s0_0 cH 2).bind fun bZ => (if 0 ≤ bZ.1 then (if bZ.1 < (bH.length : Int) then (if 0 ≤ aX then (if aX < (aD.length : Int) then (some ((wrap64 (1 + aV)), (wrap64 (1 + aY)), (aD.set (aX : Int).toNat (⟨(rd_T38 aD aX).f0, rd bH bZ.1, (rd_T38 aD aX).f2, (rd_T38 aD aX).f3⟩ : S38)), bZ.2)) else (none)) else (none)) else (none)) else (none))) = some (r1, r2, r3, r4) := by first | (rw [hy188]; with_reducible exact H) | (have H2_ := (Option.bind_some _ _).symm.trans H; rw [hy188]; with_reducible exact H2_) | (have H2_ := (Option.bind_some _ _).symm.trans H; with_reducible exact H2_) | with_reducible exact H | (rw [hy188]; exact H) | exact H
        have bV := Aside0.mk hy188
        clear hy188
        replace H := Option.bind_eq_some_iff.mp H
        obtain ⟨⟨bK, cV⟩, eM, H⟩ := H
        (try dsimp only at H)
        have eX := Aside0.mk eM
        clear eM
        by_cases dF : 0 ≤ bK
        ·rw [if_pos dF] at H
         have nM : decide (0 ≤ bK) = true := decide_eq_true dF
         clear dF
         by_cases dG : bK < (bH.length : Int)
         ·rw [if_pos dG] at H
          have nN : decide (bK < (bH.length : Int)) = true := decide_eq_true dG
          clear dG
          by_cases dH : 0 ≤ aX
          ·rw [if_pos dH] at H
           have nO : decide (0 ≤ aX) = true := decide_eq_true dH
           clear dH
           by_cases dI : aX < (aD.length : Int)
           ·rw [if_pos dI] at H
            have nP : decide (aX < (aD.length : Int)) = true := decide_eq_true dI
            clear dI
            obtain ⟨y194, hy194⟩ : ∃ y_ : List (S38), y_ = (aD.set (aX : Int).toNat (⟨(rd_T38 aD aX).f0, rd bH bK, (rd_T38 aD aX).f2, (rd_T38 aD aX).f3⟩ : S38)) := ⟨_, rfl⟩
            replace H : (some ((wrap64 (1 + aV)), (wrap64 (1 + aY)), y194, cV)) = some (r1, r2, r3, r4) := by first | (rw [hy194]; with_reducible exact H) | (have H2_ := (Option.bind_some _ _).symm.trans H; rw [hy194]; with_reducible exact H2_) | (have H2_ := (Option.bind_some _ _).symm.trans H; with_reducible exact H2_) | with_reducible exact H | (rw [hy194]; exact H) | exact H
            have gD := Aside0.mk hy194
            clear hy194
            simp only [Option.some.injEq, Prod.mk.injEq] at H
            obtain ⟨rfl, rfl, rfl, rfl⟩ := H
            have pE := bE.out
            have pQ := bD.out
            have pF := bF.out
            have pR := bG.out
            have pG := aI.out
            have pS := bL.out
            have hP : wr.cell? ⟨aG, 0, none⟩ = some (.int .i64 (wrap64 (1 + aV))) := (blk_cell aB.out 0).trans rfl
            have hQ : wr.cell? ⟨aG, 1, none⟩ = some (.int .i64 (wrap64 (1 + aY))) := (blk_cell aB.out 1).trans rfl
            have hR : wr.cell? ⟨aG, 2, none⟩ = some (aM) := (blk_cell aB.out 2).trans rfl
            have iQ := blk_frozen aB.out 0
            have iR := blk_frozen aB.out 1
            have iS := blk_frozen aB.out 2
            try go_wp2_with (first | ((with_reducible refine gate_callee (f := 67) rfl ?_); refine goesL_ (some 39) rfl rfl Try.func67 oK rfl #[.pointer (some ⟨g, 0, none⟩), .int .i64 a1] rfl oA ?_; (with_reducible refine (spec_l20Rd_odd.calls k1 g s0_0 aZ a1 true cA w0 _ ?side1 ?side2 eN.out).mono ?_); (case side1 => exact oI72 aH); (case side2 => exact oH HB (IsS72.ge aH.out)); rintro e tV ⟨rfl, hi, hb, hk⟩; refine ⟨_, rfl, ?_⟩; have n_ := o2_ (Kd.Q_mono (Kd.Q_keep (IsS72.apartQ (show IsS72 w0 _ g s0_0 aZ from oI72 aH) (oQ aA) oD) hk (fun _ h => h.2)) (fun _ h => h.1)) (o2_ (oJ hk aC aJ) (o2_ (oJ hk aB aI) (o2_ (oJ hk aE aW) (o2_ (KeepBut.trans (oE HK) hk (.inl rfl)) (o2_ (hb) (o1_ (hi))))))); clear aA aC aB aE HK HB aH; obtain ⟨aA, aC, aB, aE, HK, HB, aH⟩ := n_; (try clear hb); (try clear hb2); (try clear hk); (try clear hi)) | ((with_reducible refine gate_callee (f := 56) rfl ?_); refine goesL_ (some 41) rfl rfl Try.func56 oK rfl #[.pointer (some ⟨g, 0, none⟩), .int .i64 4] rfl oA ?_; (with_reducible refine (spec_l20Rd_pick.calls k1 g s0_0 cA 4 bO bM w0 _ ?side1 ?side2 jO.out).mono ?_); (case side1 => exact oI72 aH); (case side2 => exact oH HB (IsS72.ge aH.out)); rintro e qG ⟨rfl, hi, hb, hk⟩; refine ⟨_, rfl, ?_⟩; have n_ := o2_ (Kd.Q_mono (Kd.Q_keep (IsS72.apartQ (show IsS72 w0 _ g s0_0 cA from oI72 aH) (oQ aA) oD) hk (fun _ h => h.2)) (fun _ h => h.1)) (o2_ (oJ hk aC aJ) (o2_ (oJ hk aB aI) (o2_ (oJ hk aE aW) (o2_ (KeepBut.trans (oE HK) hk (.inl rfl)) (o2_ (hb) (o1_ (hi))))))); clear aA aC aB aE HK HB aH; obtain ⟨aA, aC, aB, aE, HK, HB, aH⟩ := n_; (try clear hb); (try clear hb2); (try clear hk); (try clear hi)))
            have pi193 : (0 ≤ (bK : Int)) = True := eq_true (of_decide_eq_true oM)
            have qi193 : (bK < (bH.length : Int)) = True := eq_true (of_decide_eq_true oM)
            have n_ := o2_ (Kd.Q_drew aA.out) (o2_ (blk_drew aC.out) (o2_ (blk_drew aB.out) (o2_ (blk_drew aE.out) (o2_ (IsS72.drew aH.out) (o2_ (keep_drew HK.out) (o1_ (below_drew1 HB.out)))))))
            clear aA aC aB aE aH HK HB
            obtain ⟨aA, aC, aB, aE, aH, HK, HB⟩ := n_
            obtain ⟨cC, bQ, eV, _⟩ := Kd.Q_slice aA.out
            (first | subst eV | (injection eV with f1_ f2_ f3_; have f4_ := f1_.symm; have f5_ := f3_.symm; clear f1_ f2_ f3_; subst f4_; subst f5_))
            refine start_ (n := 15) (S := fun w' => w'.cell? ⟨aG, 0, none⟩ = some (.int .i64 (wrap64 (1 + aV))) ∧ w'.cell? ⟨aG, 1, none⟩ = some (.int .i64 (wrap64 (1 + aY))) ∧ w'.cell? ⟨aG, 2, none⟩ = some (.slice cC aD.length bQ)) (ds := [14]) #[false, false, false, false, false, false, false, false, false, false, false, false, false, false, false] oK rfl rfl ⟨(blk_cell aB.out 0).trans rfl, (blk_cell aB.out 1).trans rfl, (blk_cell aB.out 2).trans rfl⟩ (fun hHeld => ?_); refine with_tabW spec_l20Ras.tab11 spec_l20Ras.bits11 (fun HT_ HW_ => ?_)
            generalize qG.drew = tW at aA aC aB aE aH HK HB hHeld ⊢
            refine pure_ (i := 0) (N := some 42) (v := ?_) (a' := ?_) #[true, false, false, false, false, false, false, false, false, false, false, false, false, false, false] rfl rfl (any_of HT_.out oK) (fun _ _ _ h => h) (Or.inl ⟨by rfl, ?_⟩) ?_ ?_
            rotate_left
            ·intro w'
             go_simp
             with_reducible rfl
            rotate_left
            ·exact oT
            refine pure_ (i := 2) (N := some 44) (v := ?_) (a' := ?_) #[true, false, true, false, false, false, false, false, false, false, false, false, false, false, false] rfl rfl (any_of HT_.out oK) (fun _ _ _ h => h) (Or.inl ⟨by rfl, ?_⟩) ?_ ?_
            rotate_left
            ·intro w'
             go_simp
             with_reducible rfl
            rotate_left
            ·exact oT
            refine pure_ (i := 3) (N := some 45) (v := ?_) (a' := ?_) #[true, false, true, true, false, false, false, false, false, false, false, false, false, false, false] rfl rfl (any_of HT_.out oK) (fun _ _ _ h => h) (Or.inl ⟨by rfl, ?_⟩) ?_ ?_
            rotate_left
            ·intro w'
             go_simp
             with_reducible rfl
            rotate_left
            ·exact oT
            refine pure_ (i := 8) (N := some 50) (v := ?_) (a' := ?_) #[true, false, true, true, false, false, false, false, true, false, false, false, false, false, false] rfl rfl (any_of HT_.out oK) (fun _ _ _ h => h) (Or.inl ⟨by rfl, ?_⟩) ?_ ?_
            rotate_left
            ·intro w'
             go_simp
             with_reducible rfl
            rotate_left
            ·exact oT
            refine take_ (i := 1) (N := some 43) (v := ?_) (a' := ?_) #[true, true, true, true, false, false, false, false, true, false, false, false, false, false, false] rfl rfl (take_ofW HT_.out HW_.out oK) (fun _ _ _ h => h) (Or.inl ⟨by rfl, ?_⟩) hHeld ?_ ?_
            rotate_left
            ·rintro w' ⟨s0, s1, s2⟩
             go_simp
             with_reducible rfl
            rotate_left
            ·exact oT
            refine take_ (i := 4) (N := some 46) (v := ?_) (a' := ?_) #[true, true, true, true, true, false, false, false, true, false, false, false, false, false, false] rfl rfl (take_ofW HT_.out HW_.out oK) (fun _ _ _ h => h) (Or.inl ⟨by rfl, ?_⟩) hHeld ?_ ?_
            rotate_left
            ·rintro w' ⟨s0, s1, s2⟩
             go_simp
             with_reducible rfl
            rotate_left
            ·exact oT
            refine pure_ (i := 5) (N := some 47) (v := ?_) (a' := ?_) #[true, true, true, true, true, true, false, false, true, false, false, false, false, false, false] rfl rfl (any_of HT_.out oK) (fun _ _ _ h => h) (Or.inl ⟨by rfl, ?_⟩) ?_ ?_
            rotate_left
            ·intro w'
             go_simp
             with_reducible rfl
            rotate_left
            ·exact oT
            refine join_ (σ := Value × Addr) 5 #[true, true, true, true, true, true, true, true, true, true, false, false, false, false, false] (fun s_ => [(48, .int .i64 aX), (49, s_.1), (51, .int .i64 bK)]) (fun s_ w' => (w'.cell? ⟨aG, 0, none⟩ = some (.int .i64 (wrap64 (1 + aV))) ∧ w'.cell? ⟨aG, 1, none⟩ = some (.int .i64 (wrap64 (1 + aY))) ∧ w'.cell? ⟨aG, 2, none⟩ = some (.slice cC aD.length bQ)) ∧ (Kd.R (Kd.int .i64) 3 w' w.heap.size (fun _ => True) s_.1 bH) ∧ (Kd.Q k38 38 w' w.heap.size (fun k_ => k_ ≠ aN) (.slice cC aD.length bQ) aD) ∧ (∃ c_, (s_.1 : Value) = .slice (some s_.2) bH.length c_) ∧ (w'.heap[aK]? = some (.cells #[.int .i64 0, .int .i64 0, .slice none 0 0] 25 (0, 0))) ∧ (w'.heap[aG]? = some (.cells #[.int .i64 (wrap64 (1 + aV)), .int .i64 (wrap64 (1 + aY)), .slice cC aD.length bQ] 25 (0, 0))) ∧ (w'.heap[aN]? = some (.cells #[.int .i64 aQ, .int .i64 aR, .int .i64 aT, .int .i64 aU] 38 (0, 0))) ∧ (IsS72 w0 w' g s0_0 cV) ∧ (KeepBut w w' g none) ∧ (Below w0.heap.size w0 w')) ?_ ?_
            rotate_left
            ·intro hCont
             refine two_ (i := 6) (j := 7) (Ni := some 48) (Nj := some 49) #[true, true, true, true, true, true, true, false, true, false, false, false, false, false, false] #[true, true, true, true, true, true, false, true, true, false, false, false, false, false, false] rfl rfl rfl rfl (two_of HT_.out oK) oD oD (fun K hK => ?_) (fun K hK => ?_)
             ·skip
              refine goes_ Try.func56 oK rfl #[.pointer (some ⟨g, 0, none⟩), .int .i64 (aD.length : Int)] (by rfl) rfl rfl oA ?_
              with_reducible refine (spec_l20Rd_pick.calls k1 g s0_0 bM (aD.length : Int) aX cH w0 _ ?side1 ?side2 fM.out).mono ?_
              (case side1 => exact oI72 aH)
              (case side2 => exact oH HB (IsS72.ge aH.out))
              rintro e qH ⟨rfl, hi, hb, hk⟩
              refine ⟨_, rfl, ?_⟩
              have n_ := o2_ (Kd.Q_mono (Kd.Q_keep (IsS72.apartQ (show IsS72 w0 _ g s0_0 bM from oI72 aH) (oQ aA) oD) hk (fun _ h => h.2)) (fun _ h => h.1)) (o2_ (oJ hk aC aJ) (o2_ (oJ hk aB aI) (o2_ (oJ hk aE aW) (o2_ (KeepBut.trans (oE HK) hk (.inl rfl)) (o2_ (hb) (o1_ (hi)))))))
              clear aA aC aB aE HK HB aH
              obtain ⟨aA, aC, aB, aE, HK, HB, aH⟩ := n_
              (try clear hb)
              (try clear hb2)
              (try clear hk)
              (try clear hi)
              refine hK.out _ _ ⟨(blk_cell aB.out 0).trans rfl, (blk_cell aB.out 1).trans rfl, (blk_cell aB.out 2).trans rfl⟩ (fun hHeld => ?_)
              clear hK K
              refine norm_ (a' := ?_) ?_ ?_
              rotate_left
              ·show Act.put _ (some 48) _ = _
               exact oT
              refine two_ (i := 7) (j := 9) (Ni := some 49) (Nj := some 51) #[true, true, true, true, true, true, true, true, true, false, false, false, false, false, false] #[true, true, true, true, true, true, true, false, true, true, false, false, false, false, false] rfl rfl rfl rfl (two_of HT_.out oK) oD oD (fun K hK => ?_) (fun K hK => ?_)
              ·skip
               refine Kd.R_lit_step (Kd.int .i64) _ 3 ?hg (N := 49) ?hd (xs := ([(-1), 256] : List Int)) (inner := [.int .i64 (-1), .int .i64 256]) (ok := fun _ => True) (okp := fun _ => True) ?hr ?hp (fun _ hk => hk) trivial (Below.refl _ _) (Nat.le_refl _) (by simp) ?_; (case hd => rfl); (case hg => rfl); (case hr => first | (go_simp; done) | (go_simp; rfl)); (case hp => exact (Reps.one (show Kd.M (Kd.int .i64) _ _ _ (-1) [.int .i64 (-1)] from rfl) (Reps.one (show Kd.M (Kd.int .i64) _ _ _ 256 [.int .i64 256] from rfl) (Reps.none _ _))))
               intro dE qI ho126 hb hg_ hnew_
               clear hg_ hnew_
               (first | rw [← bV.out] at ho126 | (simp only [Int.reduceToNat] at ho126; rw [← bV.out] at ho126))
               have n_ := o2_ (Kd.Q_below (oQ aA) hb) (o2_ (Kd.R_lower ho126 (keep_size (w := w) (g := g) (row := none) (oE HK))) (o2_ (blk_below (oP aC) hb) (o2_ (blk_below (oP aB) hb) (o2_ (blk_below (oP aE) hb) (o2_ (IsS72.below (oI72 aH) hb) (o2_ (KeepBut.trans (oE HK) (KeepBut.of_below hb g none) (.inl rfl)) (o1_ (below_step (oH HB (IsS72.ge aH.out)) hb))))))))
               clear aA aC aB aE aH HK HB
               obtain ⟨aA, bA, aC, aB, aE, aH, HK, HB⟩ := n_
               clear hb ho126
               obtain ⟨qS, gQ, gZ⟩ := Kd.R_slice bA.out
               subst gZ
               obtain ⟨ado127, fo127, _⟩ := Kd.at_int (Kd.R_reads' bA.out).2.2 0 oD (by rw [bV.out]; simp)
               cases fo127
               refine hK.out _ _ ⟨(blk_cell aB.out 0).trans rfl, (blk_cell aB.out 1).trans rfl, (blk_cell aB.out 2).trans rfl⟩ (fun hHeld => ?_)
               clear hK K
               refine norm_ (a' := ?_) ?_ ?_
               rotate_left
               ·show Act.put _ (some 49) _ = _
                exact oT
               refine one_ (i := 9) (N := some 51) #[true, true, true, true, true, true, true, true, true, true, false, false, false, false, false] rfl rfl (one_of HT_.out oK) oD (fun K hK => ?_)
               refine goes_ Try.func56 oK rfl #[.pointer (some ⟨g, 0, none⟩), .int .i64 2] (by rfl) rfl rfl oA ?_
               with_reducible refine (spec_l20Rd_pick.calls k1 g s0_0 cH 2 bK cV w0 _ ?side1 ?side2 eX.out).mono ?_
               (case side1 => exact oI72 aH)
               (case side2 => exact oH HB (IsS72.ge aH.out))
               rintro e qJ ⟨rfl, hi, hb, hk⟩
               refine ⟨_, rfl, ?_⟩
               have n_ := o2_ (Kd.Q_mono (Kd.Q_keep (IsS72.apartQ (show IsS72 w0 _ g s0_0 cH from oI72 aH) (oQ aA) oD) hk (fun _ h => h.2)) (fun _ h => h.1)) (o2_ (oJ hk aC aJ) (o2_ (oJ hk aB aI) (o2_ (oJ hk aE aW) (o2_ (Kd.R_mono (Kd.R_keep (IsS72.apart (show IsS72 w0 _ g s0_0 cH from oI72 aH) (oR bA) oD) hk (fun _ h => h.2)) (fun _ h => h.1)) (o2_ (KeepBut.trans (oE HK) hk (.inl rfl)) (o2_ (hb) (o1_ (hi))))))))
               clear aA aC aB aE bA HK HB aH
               obtain ⟨aA, aC, aB, aE, bA, HK, HB, aH⟩ := n_
               (try clear hb)
               (try clear hb2)
               (try clear hk)
               (try clear hi)
               refine hK.out _ _ ⟨(blk_cell aB.out 0).trans rfl, (blk_cell aB.out 1).trans rfl, (blk_cell aB.out 2).trans rfl⟩ (fun hHeld => ?_)
               clear hK K
               refine norm_ (a' := ?_) ?_ ?_
               rotate_left
               ·show Act.put _ (some 51) _ = _
                exact oT
               exact norm_ (by simp only [putAll, Act.put, List.setIfInBounds_toArray, List.set_cons_zero, List.set_cons_succ]) (hCont (.slice (some ado127) bH.length gQ, ado127) _ ⟨hHeld, (oR bA), (oQ aA), ⟨_, rfl⟩, (oP aC), (oP aB), (oP aE), (oI72 aH), (oE HK), (oH HB (IsS72.ge aH.out))⟩)
              ·skip
               refine goes_ Try.func56 oK rfl #[.pointer (some ⟨g, 0, none⟩), .int .i64 2] (by rfl) rfl rfl oA ?_
               with_reducible refine (spec_l20Rd_pick.calls k1 g s0_0 cH 2 bK cV w0 _ ?side1 ?side2 eX.out).mono ?_
               (case side1 => exact oI72 aH)
               (case side2 => exact oH HB (IsS72.ge aH.out))
               rintro e qI ⟨rfl, hi, hb, hk⟩
               refine ⟨_, rfl, ?_⟩
               have n_ := o2_ (Kd.Q_mono (Kd.Q_keep (IsS72.apartQ (show IsS72 w0 _ g s0_0 cH from oI72 aH) (oQ aA) oD) hk (fun _ h => h.2)) (fun _ h => h.1)) (o2_ (oJ hk aC aJ) (o2_ (oJ hk aB aI) (o2_ (oJ hk aE aW) (o2_ (KeepBut.trans (oE HK) hk (.inl rfl)) (o2_ (hb) (o1_ (hi)))))))
               clear aA aC aB aE HK HB aH
               obtain ⟨aA, aC, aB, aE, HK, HB, aH⟩ := n_
               (try clear hb)
               (try clear hb2)
               (try clear hk)
               (try clear hi)
               refine hK.out _ _ ⟨(blk_cell aB.out 0).trans rfl, (blk_cell aB.out 1).trans rfl, (blk_cell aB.out 2).trans rfl⟩ (fun hHeld => ?_)
               clear hK K
               refine norm_ (a' := ?_) ?_ ?_
               rotate_left
               ·show Act.put _ (some 51) _ = _
                exact oT
               refine one_ (i := 7) (N := some 49) #[true, true, true, true, true, true, true, true, true, true, false, false, false, false, false] rfl rfl (one_of HT_.out oK) oD (fun K hK => ?_)
               refine Kd.R_lit_step (Kd.int .i64) _ 3 ?hg (N := 49) ?hd (xs := ([(-1), 256] : List Int)) (inner := [.int .i64 (-1), .int .i64 256]) (ok := fun _ => True) (okp := fun _ => True) ?hr ?hp (fun _ hk => hk) trivial (Below.refl _ _) (Nat.le_refl _) (by simp) ?_; (case hd => rfl); (case hg => rfl); (case hr => first | (go_simp; done) | (go_simp; rfl)); (case hp => exact (Reps.one (show Kd.M (Kd.int .i64) _ _ _ (-1) [.int .i64 (-1)] from rfl) (Reps.one (show Kd.M (Kd.int .i64) _ _ _ 256 [.int .i64 256] from rfl) (Reps.none _ _))))
               intro dE tX ho127 hb hg_ hnew_
               clear hg_ hnew_
               (first | rw [← bV.out] at ho127 | (simp only [Int.reduceToNat] at ho127; rw [← bV.out] at ho127))
               have n_ := o2_ (Kd.Q_below (oQ aA) hb) (o2_ (Kd.R_lower ho127 (keep_size (w := w) (g := g) (row := none) (oE HK))) (o2_ (blk_below (oP aC) hb) (o2_ (blk_below (oP aB) hb) (o2_ (blk_below (oP aE) hb) (o2_ (IsS72.below (oI72 aH) hb) (o2_ (KeepBut.trans (oE HK) (KeepBut.of_below hb g none) (.inl rfl)) (o1_ (below_step (oH HB (IsS72.ge aH.out)) hb))))))))
               clear aA aC aB aE aH HK HB
               obtain ⟨aA, bA, aC, aB, aE, aH, HK, HB⟩ := n_
               clear hb ho127
               obtain ⟨qT, gR, hA⟩ := Kd.R_slice bA.out
               subst hA
               obtain ⟨ado128, fo128, _⟩ := Kd.at_int (Kd.R_reads' bA.out).2.2 0 oD (by rw [bV.out]; simp)
               cases fo128
               refine hK.out _ _ ⟨(blk_cell aB.out 0).trans rfl, (blk_cell aB.out 1).trans rfl, (blk_cell aB.out 2).trans rfl⟩ (fun hHeld => ?_)
               clear hK K
               refine norm_ (a' := ?_) ?_ ?_
               rotate_left
               ·show Act.put _ (some 49) _ = _
                exact oT
               exact norm_ (by simp only [putAll, Act.put, List.setIfInBounds_toArray, List.set_cons_zero, List.set_cons_succ]) (hCont (.slice (some ado128) bH.length gR, ado128) _ ⟨hHeld, (oR bA), (oQ aA), ⟨_, rfl⟩, (oP aC), (oP aB), (oP aE), (oI72 aH), (oE HK), (oH HB (IsS72.ge aH.out))⟩)
             ·skip
              refine Kd.R_lit_step (Kd.int .i64) _ 3 ?hg (N := 49) ?hd (xs := ([(-1), 256] : List Int)) (inner := [.int .i64 (-1), .int .i64 256]) (ok := fun _ => True) (okp := fun _ => True) ?hr ?hp (fun _ hk => hk) trivial (Below.refl _ _) (Nat.le_refl _) (by simp) ?_; (case hd => rfl); (case hg => rfl); (case hr => first | (go_simp; done) | (go_simp; rfl)); (case hp => exact (Reps.one (show Kd.M (Kd.int .i64) _ _ _ (-1) [.int .i64 (-1)] from rfl) (Reps.one (show Kd.M (Kd.int .i64) _ _ _ 256 [.int .i64 256] from rfl) (Reps.none _ _))))
              intro dE qH ho125 hb hg_ hnew_
              clear hg_ hnew_
              (first | rw [← bV.out] at ho125 | (simp only [Int.reduceToNat] at ho125; rw [← bV.out] at ho125))
              have n_ := o2_ (Kd.Q_below (oQ aA) hb) (o2_ (Kd.R_lower ho125 (keep_size (w := w) (g := g) (row := none) (oE HK))) (o2_ (blk_below (oP aC) hb) (o2_ (blk_below (oP aB) hb) (o2_ (blk_below (oP aE) hb) (o2_ (IsS72.below (oI72 aH) hb) (o2_ (KeepBut.trans (oE HK) (KeepBut.of_below hb g none) (.inl rfl)) (o1_ (below_step (oH HB (IsS72.ge aH.out)) hb))))))))
              clear aA aC aB aE aH HK HB
              obtain ⟨aA, bA, aC, aB, aE, aH, HK, HB⟩ := n_
              clear hb ho125
              obtain ⟨qR, gP, gY⟩ := Kd.R_slice bA.out
              subst gY
              obtain ⟨ado126, fo126, _⟩ := Kd.at_int (Kd.R_reads' bA.out).2.2 0 oD (by rw [bV.out]; simp)
              cases fo126
              refine hK.out _ _ ⟨(blk_cell aB.out 0).trans rfl, (blk_cell aB.out 1).trans rfl, (blk_cell aB.out 2).trans rfl⟩ (fun hHeld => ?_)
              clear hK K
              refine norm_ (a' := ?_) ?_ ?_
              rotate_left
              ·show Act.put _ (some 49) _ = _
               exact oT
              refine one_ (i := 6) (N := some 48) #[true, true, true, true, true, true, true, true, true, false, false, false, false, false, false] rfl rfl (one_of HT_.out oK) oD (fun K hK => ?_)
              refine goes_ Try.func56 oK rfl #[.pointer (some ⟨g, 0, none⟩), .int .i64 (aD.length : Int)] (by rfl) rfl rfl oA ?_
              with_reducible refine (spec_l20Rd_pick.calls k1 g s0_0 bM (aD.length : Int) aX cH w0 _ ?side1 ?side2 fM.out).mono ?_
              (case side1 => exact oI72 aH)
              (case side2 => exact oH HB (IsS72.ge aH.out))
              rintro e tY ⟨rfl, hi, hb, hk⟩
              refine ⟨_, rfl, ?_⟩
              have n_ := o2_ (Kd.Q_mono (Kd.Q_keep (IsS72.apartQ (show IsS72 w0 _ g s0_0 bM from oI72 aH) (oQ aA) oD) hk (fun _ h => h.2)) (fun _ h => h.1)) (o2_ (oJ hk aC aJ) (o2_ (oJ hk aB aI) (o2_ (oJ hk aE aW) (o2_ (Kd.R_mono (Kd.R_keep (IsS72.apart (show IsS72 w0 _ g s0_0 bM from oI72 aH) (oR bA) oD) hk (fun _ h => h.2)) (fun _ h => h.1)) (o2_ (KeepBut.trans (oE HK) hk (.inl rfl)) (o2_ (hb) (o1_ (hi))))))))
              clear aA aC aB aE bA HK HB aH
              obtain ⟨aA, aC, aB, aE, bA, HK, HB, aH⟩ := n_
              (try clear hb)
              (try clear hb2)
              (try clear hk)
              (try clear hi)
              refine hK.out _ _ ⟨(blk_cell aB.out 0).trans rfl, (blk_cell aB.out 1).trans rfl, (blk_cell aB.out 2).trans rfl⟩ (fun hHeld => ?_)
              clear hK K
              refine norm_ (a' := ?_) ?_ ?_
              rotate_left
              ·show Act.put _ (some 48) _ = _
               exact oT
              refine one_ (i := 9) (N := some 51) #[true, true, true, true, true, true, true, true, true, true, false, false, false, false, false] rfl rfl (one_of HT_.out oK) oD (fun K hK => ?_)
              refine goes_ Try.func56 oK rfl #[.pointer (some ⟨g, 0, none⟩), .int .i64 2] (by rfl) rfl rfl oA ?_
              with_reducible refine (spec_l20Rd_pick.calls k1 g s0_0 cH 2 bK cV w0 _ ?side1 ?side2 eX.out).mono ?_
              (case side1 => exact oI72 aH)
              (case side2 => exact oH HB (IsS72.ge aH.out))
              rintro e qJ ⟨rfl, hi, hb, hk⟩
              refine ⟨_, rfl, ?_⟩
              have n_ := o2_ (Kd.Q_mono (Kd.Q_keep (IsS72.apartQ (show IsS72 w0 _ g s0_0 cH from oI72 aH) (oQ aA) oD) hk (fun _ h => h.2)) (fun _ h => h.1)) (o2_ (oJ hk aC aJ) (o2_ (oJ hk aB aI) (o2_ (oJ hk aE aW) (o2_ (Kd.R_mono (Kd.R_keep (IsS72.apart (show IsS72 w0 _ g s0_0 cH from oI72 aH) (oR bA) oD) hk (fun _ h => h.2)) (fun _ h => h.1)) (o2_ (KeepBut.trans (oE HK) hk (.inl rfl)) (o2_ (hb) (o1_ (hi))))))))
              clear aA aC aB aE bA HK HB aH
              obtain ⟨aA, aC, aB, aE, bA, HK, HB, aH⟩ := n_
              (try clear hb)
              (try clear hb2)
              (try clear hk)
              (try clear hi)
              refine hK.out _ _ ⟨(blk_cell aB.out 0).trans rfl, (blk_cell aB.out 1).trans rfl, (blk_cell aB.out 2).trans rfl⟩ (fun hHeld => ?_)
              clear hK K
              refine norm_ (a' := ?_) ?_ ?_
              rotate_left
              ·show Act.put _ (some 51) _ = _
               exact oT
              exact norm_ (by simp only [putAll, Act.put, List.setIfInBounds_toArray, List.set_cons_zero, List.set_cons_succ]) (hCont (.slice (some ado126) bH.length gP, ado126) _ ⟨hHeld, (oR bA), (oQ aA), ⟨_, rfl⟩, (oP aC), (oP aB), (oP aE), (oI72 aH), (oE HK), (oH HB (IsS72.ge aH.out))⟩)
            rintro ⟨dE, cD⟩ bN ⟨hS_, h0_, h1_, h2_, h3_, h4_, h5_, h6_, h7_, h8_⟩
            have dZ : Aside0 (Kd.R (Kd.int .i64) 3 bN w.heap.size (fun _ => True) dE bH) := ⟨h0_⟩
            have eA : Aside0 (Kd.Q k38 38 bN w.heap.size (fun k_ => k_ ≠ aN) (.slice cC aD.length bQ) aD) := ⟨h1_⟩
            have eB : Aside0 (∃ c_, (dE : Value) = .slice (some cD) bH.length c_) := ⟨h2_⟩
            have eC : Aside0 (bN.heap[aK]? = some (.cells #[.int .i64 0, .int .i64 0, .slice none 0 0] 25 (0, 0))) := ⟨h3_⟩
            have eD : Aside0 (bN.heap[aG]? = some (.cells #[.int .i64 (wrap64 (1 + aV)), .int .i64 (wrap64 (1 + aY)), .slice cC aD.length bQ] 25 (0, 0))) := ⟨h4_⟩
            have eE : Aside0 (bN.heap[aN]? = some (.cells #[.int .i64 aQ, .int .i64 aR, .int .i64 aT, .int .i64 aU] 38 (0, 0))) := ⟨h5_⟩
            have eF : Aside0 (IsS72 w0 bN g s0_0 cV) := ⟨h6_⟩
            have eG : Aside0 (KeepBut w bN g none) := ⟨h7_⟩
            have jI : Aside0 (Below w0.heap.size w0 bN) := ⟨h8_⟩
            clear aA
            clear aC
            clear aB
            clear aE
            clear aH
            clear HK
            clear HB
            clear h0_ h1_ h2_ h3_ h4_ h5_ h6_ h7_ h8_
            have bA := dZ
            have aA := eA
            have HA_HO190 := eB
            have aC := eC
            have aB := eD
            have aE := eE
            have aH := eF
            have HK := eG
            have HB := jI
            clear dZ eA eB eC eD eE eF eG jI
            have hHeld : bN.cell? ⟨aG, 0, none⟩ = some (.int .i64 (wrap64 (1 + aV))) ∧ bN.cell? ⟨aG, 1, none⟩ = some (.int .i64 (wrap64 (1 + aY))) ∧ bN.cell? ⟨aG, 2, none⟩ = some (.slice cC aD.length bQ) := hS_
            obtain ⟨gS, hC⟩ := HA_HO190.out
            clear HA_HO190
            subst hC
            have fB : 0 ≤ (aX : Int) := of_decide_eq_true oM
            have fE : (aX : Int) < ((aD.length : Int) : Int) := of_decide_eq_true oM
            obtain ⟨bB, bC, rE, eU, eW, gl115, cl115, HG115⟩ := Kd.Q_form aA.out (by omega)
            (first | cases eU | (injection eU with ea_ en_ ec_; (first | subst ea_ | (injection ea_ with ea_; subst ea_)); subst ec_; clear en_))
            have GB115 := Aside0.mk eW
            have GG115 := Aside0.mk HG115
            clear eW gl115 HG115
            obtain ⟨ce115, hcl115, hM115, hcc115, hfr115⟩ := Kd.Q_elem aA.out z38 (aX : Int) fB fE
            obtain rfl := k38_openM hM115
            have nG : World.cell? _ ⟨bB, bC + (aX : Int).toNat * 4, none⟩ = some (.int .i64 ((rd_T38 aD aX).f0)) := hcc115 0 _ rfl
            have nH : World.cell? _ ⟨bB, bC + (aX : Int).toNat * 4 + 1, none⟩ = some (.int .i64 ((rd_T38 aD aX).f1)) := hcc115 1 _ rfl
            have nI : World.cell? _ ⟨bB, bC + (aX : Int).toNat * 4 + 2, none⟩ = some (.int .i64 ((rd_T38 aD aX).f2)) := hcc115 2 _ rfl
            have nJ : World.cell? _ ⟨bB, bC + (aX : Int).toNat * 4 + 3, none⟩ = some (.int .i64 ((rd_T38 aD aX).f3)) := hcc115 3 _ rfl
            have hf115_0 : World.frozen? _ ⟨bB, bC + (aX : Int).toNat * 4, none⟩ = false := hfr115 0
            have hf115_1 : World.frozen? _ ⟨bB, bC + (aX : Int).toNat * 4 + 1, none⟩ = false := hfr115 1
            have hf115_2 : World.frozen? _ ⟨bB, bC + (aX : Int).toNat * 4 + 2, none⟩ = false := hfr115 2
            have hf115_3 : World.frozen? _ ⟨bB, bC + (aX : Int).toNat * 4 + 3, none⟩ = false := hfr115 3
            clear hcl115 hcc115 hfr115 hM115
            replace fB := eq_true fB
            replace fE := eq_true fE
            have HN0_go115 := Aside0.mk (show g ≠ bB from by have h_ := IsS72.own_neQ aH.out aA.out oD; intro e_; exact h_ (by rw [e_]; rfl))
            obtain ⟨ce131, hcl131, hM131, hcc131, hfr131⟩ := Kd.Q_elem aA.out z38 (aX : Int) (of_decide_eq_true oM) (by have h_ : (aX : Int) < ((aD.length : Int) : Int) := of_decide_eq_true oM; first | exact h_ | (have e_ := (Kd.Q_reads' aA.out).1; omega) | simpa using h_)
            obtain rfl := k38_openM hM131
            have HP131 := (Kd.Q_seg aA.out (aX : Int) (of_decide_eq_true oM) (by have h_ : (aX : Int) < ((aD.length : Int) : Int) := of_decide_eq_true oM; first | exact h_ | (have e_ := (Kd.Q_reads' aA.out).1; omega) | simpa using h_) (seg := [.int .i64 (rd bH bK)]) (j := 1) hcl131 hcc131 (show 2 ≤ 4 from by decide) (x' := (⟨(rd_T38 aD aX).f0, rd bH bK, (rd_T38 aD aX).f2, (rd_T38 aD aX).f3⟩ : S38)) (k38_mkM _ _ _ (⟨(rd_T38 aD aX).f0, rd bH bK, (rd_T38 aD aX).f2, (rd_T38 aD aX).f3⟩ : S38) ) (fun _ hk => hk)).1
            rw [← gD.out] at HP131
            have HQ131 := Aside0.mk HP131
            clear hcl131 hcc131 hfr131 hM131 HP131
            refine norm_ (a' := ?_) ?_ ?_
            rotate_left
            ·simp only [putAll, Act.put, List.setIfInBounds_toArray, List.set_cons_zero, List.set_cons_succ]
             rfl
            refine pure_ (i := 10) (N := some 52) (v := ?_) (a' := ?_) #[true, true, true, true, true, true, true, true, true, true, true, false, false, false, false] rfl rfl (any_of HT_.out oK) (fun _ _ _ h => h) (Or.inl ⟨by rfl, ?_⟩) ?_ ?_
            rotate_left
            ·intro w'
             go_simp
             with_reducible rfl
            rotate_left
            ·exact oT
            refine one_ (i := 11) (N := some 53) #[true, true, true, true, true, true, true, true, true, true, true, true, false, false, false] rfl rfl (one_of HT_.out oK) oD (fun K hK => ?_)
            (have qB : 0 ≤ (bK : Int) := of_decide_eq_true oM; have qD : bK < (bH.length : Int) := of_decide_eq_true oM; obtain ⟨gF, nU, dY⟩ := Kd.at_int (Kd.R_reads' bA.out).2.2 bK qB qD; obtain rfl : cD = gF := (by injection nU))
            refine value_ (w1 := ?_) (v := ?_) (by rfl) rfl ?_ ?_
            rotate_left 2
            ·go_simp
             constructor
             ·rfl
             ·rfl
            clear dY
            refine hK.out _ _ ⟨(blk_cell aB.out 0).trans rfl, (blk_cell aB.out 1).trans rfl, (blk_cell aB.out 2).trans rfl⟩ (fun hHeld => ?_)
            clear hK K
            refine norm_ (a' := ?_) ?_ ?_
            rotate_left
            ·show Act.put _ (some 53) _ = _
             exact oT
            refine pure_ (i := 12) (N := some 54) (v := ?_) (a' := ?_) #[true, true, true, true, true, true, true, true, true, true, true, true, true, false, false] rfl rfl (any_of HT_.out oK) (fun _ _ _ h => h) (Or.inl ⟨by rfl, ?_⟩) ?_ ?_
            rotate_left
            ·intro w'
             go_simp
             with_reducible rfl
            rotate_left
            ·exact oT
            refine pure_ (i := 13) (N := some 55) (v := ?_) (a' := ?_) #[true, true, true, true, true, true, true, true, true, true, true, true, true, true, false] rfl rfl (any_of HT_.out oK) (fun _ _ _ h => h) (Or.inl ⟨by rfl, ?_⟩) ?_ ?_
            rotate_left
            ·intro w'
             go_simp
             with_reducible rfl
            rotate_left
            ·exact oT
            refine last_ (i := 14) (N := none) #[true, true, true, true, true, true, true, true, true, true, true, true, true, true, true] rfl rfl (one_of HT_.out oK) oD (fun K hK => ?_)
            refine skip_ (w1 := ?_) (by rfl) rfl ?_ ?_
            rotate_left
            ·go_simp
             rfl
            refine hK.out _ _ ?_
            clear hK K
            refine done_ (done_of HT_.out oK) ?_
            have dZ : Aside0 (Kd.Q k38 38 (bN.setCell ⟨bB, bC + (aX : Int).toNat * 4 + 1, none⟩ (.int .i64 (rd bH bK))) w.heap.size (fun k_ => k_ ≠ aN) (.slice (some ⟨bB, bC, none⟩) aD.length bQ) y194) := ⟨(oQ HQ131)⟩
            have eA : Aside0 (Kd.R (Kd.int .i64) 3 (bN.setCell ⟨bB, bC + (aX : Int).toNat * 4 + 1, none⟩ (.int .i64 (rd bH bK))) w.heap.size (fun _ => True) (.slice (some cD) bH.length gS) bH) := ⟨(by (with_reducible repeat (first | apply Kd.R_alloc | apply Kd.R_drewN | apply Kd.R_drew)); exact Kd.R_mono (Kd.R_far (p := ⟨bB, bC + (aX : Int).toNat * 4 + 1, none⟩) (Kd.R_types bA.out GG115.out oD) (fun _ hk => hk.2) (.int .i64 (rd bH bK))) (fun _ hk => trivial))⟩
            have eB : Aside0 ((bN.setCell ⟨bB, bC + (aX : Int).toNat * 4 + 1, none⟩ (.int .i64 (rd bH bK))).heap[aK]? = some (.cells #[.int .i64 0, .int .i64 0, .slice none 0 0] 25 (0, 0))) := ⟨(by (with_reducible repeat (first | refine blk_drewN ?_ _ | refine blk_drew ?_ | refine blk_alloc ?_ _)); refine blk_far ?_ (by have h_ := Kd.Q_ne aA.out aC.out oD; intro e_; exact h_ (by rw [e_]; rfl)) _; (with_reducible repeat (first | refine blk_drewN ?_ _ | refine blk_drew ?_ | refine blk_alloc ?_ _)); exact aC.out)⟩
            have eC : Aside0 ((bN.setCell ⟨bB, bC + (aX : Int).toNat * 4 + 1, none⟩ (.int .i64 (rd bH bK))).heap[aG]? = some (.cells #[.int .i64 (wrap64 (1 + aV)), .int .i64 (wrap64 (1 + aY)), .slice (some ⟨bB, bC, none⟩) aD.length bQ] 25 (0, 0))) := ⟨(by (with_reducible repeat (first | refine blk_drewN ?_ _ | refine blk_drew ?_ | refine blk_alloc ?_ _)); refine blk_far ?_ (by have h_ := Kd.Q_ne aA.out aB.out oD; intro e_; exact h_ (by rw [e_]; rfl)) _; (with_reducible repeat (first | refine blk_drewN ?_ _ | refine blk_drew ?_ | refine blk_alloc ?_ _)); exact aB.out)⟩
            have eD : Aside0 ((bN.setCell ⟨bB, bC + (aX : Int).toNat * 4 + 1, none⟩ (.int .i64 (rd bH bK))).heap[aN]? = some (.cells #[.int .i64 aQ, .int .i64 aR, .int .i64 aT, .int .i64 aU] 38 (0, 0))) := ⟨(by (with_reducible repeat (first | refine blk_drewN ?_ _ | refine blk_drew ?_ | refine blk_alloc ?_ _)); refine blk_far ?_ (by have h_ := Kd.Q_away aA.out (fun _ hk => hk); intro e_; exact h_ (by rw [e_]; rfl)) _; (with_reducible repeat (first | refine blk_drewN ?_ _ | refine blk_drew ?_ | refine blk_alloc ?_ _)); exact aE.out)⟩
            have eE : Aside0 (IsS72 w0 (bN.setCell ⟨bB, bC + (aX : Int).toNat * 4 + 1, none⟩ (.int .i64 (rd bH bK))) g s0_0 cV) := ⟨(by repeat (first | (with_reducible first | exact aH.out | apply IsS72.alloc | apply IsS72.drewN | apply IsS72.drew | apply IsS72.set_1 | refine IsS72.far ?_ HN0_go115.out _ | refine IsS72.far ?_ bT.out _ | refine IsS72.far ?_ bL.out _ | refine IsS72.far ?_ cB.out _) | exact aH.out))⟩
            have eF : Aside0 (KeepBut w (bN.setCell ⟨bB, bC + (aX : Int).toNat * 4 + 1, none⟩ (.int .i64 (rd bH bK))) g none) := ⟨(oE HK)⟩
            have eG : Aside0 (Below w0.heap.size w0 (bN.setCell ⟨bB, bC + (aX : Int).toNat * 4 + 1, none⟩ (.int .i64 (rd bH bK)))) := ⟨(by repeat (first | (with_reducible first | exact HB.out | apply below_alloc | apply pw_below_drewN | apply below_drew1 | refine below_set ?_ (Nat.le_trans HL.out GB115.out) | refine below_set ?_ (IsS72.ge aH.out) | refine below_set ?_ fX.out | refine below_set ?_ fY.out | refine below_set ?_ fZ.out) | exact HB.out))⟩
            (try clear aA)
            (try clear bA)
            (try clear aC)
            (try clear aB)
            (try clear aE)
            (try clear aH)
            (try clear HK)
            (try clear HB)
            generalize (bN.setCell ⟨bB, bC + (aX : Int).toNat * 4 + 1, none⟩ (.int .i64 (rd bH bK))) = cZ at dZ eA eB eC eD eE eF eG ⊢
            have aA := dZ
            have bA := eA
            have aC := eB
            have aB := eC
            have aE := eD
            have aH := eE
            have HK := eF
            have HB := eG
            clear dZ eA eB eC eD eE eF eG
            have hS : cZ.cell? ⟨aG, 0, none⟩ = some (.int .i64 (wrap64 (1 + aV))) := (blk_cell aB.out 0).trans rfl
            have hT : cZ.cell? ⟨aG, 1, none⟩ = some (.int .i64 (wrap64 (1 + aY))) := (blk_cell aB.out 1).trans rfl
            have hU : cZ.cell? ⟨aG, 2, none⟩ = some (.slice (some ⟨bB, bC, none⟩) aD.length bQ) := (blk_cell aB.out 2).trans rfl
            have iT := blk_frozen aB.out 0
            have iU := blk_frozen aB.out 1
            have iV := blk_frozen aB.out 2
            have pH := bI.out
            have pT := bJ.out
            have pI := aJ.out
            have pU := bT.out
            have hV : cZ.cell? ⟨aK, 0, none⟩ = some (.int .i64 0) := (blk_cell aC.out 0).trans rfl
            have hW : cZ.cell? ⟨aK, 1, none⟩ = some (.int .i64 0) := (blk_cell aC.out 1).trans rfl
            have hX : cZ.cell? ⟨aK, 2, none⟩ = some (.slice none 0 0) := (blk_cell aC.out 2).trans rfl
            have iW := blk_frozen aC.out 0
            have iX := blk_frozen aC.out 1
            have iY := blk_frozen aC.out 2
            try go_wp2
            refine bodyPost_ret (results_cell_row rfl _ _ aK 25 #[.int .i64 (wrap64 (1 + aV)), .int .i64 (wrap64 (1 + aY)), .slice (some ⟨bB, bC, none⟩) aD.length bQ] (0, 0) _ rfl (blk_put (blk_put (blk_put aC.out 0 _ rfl) 1 _ rfl) 2 _ rfl) Try.underlying25 rfl oK) rfl ?_
            exact ⟨_, by first | rfl | (simp [errW_none, errW_some] <;> rfl) | (simp [*, errW_none, errW_some] <;> rfl), by (with_reducible repeat (first | apply Kd.Q_alloc | apply Kd.Q_drewN | apply Kd.Q_drew)); exact Kd.Q_mono (Kd.Q_far (p := ⟨aK, 2, none⟩) (Kd.Q_far (p := ⟨aK, 1, none⟩) (Kd.Q_far (p := ⟨aK, 0, none⟩) (Kd.Q_types aA.out aC.out oD) (fun _ hk => hk.2) (.int .i64 (wrap64 (1 + aV)))) (fun _ hk => hk.2) (.int .i64 (wrap64 (1 + aY)))) (fun _ hk => hk.2) (.slice (some ⟨bB, bC, none⟩) aD.length bQ)) (fun _ hk => trivial), oI72 aH, oH HB (IsS72.ge aH.out), oE HK⟩
           ·rw [if_neg dI] at H
            exact absurd H (by simp)
          ·rw [if_neg dH] at H
           exact absurd H (by simp)
         ·rw [if_neg dG] at H
          exact absurd H (by simp)
        ·rw [if_neg dF] at H
         exact absurd H (by simp)
    ·replace jR := Bool.eq_false_iff.mpr jR
     subst jR
     rw [if_neg (show ¬ (false = true) by decide)] at H
     simp only [Option.some.injEq, Prod.mk.injEq] at H
     obtain ⟨rfl, rfl, rfl, rfl⟩ := H
     have pJ := bE.out
     have pV := bD.out
     have pK := bF.out
     have pW := bG.out
     have pL := aI.out
     have pX := bL.out
     have hY : wr.cell? ⟨aG, 0, none⟩ = some (.int .i64 (wrap64 (1 + aV))) := (blk_cell aB.out 0).trans rfl
     have hZ : wr.cell? ⟨aG, 1, none⟩ = some (.int .i64 (wrap64 (1 + aY))) := (blk_cell aB.out 1).trans rfl
     have iA : wr.cell? ⟨aG, 2, none⟩ = some (aM) := (blk_cell aB.out 2).trans rfl
     have iZ := blk_frozen aB.out 0
     have jA := blk_frozen aB.out 1
     have jB := blk_frozen aB.out 2
     go_wp2_with (first | ((with_reducible refine gate_callee (f := 67) rfl ?_); refine goesL_ (some 39) rfl rfl Try.func67 oK rfl #[.pointer (some ⟨g, 0, none⟩), .int .i64 a1] rfl oA ?_; (with_reducible refine (spec_l20Rd_odd.calls k1 g s0_0 aZ a1 false cA w0 _ ?side1 ?side2 eN.out).mono ?_); (case side1 => exact oI72 aH); (case side2 => exact oH HB (IsS72.ge aH.out)); rintro e dA ⟨rfl, hi, hb, hk⟩; refine ⟨_, rfl, ?_⟩; have n_ := o2_ (Kd.Q_mono (Kd.Q_keep (IsS72.apartQ (show IsS72 w0 _ g s0_0 aZ from oI72 aH) (oQ aA) oD) hk (fun _ h => h.2)) (fun _ h => h.1)) (o2_ (oJ hk aC aJ) (o2_ (oJ hk aB aI) (o2_ (KeepBut.trans (oE HK) hk (.inl rfl)) (o2_ (hb) (o1_ (hi)))))); clear aA aC aB HK HB aH; obtain ⟨aA, aC, aB, HK, HB, aH⟩ := n_; (try clear hb); (try clear hb2); (try clear hk); (try clear hi); have iB : dA.cell? ⟨aG, 0, none⟩ = some (.int .i64 (wrap64 (1 + aV))) := (blk_cell aB.out 0).trans rfl; have iC : dA.cell? ⟨aG, 1, none⟩ = some (.int .i64 (wrap64 (1 + aY))) := (blk_cell aB.out 1).trans rfl; have iD : dA.cell? ⟨aG, 2, none⟩ = some (aM) := (blk_cell aB.out 2).trans rfl; have jC := blk_frozen aB.out 0; have jD := blk_frozen aB.out 1; have jE := blk_frozen aB.out 2; have pM := bI.out; have pY := bJ.out; have pN := aJ.out; have pZ := bT.out; have iE : dA.cell? ⟨aK, 0, none⟩ = some (.int .i64 0) := (blk_cell aC.out 0).trans rfl; have iF : dA.cell? ⟨aK, 1, none⟩ = some (.int .i64 0) := (blk_cell aC.out 1).trans rfl; have iG : dA.cell? ⟨aK, 2, none⟩ = some (.slice none 0 0) := (blk_cell aC.out 2).trans rfl; have jF := blk_frozen aC.out 0; have jG := blk_frozen aC.out 1; have jH := blk_frozen aC.out 2; obtain ⟨eO, eT, hD, _⟩ := Kd.Q_slice aA.out; subst hD))
     refine bodyPost_ret (results_cell_row rfl _ _ aK 25 #[.int .i64 (wrap64 (1 + aV)), .int .i64 (wrap64 (1 + aY)), .slice eO aD.length eT] (0, 0) _ rfl (blk_put (blk_put (blk_put aC.out 0 _ rfl) 1 _ rfl) 2 _ rfl) Try.underlying25 rfl oK) rfl ?_
     exact ⟨_, by first | rfl | (simp [errW_none, errW_some] <;> rfl) | (simp [*, errW_none, errW_some] <;> rfl), by (with_reducible repeat (first | apply Kd.Q_alloc | apply Kd.Q_drewN | apply Kd.Q_drew)); exact Kd.Q_mono (Kd.Q_far (p := ⟨aK, 2, none⟩) (Kd.Q_far (p := ⟨aK, 1, none⟩) (Kd.Q_far (p := ⟨aK, 0, none⟩) (Kd.Q_types aA.out aC.out oD) (fun _ hk => hk.2) (.int .i64 (wrap64 (1 + aV)))) (fun _ hk => hk.2) (.int .i64 (wrap64 (1 + aY)))) (fun _ hk => hk.2) (.slice eO aD.length eT)) (fun _ hk => trivial), oI72 aH, oH HB (IsS72.ge aH.out), oE HK⟩

end Go.Proofs.Ythnmeogafklhnaa.X
