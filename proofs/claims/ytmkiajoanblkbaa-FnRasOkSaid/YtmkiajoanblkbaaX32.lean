/- What functions of the program come to, each with its proof. No condition but what each theorem states. -/
import Derived.Test.YtmkiajoanblkbaaX0
import Derived.Test.YtmkiajoanblkbaaX22
import Derived.Test.YtmkiajoanblkbaaX23
import Derived.Test.YtmkiajoanblkbaaX27
import Derived.Test.YtmkiajoanblkbaaX28
import Derived.Test.YtmkiajoanblkbaaX29
import Derived.Test.YtmkiajoanblkbaaX30
import Derived.Test.YtmkiajoanblkbaaX31
namespace Go.Proofs.Ytmkiajoanblkbaa.X
open Go.RowKit Go.Proofs.YtmkiajoanblkbaaW.PrintWords Go.Proofs.YtmkiajoanblkbaaW.PrintLast Go.Proofs.YtmkiajoanblkbaaW.PrintMore Go.Proofs.Ytmkiajoanblkbaa.Hyb
attribute [local go_sem] max2_int min2_int max_two min_two max_three min_three max_four min_four
set_option linter.unusedVariables false
set_option linter.unusedSimpArgs false

/-! ### laws_FnRasOk: function 5 -/
mutual
def laws_FnRasOk.j0 : Nat → Bool → Bool → Int → Int → List (S39) → Option (Bool)
 | 0, _, _, _, _, _ => none
 | k + 1, x5, x28, x396000, x396001, x396002 => if x28 = true then (none) else (if x5 = true then (laws_FnRasOk.l0 k 0 x396000 x396001 x396002) else ((laws_eaOk.f).bind fun dR => (some dR)))
def laws_FnRasOk.l0 : Nat → Int → Int → Int → List (S39) → Option (Bool)
 | 0, _, _, _, _ => none
 | k + 1, x6, x396000, x396001, x396002 => if x6 < (x396002.length : Int) then (if 0 ≤ x6 then ((impl_PixOk.f ((rd_T39 x396002 x6).f0) ((rd_T39 x396002 x6).f1) ((rd_T39 x396002 x6).f2) ((rd_T39 x396002 x6).f3)).bind fun dS => (if dS = true then (laws_FnRasOk.l0 k (wrap64 (x6 + 1)) x396000 x396001 x396002) else (none))) else (none)) else (if 1 ≤ (x396002.length : Int) then ((some (([(⟨256, 0, 0, 0⟩ : S39)] : List (S39)) : List (S39))).bind fun bT => ((some (x396002.drop 1 : List (S39))).bind fun bH => (if bT.length + bH.length < 4398046511104 then ((impl_RasOk.f k x396000 x396001 (x396002.drop 1)).bind fun bY => (if bY = true then (none) else ((impl_RasOk.f k x396000 x396001 (bT ++ bH)).bind fun bZ => (if bZ = true then (none) else (some ((x396002.length : Int) == (wrap64 (x396000 * x396001)))))))) else (none)))) else (none))
end
def laws_FnRasOk.f (k : Nat) (l0 : List Int) : Option (Bool) := if (l0.length : Int) > 1048576 then (some true) else ((spec_DrawRasOk.f k l0).bind fun aY => ((spec_DrawPixOk.f k l0).bind fun bG => ((impl_RasOk.f k aY.1 aY.2.1 aY.2.2).bind fun bJ => ((spec_RasOk.f k aY.1 aY.2.1 aY.2.2).bind fun bU => (if (bJ != bU) = true then (laws_FnRasOk.j0 k bJ true aY.1 aY.2.1 aY.2.2) else ((impl_PixOk.f bG.1 bG.2.1 bG.2.2.1 bG.2.2.2).bind fun cW => ((spec_PixOk.f bG.1 bG.2.1 bG.2.2.1 bG.2.2.2).bind fun cX => (laws_FnRasOk.j0 k bJ (cW != cX) aY.1 aY.2.1 aY.2.2))))))))
theorem laws_FnRasOk.mono_l : ∀ k, (∀ y0 y1 y2 y3 y4, LeO (laws_FnRasOk.j0 k y0 y1 y2 y3 y4) (laws_FnRasOk.j0 (k + 1) y0 y1 y2 y3 y4)) ∧ (∀ y0 y1 y2 y3, LeO (laws_FnRasOk.l0 k y0 y1 y2 y3) (laws_FnRasOk.l0 (k + 1) y0 y1 y2 y3))
 | 0 => ⟨(fun _ _ _ _ _ r h => nomatch (show none = some r from h)), (fun _ _ _ _ r h => nomatch (show none = some r from h))⟩
 | k + 1 => by
  obtain ⟨ih0, ih1⟩ := laws_FnRasOk.mono_l k
  refine ⟨?_, ?_⟩
  ·intro y0 y1 y2 y3 y4
   unfold laws_FnRasOk.j0
   repeat' first
   | (with_reducible exact ih0 _ _ _ _ _)
   | (with_reducible exact ih1 _ _ _ _)
   | (with_reducible exact impl_RasOk.mono _ _ _ _)
   | (with_reducible exact spec_DrawPixOk.mono _ _)
   | (with_reducible exact spec_DrawRasOk.mono _ _)
   | (with_reducible exact spec_RasOk.mono _ _ _ _)
   | (with_reducible exact LeO.refl _)
   | (with_reducible exact LeO.none _)
   | (with_reducible refine LeO.ite ?_ ?_)
   | (with_reducible refine LeO.bind ?_ (fun _ => ?_))
   | exact ih0 _ _ _ _ _
   | exact ih1 _ _ _ _
   | exact impl_RasOk.mono _ _ _ _
   | exact spec_DrawPixOk.mono _ _
   | exact spec_DrawRasOk.mono _ _
   | exact spec_RasOk.mono _ _ _ _
   | exact LeO.none _
   | refine LeO.ite ?_ ?_
   | refine LeO.bind ?_ (fun _ => ?_)
  ·intro y0 y1 y2 y3
   unfold laws_FnRasOk.l0
   repeat' first
   | (with_reducible exact ih0 _ _ _ _ _)
   | (with_reducible exact ih1 _ _ _ _)
   | (with_reducible exact impl_RasOk.mono _ _ _ _)
   | (with_reducible exact spec_DrawPixOk.mono _ _)
   | (with_reducible exact spec_DrawRasOk.mono _ _)
   | (with_reducible exact spec_RasOk.mono _ _ _ _)
   | (with_reducible exact LeO.refl _)
   | (with_reducible exact LeO.none _)
   | (with_reducible refine LeO.ite ?_ ?_)
   | (with_reducible refine LeO.bind ?_ (fun _ => ?_))
   | exact ih0 _ _ _ _ _
   | exact ih1 _ _ _ _
   | exact impl_RasOk.mono _ _ _ _
   | exact spec_DrawPixOk.mono _ _
   | exact spec_DrawRasOk.mono _ _
   | exact spec_RasOk.mono _ _ _ _
   | exact LeO.none _
   | refine LeO.ite ?_ ?_
   | refine LeO.bind ?_ (fun _ => ?_)
theorem laws_FnRasOk.mono : ∀ a0 k, LeO (laws_FnRasOk.f k a0) (laws_FnRasOk.f (k + 1) a0) := by
 intro a0 k
 obtain ⟨ih0, ih1⟩ := laws_FnRasOk.mono_l k
 unfold laws_FnRasOk.f
 repeat' first
   | (with_reducible exact ih0 _ _ _ _ _)
   | (with_reducible exact ih1 _ _ _ _)
   | (with_reducible exact impl_RasOk.mono _ _ _ _)
   | (with_reducible exact spec_DrawPixOk.mono _ _)
   | (with_reducible exact spec_DrawRasOk.mono _ _)
   | (with_reducible exact spec_RasOk.mono _ _ _ _)
   | (with_reducible exact LeO.refl _)
   | (with_reducible exact LeO.none _)
   | (with_reducible refine LeO.ite ?_ ?_)
   | (with_reducible refine LeO.bind ?_ (fun _ => ?_))
   | exact ih0 _ _ _ _ _
   | exact ih1 _ _ _ _
   | exact impl_RasOk.mono _ _ _ _
   | exact spec_DrawPixOk.mono _ _
   | exact spec_DrawRasOk.mono _ _
   | exact spec_RasOk.mono _ _ _ _
   | exact LeO.none _
   | refine LeO.ite ?_ ?_
   | refine LeO.bind ?_ (fun _ => ?_)
def laws_FnRasOk.T6 : Bool × List (List Nat × List Nat) := (true, [([], []), ([], []), ([1], [1]), ([0, 2], [0, 2]), ([3, 2], [3]), ([4], [4]), ([5, 4, 4], [4, 5]), ([4], [4]), ([7, 6, 4], [4, 7]), ([6, 8, 4], [4, 6, 8]), ([4, 9], [4, 9])])
def laws_FnRasOk.B6 : List Nat := [0, 0, 2, 7, 15, 31, 63, 31, 255, 511, 1023]
theorem laws_FnRasOk.tab6 : rtab .any (opsOf Try.f5 6) = laws_FnRasOk.T6 := by kernel_rfl
theorem laws_FnRasOk.bits6 : waitsOk laws_FnRasOk.T6.2 laws_FnRasOk.B6 = true := by kernel_rfl
def laws_FnRasOk.T15 : Bool × List (List Nat × List Nat) := (true, [([], []), ([0], [0]), ([], []), ([2], [2]), ([], []), ([4], [4]), ([5], [5]), ([1, 3, 6], [1, 3, 6]), ([], []), ([8, 7, 0, 1, 2, 3, 4, 5, 6, 7, 8], [7, 8])])
def laws_FnRasOk.B15 : List Nat := [0, 1, 0, 4, 0, 16, 48, 127, 0, 511]
theorem laws_FnRasOk.tab15 : rtab .any (opsOf Try.f5 15) = laws_FnRasOk.T15 := by kernel_rfl
theorem laws_FnRasOk.bits15 : waitsOk laws_FnRasOk.T15.2 laws_FnRasOk.B15 = true := by kernel_rfl
def laws_FnRasOk.T16 : Bool × List (List Nat × List Nat) := (true, [([], []), ([0], [0]), ([], []), ([2], [2]), ([], []), ([4], [4]), ([], []), ([6], [6]), ([7], [7]), ([5, 8], [5, 8]), ([1, 3, 9], [1, 3, 9]), ([], []), ([11, 10, 9, 0, 1, 2, 3, 4, 5, 6, 7, 8, 9, 10, 11], [10, 11])])
def laws_FnRasOk.B16 : List Nat := [0, 1, 0, 4, 0, 16, 0, 64, 192, 496, 1023, 0, 4095]
theorem laws_FnRasOk.tab16 : rtab .any (opsOf Try.f5 16) = laws_FnRasOk.T16 := by kernel_rfl
theorem laws_FnRasOk.bits16 : waitsOk laws_FnRasOk.T16.2 laws_FnRasOk.B16 = true := by kernel_rfl
set_option maxHeartbeats 8000000 in
set_option maxRecDepth 100000 in
theorem laws_FnRasOk.calls (k : Nat) (A0 : Option Addr) (c0 : Nat) (l0 : List Int) (r : Bool) (w : World) (hr0 : Kd.C (Kd.int .u8) w A0 l0.length l0) (eZ : l0.length ≤ c0) (h : laws_FnRasOk.f k l0 = some r) :
  Calls Try.prog 5 #[.slice A0 l0.length c0] w fun e w' => e = .returned (.bool r) ∧ Below w.heap.size w w' := by
 have hu36 := Try.underlying36
 have hu39 := Try.underlying39
 have hE := Aside0.mk hr0
 have hB := Aside0.mk eZ
 clear hr0 eZ
 have HB := Aside0.mk (Below.refl w.heap.size w)
 have H : (if (l0.length : Int) > 1048576 then (some true) else ((spec_DrawRasOk.f k l0).bind fun aY => ((spec_DrawPixOk.f k l0).bind fun bG => ((impl_RasOk.f k aY.1 aY.2.1 aY.2.2).bind fun bJ => ((spec_RasOk.f k aY.1 aY.2.1 aY.2.2).bind fun bU => (if (bJ != bU) = true then (laws_FnRasOk.j0 k bJ true aY.1 aY.2.1 aY.2.2) else ((impl_PixOk.f bG.1 bG.2.1 bG.2.2.1 bG.2.2.2).bind fun cW => ((spec_PixOk.f bG.1 bG.2.1 bG.2.2.1 bG.2.2.2).bind fun cX => (laws_FnRasOk.j0 k bJ (cW != cX) aY.1 aY.2.1 aY.2.2))))))))) = some r := h
 clear h
 by_cases c2 : (l0.length : Int) > 1048576
 ·rw [if_pos c2] at H
  have dM : decide (1048576 < (l0.length : Int)) = true := decide_eq_true c2
  have dN : decide (1048576 < l0.length) = true := decide_eq_true (by omega)
  clear c2
  obtain rfl := Option.some.inj H
  go_enter Try.func5, Try.ntmps5
  go_wp2
  go_ret
  exact ⟨by first | rfl | (simp [errW_none, errW_some] <;> rfl) | (simp [*, errW_none, errW_some] <;> rfl), oB HB⟩
 ·rw [if_neg c2] at H
  have dM : decide (1048576 < (l0.length : Int)) = false := decide_eq_false c2
  have dN : decide (1048576 < l0.length) = false := decide_eq_false (by omega)
  clear c2
  replace H := Option.bind_eq_some_iff.mp H
  obtain ⟨⟨aN, aP, aH⟩, gS, H⟩ := H
  (try dsimp only at H)
  have A3 := Aside0.mk gS
  clear gS
  replace H := Option.bind_eq_some_iff.mp H
  obtain ⟨⟨bP, bQ, bR, bS⟩, gT, H⟩ := H
  (try dsimp only at H)
  have A4 := Aside0.mk gT
  clear gT
  replace H := Option.bind_eq_some_iff.mp H
  obtain ⟨bJ, gU, H⟩ := H
  (try dsimp only at H)
  have A5 := Aside0.mk gU
  clear gU
  have gJ := Aside0.mk H
  clear H
  go_enter Try.func5, Try.ntmps5
  go_upto_region 6 with (first | ((with_reducible refine gate_callee (f := 20) rfl ?_); refine goesL_ (some 13) rfl rfl Try.func20 oK rfl #[.slice A0 l0.length c0] rfl oA ?_; (with_reducible refine (spec_DrawRasOk.calls k _ _ l0 aN aP aH _ ?side1 ?side2 A3.out).mono ?_); (case side1 => repeat (first | exact hE.out | (with_reducible refine Kd.C_alloc ?_ _) | (with_reducible refine Kd.C_drewN ?_ _) | (with_reducible refine Kd.C_drew ?_))); (case side2 => exact hB.out); rintro e w7 ⟨iR, rfl, ho0, hb⟩; refine ⟨_, rfl, ?_⟩; have n_ := o2_ (Kd.Q_lower ho0 (below_size (oB HB))) (o1_ (below_step (oB HB) hb)); clear HB; obtain ⟨aQ, HB⟩ := n_; (try clear hb); (try clear hb2); (try clear hk); (try clear hi); (try clear ho0)) | ((with_reducible refine gate_dst (N := 3) rfl ?_); (try (refine gate_guard (by rfl) ?_; dsimp only)); refine box_event rfl (N := 3) rfl (cs := #[.int .i64 0, .int .i64 0, .slice none 0 0]) (t := 36) oS ?_; intro aJ hg w8 hbox hb; have n_ := o2_ (Kd.Q_below (oQ aQ) hb) (o2_ (below_step (oB HB) hb) (o2_ (hbox) (o2_ ((oG hg (below_size (oB HB)) : w.heap.size ≤ aJ)) (o1_ ((oG hg (below_size (oB HB)) : w.heap.size ≤ aJ)))))); clear aQ HB; obtain ⟨aQ, HB, aA, gY, gV⟩ := n_; clear hb hbox hg; have dD : w8.cell? ⟨aJ, 0, none⟩ = some (.int .i64 0) := (blk_cell aA.out 0).trans rfl; have dE : w8.cell? ⟨aJ, 1, none⟩ = some (.int .i64 0) := (blk_cell aA.out 1).trans rfl; have dF : w8.cell? ⟨aJ, 2, none⟩ = some (.slice none 0 0) := (blk_cell aA.out 2).trans rfl; have dG := blk_frozen aA.out 0; have dH := blk_frozen aA.out 1; have dI := blk_frozen aA.out 2; obtain ⟨aX, aW, gM, _⟩ := Kd.Q_slice aQ.out; subst gM) | ((with_reducible refine gate_callee (f := 21) rfl ?_); refine goesL_ (some 15) rfl rfl Try.func21 oK rfl #[.slice A0 l0.length c0] rfl oA ?_; (with_reducible refine (spec_DrawPixOk.calls k _ _ l0 bP bQ bR bS _ ?side1 ?side2 A4.out).mono ?_); (case side1 => exact Kd.C_below hE.out (oB HB)); (case side2 => exact hB.out); rintro e iU ⟨rfl, hb⟩; refine ⟨_, rfl, ?_⟩; have n_ := o2_ (Kd.Q_below (by (with_reducible repeat (first | apply Kd.Q_alloc | apply Kd.Q_drewN | apply Kd.Q_drew)); exact (Kd.Q_mono (Kd.Q_far (p := ⟨aJ, 2, none⟩) (Kd.Q_far (p := ⟨aJ, 1, none⟩) (Kd.Q_far (p := ⟨aJ, 0, none⟩) (Kd.Q_types aQ.out aA.out oD) (fun _ hk => hk.2) (.int .i64 aN)) (fun _ hk => hk.2) (.int .i64 aP)) (fun _ hk => hk.2) (.slice aX aH.length aW)) (fun _ h_ => h_.1))) hb) (o2_ (blk_below (g := aJ) (o := .cells #[.int .i64 aN, .int .i64 aP, .slice aX aH.length aW] 36 (0, 0)) (blk_put (blk_put (blk_put aA.out 0 _ rfl) 1 _ rfl) 2 _ rfl) hb) (o1_ (below_step (oB HB) hb))); clear aQ aA HB; obtain ⟨aQ, aA, HB⟩ := n_; (try clear hb); (try clear hb2); (try clear hk); (try clear hi)) | ((with_reducible refine gate_dst (N := 4) rfl ?_); (try (refine gate_guard (by rfl) ?_; dsimp only)); refine box_event rfl (N := 4) rfl (cs := #[.int .i64 0, .int .i64 0, .int .i64 0, .int .i64 0]) (t := 39) oS ?_; intro aI hg dT hbox hb; have n_ := o2_ (Kd.Q_below (Kd.Q_elderB (oQ aQ) aI (Nat.le_of_eq hg.symm)) hb) (o2_ (blk_below (oP aA) hb) (o2_ (below_step (oB HB) hb) (o2_ (hbox) (o2_ ((oG hg (below_size (oB HB)) : w.heap.size ≤ aI)) (o2_ ((oG hg (below_size (oB HB)) : w.heap.size ≤ aI)) (o2_ ((oL hg (blk_lt (oP aA)))) (o1_ ((oN hg (blk_lt (oP aA))))))))))); clear aQ aA HB; obtain ⟨aQ, aA, HB, aD, gZ, gW, bV, bW⟩ := n_; clear hb hbox hg; have hM := bW.out; have hU := bV.out; have cG : dT.cell? ⟨aI, 0, none⟩ = some (.int .i64 0) := (blk_cell aD.out 0).trans rfl; have cH : dT.cell? ⟨aI, 1, none⟩ = some (.int .i64 0) := (blk_cell aD.out 1).trans rfl; have cI : dT.cell? ⟨aI, 2, none⟩ = some (.int .i64 0) := (blk_cell aD.out 2).trans rfl; have cJ : dT.cell? ⟨aI, 3, none⟩ = some (.int .i64 0) := (blk_cell aD.out 3).trans rfl; have cN := blk_frozen aD.out 0; have cO := blk_frozen aD.out 1; have cP := blk_frozen aD.out 2; have cQ := blk_frozen aD.out 3; have cK : dT.cell? ⟨aJ, 0, none⟩ = some (.int .i64 aN) := (blk_cell aA.out 0).trans rfl; have cL : dT.cell? ⟨aJ, 1, none⟩ = some (.int .i64 aP) := (blk_cell aA.out 1).trans rfl; have cM : dT.cell? ⟨aJ, 2, none⟩ = some (.slice aX aH.length aW) := (blk_cell aA.out 2).trans rfl; have cR := blk_frozen aA.out 0; have cS := blk_frozen aA.out 1; have cT := blk_frozen aA.out 2) | ((with_reducible refine gate_callee (f := 22) rfl ?_); refine goesL_ (some 17) rfl rfl Try.func22 oK rfl #[.agg #[.int .i64 aN, .int .i64 aP, .slice aX aH.length aW]] rfl oA ?_; (with_reducible refine (impl_RasOk.calls k aN aP _ _ aH bJ _ ?side1 ?side2 A5.out).mono ?_); (case side1 => refine (Kd.Q_reads' (e := 39) (base := w.heap.size) (ok := fun k_ => (True ∧ k_ ≠ aI)) (n := aH.length) (c := aW) ?_).2.2; exact (by (with_reducible repeat (first | apply Kd.Q_alloc | apply Kd.Q_drewN | apply Kd.Q_drew)); exact (Kd.Q_mono (Kd.Q_far (p := ⟨aI, 3, none⟩) (Kd.Q_far (p := ⟨aI, 2, none⟩) (Kd.Q_far (p := ⟨aI, 1, none⟩) (Kd.Q_far (p := ⟨aI, 0, none⟩) (Kd.Q_mono aQ.out (fun k_ hk => (⟨hk, hk.2⟩ : _ ∧ k_ ≠ aI))) (fun _ hk => hk.2) (.int .i64 bP)) (fun _ hk => hk.2) (.int .i64 bQ)) (fun _ hk => hk.2) (.int .i64 bR)) (fun _ hk => hk.2) (.int .i64 bS)) (fun _ h_ => h_.1)))); (case side2 => exact (Kd.Q_reads' aQ.out).2.1); rintro e iH ⟨rfl, hb⟩; refine ⟨_, rfl, ?_⟩; have n_ := o2_ (Kd.Q_below (by (with_reducible repeat (first | apply Kd.Q_alloc | apply Kd.Q_drewN | apply Kd.Q_drew)); exact (Kd.Q_mono (Kd.Q_far (p := ⟨aI, 3, none⟩) (Kd.Q_far (p := ⟨aI, 2, none⟩) (Kd.Q_far (p := ⟨aI, 1, none⟩) (Kd.Q_far (p := ⟨aI, 0, none⟩) (Kd.Q_mono aQ.out (fun k_ hk => (⟨hk, hk.2⟩ : _ ∧ k_ ≠ aI))) (fun _ hk => hk.2) (.int .i64 bP)) (fun _ hk => hk.2) (.int .i64 bQ)) (fun _ hk => hk.2) (.int .i64 bR)) (fun _ hk => hk.2) (.int .i64 bS)) (fun _ h_ => h_.1))) hb) (o2_ (blk_below (oP aA) hb) (o2_ (blk_below (g := aI) (o := .cells #[.int .i64 bP, .int .i64 bQ, .int .i64 bR, .int .i64 bS] 39 (0, 0)) (blk_put (blk_put (blk_put (blk_put aD.out 0 _ rfl) 1 _ rfl) 2 _ rfl) 3 _ rfl) hb) (o1_ (below_step (oB HB) hb)))); clear aQ aA aD HB; obtain ⟨aQ, aA, aD, HB⟩ := n_; (try clear hb); (try clear hb2); (try clear hk); (try clear hi)))
  (try simp only [Act.put, List.setIfInBounds_toArray, List.set_cons_zero, List.set_cons_succ])
  go_cut [28] (fun iQ wc => ∃ (kq : Nat) (cU : Bool), iQ = .bool cU ∧ Aside0 (laws_FnRasOk.j0 kq bJ cU aN aP aH = some r) ∧ Aside0 (kq ≤ k) ∧ Aside0 (Kd.Q k39 39 wc w.heap.size (fun k_ => k_ ≠ aI) (.slice aX aH.length aW) aH) ∧ Aside0 (wc.heap[aJ]? = some (.cells #[.int .i64 aN, .int .i64 aP, (.slice aX aH.length aW)] 36 (0, 0))) ∧ Aside0 (wc.heap[aI]? = some (.cells #[.int .i64 bP, .int .i64 bQ, .int .i64 bR, .int .i64 bS] 39 (0, 0))) ∧ Aside0 (Below w.heap.size w wc))
  case first =>
   have H := gJ.out
   clear gJ
   replace H := Option.bind_eq_some_iff.mp H
   obtain ⟨bU, eA, H⟩ := H
   (try dsimp only at H)
   have gR := Aside0.mk eA
   clear eA
   by_cases cV : (bJ != bU) = true
   ·rw [if_pos cV] at H
    have bX : (bJ != bU) = true := cV
    (try (have dA : decide (bJ = bU) = false := by simpa using cV))
    (try (have dB : (bJ == bU) = false := by simpa using cV))
    (try (have hG : ¬ (bJ = bU) := by simpa using cV))
    clear cV
    (first | rw [bX] | (simp only [i64_w, i32_w]; rw [bX]) | skip)
    have H' := Aside0.mk H
    clear H
    try go_wp2
    have n_ := o2_ (Kd.Q_drew aQ.out) (o2_ (blk_drew aA.out) (o2_ (blk_drew aD.out) (o1_ (below_drew1 HB.out))))
    clear aQ aA aD HB
    obtain ⟨aQ, aA, aD, HB⟩ := n_
    refine start_ (n := 11) (S := fun w' => w'.cell? ⟨aJ, 0, none⟩ = some (.int .i64 aN) ∧ w'.cell? ⟨aJ, 1, none⟩ = some (.int .i64 aP) ∧ w'.cell? ⟨aJ, 2, none⟩ = some (.slice aX aH.length aW)) (ds := []) #[false, false, false, false, false, false, false, false, false, false, false] oK rfl rfl ⟨(blk_cell aA.out 0).trans rfl, (blk_cell aA.out 1).trans rfl, (blk_cell aA.out 2).trans rfl⟩ (fun hHeld => ?_); refine with_tabW laws_FnRasOk.tab6 laws_FnRasOk.bits6 (fun HT_ HW_ => ?_)
    generalize iH.drew = iV at aQ aA aD HB hHeld ⊢
    refine pure_ (i := 0) (N := some 18) (v := ?_) (a' := ?_) #[true, false, false, false, false, false, false, false, false, false, false] rfl rfl (any_of HT_.out oK) (fun _ _ _ h => h) (Or.inl ⟨by rfl, ?_⟩) ?_ ?_
    rotate_left
    ·intro w'
     go_simp
     with_reducible rfl
    rotate_left
    ·exact oT
    refine take_ (i := 1) (N := some 19) (v := ?_) (a' := ?_) #[true, true, false, false, false, false, false, false, false, false, false] rfl rfl (take_ofW HT_.out HW_.out oK) (fun _ _ _ h => h) (Or.inl ⟨by rfl, ?_⟩) hHeld ?_ ?_
    rotate_left
    ·rintro w' ⟨s0, s1, s2⟩
     go_simp
     with_reducible rfl
    rotate_left
    ·exact oT
    refine one_ (i := 2) (N := some 20) #[true, true, true, false, false, false, false, false, false, false, false] rfl rfl (one_of HT_.out oK) oD (fun K hK => ?_)
    refine goes_ Try.func23 oK rfl #[.agg #[.int .i64 aN, .int .i64 aP, .slice aX aH.length aW]] (by rfl) rfl rfl oA ?_
    with_reducible refine (spec_RasOk.calls k aN aP _ _ aH bU _ ?side1 ?side2 gR.out).mono ?_
    (case side1 => repeat (first | exact (Kd.Q_reads' aQ.out).2.2 | (with_reducible refine Kd.C_alloc ?_ _) | (with_reducible refine Kd.C_drewN ?_ _) | (with_reducible refine Kd.C_drew ?_)))
    (case side2 => exact (Kd.Q_reads' aQ.out).2.1)
    rintro e iW ⟨rfl, hb⟩
    refine ⟨_, rfl, ?_⟩
    have n_ := o2_ (Kd.Q_below (oQ aQ) hb) (o2_ (blk_below (oP aA) hb) (o2_ (blk_below (oP aD) hb) (o1_ (below_step (oB HB) hb))))
    clear aQ aA aD HB
    obtain ⟨aQ, aA, aD, HB⟩ := n_
    (try clear hb)
    (try clear hb2)
    (try clear hk)
    (try clear hi)
    refine hK.out _ _ ⟨(blk_cell aA.out 0).trans rfl, (blk_cell aA.out 1).trans rfl, (blk_cell aA.out 2).trans rfl⟩ (fun hHeld => ?_)
    clear hK K
    refine norm_ (a' := ?_) ?_ ?_
    rotate_left
    ·show Act.put _ (some 20) _ = _
     exact oT
    refine pure_ (i := 3) (N := some 21) (v := ?_) (a' := ?_) #[true, true, true, true, false, false, false, false, false, false, false] rfl rfl (any_of HT_.out oK) (fun _ _ _ h => h) (Or.inl ⟨by rfl, ?_⟩) ?_ ?_
    rotate_left
    ·intro w'
     go_simp
     with_reducible rfl
    rotate_left
    ·exact oT
    refine pure_ (i := 4) (N := some 22) (v := ?_) (a' := ?_) #[true, true, true, true, true, false, false, false, false, false, false] rfl rfl (any_of HT_.out oK) (fun _ _ _ h => h) (Or.inl ⟨by rfl, ?_⟩) ?_ ?_
    rotate_left
    ·intro w'
     go_simp
     with_reducible rfl
    rotate_left
    ·exact oT
    refine pure_ (i := 5) (N := some 23) (v := undef) (a' := ?_) #[true, true, true, true, true, true, false, false, false, false, false] rfl rfl (any_of HT_.out oK) (fun _ _ _ h => h) (Or.inr ⟨by rfl, rfl⟩) ?_ ?_
    rotate_left
    ·exact oT
    refine pure_ (i := 6) (N := some 24) (v := undef) (a' := ?_) #[true, true, true, true, true, true, true, false, false, false, false] rfl rfl (any_of HT_.out oK) (fun _ _ _ h => h) (Or.inr ⟨by rfl, rfl⟩) ?_ ?_
    rotate_left
    ·exact oT
    refine pure_ (i := 7) (N := some 25) (v := undef) (a' := ?_) #[true, true, true, true, true, true, true, true, false, false, false] rfl rfl (any_of HT_.out oK) (fun _ _ _ h => h) (Or.inr ⟨by rfl, rfl⟩) ?_ ?_
    rotate_left
    ·exact oT
    refine pure_ (i := 8) (N := some 26) (v := undef) (a' := ?_) #[true, true, true, true, true, true, true, true, true, false, false] rfl rfl (any_of HT_.out oK) (fun _ _ _ h => h) (Or.inr ⟨by rfl, rfl⟩) ?_ ?_
    rotate_left
    ·exact oT
    refine pure_ (i := 9) (N := some 27) (v := undef) (a' := ?_) #[true, true, true, true, true, true, true, true, true, true, false] rfl rfl (any_of HT_.out oK) (fun _ _ _ h => h) (Or.inr ⟨by rfl, rfl⟩) ?_ ?_
    rotate_left
    ·exact oT
    refine pure_ (i := 10) (N := some 28) (v := ?_) (a' := ?_) #[true, true, true, true, true, true, true, true, true, true, true] rfl rfl (any_of HT_.out oK) (fun _ _ _ h => h) (Or.inl ⟨by rfl, ?_⟩) ?_ ?_
    rotate_left
    ·intro w'
     go_simp
     with_reducible rfl
    rotate_left
    ·exact oT
    refine done_ (done_of HT_.out oK) ?_
    try go_wp2
    go_meet
    case rel => exact ⟨_, (true), oU, H', ⟨(by first | omega | exact Nat.le_refl _)⟩, ⟨(by (with_reducible repeat (first | apply Kd.Q_alloc | apply Kd.Q_drewN | apply Kd.Q_drew)); exact Kd.Q_mono aQ.out (fun _ hk => hk.2))⟩, ⟨(oP aA)⟩, ⟨(oP aD)⟩, ⟨(oB HB)⟩⟩
   ·rw [if_neg cV] at H
    have bX : (bJ != bU) = false := by simpa using cV
    (try (have dA : decide (bJ = bU) = true := by simpa using cV))
    (try (have dB : (bJ == bU) = true := by simpa using cV))
    clear cV
    (first | rw [bX] | (simp only [i64_w, i32_w]; rw [bX]) | skip)
    replace H := Option.bind_eq_some_iff.mp H
    obtain ⟨cW, eB, H⟩ := H
    (try dsimp only at H)
    have iK := Aside0.mk eB
    clear eB
    replace H := Option.bind_eq_some_iff.mp H
    obtain ⟨cX, eC, H⟩ := H
    (try dsimp only at H)
    have iL := Aside0.mk eC
    clear eC
    have H' := Aside0.mk H
    clear H
    try go_wp2
    have n_ := o2_ (Kd.Q_drew aQ.out) (o2_ (blk_drew aA.out) (o2_ (blk_drew aD.out) (o1_ (below_drew1 HB.out))))
    clear aQ aA aD HB
    obtain ⟨aQ, aA, aD, HB⟩ := n_
    refine start_ (n := 11) (S := fun w' => w'.cell? ⟨aJ, 0, none⟩ = some (.int .i64 aN) ∧ w'.cell? ⟨aJ, 1, none⟩ = some (.int .i64 aP) ∧ w'.cell? ⟨aJ, 2, none⟩ = some (.slice aX aH.length aW) ∧ w'.cell? ⟨aI, 0, none⟩ = some (.int .i64 bP) ∧ w'.cell? ⟨aI, 1, none⟩ = some (.int .i64 bQ) ∧ w'.cell? ⟨aI, 2, none⟩ = some (.int .i64 bR) ∧ w'.cell? ⟨aI, 3, none⟩ = some (.int .i64 bS)) (ds := []) #[false, false, false, false, false, false, false, false, false, false, false] oK rfl rfl ⟨(blk_cell aA.out 0).trans rfl, (blk_cell aA.out 1).trans rfl, (blk_cell aA.out 2).trans rfl, (blk_cell aD.out 0).trans rfl, (blk_cell aD.out 1).trans rfl, (blk_cell aD.out 2).trans rfl, (blk_cell aD.out 3).trans rfl⟩ (fun hHeld => ?_); refine with_tabW laws_FnRasOk.tab6 laws_FnRasOk.bits6 (fun HT_ HW_ => ?_)
    generalize iH.drew = iX at aQ aA aD HB hHeld ⊢
    refine pure_ (i := 0) (N := some 18) (v := ?_) (a' := ?_) #[true, false, false, false, false, false, false, false, false, false, false] rfl rfl (any_of HT_.out oK) (fun _ _ _ h => h) (Or.inl ⟨by rfl, ?_⟩) ?_ ?_
    rotate_left
    ·intro w'
     go_simp
     with_reducible rfl
    rotate_left
    ·exact oT
    refine take_ (i := 1) (N := some 19) (v := ?_) (a' := ?_) #[true, true, false, false, false, false, false, false, false, false, false] rfl rfl (take_ofW HT_.out HW_.out oK) (fun _ _ _ h => h) (Or.inl ⟨by rfl, ?_⟩) hHeld ?_ ?_
    rotate_left
    ·rintro w' ⟨s0, s1, s2, s3, s4, s5, s6⟩
     go_simp
     with_reducible rfl
    rotate_left
    ·exact oT
    refine one_ (i := 2) (N := some 20) #[true, true, true, false, false, false, false, false, false, false, false] rfl rfl (one_of HT_.out oK) oD (fun K hK => ?_)
    refine goes_ Try.func23 oK rfl #[.agg #[.int .i64 aN, .int .i64 aP, .slice aX aH.length aW]] (by rfl) rfl rfl oA ?_
    with_reducible refine (spec_RasOk.calls k aN aP _ _ aH bU _ ?side1 ?side2 gR.out).mono ?_
    (case side1 => repeat (first | exact (Kd.Q_reads' aQ.out).2.2 | (with_reducible refine Kd.C_alloc ?_ _) | (with_reducible refine Kd.C_drewN ?_ _) | (with_reducible refine Kd.C_drew ?_)))
    (case side2 => exact (Kd.Q_reads' aQ.out).2.1)
    rintro e iY ⟨rfl, hb⟩
    refine ⟨_, rfl, ?_⟩
    have n_ := o2_ (Kd.Q_below (oQ aQ) hb) (o2_ (blk_below (oP aA) hb) (o2_ (blk_below (oP aD) hb) (o1_ (below_step (oB HB) hb))))
    clear aQ aA aD HB
    obtain ⟨aQ, aA, aD, HB⟩ := n_
    (try clear hb)
    (try clear hb2)
    (try clear hk)
    (try clear hi)
    refine hK.out _ _ ⟨(blk_cell aA.out 0).trans rfl, (blk_cell aA.out 1).trans rfl, (blk_cell aA.out 2).trans rfl, (blk_cell aD.out 0).trans rfl, (blk_cell aD.out 1).trans rfl, (blk_cell aD.out 2).trans rfl, (blk_cell aD.out 3).trans rfl⟩ (fun hHeld => ?_)
    clear hK K
    refine norm_ (a' := ?_) ?_ ?_
    rotate_left
    ·show Act.put _ (some 20) _ = _
     exact oT
    refine pure_ (i := 3) (N := some 21) (v := ?_) (a' := ?_) #[true, true, true, true, false, false, false, false, false, false, false] rfl rfl (any_of HT_.out oK) (fun _ _ _ h => h) (Or.inl ⟨by rfl, ?_⟩) ?_ ?_
    rotate_left
    ·intro w'
     go_simp
     with_reducible rfl
    rotate_left
    ·exact oT
    refine pure_ (i := 4) (N := some 22) (v := ?_) (a' := ?_) #[true, true, true, true, true, false, false, false, false, false, false] rfl rfl (any_of HT_.out oK) (fun _ _ _ h => h) (Or.inl ⟨by rfl, ?_⟩) ?_ ?_
    rotate_left
    ·intro w'
     go_simp
     with_reducible rfl
    rotate_left
    ·exact oT
    refine take_ (i := 5) (N := some 23) (v := ?_) (a' := ?_) #[true, true, true, true, true, true, false, false, false, false, false] rfl rfl (take_ofW HT_.out HW_.out oK) (fun _ _ _ h => h) (Or.inl ⟨by rfl, ?_⟩) hHeld ?_ ?_
    rotate_left
    ·rintro w' ⟨s0, s1, s2, s3, s4, s5, s6⟩
     go_simp
     with_reducible rfl
    rotate_left
    ·exact oT
    refine take_ (i := 7) (N := some 25) (v := ?_) (a' := ?_) #[true, true, true, true, true, true, false, true, false, false, false] rfl rfl (take_ofW HT_.out HW_.out oK) (fun _ _ _ h => h) (Or.inl ⟨by rfl, ?_⟩) hHeld ?_ ?_
    rotate_left
    ·rintro w' ⟨s0, s1, s2, s3, s4, s5, s6⟩
     go_simp
     with_reducible rfl
    rotate_left
    ·exact oT
    refine one_ (i := 6) (N := some 24) #[true, true, true, true, true, true, true, true, false, false, false] rfl rfl (one_of HT_.out oK) oD (fun K hK => ?_)
    refine goes_ Try.func24 oK rfl #[.agg #[.int .i64 bP, .int .i64 bQ, .int .i64 bR, .int .i64 bS]] (by rfl) rfl rfl oA ?_
    with_reducible refine (impl_PixOk.calls bP bQ bR bS cW _ iK.out).mono ?_
    rintro e iZ ⟨rfl, hb⟩
    refine ⟨_, rfl, ?_⟩
    have n_ := o2_ (Kd.Q_below (oQ aQ) hb) (o2_ (blk_below (oP aA) hb) (o2_ (blk_below (oP aD) hb) (o1_ (below_step (oB HB) hb))))
    clear aQ aA aD HB
    obtain ⟨aQ, aA, aD, HB⟩ := n_
    (try clear hb)
    (try clear hb2)
    (try clear hk)
    (try clear hi)
    refine hK.out _ _ ⟨(blk_cell aA.out 0).trans rfl, (blk_cell aA.out 1).trans rfl, (blk_cell aA.out 2).trans rfl, (blk_cell aD.out 0).trans rfl, (blk_cell aD.out 1).trans rfl, (blk_cell aD.out 2).trans rfl, (blk_cell aD.out 3).trans rfl⟩ (fun hHeld => ?_)
    clear hK K
    refine norm_ (a' := ?_) ?_ ?_
    rotate_left
    ·show Act.put _ (some 24) _ = _
     exact oT
    refine one_ (i := 8) (N := some 26) #[true, true, true, true, true, true, true, true, true, false, false] rfl rfl (one_of HT_.out oK) oD (fun K hK => ?_)
    refine goes_ Try.func25 oK rfl #[.agg #[.int .i64 bP, .int .i64 bQ, .int .i64 bR, .int .i64 bS]] (by rfl) rfl rfl oA ?_
    with_reducible refine (spec_PixOk.calls bP bQ bR bS cX _ iL.out).mono ?_
    rintro e jA ⟨rfl, hb⟩
    refine ⟨_, rfl, ?_⟩
    have n_ := o2_ (Kd.Q_below (oQ aQ) hb) (o2_ (blk_below (oP aA) hb) (o2_ (blk_below (oP aD) hb) (o1_ (below_step (oB HB) hb))))
    clear aQ aA aD HB
    obtain ⟨aQ, aA, aD, HB⟩ := n_
    (try clear hb)
    (try clear hb2)
    (try clear hk)
    (try clear hi)
    refine hK.out _ _ ⟨(blk_cell aA.out 0).trans rfl, (blk_cell aA.out 1).trans rfl, (blk_cell aA.out 2).trans rfl, (blk_cell aD.out 0).trans rfl, (blk_cell aD.out 1).trans rfl, (blk_cell aD.out 2).trans rfl, (blk_cell aD.out 3).trans rfl⟩ (fun hHeld => ?_)
    clear hK K
    refine norm_ (a' := ?_) ?_ ?_
    rotate_left
    ·show Act.put _ (some 26) _ = _
     exact oT
    refine pure_ (i := 9) (N := some 27) (v := ?_) (a' := ?_) #[true, true, true, true, true, true, true, true, true, true, false] rfl rfl (any_of HT_.out oK) (fun _ _ _ h => h) (Or.inl ⟨by rfl, ?_⟩) ?_ ?_
    rotate_left
    ·intro w'
     go_simp
     with_reducible rfl
    rotate_left
    ·exact oT
    refine pure_ (i := 10) (N := some 28) (v := ?_) (a' := ?_) #[true, true, true, true, true, true, true, true, true, true, true] rfl rfl (any_of HT_.out oK) (fun _ _ _ h => h) (Or.inl ⟨by rfl, ?_⟩) ?_ ?_
    rotate_left
    ·intro w'
     go_simp
     with_reducible rfl
    rotate_left
    ·exact oT
    refine done_ (done_of HT_.out oK) ?_
    try go_wp2
    go_meet
    case rel => exact ⟨_, ((cW != cX)), oU, H', ⟨(by first | omega | exact Nat.le_refl _)⟩, ⟨(by (with_reducible repeat (first | apply Kd.Q_alloc | apply Kd.Q_drewN | apply Kd.Q_drew)); exact Kd.Q_mono aQ.out (fun _ hk => hk.2))⟩, ⟨(oP aA)⟩, ⟨(oP aD)⟩, ⟨(oB HB)⟩⟩
  case rest =>
   clear gJ
   try clear c1
   try clear c2
   try clear dM
   try clear dN
   try clear p2
   try clear c5
   try clear c13
   try clear cV
   try clear bX
   try clear dA
   try clear dB
   try clear c20
   try clear c21
   try clear c22
   try clear c23
   try clear c24
   try clear c25
   try clear cG
   try clear cH
   try clear cI
   try clear cJ
   try clear cK
   try clear cL
   try clear cM
   try clear dD
   try clear dE
   try clear dF
   try clear cN
   try clear cO
   try clear cP
   try clear cQ
   try clear cR
   try clear cS
   try clear cT
   try clear dG
   try clear dH
   try clear dI
   obtain ⟨kq, cU, rfl, HA, hD, aC, aA, aD, HB⟩ := hcut
   cases kq with
   | zero => exact nomatch (show none = some _ from HA.out)
   | succ kj5 =>
    have H := HA.out
    clear HA
    simp only [laws_FnRasOk.j0] at H
    by_cases eJ : cU = true
    ·subst eJ
     rw [if_pos rfl] at H
     exact absurd H (by simp)
    ·replace eJ := Bool.eq_false_iff.mpr eJ
     subst eJ
     rw [if_neg (show ¬ (false = true) by decide)] at H
     by_cases eK : bJ = true
     ·subst eK
      rw [if_pos rfl] at H
      have H' := Aside0.mk H
      clear H
      go_wp2
      go_loopg [6] kj5 (fun kq v6 w' => ∃ (bI : Int), v6 = .int .i64 bI ∧ Aside0 (laws_FnRasOk.l0 kq bI aN aP aH = some r) ∧ Aside0 (kq ≤ kj5) ∧ Aside0 (Kd.Q k39 39 w' w.heap.size (fun k_ => k_ ≠ aI) (.slice aX aH.length aW) aH) ∧ Aside0 (w'.heap[aJ]? = some (.cells #[.int .i64 aN, .int .i64 aP, (.slice aX aH.length aW)] 36 (0, 0))) ∧ Aside0 (w'.heap[aI]? = some (.cells #[.int .i64 bP, .int .i64 bQ, .int .i64 bR, .int .i64 bS] 39 (0, 0))) ∧ Aside0 (Below w.heap.size w w'))
      case atStart => exact ⟨(0), oU, H', ⟨Nat.le_refl _⟩, ⟨(oQ aC)⟩, ⟨(oP aA)⟩, ⟨(oP aD)⟩, ⟨(oB HB)⟩⟩
      case round =>
       clear H'
       try clear c1
       try clear c2
       try clear dM
       try clear dN
       try clear p2
       try clear c5
       try clear c13
       try clear cV
       try clear bX
       try clear dA
       try clear dB
       try clear c20
       try clear c21
       try clear c22
       try clear c23
       try clear c24
       try clear c25
       try clear eJ
       try clear eK
       try clear cG
       try clear cH
       try clear cI
       try clear cJ
       try clear cK
       try clear cL
       try clear cM
       try clear dD
       try clear dE
       try clear dF
       try clear cN
       try clear cO
       try clear cP
       try clear cQ
       try clear cR
       try clear cS
       try clear cT
       try clear dG
       try clear dH
       try clear dI
       try clear p2
       obtain ⟨bI, rfl, HA, HK2, aC, aA, aD, HB⟩ := hrel
       cases gk with
       | zero => exact nomatch (show none = some _ from HA.out)
       | succ k2 =>
        have H := HA.out
        clear HA
        simp only [laws_FnRasOk.l0] at H
        by_cases dU : bI < (aH.length : Int)
        ·rw [if_pos dU] at H
         have eL : decide (bI < (aH.length : Int)) = true := decide_eq_true dU
         clear dU
         by_cases eU : 0 ≤ bI
         ·rw [if_pos eU] at H
          have hH : decide (0 ≤ bI) = true := decide_eq_true eU
          clear eU
          replace H := Option.bind_eq_some_iff.mp H
          obtain ⟨dS, eD, H⟩ := H
          (try dsimp only at H)
          have iM := Aside0.mk eD
          clear eD
          by_cases eV : dS = true
          ·subst eV
           rw [if_pos rfl] at H
           have H' := Aside0.mk H
           clear H
           have hN := bV.out
           have hV := bW.out
           have fA : wr.cell? ⟨aJ, 0, none⟩ = some (.int .i64 aN) := (blk_cell aA.out 0).trans rfl
           have fB : wr.cell? ⟨aJ, 1, none⟩ = some (.int .i64 aP) := (blk_cell aA.out 1).trans rfl
           have fC : wr.cell? ⟨aJ, 2, none⟩ = some (.slice aX aH.length aW) := (blk_cell aA.out 2).trans rfl
           have fP := blk_frozen aA.out 0
           have fQ := blk_frozen aA.out 1
           have fR := blk_frozen aA.out 2
           have dP : 0 ≤ (bI : Int) := of_decide_eq_true oM
           have dQ : bI < (aH.length : Int) := of_decide_eq_true oM
           obtain ⟨hF, gL, gE, gF, gG, gH⟩ := at_T39 (Kd.Q_reads' aC.out).2.2 bI dP dQ
           cases gL
           replace dP := eq_true dP
           replace dQ := eq_true dQ
           go_wp2_with (first | ((with_reducible refine gate_callee (f := 24) rfl ?_); refine goesL_ (some 44) rfl rfl Try.func24 oK rfl #[.agg #[.int .i64 ((rd_T39 aH bI).f0), .int .i64 ((rd_T39 aH bI).f1), .int .i64 ((rd_T39 aH bI).f2), .int .i64 ((rd_T39 aH bI).f3)]] rfl oA ?_; (with_reducible refine (impl_PixOk.calls ((rd_T39 aH bI).f0) ((rd_T39 aH bI).f1) ((rd_T39 aH bI).f2) ((rd_T39 aH bI).f3) true _ iM.out).mono ?_); rintro e jB ⟨rfl, hb⟩; refine ⟨_, rfl, ?_⟩; have n_ := o2_ (Kd.Q_below (oQ aC) hb) (o2_ (blk_below (oP aA) hb) (o2_ (blk_below (oP aD) hb) (o1_ (below_step (oB HB) hb)))); clear aC aA aD HB; obtain ⟨aC, aA, aD, HB⟩ := n_; (try clear hb); (try clear hb2); (try clear hk); (try clear hi)))
           go_roundg k2
           case measure => have := hD.out; have := HK2.out; omega
           case rel => exact ⟨(wrap64 (bI + 1)), oU, H', ⟨(by have := hD.out; have := HK2.out; omega)⟩, ⟨(oQ aC)⟩, ⟨(oP aA)⟩, ⟨(oP aD)⟩, ⟨(oB HB)⟩⟩
          ·replace eV := Bool.eq_false_iff.mpr eV
           subst eV
           rw [if_neg (show ¬ (false = true) by decide)] at H
           exact absurd H (by simp)
         ·rw [if_neg eU] at H
          exact absurd H (by simp)
        ·rw [if_neg dU] at H
         have eL : decide (bI < (aH.length : Int)) = false := decide_eq_false dU
         clear dU
         by_cases eM : 1 ≤ (aH.length : Int)
         ·rw [if_pos eM] at H
          have hI := eq_true eM
          have hJ : decide (1 ≤ (aH.length : Int)) = true := decide_eq_true eM
          clear eM
          obtain ⟨y408, hy408⟩ : ∃ y_ : List (S39), y_ = (aH.drop 1) := ⟨_, rfl⟩
          replace H : ((some (([(⟨256, 0, 0, 0⟩ : S39)] : List (S39)) : List (S39))).bind fun bT => ((some (aH.drop 1 : List (S39))).bind fun bH => (if bT.length + bH.length < 4398046511104 then ((impl_RasOk.f k2 aN aP y408).bind fun bY => (if bY = true then (none) else ((impl_RasOk.f k2 aN aP (bT ++ bH)).bind fun bZ => (if bZ = true then (none) else (some ((aH.length : Int) == (wrap64 (aN * aP)))))))) else (none)))) = some r := by first | (rw [hy408]; with_reducible exact H) | (have H2_ := (Option.bind_some _ _).symm.trans H; rw [hy408]; with_reducible exact H2_) | (have H2_ := (Option.bind_some _ _).symm.trans H; with_reducible exact H2_) | with_reducible exact H | (rw [hy408]; exact H) | exact H
          have cY := Aside0.mk hy408
          clear hy408
          obtain ⟨bT, hy413⟩ : ∃ y_ : List (S39), y_ = (([(⟨256, 0, 0, 0⟩ : S39)] : List (S39))) := ⟨_, rfl⟩
          replace H : ((some (aH.drop 1 : List (S39))).bind fun bH => (if bT.length + bH.length < 4398046511104 then ((impl_RasOk.f k2 aN aP y408).bind fun bY => (if bY = true then (none) else ((impl_RasOk.f k2 aN aP (bT ++ bH)).bind fun bZ => (if bZ = true then (none) else (some ((aH.length : Int) == (wrap64 (aN * aP)))))))) else (none))) = some r := by first | (rw [hy413]; with_reducible exact H) | (have H2_ := (Option.bind_some _ _).symm.trans H; rw [hy413]; with_reducible exact H2_) | (have H2_ := (Option.bind_some _ _).symm.trans H; with_reducible exact H2_) | with_reducible exact H | (rw [hy413]; exact H) | exact H
          have cE := Aside0.mk hy413
          clear hy413
          have hL := eq_true (of_decide_eq_true oM : 1 ≤ (aH.length : Int))
          obtain ⟨bH, hy416⟩ : ∃ y_ : List (S39), y_ = (aH.drop 1) := ⟨_, rfl⟩
          replace H : (if bT.length + bH.length < 4398046511104 then ((impl_RasOk.f k2 aN aP y408).bind fun bY => (if bY = true then (none) else ((impl_RasOk.f k2 aN aP (bT ++ bH)).bind fun bZ => (if bZ = true then (none) else (some ((aH.length : Int) == (wrap64 (aN * aP)))))))) else (none)) = some r := by first | (rw [hy416]; with_reducible exact H) | (have H2_ := (Option.bind_some _ _).symm.trans H; rw [hy416]; with_reducible exact H2_) | (have H2_ := (Option.bind_some _ _).symm.trans H; with_reducible exact H2_) | with_reducible exact H | (rw [hy416]; exact H) | exact H
          have cF := Aside0.mk hy416
          clear hy416
          by_cases eW : bT.length + bH.length < 4398046511104
          ·rw [if_pos eW] at H
           have LMc38 := Aside0.mk eW
           clear eW
           obtain ⟨y420, hy420⟩ : ∃ y_ : List (S39), y_ = (bT ++ bH) := ⟨_, rfl⟩
           replace H : ((impl_RasOk.f k2 aN aP y408).bind fun bY => (if bY = true then (none) else ((impl_RasOk.f k2 aN aP y420).bind fun bZ => (if bZ = true then (none) else (some ((aH.length : Int) == (wrap64 (aN * aP)))))))) = some r := by first | (rw [hy420]; with_reducible exact H) | (have H2_ := (Option.bind_some _ _).symm.trans H; rw [hy420]; with_reducible exact H2_) | (have H2_ := (Option.bind_some _ _).symm.trans H; with_reducible exact H2_) | with_reducible exact H | (rw [hy420]; exact H) | exact H
           have cZ := Aside0.mk hy420
           clear hy420
           replace H := Option.bind_eq_some_iff.mp H
           obtain ⟨bY, eE, H⟩ := H
           (try dsimp only at H)
           have iN := Aside0.mk eE
           clear eE
           by_cases eX : bY = true
           ·subst eX
            rw [if_pos rfl] at H
            exact absurd H (by simp)
           ·replace eX := Bool.eq_false_iff.mpr eX
            subst eX
            rw [if_neg (show ¬ (false = true) by decide)] at H
            replace H := Option.bind_eq_some_iff.mp H
            obtain ⟨bZ, eF, H⟩ := H
            (try dsimp only at H)
            have iO := Aside0.mk eF
            clear eF
            by_cases eY : bZ = true
            ·subst eY
             rw [if_pos rfl] at H
             exact absurd H (by simp)
            ·replace eY := Bool.eq_false_iff.mpr eY
             subst eY
             rw [if_neg (show ¬ (false = true) by decide)] at H
             obtain rfl := Option.some.inj H
             have hO := bV.out
             have hW := bW.out
             have fD : wr.cell? ⟨aJ, 0, none⟩ = some (.int .i64 aN) := (blk_cell aA.out 0).trans rfl
             have fE : wr.cell? ⟨aJ, 1, none⟩ = some (.int .i64 aP) := (blk_cell aA.out 1).trans rfl
             have fF : wr.cell? ⟨aJ, 2, none⟩ = some (.slice aX aH.length aW) := (blk_cell aA.out 2).trans rfl
             have fS := blk_frozen aA.out 0
             have fT := blk_frozen aA.out 1
             have fU := blk_frozen aA.out 2
             try go_wp2
             have n_ := o2_ (Kd.Q_drew aC.out) (o2_ (blk_drew aA.out) (o2_ (blk_drew aD.out) (o1_ (below_drew1 HB.out))))
             clear aC aA aD HB
             obtain ⟨aC, aA, aD, HB⟩ := n_
             have gN : (1 : Int) ≤ ((aH.length : Int) : Int) := of_decide_eq_true oM
             obtain ⟨i046, hi046, _, hsz46, _⟩ := info_parts info39
             have hroom46 : aH.length ≤ aW := (Kd.Q_reads' aC.out).2.1
             have hC46 : Kd.C k39 _ aX aH.length aH := (Kd.Q_reads' aC.out).2.2
             have hcut46 := cut_from (P := Try.prog) 34 39 .i64 Try.underlying34 hi046 4 hsz46 aX aH.length aW 1 (by omega) gN
             have hr46 := Kd.C_drop (m := (1 : Int).toNat) (c := aW) hC46 (by omega) hroom46
             obtain ⟨A46, hA46⟩ : ∃ A1, A1 = (if aW = (1 : Int).toNat then aX else (aX : Option Addr).map (·.add ((1 : Int).toNat * 4))) := ⟨_, rfl⟩
             obtain ⟨c46, hc46⟩ : ∃ c1, c1 = aW - (1 : Int).toNat := ⟨_, rfl⟩
             have hy46 : y408.length = aH.length - (1 : Int).toNat := (by rw [cY.out, List.length_drop] <;> omega)
             rw [show (aH).drop (1 : Int).toNat = y408 from cY.out.symm] at hr46
             replace hr46 : Kd.C k39 _ A46 y408.length y408 := (by rw [hA46]; exact hr46)
             rw [← hy46, ← hA46, ← hc46] at hcut46
             have eI := Aside0.mk hr46
             have eH := Aside0.mk (show y408.length ≤ c46 from by rw [hy46, hc46]; exact Nat.sub_le_sub_right hroom46 _)
             clear hr46 hC46 hroom46 hi046 hsz46 hc46
             have KY46 := Aside0.mk hy46
             have KA46 := Aside0.mk hA46
             clear hy46 hA46
             have KL46 := Aside0.mk (show 1 ≤ aH.length from by omega)
             replace gN := eq_true gN
             refine start_ (n := 10) (S := fun w' => w'.cell? ⟨aJ, 0, none⟩ = some (.int .i64 aN) ∧ w'.cell? ⟨aJ, 1, none⟩ = some (.int .i64 aP) ∧ w'.cell? ⟨aJ, 2, none⟩ = some (.slice aX aH.length aW)) (ds := []) #[false, false, false, false, false, false, false, false, false, false] oK rfl rfl ⟨(blk_cell aA.out 0).trans rfl, (blk_cell aA.out 1).trans rfl, (blk_cell aA.out 2).trans rfl⟩ (fun hHeld => ?_); refine with_tabW laws_FnRasOk.tab15 laws_FnRasOk.bits15 (fun HT_ HW_ => ?_)
             generalize wr.drew = jC at aC aA aD HB eI hHeld ⊢
             refine pure_ (i := 0) (N := some 46) (v := ?_) (a' := ?_) #[true, false, false, false, false, false, false, false, false, false] rfl rfl (any_of HT_.out oK) (fun _ _ _ h => h) (Or.inl ⟨by rfl, ?_⟩) ?_ ?_
             rotate_left
             ·intro w'
              go_simp
              with_reducible rfl
             rotate_left
             ·exact oT
             refine pure_ (i := 2) (N := some 48) (v := ?_) (a' := ?_) #[true, false, true, false, false, false, false, false, false, false] rfl rfl (any_of HT_.out oK) (fun _ _ _ h => h) (Or.inl ⟨by rfl, ?_⟩) ?_ ?_
             rotate_left
             ·intro w'
              go_simp
              with_reducible rfl
             rotate_left
             ·exact oT
             refine pure_ (i := 4) (N := some 50) (v := ?_) (a' := ?_) #[true, false, true, false, true, false, false, false, false, false] rfl rfl (any_of HT_.out oK) (fun _ _ _ h => h) (Or.inl ⟨by rfl, ?_⟩) ?_ ?_
             rotate_left
             ·intro w'
              go_simp
              with_reducible rfl
             rotate_left
             ·exact oT
             refine take_ (i := 1) (N := some 47) (v := ?_) (a' := ?_) #[true, true, true, false, true, false, false, false, false, false] rfl rfl (take_ofW HT_.out HW_.out oK) (fun _ _ _ h => h) (Or.inl ⟨by rfl, ?_⟩) hHeld ?_ ?_
             rotate_left
             ·rintro w' ⟨s0, s1, s2⟩
              go_simp
              with_reducible rfl
             rotate_left
             ·exact oT
             refine take_ (i := 3) (N := some 49) (v := ?_) (a' := ?_) #[true, true, true, true, true, false, false, false, false, false] rfl rfl (take_ofW HT_.out HW_.out oK) (fun _ _ _ h => h) (Or.inl ⟨by rfl, ?_⟩) hHeld ?_ ?_
             rotate_left
             ·rintro w' ⟨s0, s1, s2⟩
              go_simp
              with_reducible rfl
             rotate_left
             ·exact oT
             refine take_ (i := 5) (N := some 51) (v := ?_) (a' := ?_) #[true, true, true, true, true, true, false, false, false, false] rfl rfl (take_ofW HT_.out HW_.out oK) (fun _ _ _ h => h) (Or.inl ⟨by rfl, ?_⟩) hHeld ?_ ?_
             rotate_left
             ·rintro w' ⟨s0, s1, s2⟩
              go_simp
              with_reducible rfl
             rotate_left
             ·exact oT
             refine pure_ (i := 6) (N := some 52) (v := ?_) (a' := ?_) #[true, true, true, true, true, true, true, false, false, false] rfl rfl (any_of HT_.out oK) (fun _ _ _ h => h) (Or.inl ⟨by rfl, ?_⟩) ?_ ?_
             rotate_left
             ·intro w'
              go_simp
              with_reducible rfl
             rotate_left
             ·exact oT
             refine pure_ (i := 7) (N := some 53) (v := ?_) (a' := ?_) #[true, true, true, true, true, true, true, true, false, false] rfl rfl (any_of HT_.out oK) (fun _ _ _ h => h) (Or.inl ⟨by rfl, ?_⟩) ?_ ?_
             rotate_left
             ·intro w'
              go_simp
              with_reducible rfl
             rotate_left
             ·exact oT
             refine one_ (i := 8) (N := some 7) #[true, true, true, true, true, true, true, true, true, false] rfl rfl (one_of HT_.out oK) oD (fun K hK => ?_)
             refine box_step ?hg (N := 7) ?hd (cs := #[.int .i64 0, .int .i64 0, .slice none 0 0]) (t := 36) ?hr ?_; (case hd => rfl); (case hg => rfl); (case hr => first | (go_simp; done) | (go_simp; rfl))
             intro aK hg dK hbox hb
             have n_ := o2_ (Kd.Q_below (oQ aC) hb) (o2_ (blk_below (oP aA) hb) (o2_ (blk_below (oP aD) hb) (o2_ (below_step (oB HB) hb) (o2_ (hbox) (o2_ ((oG hg (below_size (oB HB)) : w.heap.size ≤ aK)) (o2_ ((oG hg (below_size (oB HB)) : w.heap.size ≤ aK)) (o2_ ((oL hg (blk_lt (oP aA)))) (o2_ ((oN hg (blk_lt (oP aA)))) (o2_ ((oL hg (blk_lt (oP aD)))) (o1_ ((oN hg (blk_lt (oP aD))))))))))))))
             clear aC aA aD HB
             obtain ⟨aC, aA, aD, HB, aG, hA, gX, aU, bL, bK, bM⟩ := n_
             clear hb hbox hg
             refine hK.out _ _ ⟨(blk_cell aA.out 0).trans rfl, (blk_cell aA.out 1).trans rfl, (blk_cell aA.out 2).trans rfl⟩ (fun hHeld => ?_)
             clear hK K
             refine norm_ (a' := ?_) ?_ ?_
             rotate_left
             ·show Act.put _ (some 7) _ = _
              exact oT
             refine one_ (i := 9) (N := none) #[true, true, true, true, true, true, true, true, true, true] rfl rfl (one_of HT_.out oK) oD (fun K hK => ?_)
             have hs48 : dK.cell? ⟨aK, 0, none⟩ = some (.int .i64 0) := (blk_cell aG.out 0).trans rfl
             have hfs48 := blk_frozen aG.out 0
             have hns48_0 := aU.out
             have hns48_1 := bK.out
             have hms48_0 := bL.out
             have hms48_1 := bM.out
             have hs49 : dK.cell? ⟨aK, 1, none⟩ = some (.int .i64 0) := (blk_cell aG.out 1).trans rfl
             have hfs49 := blk_frozen aG.out 1
             have hns49_0 := aU.out
             have hns49_1 := bK.out
             have hms49_0 := bL.out
             have hms49_1 := bM.out
             have hs50 : dK.cell? ⟨aK, 2, none⟩ = some (.slice none 0 0) := (blk_cell aG.out 2).trans rfl
             have hfs50 := blk_frozen aG.out 2
             have hns50_0 := aU.out
             have hns50_1 := bK.out
             have hms50_0 := bL.out
             have hms50_1 := bM.out
             refine skip_ (w1 := ?_) (by rfl) rfl ?_ ?_
             rotate_left
             ·go_simp
              rfl
             refine hK.out _ _ ⟨((cell_far (p := ⟨aK, _, none⟩) aU.out _).trans (((cell_far (p := ⟨aK, _, none⟩) aU.out _).trans (((cell_far (p := ⟨aK, _, none⟩) aU.out _).trans (hHeld.1)))))), ((cell_far (p := ⟨aK, _, none⟩) aU.out _).trans (((cell_far (p := ⟨aK, _, none⟩) aU.out _).trans (((cell_far (p := ⟨aK, _, none⟩) aU.out _).trans (hHeld.2.1)))))), ((cell_far (p := ⟨aK, _, none⟩) aU.out _).trans (((cell_far (p := ⟨aK, _, none⟩) aU.out _).trans (((cell_far (p := ⟨aK, _, none⟩) aU.out _).trans (hHeld.2.2))))))⟩ (fun hHeld => ?_)
             clear hK K
             refine done_ (done_of HT_.out oK) ?_
             try go_wp2
             have dV : Aside0 (Kd.Q k39 39 (((dK.setCell ⟨aK, 0, none⟩ (.int .i64 aN)).setCell ⟨aK, 1, none⟩ (.int .i64 aP)).setCell ⟨aK, 2, none⟩ (.slice A46 y408.length c46)) w.heap.size (fun k_ => k_ ≠ aI) (.slice aX aH.length aW) aH) := ⟨(by (with_reducible repeat (first | apply Kd.Q_alloc | apply Kd.Q_drewN | apply Kd.Q_drew)); exact Kd.Q_mono (Kd.Q_far (p := ⟨aK, 2, none⟩) (Kd.Q_far (p := ⟨aK, 1, none⟩) (Kd.Q_far (p := ⟨aK, 0, none⟩) (Kd.Q_types aC.out aG.out oD) (fun _ hk => hk.2) (.int .i64 aN)) (fun _ hk => hk.2) (.int .i64 aP)) (fun _ hk => hk.2) (.slice A46 y408.length c46)) (fun _ hk => hk.1))⟩
             have dW : Aside0 ((((dK.setCell ⟨aK, 0, none⟩ (.int .i64 aN)).setCell ⟨aK, 1, none⟩ (.int .i64 aP)).setCell ⟨aK, 2, none⟩ (.slice A46 y408.length c46)).heap[aJ]? = some (.cells #[.int .i64 aN, .int .i64 aP, .slice aX aH.length aW] 36 (0, 0))) := ⟨(oP aA)⟩
             have dX : Aside0 ((((dK.setCell ⟨aK, 0, none⟩ (.int .i64 aN)).setCell ⟨aK, 1, none⟩ (.int .i64 aP)).setCell ⟨aK, 2, none⟩ (.slice A46 y408.length c46)).heap[aI]? = some (.cells #[.int .i64 bP, .int .i64 bQ, .int .i64 bR, .int .i64 bS] 39 (0, 0))) := ⟨(oP aD)⟩
             have dY : Aside0 ((((dK.setCell ⟨aK, 0, none⟩ (.int .i64 aN)).setCell ⟨aK, 1, none⟩ (.int .i64 aP)).setCell ⟨aK, 2, none⟩ (.slice A46 y408.length c46)).heap[aK]? = some (.cells #[.int .i64 aN, .int .i64 aP, .slice A46 y408.length c46] 36 (0, 0))) := ⟨(blk_put (blk_put (blk_put aG.out 0 _ rfl) 1 _ rfl) 2 _ rfl)⟩
             have dZ : Aside0 (Below w.heap.size w (((dK.setCell ⟨aK, 0, none⟩ (.int .i64 aN)).setCell ⟨aK, 1, none⟩ (.int .i64 aP)).setCell ⟨aK, 2, none⟩ (.slice A46 y408.length c46))) := ⟨(oB HB)⟩
             (try clear aC)
             (try clear aA)
             (try clear aD)
             (try clear aG)
             (try clear HB)
             generalize (((dK.setCell ⟨aK, 0, none⟩ (.int .i64 aN)).setCell ⟨aK, 1, none⟩ (.int .i64 aP)).setCell ⟨aK, 2, none⟩ (.slice A46 y408.length c46)) = iS at dV dW dX dY dZ ⊢
             have aC := dV
             have aA := dW
             have aD := dX
             have aG := dY
             have HB := dZ
             clear dV dW dX dY dZ
             have n_ := o2_ (Kd.Q_drew aC.out) (o2_ (blk_drew aA.out) (o2_ (blk_drew aD.out) (o2_ (blk_drew aG.out) (o1_ (below_drew1 HB.out)))))
             clear aC aA aD aG HB
             obtain ⟨aC, aA, aD, aG, HB⟩ := n_
             have gO : (1 : Int) ≤ ((aH.length : Int) : Int) := of_decide_eq_true oM
             obtain ⟨i053, hi053, _, hsz53, _⟩ := info_parts info39
             have hroom53 : aH.length ≤ aW := (Kd.Q_reads' aC.out).2.1
             have hC53 : Kd.C k39 _ aX aH.length aH := (Kd.Q_reads' aC.out).2.2
             clear hcut46
             have hcut53 := cut_from (P := Try.prog) 34 39 .i64 Try.underlying34 hi053 4 hsz53 aX aH.length aW 1 (by omega) gO
             have hr53 := Kd.C_drop (m := (1 : Int).toNat) (c := aW) hC53 (by omega) hroom53
             obtain ⟨A53, hA53⟩ : ∃ A1, A1 = (if aW = (1 : Int).toNat then aX else (aX : Option Addr).map (·.add ((1 : Int).toNat * 4))) := ⟨_, rfl⟩
             obtain ⟨c53, hc53⟩ : ∃ c1, c1 = aW - (1 : Int).toNat := ⟨_, rfl⟩
             have hy53 : bH.length = aH.length - (1 : Int).toNat := (by rw [cF.out, List.length_drop] <;> omega)
             rw [show (aH).drop (1 : Int).toNat = bH from cF.out.symm] at hr53
             replace hr53 : Kd.C k39 _ A53 bH.length bH := (by rw [hA53]; exact hr53)
             rw [← hy53, ← hA53, ← hc53] at hcut53
             have aV := Aside0.mk hr53
             have hC := Aside0.mk (show bH.length ≤ c53 from by rw [hy53, hc53]; exact Nat.sub_le_sub_right hroom53 _)
             clear hr53 hC53 hroom53 hi053 hsz53 hc53
             have KY53 := Aside0.mk hy53
             have KA53 := Aside0.mk hA53
             clear hy53 hA53
             have KL53 := Aside0.mk (show 1 ≤ aH.length from by omega)
             replace gO := eq_true gO
             refine start_ (n := 13) (S := fun w' => w'.cell? ⟨aJ, 0, none⟩ = some (.int .i64 aN) ∧ w'.cell? ⟨aJ, 1, none⟩ = some (.int .i64 aP) ∧ w'.cell? ⟨aJ, 2, none⟩ = some (.slice aX aH.length aW)) (ds := []) #[false, false, false, false, false, false, false, false, false, false, false, false, false] oK rfl rfl ⟨(blk_cell aA.out 0).trans rfl, (blk_cell aA.out 1).trans rfl, (blk_cell aA.out 2).trans rfl⟩ (fun hHeld => ?_); refine with_tabW laws_FnRasOk.tab16 laws_FnRasOk.bits16 (fun HT_ HW_ => ?_)
             generalize iS.drew = jD at aC aA aD aG HB aV hHeld ⊢
             refine pure_ (i := 0) (N := some 54) (v := ?_) (a' := ?_) #[true, false, false, false, false, false, false, false, false, false, false, false, false] rfl rfl (any_of HT_.out oK) (fun _ _ _ h => h) (Or.inl ⟨by rfl, ?_⟩) ?_ ?_
             rotate_left
             ·intro w'
              go_simp
              with_reducible rfl
             rotate_left
             ·exact oT
             refine pure_ (i := 2) (N := some 56) (v := ?_) (a' := ?_) #[true, false, true, false, false, false, false, false, false, false, false, false, false] rfl rfl (any_of HT_.out oK) (fun _ _ _ h => h) (Or.inl ⟨by rfl, ?_⟩) ?_ ?_
             rotate_left
             ·intro w'
              go_simp
              with_reducible rfl
             rotate_left
             ·exact oT
             refine pure_ (i := 4) (N := some 58) (v := ?_) (a' := ?_) #[true, false, true, false, true, false, false, false, false, false, false, false, false] rfl rfl (any_of HT_.out oK) (fun _ _ _ h => h) (Or.inl ⟨by rfl, ?_⟩) ?_ ?_
             rotate_left
             ·intro w'
              go_simp
              with_reducible rfl
             rotate_left
             ·exact oT
             refine pure_ (i := 6) (N := some 60) (v := ?_) (a' := ?_) #[true, false, true, false, true, false, true, false, false, false, false, false, false] rfl rfl (any_of HT_.out oK) (fun _ _ _ h => h) (Or.inl ⟨by rfl, ?_⟩) ?_ ?_
             rotate_left
             ·intro w'
              go_simp
              with_reducible rfl
             rotate_left
             ·exact oT
             refine take_ (i := 1) (N := some 55) (v := ?_) (a' := ?_) #[true, true, true, false, true, false, true, false, false, false, false, false, false] rfl rfl (take_ofW HT_.out HW_.out oK) (fun _ _ _ h => h) (Or.inl ⟨by rfl, ?_⟩) hHeld ?_ ?_
             rotate_left
             ·rintro w' ⟨s0, s1, s2⟩
              go_simp
              with_reducible rfl
             rotate_left
             ·exact oT
             refine take_ (i := 3) (N := some 57) (v := ?_) (a' := ?_) #[true, true, true, true, true, false, true, false, false, false, false, false, false] rfl rfl (take_ofW HT_.out HW_.out oK) (fun _ _ _ h => h) (Or.inl ⟨by rfl, ?_⟩) hHeld ?_ ?_
             rotate_left
             ·rintro w' ⟨s0, s1, s2⟩
              go_simp
              with_reducible rfl
             rotate_left
             ·exact oT
             refine take_ (i := 7) (N := some 61) (v := ?_) (a' := ?_) #[true, true, true, true, true, false, true, true, false, false, false, false, false] rfl rfl (take_ofW HT_.out HW_.out oK) (fun _ _ _ h => h) (Or.inl ⟨by rfl, ?_⟩) hHeld ?_ ?_
             rotate_left
             ·rintro w' ⟨s0, s1, s2⟩
              go_simp
              with_reducible rfl
             rotate_left
             ·exact oT
             refine pure_ (i := 8) (N := some 62) (v := ?_) (a' := ?_) #[true, true, true, true, true, false, true, true, true, false, false, false, false] rfl rfl (any_of HT_.out oK) (fun _ _ _ h => h) (Or.inl ⟨by rfl, ?_⟩) ?_ ?_
             rotate_left
             ·intro w'
              go_simp
              with_reducible rfl
             rotate_left
             ·exact oT
             refine join_ (σ := Value × Value × Nat) 1 #[true, true, true, true, true, true, true, true, true, true, true, true, false] (fun s_ => [(59, s_.1), (63, s_.2.1), (8, .pointer (some ⟨s_.2.2, 0, none⟩)), (64, .agg #[.int .i64 aN, .int .i64 aP, s_.2.1])]) (fun s_ w' => (w'.cell? ⟨aJ, 0, none⟩ = some (.int .i64 aN) ∧ w'.cell? ⟨aJ, 1, none⟩ = some (.int .i64 aP) ∧ w'.cell? ⟨aJ, 2, none⟩ = some (.slice aX aH.length aW)) ∧ (Kd.R k39 39 w' w.heap.size (fun k_ => some k_ ≠ (.slice aX aH.length aW : Value).ownBlock ∧ k_ ≠ aI) s_.2.1 y420) ∧ (Kd.Q k39 39 w' w.heap.size (fun k_ => some k_ ≠ (s_.2.1 : Value).ownBlock ∧ k_ ≠ aI) (.slice aX aH.length aW) aH) ∧ (w'.heap[aJ]? = some (.cells #[.int .i64 aN, .int .i64 aP, .slice aX aH.length aW] 36 (0, 0))) ∧ (w'.heap[aI]? = some (.cells #[.int .i64 bP, .int .i64 bQ, .int .i64 bR, .int .i64 bS] 39 (0, 0))) ∧ (w'.heap[aK]? = some (.cells #[.int .i64 aN, .int .i64 aP, .slice A46 y408.length c46] 36 (0, 0))) ∧ (w'.heap[s_.2.2]? = some (.cells #[.int .i64 0, .int .i64 0, .slice none 0 0] 36 (0, 0))) ∧ (w.heap.size ≤ s_.2.2) ∧ (w.heap.size ≤ s_.2.2) ∧ (aJ ≠ s_.2.2) ∧ (s_.2.2 ≠ aJ) ∧ (aI ≠ s_.2.2) ∧ (s_.2.2 ≠ aI) ∧ (aK ≠ s_.2.2) ∧ (s_.2.2 ≠ aK) ∧ (Below w.heap.size w w')) ?_ ?_
             rotate_left
             ·intro hCont
              refine two_ (i := 5) (j := 11) (Ni := some 59) (Nj := some 8) #[true, true, true, true, true, true, true, true, true, false, false, false, false] #[true, true, true, true, true, false, true, true, true, false, false, true, false] rfl rfl rfl rfl (two_of HT_.out oK) oD oD (fun K hK => ?_) (fun K hK => ?_)
              ·skip
               refine Kd.R_lit_step k39 _ 39 ?hg (N := 59) ?hd (xs := ([(⟨256, 0, 0, 0⟩ : S39)] : List (S39))) (inner := [.int .i64 256, .int .i64 0, .int .i64 0, .int .i64 0]) (ok := fun _ => True) (okp := fun _ => True) ?hr ?hp (fun _ hk => hk) trivial (Below.refl _ _) (Nat.le_refl _) (by simp) ?_; (case hd => rfl); (case hg => rfl); (case hr => first | (go_simp; done) | (go_simp; rfl)); (case hp => exact (Reps.c4 (show Kd.M k39 _ _ _ (⟨256, 0, 0, 0⟩ : S39) [.int .i64 256, .int .i64 0, .int .i64 0, .int .i64 0] from (k39_mkM _ _ _ (⟨256, 0, 0, 0⟩ : S39) )) (Reps.none _ _)))
               intro cD iT ho55 hb hg_ hnew_
               clear hg_ hnew_
               (first | rw [← cE.out] at ho55 | (simp only [Int.reduceToNat] at ho55; rw [← cE.out] at ho55))
               have n_ := o2_ (Kd.Q_elder' (oQ aC) (Kd.R_base ho55) hb) (o2_ (Kd.R_lower (Kd.R_newB (Kd.R_new' ho55 (Kd.Q_lt (oQ aC))) (oP aD)) (below_size (oB HB))) (o2_ (blk_below (oP aA) hb) (o2_ (blk_below (oP aD) hb) (o2_ (blk_below (oP aG) hb) (o2_ (Kd.C_below (by repeat (first | (with_reducible exact aV.out) | (with_reducible refine Kd.C_alloc ?_ _) | (with_reducible refine Kd.C_drewN ?_ _) | (with_reducible refine Kd.C_drew ?_) | exact aV.out)) hb) (o1_ (below_step (oB HB) hb)))))))
               clear aC aA aD aG aV HB
               obtain ⟨aC, bE, aA, aD, aG, aV, HB⟩ := n_
               clear hb ho55
               refine hK.out _ _ ⟨(blk_cell aA.out 0).trans rfl, (blk_cell aA.out 1).trans rfl, (blk_cell aA.out 2).trans rfl⟩ (fun hHeld => ?_)
               clear hK K
               refine norm_ (a' := ?_) ?_ ?_
               rotate_left
               ·show Act.put _ (some 59) _ = _
                exact oT
               refine two_ (i := 9) (j := 11) (Ni := some 63) (Nj := some 8) #[true, true, true, true, true, true, true, true, true, true, false, false, false] #[true, true, true, true, true, true, true, true, true, false, false, true, false] rfl rfl rfl rfl (two_of HT_.out oK) oD oD (fun K hK => ?_) (fun K hK => ?_)
               ·skip
                refine Kd.R_append_rows_step k39 (w0 := w) w.heap.size (by rfl) (.tmp 59) (.tmp 62) 34 39 (.agg #[(.int .i64 0), (.int .i64 0), (.int .i64 0), (.int .i64 0)]) 32 rfl Try.underlying34 info39 rfl oD (by omega) cD bT bH _ _ _ (fun k_ => some k_ ≠ (.slice aX aH.length aW : Value).ownBlock ∧ k_ ≠ aI) (fun _ => False) rfl rfl ?aO ?aR (fun _ _ h => h) (fun _ h => h.elim) ?aF ?aB ?aS ?aL ?_
                (case aR => repeat (first | exact (by repeat (first | (with_reducible exact aV.out) | (with_reducible refine Kd.C_alloc ?_ _) | (with_reducible refine Kd.C_drewN ?_ _) | (with_reducible refine Kd.C_drew ?_) | exact aV.out)) | (with_reducible refine Kd.C_alloc ?_ _) | (with_reducible refine Kd.C_drewN ?_ _) | (with_reducible refine Kd.C_drew ?_)))
                (case aB => exact (oB HB))
                (case aF => exact (fun k_ hk => ⟨Kd.fresh' (Kd.Q_lt (oQ aC)) k_ hk, Kd.freshB (oP aD) k_ hk⟩))
                (case aO => exact (by (with_reducible repeat (first | apply Kd.R_alloc | apply Kd.R_drewN | apply Kd.R_drew)); exact Kd.R_mono bE.out (fun _ hk => ⟨hk.1.2, hk.2⟩)))
                (case aS => exact (below_size (oB HB)))
                (case aL => have := LMc38.out; omega)
                intro dJ iI ho hb hg hat
                rw [← cZ.out] at ho
                have n_ := o2_ (Kd.Q_after (ok := (fun k_ => k_ ≠ aI)) (oQ aC) hg hat) (o2_ (blk_grown (oP aA) hg (Kd.R_ne bE.out aA.out oD)) (o2_ (blk_grown (oP aD) hg (Kd.R_away bE.out (fun _ hk => hk.2))) (o2_ (blk_grown (oP aG) hg (Kd.R_ne bE.out aG.out oD)) (o2_ (hb) (o2_ ((show Kd.C k39 iI A53 bH.length bH from by rw [cF.out, KA53.out]; exact Kd.C_drop (m := 1) (c := aW) ((Kd.Q_reads' (Kd.Q_after (ok := (fun k_ => k_ ≠ aI)) (oQ aC) hg hat)).2.2) KL53.out ((Kd.Q_reads' (Kd.Q_after (ok := (fun k_ => k_ ≠ aI)) (oQ aC) hg hat)).2.1))) (o1_ (ho)))))))
                clear aC aA aD aG HB aV bE
                obtain ⟨aC, aA, aD, aG, HB, aV, bF⟩ := n_
                clear ho hb hg hat
                obtain ⟨gI, gK, eN⟩ := Kd.R_slice bF.out
                (first | subst eN | (injection eN with f1_ f2_ f3_; have f4_ := f1_.symm; have f5_ := f3_.symm; clear f1_ f2_ f3_; subst f4_; subst f5_))
                refine hK.out _ _ ⟨(blk_cell aA.out 0).trans rfl, (blk_cell aA.out 1).trans rfl, (blk_cell aA.out 2).trans rfl⟩ (fun hHeld => ?_)
                clear hK K
                refine norm_ (a' := ?_) ?_ ?_
                rotate_left
                ·show Act.put _ (some 63) _ = _
                 exact oT
                refine pure_ (i := 10) (N := some 64) (v := ?_) (a' := ?_) #[true, true, true, true, true, true, true, true, true, true, true, false, false] rfl rfl (any_of HT_.out oK) (fun _ _ _ h => h) (Or.inl ⟨by rfl, ?_⟩) ?_ ?_
                rotate_left
                ·intro w'
                 go_simp
                 with_reducible rfl
                rotate_left
                ·exact oT
                refine one_ (i := 11) (N := some 8) #[true, true, true, true, true, true, true, true, true, true, true, true, false] rfl rfl (one_of HT_.out oK) oD (fun K hK => ?_)
                refine box_step ?hg (N := 8) ?hd (cs := #[.int .i64 0, .int .i64 0, .slice none 0 0]) (t := 36) ?hr ?_; (case hd => rfl); (case hg => rfl); (case hr => first | (go_simp; done) | (go_simp; rfl))
                intro aE hg jF hbox hb
                have n_ := o2_ (Kd.Q_below (oQ aC) hb) (o2_ (Kd.R_below (oR bF) hb) (o2_ (blk_below (oP aA) hb) (o2_ (blk_below (oP aD) hb) (o2_ (blk_below (oP aG) hb) (o2_ (Kd.C_below (by repeat (first | (with_reducible exact aV.out) | (with_reducible refine Kd.C_alloc ?_ _) | (with_reducible refine Kd.C_drewN ?_ _) | (with_reducible refine Kd.C_drew ?_) | exact aV.out)) hb) (o2_ (below_step (oB HB) hb) (o2_ (hbox) (o2_ ((oG hg (below_size (oB HB)) : w.heap.size ≤ aE)) (o2_ ((oG hg (below_size (oB HB)) : w.heap.size ≤ aE)) (o2_ ((oL hg (blk_lt (oP aA)))) (o2_ ((oN hg (blk_lt (oP aA)))) (o2_ ((oL hg (blk_lt (oP aD)))) (o2_ ((oN hg (blk_lt (oP aD)))) (o2_ ((oL hg (blk_lt (oP aG)))) (o1_ ((oN hg (blk_lt (oP aG)))))))))))))))))))
                clear aC bF aA aD aG aV HB
                obtain ⟨aC, bF, aA, aD, aG, aV, HB, aT, cC, cB, aM, bB, aZ, bC, bA, bD⟩ := n_
                clear hb hbox hg
                refine hK.out _ _ ⟨(blk_cell aA.out 0).trans rfl, (blk_cell aA.out 1).trans rfl, (blk_cell aA.out 2).trans rfl⟩ (fun hHeld => ?_)
                clear hK K
                refine norm_ (a' := ?_) ?_ ?_
                rotate_left
                ·show Act.put _ (some 8) _ = _
                 exact oT
                exact norm_ (by simp only [putAll, Act.put, List.setIfInBounds_toArray, List.set_cons_zero, List.set_cons_succ]) (hCont (cD, .slice gI y420.length gK, aE) _ ⟨hHeld, (oR bF), (by (with_reducible repeat (first | apply Kd.Q_alloc | apply Kd.Q_drewN | apply Kd.Q_drew)); exact Kd.Q_mono aC.out (fun _ hk => ⟨hk.2, hk.1⟩)), (oP aA), (oP aD), (oP aG), (oP aT), cC.out, cB.out, aM.out, bB.out, aZ.out, bC.out, bA.out, bD.out, (oB HB)⟩)
               ·skip
                refine box_step ?hg (N := 8) ?hd (cs := #[.int .i64 0, .int .i64 0, .slice none 0 0]) (t := 36) ?hr ?_; (case hd => rfl); (case hg => rfl); (case hr => first | (go_simp; done) | (go_simp; rfl))
                intro aE hg iI hbox hb
                have n_ := o2_ (Kd.Q_below (oQ aC) hb) (o2_ (Kd.R_below (oR bE) hb) (o2_ (blk_below (oP aA) hb) (o2_ (blk_below (oP aD) hb) (o2_ (blk_below (oP aG) hb) (o2_ (Kd.C_below (by repeat (first | (with_reducible exact aV.out) | (with_reducible refine Kd.C_alloc ?_ _) | (with_reducible refine Kd.C_drewN ?_ _) | (with_reducible refine Kd.C_drew ?_) | exact aV.out)) hb) (o2_ (below_step (oB HB) hb) (o2_ (hbox) (o2_ ((oG hg (below_size (oB HB)) : w.heap.size ≤ aE)) (o2_ ((oG hg (below_size (oB HB)) : w.heap.size ≤ aE)) (o2_ ((oL hg (blk_lt (oP aA)))) (o2_ ((oN hg (blk_lt (oP aA)))) (o2_ ((oL hg (blk_lt (oP aD)))) (o2_ ((oN hg (blk_lt (oP aD)))) (o2_ ((oL hg (blk_lt (oP aG)))) (o1_ ((oN hg (blk_lt (oP aG)))))))))))))))))))
                clear aC bE aA aD aG aV HB
                obtain ⟨aC, bE, aA, aD, aG, aV, HB, aT, cC, cB, aM, bB, aZ, bC, bA, bD⟩ := n_
                clear hb hbox hg
                refine hK.out _ _ ⟨(blk_cell aA.out 0).trans rfl, (blk_cell aA.out 1).trans rfl, (blk_cell aA.out 2).trans rfl⟩ (fun hHeld => ?_)
                clear hK K
                refine norm_ (a' := ?_) ?_ ?_
                rotate_left
                ·show Act.put _ (some 8) _ = _
                 exact oT
                refine one_ (i := 9) (N := some 63) #[true, true, true, true, true, true, true, true, true, true, false, true, false] rfl rfl (one_of HT_.out oK) oD (fun K hK => ?_)
                refine Kd.R_append_rows_step k39 (w0 := w) w.heap.size (by rfl) (.tmp 59) (.tmp 62) 34 39 (.agg #[(.int .i64 0), (.int .i64 0), (.int .i64 0), (.int .i64 0)]) 32 rfl Try.underlying34 info39 rfl oD (by omega) cD bT bH _ _ _ (fun k_ => some k_ ≠ (.slice aX aH.length aW : Value).ownBlock ∧ k_ ≠ aI) (fun _ => False) rfl rfl ?aO ?aR (fun _ _ h => h) (fun _ h => h.elim) ?aF ?aB ?aS ?aL ?_
                (case aR => repeat (first | exact (by repeat (first | (with_reducible exact aV.out) | (with_reducible refine Kd.C_alloc ?_ _) | (with_reducible refine Kd.C_drewN ?_ _) | (with_reducible refine Kd.C_drew ?_) | exact aV.out)) | (with_reducible refine Kd.C_alloc ?_ _) | (with_reducible refine Kd.C_drewN ?_ _) | (with_reducible refine Kd.C_drew ?_)))
                (case aB => exact (oB HB))
                (case aF => exact (fun k_ hk => ⟨Kd.fresh' (Kd.Q_lt (oQ aC)) k_ hk, Kd.freshB (oP aD) k_ hk⟩))
                (case aO => exact (by (with_reducible repeat (first | apply Kd.R_alloc | apply Kd.R_drewN | apply Kd.R_drew)); exact Kd.R_mono bE.out (fun _ hk => ⟨hk.1.2, hk.2⟩)))
                (case aS => exact (below_size (oB HB)))
                (case aL => have := LMc38.out; omega)
                intro dJ iJ ho hb hg hat
                rw [← cZ.out] at ho
                have n_ := o2_ (Kd.Q_after (ok := (fun k_ => k_ ≠ aI)) (oQ aC) hg hat) (o2_ (blk_grown (oP aA) hg (Kd.R_ne bE.out aA.out oD)) (o2_ (blk_grown (oP aD) hg (Kd.R_away bE.out (fun _ hk => hk.2))) (o2_ (blk_grown (oP aG) hg (Kd.R_ne bE.out aG.out oD)) (o2_ (blk_grown (oP aT) hg (Kd.R_ne bE.out aT.out oD)) (o2_ (hb) (o2_ ((show Kd.C k39 iJ A53 bH.length bH from by rw [cF.out, KA53.out]; exact Kd.C_drop (m := 1) (c := aW) ((Kd.Q_reads' (Kd.Q_after (ok := (fun k_ => k_ ≠ aI)) (oQ aC) hg hat)).2.2) KL53.out ((Kd.Q_reads' (Kd.Q_after (ok := (fun k_ => k_ ≠ aI)) (oQ aC) hg hat)).2.1))) (o1_ (ho))))))))
                clear aC aA aD aG aT HB aV bE
                obtain ⟨aC, aA, aD, aG, aT, HB, aV, bF⟩ := n_
                clear ho hb hg hat
                obtain ⟨dL, dO, dC⟩ := Kd.R_slice bF.out
                (first | subst dC | (injection dC with f1_ f2_ f3_; have f4_ := f1_.symm; have f5_ := f3_.symm; clear f1_ f2_ f3_; subst f4_; subst f5_))
                refine hK.out _ _ ⟨(blk_cell aA.out 0).trans rfl, (blk_cell aA.out 1).trans rfl, (blk_cell aA.out 2).trans rfl⟩ (fun hHeld => ?_)
                clear hK K
                refine norm_ (a' := ?_) ?_ ?_
                rotate_left
                ·show Act.put _ (some 63) _ = _
                 exact oT
                refine pure_ (i := 10) (N := some 64) (v := ?_) (a' := ?_) #[true, true, true, true, true, true, true, true, true, true, true, true, false] rfl rfl (any_of HT_.out oK) (fun _ _ _ h => h) (Or.inl ⟨by rfl, ?_⟩) ?_ ?_
                rotate_left
                ·intro w'
                 go_simp
                 with_reducible rfl
                rotate_left
                ·exact oT
                exact norm_ (by simp only [putAll, Act.put, List.setIfInBounds_toArray, List.set_cons_zero, List.set_cons_succ]) (hCont (cD, .slice dL y420.length dO, aE) _ ⟨hHeld, (oR bF), (by (with_reducible repeat (first | apply Kd.Q_alloc | apply Kd.Q_drewN | apply Kd.Q_drew)); exact Kd.Q_mono aC.out (fun _ hk => ⟨hk.2, hk.1⟩)), (oP aA), (oP aD), (oP aG), (oP aT), cC.out, cB.out, aM.out, bB.out, aZ.out, bC.out, bA.out, bD.out, (oB HB)⟩)
              ·skip
               refine box_step ?hg (N := 8) ?hd (cs := #[.int .i64 0, .int .i64 0, .slice none 0 0]) (t := 36) ?hr ?_; (case hd => rfl); (case hg => rfl); (case hr => first | (go_simp; done) | (go_simp; rfl))
               intro aE hg iT hbox hb
               have n_ := o2_ (Kd.Q_below (oQ aC) hb) (o2_ (blk_below (oP aA) hb) (o2_ (blk_below (oP aD) hb) (o2_ (blk_below (oP aG) hb) (o2_ (Kd.C_below (by repeat (first | (with_reducible exact aV.out) | (with_reducible refine Kd.C_alloc ?_ _) | (with_reducible refine Kd.C_drewN ?_ _) | (with_reducible refine Kd.C_drew ?_) | exact aV.out)) hb) (o2_ (below_step (oB HB) hb) (o2_ (hbox) (o2_ ((oG hg (below_size (oB HB)) : w.heap.size ≤ aE)) (o2_ ((oG hg (below_size (oB HB)) : w.heap.size ≤ aE)) (o2_ ((oL hg (blk_lt (oP aA)))) (o2_ ((oN hg (blk_lt (oP aA)))) (o2_ ((oL hg (blk_lt (oP aD)))) (o2_ ((oN hg (blk_lt (oP aD)))) (o2_ ((oL hg (blk_lt (oP aG)))) (o1_ ((oN hg (blk_lt (oP aG))))))))))))))))))
               clear aC aA aD aG aV HB
               obtain ⟨aC, aA, aD, aG, aV, HB, aT, cC, cB, aM, bB, aZ, bC, bA, bD⟩ := n_
               clear hb hbox hg
               refine hK.out _ _ ⟨(blk_cell aA.out 0).trans rfl, (blk_cell aA.out 1).trans rfl, (blk_cell aA.out 2).trans rfl⟩ (fun hHeld => ?_)
               clear hK K
               refine norm_ (a' := ?_) ?_ ?_
               rotate_left
               ·show Act.put _ (some 8) _ = _
                exact oT
               refine one_ (i := 5) (N := some 59) #[true, true, true, true, true, true, true, true, true, false, false, true, false] rfl rfl (one_of HT_.out oK) oD (fun K hK => ?_)
               refine Kd.R_lit_step k39 _ 39 ?hg (N := 59) ?hd (xs := ([(⟨256, 0, 0, 0⟩ : S39)] : List (S39))) (inner := [.int .i64 256, .int .i64 0, .int .i64 0, .int .i64 0]) (ok := fun _ => True) (okp := fun _ => True) ?hr ?hp (fun _ hk => hk) trivial (Below.refl _ _) (Nat.le_refl _) (by simp) ?_; (case hd => rfl); (case hg => rfl); (case hr => first | (go_simp; done) | (go_simp; rfl)); (case hp => exact (Reps.c4 (show Kd.M k39 _ _ _ (⟨256, 0, 0, 0⟩ : S39) [.int .i64 256, .int .i64 0, .int .i64 0, .int .i64 0] from (k39_mkM _ _ _ (⟨256, 0, 0, 0⟩ : S39) )) (Reps.none _ _)))
               intro cD jE ho56 hb hg_ hnew_
               clear hg_ hnew_
               (first | rw [← cE.out] at ho56 | (simp only [Int.reduceToNat] at ho56; rw [← cE.out] at ho56))
               have n_ := o2_ (Kd.Q_elder' (oQ aC) (Kd.R_base ho56) hb) (o2_ (Kd.R_lower (Kd.R_newB (Kd.R_new' ho56 (Kd.Q_lt (oQ aC))) (oP aD)) (below_size (oB HB))) (o2_ (blk_below (oP aA) hb) (o2_ (blk_below (oP aD) hb) (o2_ (blk_below (oP aG) hb) (o2_ (Kd.C_below (by repeat (first | (with_reducible exact aV.out) | (with_reducible refine Kd.C_alloc ?_ _) | (with_reducible refine Kd.C_drewN ?_ _) | (with_reducible refine Kd.C_drew ?_) | exact aV.out)) hb) (o2_ (blk_below (oP aT) hb) (o1_ (below_step (oB HB) hb))))))))
               clear aC aA aD aG aV aT HB
               obtain ⟨aC, bE, aA, aD, aG, aV, aT, HB⟩ := n_
               clear hb ho56
               refine hK.out _ _ ⟨(blk_cell aA.out 0).trans rfl, (blk_cell aA.out 1).trans rfl, (blk_cell aA.out 2).trans rfl⟩ (fun hHeld => ?_)
               clear hK K
               refine norm_ (a' := ?_) ?_ ?_
               rotate_left
               ·show Act.put _ (some 59) _ = _
                exact oT
               refine one_ (i := 9) (N := some 63) #[true, true, true, true, true, true, true, true, true, true, false, true, false] rfl rfl (one_of HT_.out oK) oD (fun K hK => ?_)
               refine Kd.R_append_rows_step k39 (w0 := w) w.heap.size (by rfl) (.tmp 59) (.tmp 62) 34 39 (.agg #[(.int .i64 0), (.int .i64 0), (.int .i64 0), (.int .i64 0)]) 32 rfl Try.underlying34 info39 rfl oD (by omega) cD bT bH _ _ _ (fun k_ => some k_ ≠ (.slice aX aH.length aW : Value).ownBlock ∧ k_ ≠ aI) (fun _ => False) rfl rfl ?aO ?aR (fun _ _ h => h) (fun _ h => h.elim) ?aF ?aB ?aS ?aL ?_
               (case aR => repeat (first | exact (by repeat (first | (with_reducible exact aV.out) | (with_reducible refine Kd.C_alloc ?_ _) | (with_reducible refine Kd.C_drewN ?_ _) | (with_reducible refine Kd.C_drew ?_) | exact aV.out)) | (with_reducible refine Kd.C_alloc ?_ _) | (with_reducible refine Kd.C_drewN ?_ _) | (with_reducible refine Kd.C_drew ?_)))
               (case aB => exact (oB HB))
               (case aF => exact (fun k_ hk => ⟨Kd.fresh' (Kd.Q_lt (oQ aC)) k_ hk, Kd.freshB (oP aD) k_ hk⟩))
               (case aO => exact (by (with_reducible repeat (first | apply Kd.R_alloc | apply Kd.R_drewN | apply Kd.R_drew)); exact Kd.R_mono bE.out (fun _ hk => ⟨hk.1.2, hk.2⟩)))
               (case aS => exact (below_size (oB HB)))
               (case aL => have := LMc38.out; omega)
               intro dJ iJ ho hb hg hat
               rw [← cZ.out] at ho
               have n_ := o2_ (Kd.Q_after (ok := (fun k_ => k_ ≠ aI)) (oQ aC) hg hat) (o2_ (blk_grown (oP aA) hg (Kd.R_ne bE.out aA.out oD)) (o2_ (blk_grown (oP aD) hg (Kd.R_away bE.out (fun _ hk => hk.2))) (o2_ (blk_grown (oP aG) hg (Kd.R_ne bE.out aG.out oD)) (o2_ (blk_grown (oP aT) hg (Kd.R_ne bE.out aT.out oD)) (o2_ (hb) (o1_ (ho)))))))
               clear aC aA aD aG aT HB bE
               obtain ⟨aC, aA, aD, aG, aT, HB, bF⟩ := n_
               clear ho hb hg hat
               obtain ⟨dL, dO, dC⟩ := Kd.R_slice bF.out
               (first | subst dC | (injection dC with f1_ f2_ f3_; have f4_ := f1_.symm; have f5_ := f3_.symm; clear f1_ f2_ f3_; subst f4_; subst f5_))
               refine hK.out _ _ ⟨(blk_cell aA.out 0).trans rfl, (blk_cell aA.out 1).trans rfl, (blk_cell aA.out 2).trans rfl⟩ (fun hHeld => ?_)
               clear hK K
               refine norm_ (a' := ?_) ?_ ?_
               rotate_left
               ·show Act.put _ (some 63) _ = _
                exact oT
               refine pure_ (i := 10) (N := some 64) (v := ?_) (a' := ?_) #[true, true, true, true, true, true, true, true, true, true, true, true, false] rfl rfl (any_of HT_.out oK) (fun _ _ _ h => h) (Or.inl ⟨by rfl, ?_⟩) ?_ ?_
               rotate_left
               ·intro w'
                go_simp
                with_reducible rfl
               rotate_left
               ·exact oT
               exact norm_ (by simp only [putAll, Act.put, List.setIfInBounds_toArray, List.set_cons_zero, List.set_cons_succ]) (hCont (cD, .slice dL y420.length dO, aE) _ ⟨hHeld, (oR bF), (by (with_reducible repeat (first | apply Kd.Q_alloc | apply Kd.Q_drewN | apply Kd.Q_drew)); exact Kd.Q_mono aC.out (fun _ hk => ⟨hk.2, hk.1⟩)), (oP aA), (oP aD), (oP aG), (oP aT), cC.out, cB.out, aM.out, bB.out, aZ.out, bC.out, bA.out, bD.out, (oB HB)⟩)
             rintro ⟨cD, dJ, aE⟩ cA ⟨hS_, h0_, h1_, h2_, h3_, h4_, h5_, h6_, h7_, h8_, h9_, h10_, h11_, h12_, h13_, h14_⟩
             have dV : Aside0 (Kd.R k39 39 cA w.heap.size (fun k_ => some k_ ≠ (.slice aX aH.length aW : Value).ownBlock ∧ k_ ≠ aI) dJ y420) := ⟨h0_⟩
             have dW : Aside0 (Kd.Q k39 39 cA w.heap.size (fun k_ => some k_ ≠ (dJ : Value).ownBlock ∧ k_ ≠ aI) (.slice aX aH.length aW) aH) := ⟨h1_⟩
             have dX : Aside0 (cA.heap[aJ]? = some (.cells #[.int .i64 aN, .int .i64 aP, .slice aX aH.length aW] 36 (0, 0))) := ⟨h2_⟩
             have dY : Aside0 (cA.heap[aI]? = some (.cells #[.int .i64 bP, .int .i64 bQ, .int .i64 bR, .int .i64 bS] 39 (0, 0))) := ⟨h3_⟩
             have dZ : Aside0 (cA.heap[aK]? = some (.cells #[.int .i64 aN, .int .i64 aP, .slice A46 y408.length c46] 36 (0, 0))) := ⟨h4_⟩
             have iC : Aside0 (cA.heap[aE]? = some (.cells #[.int .i64 0, .int .i64 0, .slice none 0 0] 36 (0, 0))) := ⟨h5_⟩
             have iD : Aside0 (w.heap.size ≤ aE) := ⟨h6_⟩
             have iE : Aside0 (w.heap.size ≤ aE) := ⟨h7_⟩
             have iF : Aside0 (aJ ≠ aE) := ⟨h8_⟩
             have iG : Aside0 (aE ≠ aJ) := ⟨h9_⟩
             have eP : Aside0 (aI ≠ aE) := ⟨h10_⟩
             have eQ : Aside0 (aE ≠ aI) := ⟨h11_⟩
             have eR : Aside0 (aK ≠ aE) := ⟨h12_⟩
             have eS : Aside0 (aE ≠ aK) := ⟨h13_⟩
             have eT : Aside0 (Below w.heap.size w cA) := ⟨h14_⟩
             clear aC
             clear aA
             clear aD
             clear aG
             clear HB
             clear h0_ h1_ h2_ h3_ h4_ h5_ h6_ h7_ h8_ h9_ h10_ h11_ h12_ h13_ h14_
             have bF := dV
             have aC := dW
             have aA := dX
             have aD := dY
             have aG := dZ
             have aT := iC
             have cC := iD
             have cB := iE
             have aM := iF
             have bB := iG
             have aZ := eP
             have bC := eQ
             have bA := eR
             have bD := eS
             have HB := eT
             clear dV dW dX dY dZ iC iD iE iF iG eP eQ eR eS eT
             have hHeld : cA.cell? ⟨aJ, 0, none⟩ = some (.int .i64 aN) ∧ cA.cell? ⟨aJ, 1, none⟩ = some (.int .i64 aP) ∧ cA.cell? ⟨aJ, 2, none⟩ = some (.slice aX aH.length aW) := hS_
             obtain ⟨bN, bO, eO⟩ := Kd.R_slice bF.out
             (first | subst eO | (injection eO with f1_ f2_ f3_; have f4_ := f1_.symm; have f5_ := f3_.symm; clear f1_ f2_ f3_; subst f4_; subst f5_))
             refine norm_ (a' := ?_) ?_ ?_
             rotate_left
             ·simp only [putAll, Act.put, List.setIfInBounds_toArray, List.set_cons_zero, List.set_cons_succ]
              rfl
             refine one_ (i := 12) (N := none) #[true, true, true, true, true, true, true, true, true, true, true, true, true] rfl rfl (one_of HT_.out oK) oD (fun K hK => ?_)
             have hs61 : cA.cell? ⟨aE, 0, none⟩ = some (.int .i64 0) := (blk_cell aT.out 0).trans rfl
             have hfs61 := blk_frozen aT.out 0
             have hns61_0 := aM.out
             have hns61_1 := aZ.out
             have hns61_2 := bA.out
             have hms61_0 := bB.out
             have hms61_1 := bC.out
             have hms61_2 := bD.out
             have hs62 : cA.cell? ⟨aE, 1, none⟩ = some (.int .i64 0) := (blk_cell aT.out 1).trans rfl
             have hfs62 := blk_frozen aT.out 1
             have hns62_0 := aM.out
             have hns62_1 := aZ.out
             have hns62_2 := bA.out
             have hms62_0 := bB.out
             have hms62_1 := bC.out
             have hms62_2 := bD.out
             have hs63 : cA.cell? ⟨aE, 2, none⟩ = some (.slice none 0 0) := (blk_cell aT.out 2).trans rfl
             have hfs63 := blk_frozen aT.out 2
             have hns63_0 := aM.out
             have hns63_1 := aZ.out
             have hns63_2 := bA.out
             have hms63_0 := bB.out
             have hms63_1 := bC.out
             have hms63_2 := bD.out
             refine skip_ (w1 := ?_) (by rfl) rfl ?_ ?_
             rotate_left
             ·go_simp
              rfl
             refine hK.out _ _ ⟨((cell_far (p := ⟨aE, _, none⟩) aM.out _).trans (((cell_far (p := ⟨aE, _, none⟩) aM.out _).trans (((cell_far (p := ⟨aE, _, none⟩) aM.out _).trans (hHeld.1)))))), ((cell_far (p := ⟨aE, _, none⟩) aM.out _).trans (((cell_far (p := ⟨aE, _, none⟩) aM.out _).trans (((cell_far (p := ⟨aE, _, none⟩) aM.out _).trans (hHeld.2.1)))))), ((cell_far (p := ⟨aE, _, none⟩) aM.out _).trans (((cell_far (p := ⟨aE, _, none⟩) aM.out _).trans (((cell_far (p := ⟨aE, _, none⟩) aM.out _).trans (hHeld.2.2))))))⟩ (fun hHeld => ?_)
             clear hK K
             refine done_ (done_of HT_.out oK) ?_
             have mq_ : Aside0 (Kd.Q k39 39 (((cA.setCell ⟨aE, 0, none⟩ (.int .i64 aN)).setCell ⟨aE, 1, none⟩ (.int .i64 aP)).setCell ⟨aE, 2, none⟩ (.slice bN y420.length bO)) w.heap.size (fun k_ => some k_ ≠ (.slice bN y420.length bO : Value).ownBlock ∧ k_ ≠ aI) (.slice aX aH.length aW) aH) := ⟨(Kd.Q_mono (Kd.Q_far (p := ⟨aE, 2, none⟩) (Kd.Q_far (p := ⟨aE, 1, none⟩) (Kd.Q_far (p := ⟨aE, 0, none⟩) (Kd.Q_types aC.out aT.out oD) (fun _ hk => hk.2) (.int .i64 aN)) (fun _ hk => hk.2) (.int .i64 aP)) (fun _ hk => hk.2) (.slice bN y420.length bO)) (fun _ h_ => h_.1))⟩
             have mc_ : Aside0 (Kd.C k39 (((cA.setCell ⟨aE, 0, none⟩ (.int .i64 aN)).setCell ⟨aE, 1, none⟩ (.int .i64 aP)).setCell ⟨aE, 2, none⟩ (.slice bN y420.length bO)) A46 y408.length y408) := ⟨(by rw [cY.out, KA46.out]; exact Kd.C_drop (m := 1) (c := aW) (Kd.Q_reads' mq_.out).2.2 KL46.out (Kd.Q_reads' mq_.out).2.1)⟩
             have mr_ : Aside0 (Kd.R k39 39 (((cA.setCell ⟨aE, 0, none⟩ (.int .i64 aN)).setCell ⟨aE, 1, none⟩ (.int .i64 aP)).setCell ⟨aE, 2, none⟩ (.slice bN y420.length bO)) w.heap.size (fun k_ => some k_ ≠ (.slice aX aH.length aW : Value).ownBlock ∧ k_ ≠ aI) (.slice bN y420.length bO) y420) := ⟨(Kd.R_mono (Kd.R_far (p := ⟨aE, 2, none⟩) (Kd.R_far (p := ⟨aE, 1, none⟩) (Kd.R_far (p := ⟨aE, 0, none⟩) (Kd.R_types bF.out aT.out oD) (fun _ hk => hk.2) (.int .i64 aN)) (fun _ hk => hk.2) (.int .i64 aP)) (fun _ hk => hk.2) (.slice bN y420.length bO)) (fun _ h_ => h_.1))⟩
             have mb395_ : Aside0 ((((cA.setCell ⟨aE, 0, none⟩ (.int .i64 aN)).setCell ⟨aE, 1, none⟩ (.int .i64 aP)).setCell ⟨aE, 2, none⟩ (.slice bN y420.length bO)).heap[aJ]? = some (.cells #[.int .i64 aN, .int .i64 aP, .slice aX aH.length aW] 36 (0, 0))) := ⟨(oP aA)⟩
             have mb400_ : Aside0 ((((cA.setCell ⟨aE, 0, none⟩ (.int .i64 aN)).setCell ⟨aE, 1, none⟩ (.int .i64 aP)).setCell ⟨aE, 2, none⟩ (.slice bN y420.length bO)).heap[aI]? = some (.cells #[.int .i64 bP, .int .i64 bQ, .int .i64 bR, .int .i64 bS] 39 (0, 0))) := ⟨(oP aD)⟩
             have mb412_ : Aside0 ((((cA.setCell ⟨aE, 0, none⟩ (.int .i64 aN)).setCell ⟨aE, 1, none⟩ (.int .i64 aP)).setCell ⟨aE, 2, none⟩ (.slice bN y420.length bO)).heap[aK]? = some (.cells #[.int .i64 aN, .int .i64 aP, .slice A46 y408.length c46] 36 (0, 0))) := ⟨(oP aG)⟩
             have mb423_ : Aside0 ((((cA.setCell ⟨aE, 0, none⟩ (.int .i64 aN)).setCell ⟨aE, 1, none⟩ (.int .i64 aP)).setCell ⟨aE, 2, none⟩ (.slice bN y420.length bO)).heap[aE]? = some (.cells #[.int .i64 aN, .int .i64 aP, .slice bN y420.length bO] 36 (0, 0))) := ⟨(blk_put (blk_put (blk_put aT.out 0 _ rfl) 1 _ rfl) 2 _ rfl)⟩
             have mh_ : Aside0 (Below w.heap.size w (((cA.setCell ⟨aE, 0, none⟩ (.int .i64 aN)).setCell ⟨aE, 1, none⟩ (.int .i64 aP)).setCell ⟨aE, 2, none⟩ (.slice bN y420.length bO))) := ⟨(oB HB)⟩
             generalize (((cA.setCell ⟨aE, 0, none⟩ (.int .i64 aN)).setCell ⟨aE, 1, none⟩ (.int .i64 aP)).setCell ⟨aE, 2, none⟩ (.slice bN y420.length bO)) = wz at mq_ mr_ mb395_ mb400_ mb412_ mb423_ mh_ mc_ ⊢
             clear aC bF aA aD aG aT HB
             have aC := mq_
             have bF := mr_
             have aA := mb395_
             have aD := mb400_
             have aG := mb412_
             have aT := mb423_
             have HB := mh_
             clear mq_ mr_ mb395_ mb400_ mb412_ mb423_ mh_
             have hP := bL.out
             have hX := aU.out
             have hQ := bM.out
             have hY := bK.out
             have hR := bA.out
             have hZ := bD.out
             have fG : wz.cell? ⟨aK, 0, none⟩ = some (.int .i64 aN) := (blk_cell aG.out 0).trans rfl
             have fH : wz.cell? ⟨aK, 1, none⟩ = some (.int .i64 aP) := (blk_cell aG.out 1).trans rfl
             have fI : wz.cell? ⟨aK, 2, none⟩ = some (.slice A46 y408.length c46) := (blk_cell aG.out 2).trans rfl
             have fV := blk_frozen aG.out 0
             have fW := blk_frozen aG.out 1
             have fX := blk_frozen aG.out 2
             go_wp2_with (first | ((with_reducible refine gate_callee (f := 22) rfl ?_); refine goesL_ (some 66) rfl rfl Try.func22 oK rfl #[.agg #[.int .i64 aN, .int .i64 aP, .slice A46 y408.length c46]] rfl oA ?_; (with_reducible refine (impl_RasOk.calls k2 aN aP _ _ y408 false _ ?side1 ?side2 iN.out).mono ?_); (case side1 => repeat (first | exact mc_.out | (with_reducible refine Kd.C_alloc ?_ _) | (with_reducible refine Kd.C_drewN ?_ _) | (with_reducible refine Kd.C_drew ?_))); (case side2 => exact eH.out); rintro e gP ⟨rfl, hb⟩; refine ⟨_, rfl, ?_⟩; have n_ := o2_ (Kd.R_below (oR bF) hb) (o2_ (blk_below (oP aA) hb) (o2_ (blk_below (oP aT) hb) (o1_ (below_step (oB HB) hb)))); clear bF aA aT HB; obtain ⟨bF, aA, aT, HB⟩ := n_; (try clear hb); (try clear hb2); (try clear hk); (try clear hi); have hS := bB.out; have iA := aM.out; have hT := bC.out; have iB := aZ.out; have fJ : gP.cell? ⟨aE, 0, none⟩ = some (.int .i64 aN) := (blk_cell aT.out 0).trans rfl; have fK : gP.cell? ⟨aE, 1, none⟩ = some (.int .i64 aP) := (blk_cell aT.out 1).trans rfl; have fL : gP.cell? ⟨aE, 2, none⟩ = some (.slice bN y420.length bO) := (blk_cell aT.out 2).trans rfl; have fY := blk_frozen aT.out 0; have fZ := blk_frozen aT.out 1; have gA := blk_frozen aT.out 2) | (go_at_call 22; (with_reducible refine (impl_RasOk.calls k2 aN aP _ _ y420 false _ ?side1 ?side2 iO.out).mono ?_); (case side1 => repeat (first | exact (Kd.R_reads' bF.out).2.2 | (with_reducible refine Kd.C_alloc ?_ _) | (with_reducible refine Kd.C_drewN ?_ _) | (with_reducible refine Kd.C_drew ?_))); (case side2 => exact (Kd.R_reads' bF.out).2.1); rintro e gQ ⟨rfl, hb⟩; have n_ := o2_ (blk_below (oP aA) hb) (o1_ (below_step (oB HB) hb)); clear aA HB; obtain ⟨aA, HB⟩ := n_; (try clear hb); (try clear hb2); (try clear hk); (try clear hi); have fM : gQ.cell? ⟨aJ, 0, none⟩ = some (.int .i64 aN) := (blk_cell aA.out 0).trans rfl; have fN : gQ.cell? ⟨aJ, 1, none⟩ = some (.int .i64 aP) := (blk_cell aA.out 1).trans rfl; have fO : gQ.cell? ⟨aJ, 2, none⟩ = some (.slice aX aH.length aW) := (blk_cell aA.out 2).trans rfl; have gB := blk_frozen aA.out 0; have gC := blk_frozen aA.out 1; have gD := blk_frozen aA.out 2))
             go_ret
             exact ⟨by first | rfl | (simp [errW_none, errW_some] <;> rfl) | (simp [*, errW_none, errW_some] <;> rfl), oB HB⟩
          ·rw [if_neg eW] at H
           exact absurd H (by simp)
         ·rw [if_neg eM] at H
          exact absurd H (by simp)
     ·replace eK := Bool.eq_false_iff.mpr eK
      subst eK
      rw [if_neg (show ¬ (false = true) by decide)] at H
      replace H := Option.bind_eq_some_iff.mp H
      obtain ⟨dR, eG, H⟩ := H
      (try dsimp only at H)
      have iP := Aside0.mk eG
      clear eG
      obtain rfl := Option.some.inj H
      go_wp2_with (first | ((with_reducible refine gate_callee (f := 19) rfl ?_); refine goesL_ (some 31) rfl rfl Try.func19 oK rfl #[] rfl oA ?_; (with_reducible refine (laws_eaOk.calls  dR _ iP.out).mono ?_); rintro e jG ⟨rfl, hb⟩; refine ⟨_, rfl, ?_⟩; replace HB := o1_ (below_step (oB HB) hb); (try clear hb); (try clear hb2); (try clear hk); (try clear hi)))
      go_ret
      exact ⟨by first | rfl | (simp [errW_none, errW_some] <;> rfl) | (simp [*, errW_none, errW_some] <;> rfl), oB HB⟩

/-- THE ONE PURE STATEMENT of laws_FnRasOk: yours. -/
def laws_FnRasOk.Pure : Prop := ∀ (l0 : List Int), l0.length ≤ maxLen → l0.length * 1 ≤ 140737488351232 → (∀ x ∈ l0, (Lit.int .u8 x).wf = true) → ∃ k, laws_FnRasOk.f k l0 = some true
theorem laws_FnRasOk.walk (P : laws_FnRasOk.Pure) (a0 : Option Addr) (len0 cap0 : Nat) (z0 : List Int) (w : World) (w0 : (a0 = none ∧ len0 = 0 ∧ cap0 = 0 ∧ z0 = []) ∨ ∃ x, a0 = some x ∧ len0 ≤ cap0 ∧ cap0 ≤ maxLen ∧ z0.length = cap0 ∧ (∀ i, i < z0.length → w.cell? (x.add i) = some (.int .u8 (z0.getD i 0))) ∧ ∀ n ∈ z0, (Lit.int .u8 n).wf = true) (y0 : len0 * 1 ≤ 140737488351232) :
  Calls Try.prog 5 #[.slice a0 len0 cap0] w fun e w' => e = .returned (.bool true) ∧ Below w.heap.size w w' := by
 obtain ⟨l0, rfl, hr0, hm0, hw0, eZ⟩ := ReadsInt.ofRowC w0
 obtain ⟨k, h⟩ := P l0 hm0 y0 hw0
 refine (laws_FnRasOk.calls k _ _ l0 true w (Kd.C_of_reads (d := (0 : Int)) (h1 := fun _ => rfl) hr0) eZ h).mono ?_
 rintro e w' ⟨rfl, hd⟩
 exact ⟨rfl, hd⟩

end Go.Proofs.Ytmkiajoanblkbaa.X
