/- Functions of the given program as plain Lean functions, and for each the proof that the machine's call comes to what its function says. No condition but what each theorem states. Written by a program of this session. -/
import Derived.Test.YthnmeogafklhnaaX0
import Derived.Test.YthnmeogafklhnaaX2
import Derived.Test.YthnmeogafklhnaaX9
import Derived.Test.YthnmeogafklhnaaX15
import Derived.Test.YthnmeogafklhnaaX32
import Derived.Test.YthnmeogafklhnaaX44
import Derived.Test.YthnmeogafklhnaaX45
import Derived.Test.YthnmeogafklhnaaX48
namespace Go.Proofs.Ythnmeogafklhnaa.X
open Go.RowKit Go.Proofs.YthnmeogafklhnaaW.PrintWords Go.Proofs.YthnmeogafklhnaaW.PrintLast Go.Proofs.YthnmeogafklhnaaW.PrintMore Go.Proofs.Ythnmeogafklhnaa.Hyb
attribute [local go_sem] max2_int min2_int max_two min_two max_three min_three max_four min_four   -- for this text's walks alone
set_option linter.unusedVariables false
set_option linter.unusedSimpArgs false

attribute [local go_sem high] eqA38
/-! ### laws_FnOpGray: function 8 -/
theorem oY {P Q : Nat → Prop} (h : ∀ k, P k → Q k := by intro _ hk; first | exact trivial | exact hk | exact hk.1 | exact hk.2 | ((repeat cases ‹_ ∧ _›); (repeat' apply And.intro) <;> first | assumption | trivial)) : ∀ k, P k → Q k := h
def laws_FnOpGray.l0 : Nat → Int → Int → Int → List (S38) → Int → Int → Int → Int → Int → Int → Int → Int → Int → Int → Int → Int → List (S38) → Int → Int → List (S38) → Option (Bool)
 | 0, _, _, _, _, _, _, _, _, _, _, _, _, _, _, _, _, _, _, _, _ => none
 | k + 1, x9, x750000, x750001, x750002, x752000, x752001, x752002, x752003, x752004, x753000, x753001, x753002, x753003, x753004, x765000, x765001, x765002, x774000, x774001, x774002 => if x9 < (x765002.length : Int) then (if 0 ≤ x9 then (if x9 < (x750002.length : Int) then (if ((rd_T38 x765002 x9).f0) = ((rd_T38 x765002 x9).f1) then (if ((rd_T38 x765002 x9).f1) = ((rd_T38 x765002 x9).f2) then (if ((rd_T38 x765002 x9).f3) = ((rd_T38 x750002 x9).f3) then (if ((rd_T38 x765002 x9).f0) < (mn ((rd_T38 x750002 x9).f0) (mn ((rd_T38 x750002 x9).f1) ((rd_T38 x750002 x9).f2))) then (none) else (if ((rd_T38 x765002 x9).f0) > (mx ((rd_T38 x750002 x9).f0) (mx ((rd_T38 x750002 x9).f1) ((rd_T38 x750002 x9).f2))) then (none) else (if x9 < (x774002.length : Int) then (if (!(((rd_T38 x774002 x9).f0) == ((rd_T38 x765002 x9).f0)) || (!(((rd_T38 x774002 x9).f1) == ((rd_T38 x765002 x9).f1)) || (!(((rd_T38 x774002 x9).f2) == ((rd_T38 x765002 x9).f2)) || (!(((rd_T38 x774002 x9).f3) == ((rd_T38 x765002 x9).f3)))))) = true then (none) else (laws_FnOpGray.l0 k (wrap64 (x9 + 1)) x750000 x750001 x750002 x752000 x752001 x752002 x752003 x752004 x753000 x753001 x753002 x753003 x753004 x765000 x765001 x765002 x774000 x774001 x774002)) else (none)))) else (none)) else (none)) else (none)) else (none)) else (none)) else ((impl_RasOk.f k x765000 x765001 x765002).bind fun lQ => (if lQ = true then ((laws_eaDo.f k x765000 x765001 x765002 (([(⟨x753000, x753001, x753002, x753003, x753004⟩ : S27)] : List (S27)))).bind fun eC => ((laws_eaDo.f k x750000 x750001 x750002 (([(⟨x753000, x753001, x753002, x753003, x753004⟩ : S27), (⟨x752000, x752001, x752002, x752003, x752004⟩ : S27)] : List (S27)))).bind fun cT => ((laws_eaRas.f k eC.1 eC.2.1 eC.2.2 cT.1 cT.2.1 cT.2.2).bind fun dA => (some dA)))) else (none)))
def laws_FnOpGray.f (k : Nat) (l0 : List Int) : Option (Bool) := if (l0.length : Int) > 1048576 then (some true) else ((spec_DrawOpDo.f k l0).bind fun bP => ((spec_RasOk.f k bP.1 bP.2.1 bP.2.2.1).bind fun gP => (if gP = true then ((laws_eaDo.f k bP.1 bP.2.1 bP.2.2.1 (([(⟨5, 0, 0, 0, 0⟩ : S27)] : List (S27)))).bind fun cC => ((laws_eaDo.f k cC.1 cC.2.1 cC.2.2 (([(⟨5, 0, 0, 0, 0⟩ : S27)] : List (S27)))).bind fun cL => (laws_FnOpGray.l0 k 0 bP.1 bP.2.1 bP.2.2.1 5 0 0 0 0 4 0 0 0 0 cC.1 cC.2.1 cC.2.2 cL.1 cL.2.1 cL.2.2))) else ((impl_RasOk.f k bP.1 bP.2.1 bP.2.2.1).bind fun gQ => (if gQ = true then (none) else ((laws_eaOk.f).bind fun gR => (some gR)))))))
theorem laws_FnOpGray.mono_l : ∀ k, (∀ y0 y1 y2 y3 y4 y5 y6 y7 y8 y9 tA tB tC tD tE tF tG tH tI tJ, LeO (laws_FnOpGray.l0 k y0 y1 y2 y3 y4 y5 y6 y7 y8 y9 tA tB tC tD tE tF tG tH tI tJ) (laws_FnOpGray.l0 (k + 1) y0 y1 y2 y3 y4 y5 y6 y7 y8 y9 tA tB tC tD tE tF tG tH tI tJ))
 | 0 => (fun _ _ _ _ _ _ _ _ _ _ _ _ _ _ _ _ _ _ _ _ r h => nomatch (show none = some r from h))
 | k + 1 => by
  have ih0 := laws_FnOpGray.mono_l k
  ·intro y0 y1 y2 y3 y4 y5 y6 y7 y8 y9 tA tB tC tD tE tF tG tH tI tJ
   unfold laws_FnOpGray.l0
   repeat' first
   | (with_reducible exact ih0 _ _ _ _ _ _ _ _ _ _ _ _ _ _ _ _ _ _ _ _)
   | (with_reducible exact impl_RasOk.mono _ _ _ _)
   | (with_reducible exact laws_eaDo.mono _ _ _ _ _)
   | (with_reducible exact laws_eaRas.mono _ _ _ _ _ _ _)
   | (with_reducible exact spec_DrawOpDo.mono _ _)
   | (with_reducible exact spec_RasOk.mono _ _ _ _)
   | (with_reducible exact LeO.refl _)
   | (with_reducible exact LeO.none _)
   | (with_reducible refine LeO.ite ?_ ?_)
   | (with_reducible refine LeO.bind ?_ (fun _ => ?_))
   | exact ih0 _ _ _ _ _ _ _ _ _ _ _ _ _ _ _ _ _ _ _ _
   | exact impl_RasOk.mono _ _ _ _
   | exact laws_eaDo.mono _ _ _ _ _
   | exact laws_eaRas.mono _ _ _ _ _ _ _
   | exact spec_DrawOpDo.mono _ _
   | exact spec_RasOk.mono _ _ _ _
   | exact LeO.none _
   | refine LeO.ite ?_ ?_
   | refine LeO.bind ?_ (fun _ => ?_)
theorem laws_FnOpGray.mono : ∀ a0 k, LeO (laws_FnOpGray.f k a0) (laws_FnOpGray.f (k + 1) a0) := by
 intro a0 k
 have ih0 := laws_FnOpGray.mono_l k
 unfold laws_FnOpGray.f
 repeat' first
   | (with_reducible exact ih0 _ _ _ _ _ _ _ _ _ _ _ _ _ _ _ _ _ _ _ _)
   | (with_reducible exact impl_RasOk.mono _ _ _ _)
   | (with_reducible exact laws_eaDo.mono _ _ _ _ _)
   | (with_reducible exact laws_eaRas.mono _ _ _ _ _ _ _)
   | (with_reducible exact spec_DrawOpDo.mono _ _)
   | (with_reducible exact spec_RasOk.mono _ _ _ _)
   | (with_reducible exact LeO.refl _)
   | (with_reducible exact LeO.none _)
   | (with_reducible refine LeO.ite ?_ ?_)
   | (with_reducible refine LeO.bind ?_ (fun _ => ?_))
   | exact ih0 _ _ _ _ _ _ _ _ _ _ _ _ _ _ _ _ _ _ _ _
   | exact impl_RasOk.mono _ _ _ _
   | exact laws_eaDo.mono _ _ _ _ _
   | exact laws_eaRas.mono _ _ _ _ _ _ _
   | exact spec_DrawOpDo.mono _ _
   | exact spec_RasOk.mono _ _ _ _
   | exact LeO.none _
   | refine LeO.ite ?_ ?_
   | refine LeO.bind ?_ (fun _ => ?_)
def laws_FnOpGray.T17 : Bool × List (List Nat × List Nat) := (true, [([], []), ([0], [0]), ([], []), ([2], [2]), ([1, 3], [1, 3]), ([4], [4]), ([5], [5]), ([6, 5], [5, 6]), ([5], [5]), ([8, 5], [5, 8]), ([7, 9, 5], [5, 7, 9]), ([5, 10], [5, 10]), ([11, 5], [11]), ([12], [12]), ([13, 12], [12, 13]), ([12], [12]), ([15, 12], [12, 15]), ([14, 16, 12], [12, 14, 16]), ([12, 17], [12, 17]), ([18, 12], [18]), ([19], [19]), ([20, 19], [19, 20]), ([19], [19]), ([21, 22, 19], [19, 21, 22]), ([19, 23], [19, 23]), ([24, 19], [24]), ([25], [25]), ([26, 25], [25, 26]), ([25], [25]), ([27, 28, 25], [25, 27, 28]), ([25, 29], [25, 29]), ([30, 25], [30]), ([31], [31]), ([32, 31], [31, 32]), ([31], [31]), ([33, 34, 31], [31, 33, 34]), ([35, 31], [31, 35]), ([31], [31]), ([36, 37, 31], [31, 36, 37]), ([31, 38], [31, 38])])
def laws_FnOpGray.B17 : List Nat := [0, 1, 0, 4, 15, 31, 63, 127, 63, 319, 1023, 2047, 4095, 8191, 16383, 8191, 40959, 131071, 262143, 524287, 1048575, 2097151, 1048575, 8388607, 16777215, 33554431, 67108863, 134217727, 67108863, 536870911, 1073741823, 2147483647, 4294967295, 8589934591, 4294967295, 34359738367, 68719476735, 4294967295, 274877906943, 549755813887]
theorem laws_FnOpGray.tab17 : rtab .any (opsOf Try.f8 17) = laws_FnOpGray.T17 := by kernel_rfl
theorem laws_FnOpGray.bits17 : waitsOk laws_FnOpGray.T17.2 laws_FnOpGray.B17 = true := by kernel_rfl
def laws_FnOpGray.T19 : Bool × List (List Nat × List Nat) := (true, [([], []), ([0], [0]), ([1, 1], [1]), ([2], [2]), ([2], [2]), ([4, 2], [2, 4]), ([3, 5, 2, 2], [2, 3, 5]), ([2], [2]), ([2], [2]), ([2], [2]), ([8, 9, 2], [2, 8, 9]), ([7, 10, 6, 2], [2, 7, 10]), ([6, 11, 11, 2], [2, 6, 11]), ([2, 12], [2, 12]), ([13, 12, 0, 1, 2, 3, 4, 5, 6, 7, 8, 9, 10, 11, 12, 13], [13])])
def laws_FnOpGray.B19 : List Nat := [0, 1, 3, 7, 7, 23, 63, 7, 7, 7, 775, 2047, 4095, 8191, 16383]
theorem laws_FnOpGray.tab19 : rtab .any (opsOf Try.f8 19) = laws_FnOpGray.T19 := by kernel_rfl
theorem laws_FnOpGray.bits19 : waitsOk laws_FnOpGray.T19.2 laws_FnOpGray.B19 = true := by kernel_rfl
set_option maxHeartbeats 8000000 in
set_option maxRecDepth 100000 in
theorem laws_FnOpGray.calls (k : Nat) (A0 : Option Addr) (c0 : Nat) (l0 : List Int) (r : Bool) (w : World) (hr0 : Kd.C (Kd.int .u8) w A0 l0.length l0) (qE : l0.length ≤ c0) (h : laws_FnOpGray.f k l0 = some r) :
  Calls Try.prog 8 #[.slice A0 l0.length c0] w fun e w' => e = .returned (.bool r) ∧ Below w.heap.size w w' := by
 have hu25 := Try.underlying25
 have hu27 := Try.underlying27
 have hu38 := Try.underlying38
 have tX := Aside0.mk hr0
 have tW := Aside0.mk qE
 clear hr0 qE
 have HB := Aside0.mk (Below.refl w.heap.size w)
 have H : (if (l0.length : Int) > 1048576 then (some true) else ((spec_DrawOpDo.f k l0).bind fun bP => ((spec_RasOk.f k bP.1 bP.2.1 bP.2.2.1).bind fun gP => (if gP = true then ((laws_eaDo.f k bP.1 bP.2.1 bP.2.2.1 (([(⟨5, 0, 0, 0, 0⟩ : S27)] : List (S27)))).bind fun cC => ((laws_eaDo.f k cC.1 cC.2.1 cC.2.2 (([(⟨5, 0, 0, 0, 0⟩ : S27)] : List (S27)))).bind fun cL => (laws_FnOpGray.l0 k 0 bP.1 bP.2.1 bP.2.2.1 5 0 0 0 0 4 0 0 0 0 cC.1 cC.2.1 cC.2.2 cL.1 cL.2.1 cL.2.2))) else ((impl_RasOk.f k bP.1 bP.2.1 bP.2.2.1).bind fun gQ => (if gQ = true then (none) else ((laws_eaOk.f).bind fun gR => (some gR)))))))) = some r := h
 clear h
 by_cases c2 : (l0.length : Int) > 1048576
 ·rw [if_pos c2] at H
  have mH : decide (1048576 < (l0.length : Int)) = true := decide_eq_true c2
  have mI : decide (1048576 < l0.length) = true := decide_eq_true (by omega)
  clear c2
  obtain rfl := Option.some.inj H
  go_enter Try.func8, Try.ntmps8
  go_wp2
  go_ret
  exact ⟨by first | rfl | (simp [errW_none, errW_some] <;> rfl) | (simp [*, errW_none, errW_some] <;> rfl), oB HB⟩
 ·rw [if_neg c2] at H
  have mH : decide (1048576 < (l0.length : Int)) = false := decide_eq_false c2
  have mI : decide (1048576 < l0.length) = false := decide_eq_false (by omega)
  clear c2
  replace H := Option.bind_eq_some_iff.mp H
  obtain ⟨⟨bK, bL, aN, dS, dT, dU, dV, dW⟩, tK, H⟩ := H
  (try dsimp only at H)
  have A3 := Aside0.mk tK
  clear tK
  replace H := Option.bind_eq_some_iff.mp H
  obtain ⟨gP, tL, H⟩ := H
  (try dsimp only at H)
  have A4 := Aside0.mk tL
  clear tL
  by_cases c5 : gP = true
  ·subst c5
   rw [if_pos rfl] at H
   obtain ⟨y756, hy756⟩ : ∃ y_ : List (S27), y_ = (([(⟨5, 0, 0, 0, 0⟩ : S27)] : List (S27))) := ⟨_, rfl⟩
   replace H : ((laws_eaDo.f k bK bL aN y756).bind fun cC => ((laws_eaDo.f k cC.1 cC.2.1 cC.2.2 (([(⟨5, 0, 0, 0, 0⟩ : S27)] : List (S27)))).bind fun cL => (laws_FnOpGray.l0 k 0 bK bL aN 5 0 0 0 0 4 0 0 0 0 cC.1 cC.2.1 cC.2.2 cL.1 cL.2.1 cL.2.2))) = some r := by first | (rw [hy756]; with_reducible exact H) | (have H2_ := (Option.bind_some _ _).symm.trans H; rw [hy756]; with_reducible exact H2_) | (have H2_ := (Option.bind_some _ _).symm.trans H; with_reducible exact H2_) | with_reducible exact H | (rw [hy756]; exact H) | exact H
   have kM := Aside0.mk hy756
   clear hy756
   replace H := Option.bind_eq_some_iff.mp H
   obtain ⟨⟨bT, bU, aL⟩, tM, H⟩ := H
   (try dsimp only at H)
   have A6 := Aside0.mk tM
   clear tM
   obtain ⟨y765, hy765⟩ : ∃ y_ : List (S27), y_ = (([(⟨5, 0, 0, 0, 0⟩ : S27)] : List (S27))) := ⟨_, rfl⟩
   replace H : ((laws_eaDo.f k bT bU aL y765).bind fun cL => (laws_FnOpGray.l0 k 0 bK bL aN 5 0 0 0 0 4 0 0 0 0 bT bU aL cL.1 cL.2.1 cL.2.2)) = some r := by first | (rw [hy765]; with_reducible exact H) | (have H2_ := (Option.bind_some _ _).symm.trans H; rw [hy765]; with_reducible exact H2_) | (have H2_ := (Option.bind_some _ _).symm.trans H; with_reducible exact H2_) | with_reducible exact H | (rw [hy765]; exact H) | exact H
   have kN := Aside0.mk hy765
   clear hy765
   replace H := Option.bind_eq_some_iff.mp H
   obtain ⟨⟨dX, dY, bJ⟩, tN, H⟩ := H
   (try dsimp only at H)
   have A7 := Aside0.mk tN
   clear tN
   have H' := Aside0.mk H
   clear H
   go_enter Try.func8, Try.ntmps8
   go_wp2_with (first | ((with_reducible refine gate_callee (f := 18) rfl ?_); refine goesL_ (some 19) rfl rfl Try.func18 oK rfl #[.slice A0 l0.length c0] rfl oA ?_; (with_reducible refine (spec_DrawOpDo.calls k _ _ l0 bK bL aN dS dT dU dV dW _ ?side1 ?side2 A3.out).mono ?_); (case side1 => repeat (first | exact tX.out | (with_reducible refine Kd.C_alloc ?_ _) | (with_reducible refine Kd.C_drewN ?_ _) | (with_reducible refine Kd.C_drew ?_))); (case side2 => exact tW.out); rintro e w8 ⟨sW, rfl, ho0, hb⟩; refine ⟨_, rfl, ?_⟩; have n_ := o2_ (Kd.Q_lower ho0 (below_size (oB HB))) (o1_ (below_step (oB HB) hb)); clear HB; obtain ⟨bA, HB⟩ := n_; (try clear hb); (try clear hb2); (try clear hk); (try clear hi); (try clear ho0)) | ((with_reducible refine gate_dst (N := 3) rfl ?_); (try (refine gate_guard (by rfl) ?_; dsimp only)); refine box_event ?hg (N := 3) ?hd (cs := #[.int .i64 0, .int .i64 0, .slice none 0 0]) (t := 25) ?hr ?_; (case hd => rfl); (case hg => rfl); (case hr => first | (go_simp; done) | (go_simp; rfl)); intro aZ hg w9 hbox hb; have n_ := o2_ (Kd.Q_below (oQ bA) hb) (o2_ (below_step (oB HB) hb) (o2_ (hbox) (o2_ ((oG hg (below_size (oB HB)) : w.heap.size ≤ aZ)) (o1_ ((oG hg (below_size (oB HB)) : w.heap.size ≤ aZ)))))); clear bA HB; obtain ⟨bA, HB, aB, mD, lZ⟩ := n_; clear hb hbox hg) | ((with_reducible refine gate_dst (N := 4) rfl ?_); (try (refine gate_guard (by rfl) ?_; dsimp only)); refine box_event ?hg (N := 4) ?hd (cs := #[.int .i64 0, .int .i64 0, .int .i64 0, .int .i64 0, .int .i64 0]) (t := 27) ?hr ?_; (case hd => rfl); (case hg => rfl); (case hr => first | (go_simp; done) | (go_simp; rfl)); intro bB hg kZ hbox hb; have n_ := o2_ (Kd.Q_below (oQ bA) hb) (o2_ (blk_below (oP aB) hb) (o2_ (below_step (oB HB) hb) (o2_ (hbox) (o2_ ((oG hg (below_size (oB HB)) : w.heap.size ≤ bB)) (o2_ ((oG hg (below_size (oB HB)) : w.heap.size ≤ bB)) (o2_ ((oL hg (blk_lt (oP aB)))) (o1_ ((oN hg (blk_lt (oP aB))))))))))); clear bA aB HB; obtain ⟨bA, aB, HB, aG, mE, mA, aR, cW⟩ := n_; clear hb hbox hg; have uD := aR.out; have vR := cW.out; have gZ : kZ.cell? ⟨aZ, 0, none⟩ = some (.int .i64 0) := (blk_cell aB.out 0).trans rfl; have hA : kZ.cell? ⟨aZ, 1, none⟩ = some (.int .i64 0) := (blk_cell aB.out 1).trans rfl; have hB : kZ.cell? ⟨aZ, 2, none⟩ = some (.slice none 0 0) := (blk_cell aB.out 2).trans rfl; have iO := blk_frozen aB.out 0; have iP := blk_frozen aB.out 1; have iQ := blk_frozen aB.out 2; obtain ⟨cQ, cJ, rR, _⟩ := Kd.Q_slice bA.out; subst rR; have hC : kZ.cell? ⟨bB, 0, none⟩ = some (.int .i64 0) := (blk_cell aG.out 0).trans rfl; have hD : kZ.cell? ⟨bB, 1, none⟩ = some (.int .i64 0) := (blk_cell aG.out 1).trans rfl; have hE : kZ.cell? ⟨bB, 2, none⟩ = some (.int .i64 0) := (blk_cell aG.out 2).trans rfl; have hF : kZ.cell? ⟨bB, 3, none⟩ = some (.int .i64 0) := (blk_cell aG.out 3).trans rfl; have hG : kZ.cell? ⟨bB, 4, none⟩ = some (.int .i64 0) := (blk_cell aG.out 4).trans rfl; have iR := blk_frozen aG.out 0; have iS := blk_frozen aG.out 1; have iT := blk_frozen aG.out 2; have iU := blk_frozen aG.out 3; have iV := blk_frozen aG.out 4) | ((with_reducible refine gate_dst (N := 5) rfl ?_); (try (refine gate_guard (by rfl) ?_; dsimp only)); refine box_event ?hg (N := 5) ?hd (cs := #[.int .i64 0, .int .i64 0, .int .i64 0, .int .i64 0, .int .i64 0]) (t := 27) ?hr ?_; (case hd => rfl); (case hg => rfl); (case hr => first | (go_simp; done) | (go_simp; rfl)); intro aQ hg pY hbox hb; have n_ := o2_ (Kd.Q_below (by (with_reducible repeat (first | apply Kd.Q_alloc | apply Kd.Q_drewN | apply Kd.Q_drew)); exact (Kd.Q_mono (Kd.Q_mono (Kd.Q_far (p := ⟨bB, 4, none⟩) (Kd.Q_far (p := ⟨bB, 3, none⟩) (Kd.Q_far (p := ⟨bB, 2, none⟩) (Kd.Q_far (p := ⟨bB, 1, none⟩) (Kd.Q_far (p := ⟨bB, 0, none⟩) (Kd.Q_far (p := ⟨aZ, 2, none⟩) (Kd.Q_far (p := ⟨aZ, 1, none⟩) (Kd.Q_far (p := ⟨aZ, 0, none⟩) (Kd.Q_types (Kd.Q_types bA.out aB.out oD) aG.out oD) (fun _ hk => hk.1.2) (.int .i64 bK)) (fun _ hk => hk.1.2) (.int .i64 bL)) (fun _ hk => hk.1.2) (.slice cQ aN.length cJ)) (fun _ hk => hk.2) (.int .i64 dS)) (fun _ hk => hk.2) (.int .i64 dT)) (fun _ hk => hk.2) (.int .i64 dU)) (fun _ hk => hk.2) (.int .i64 dV)) (fun _ hk => hk.2) (.int .i64 dW)) (fun _ h_ => h_.1)) (fun _ h_ => h_.1))) hb) (o2_ (blk_below (g := aZ) (o := .cells #[.int .i64 bK, .int .i64 bL, .slice cQ aN.length cJ] 25 (0, 0)) (blk_far (blk_far (blk_far (blk_far (blk_far (blk_put (blk_put (blk_put (oP aB) 0 _ rfl) 1 _ rfl) 2 _ rfl) aR.out _) aR.out _) aR.out _) aR.out _) aR.out _) hb) (o2_ (blk_below (g := bB) (o := .cells #[.int .i64 dS, .int .i64 dT, .int .i64 dU, .int .i64 dV, .int .i64 dW] 27 (0, 0)) (blk_put (blk_put (blk_put (blk_put (blk_put (oP aG) 0 _ rfl) 1 _ rfl) 2 _ rfl) 3 _ rfl) 4 _ rfl) hb) (o2_ (below_step (oB HB) hb) (o2_ (hbox) (o2_ ((oG hg (below_size (oB HB)) : w.heap.size ≤ aQ)) (o2_ ((oG hg (below_size (oB HB)) : w.heap.size ≤ aQ)) (o2_ ((by rw [hg]; exact Nat.ne_of_lt (blk_lt (g := aZ) (o := .cells #[.int .i64 bK, .int .i64 bL, .slice cQ aN.length cJ] 25 (0, 0)) (blk_far (blk_far (blk_far (blk_far (blk_far (blk_put (blk_put (blk_put (oP aB) 0 _ rfl) 1 _ rfl) 2 _ rfl) aR.out _) aR.out _) aR.out _) aR.out _) aR.out _)) : aZ ≠ aQ)) (o2_ ((by rw [hg]; exact Nat.ne_of_gt (blk_lt (g := aZ) (o := .cells #[.int .i64 bK, .int .i64 bL, .slice cQ aN.length cJ] 25 (0, 0)) (blk_far (blk_far (blk_far (blk_far (blk_far (blk_put (blk_put (blk_put (oP aB) 0 _ rfl) 1 _ rfl) 2 _ rfl) aR.out _) aR.out _) aR.out _) aR.out _) aR.out _)) : aQ ≠ aZ)) (o2_ ((by rw [hg]; exact Nat.ne_of_lt (blk_lt (g := bB) (o := .cells #[.int .i64 dS, .int .i64 dT, .int .i64 dU, .int .i64 dV, .int .i64 dW] 27 (0, 0)) (blk_put (blk_put (blk_put (blk_put (blk_put (oP aG) 0 _ rfl) 1 _ rfl) 2 _ rfl) 3 _ rfl) 4 _ rfl)) : bB ≠ aQ)) (o1_ ((by rw [hg]; exact Nat.ne_of_gt (blk_lt (g := bB) (o := .cells #[.int .i64 dS, .int .i64 dT, .int .i64 dU, .int .i64 dV, .int .i64 dW] 27 (0, 0)) (blk_put (blk_put (blk_put (blk_put (blk_put (oP aG) 0 _ rfl) 1 _ rfl) 2 _ rfl) 3 _ rfl) 4 _ rfl)) : aQ ≠ bB)))))))))))); clear bA aB aG HB; obtain ⟨bA, aB, aG, HB, aD, mF, mB, cU, cX, dD, dG⟩ := n_; clear hb hbox hg; have uE := cX.out; have vS := cU.out; have uF := dG.out; have vT := dD.out; have hH : pY.cell? ⟨aQ, 0, none⟩ = some (.int .i64 0) := (blk_cell aD.out 0).trans rfl; have hI : pY.cell? ⟨aQ, 1, none⟩ = some (.int .i64 0) := (blk_cell aD.out 1).trans rfl; have hJ : pY.cell? ⟨aQ, 2, none⟩ = some (.int .i64 0) := (blk_cell aD.out 2).trans rfl; have hL : pY.cell? ⟨aQ, 3, none⟩ = some (.int .i64 0) := (blk_cell aD.out 3).trans rfl; have hM : pY.cell? ⟨aQ, 4, none⟩ = some (.int .i64 0) := (blk_cell aD.out 4).trans rfl; have iW := blk_frozen aD.out 0; have iX := blk_frozen aD.out 1; have iY := blk_frozen aD.out 2; have iZ := blk_frozen aD.out 3; have jA := blk_frozen aD.out 4) | ((with_reducible refine gate_dst (N := 6) rfl ?_); (try (refine gate_guard (by rfl) ?_; dsimp only)); refine box_event ?hg (N := 6) ?hd (cs := #[.int .i64 0, .int .i64 0, .int .i64 0, .int .i64 0, .int .i64 0]) (t := 27) ?hr ?_; (case hd => rfl); (case hg => rfl); (case hr => first | (go_simp; done) | (go_simp; rfl)); intro aS hg lA hbox hb; have n_ := o2_ (Kd.Q_below (by (with_reducible repeat (first | apply Kd.Q_alloc | apply Kd.Q_drewN | apply Kd.Q_drew)); exact (Kd.Q_mono (Kd.Q_far (p := ⟨aQ, 4, none⟩) (Kd.Q_far (p := ⟨aQ, 3, none⟩) (Kd.Q_far (p := ⟨aQ, 2, none⟩) (Kd.Q_far (p := ⟨aQ, 1, none⟩) (Kd.Q_far (p := ⟨aQ, 0, none⟩) (Kd.Q_types bA.out aD.out oD) (fun _ hk => hk.2) (.int .i64 5)) (fun _ hk => hk.2) (.int .i64 0)) (fun _ hk => hk.2) (.int .i64 0)) (fun _ hk => hk.2) (.int .i64 0)) (fun _ hk => hk.2) (.int .i64 0)) (fun _ h_ => h_.1))) hb) (o2_ (blk_below (oP aB) hb) (o2_ (blk_below (oP aG) hb) (o2_ (blk_below (g := aQ) (o := .cells #[.int .i64 5, .int .i64 0, .int .i64 0, .int .i64 0, .int .i64 0] 27 (0, 0)) (blk_put (blk_put (blk_put (blk_put (blk_put aD.out 0 _ rfl) 1 _ rfl) 2 _ rfl) 3 _ rfl) 4 _ rfl) hb) (o2_ (below_step (oB HB) hb) (o2_ (hbox) (o2_ ((oG hg (below_size (oB HB)) : w.heap.size ≤ aS)) (o2_ ((oG hg (below_size (oB HB)) : w.heap.size ≤ aS)) (o2_ ((oL hg (blk_lt (oP aB)))) (o2_ ((oN hg (blk_lt (oP aB)))) (o2_ ((oL hg (blk_lt (oP aG)))) (o2_ ((oN hg (blk_lt (oP aG)))) (o2_ ((by rw [hg]; exact Nat.ne_of_lt (blk_lt (g := aQ) (o := .cells #[.int .i64 5, .int .i64 0, .int .i64 0, .int .i64 0, .int .i64 0] 27 (0, 0)) (blk_put (blk_put (blk_put (blk_put (blk_put aD.out 0 _ rfl) 1 _ rfl) 2 _ rfl) 3 _ rfl) 4 _ rfl)) : aQ ≠ aS)) (o1_ ((by rw [hg]; exact Nat.ne_of_gt (blk_lt (g := aQ) (o := .cells #[.int .i64 5, .int .i64 0, .int .i64 0, .int .i64 0, .int .i64 0] 27 (0, 0)) (blk_put (blk_put (blk_put (blk_put (blk_put aD.out 0 _ rfl) 1 _ rfl) 2 _ rfl) 3 _ rfl) 4 _ rfl)) : aS ≠ aQ))))))))))))))); clear bA aB aG aD HB; obtain ⟨bA, aB, aG, aD, HB, aH, mG, mC, cV, cY, dE, dJ, dH, dK⟩ := n_; clear hb hbox hg; have uG := cY.out; have vU := cV.out; have uH := dJ.out; have vV := dE.out; have uI := dK.out; have vW := dH.out; have hN : lA.cell? ⟨aS, 0, none⟩ = some (.int .i64 0) := (blk_cell aH.out 0).trans rfl; have hO : lA.cell? ⟨aS, 1, none⟩ = some (.int .i64 0) := (blk_cell aH.out 1).trans rfl; have hP : lA.cell? ⟨aS, 2, none⟩ = some (.int .i64 0) := (blk_cell aH.out 2).trans rfl; have hQ : lA.cell? ⟨aS, 3, none⟩ = some (.int .i64 0) := (blk_cell aH.out 3).trans rfl; have hR : lA.cell? ⟨aS, 4, none⟩ = some (.int .i64 0) := (blk_cell aH.out 4).trans rfl; have jB := blk_frozen aH.out 0; have jC := blk_frozen aH.out 1; have jD := blk_frozen aH.out 2; have jE := blk_frozen aH.out 3; have jF := blk_frozen aH.out 4; have hS : lA.cell? ⟨aZ, 0, none⟩ = some (.int .i64 bK) := (blk_cell aB.out 0).trans rfl; have hT : lA.cell? ⟨aZ, 1, none⟩ = some (.int .i64 bL) := (blk_cell aB.out 1).trans rfl; have hU : lA.cell? ⟨aZ, 2, none⟩ = some (.slice cQ aN.length cJ) := (blk_cell aB.out 2).trans rfl; have jG := blk_frozen aB.out 0; have jH := blk_frozen aB.out 1; have jI := blk_frozen aB.out 2) | ((with_reducible refine gate_callee (f := 24) rfl ?_); refine goesL_ (some 25) rfl rfl Try.func24 oK rfl #[.agg #[.int .i64 bK, .int .i64 bL, .slice cQ aN.length cJ]] rfl oA ?_; (with_reducible refine (spec_RasOk.calls k bK bL _ _ aN true _ ?side1 ?side2 A4.out).mono ?_); (case side1 => refine (Kd.Q_reads' (e := 38) (base := w.heap.size) (ok := fun k_ => True) (n := aN.length) (c := cJ) ?_).2.2; exact (by (with_reducible repeat (first | apply Kd.Q_alloc | apply Kd.Q_drewN | apply Kd.Q_drew)); exact (Kd.Q_mono (Kd.Q_far (p := ⟨aS, 4, none⟩) (Kd.Q_far (p := ⟨aS, 3, none⟩) (Kd.Q_far (p := ⟨aS, 2, none⟩) (Kd.Q_far (p := ⟨aS, 1, none⟩) (Kd.Q_far (p := ⟨aS, 0, none⟩) (Kd.Q_types bA.out aH.out oD) (fun _ hk => hk.2) (.int .i64 4)) (fun _ hk => hk.2) (.int .i64 0)) (fun _ hk => hk.2) (.int .i64 0)) (fun _ hk => hk.2) (.int .i64 0)) (fun _ hk => hk.2) (.int .i64 0)) (fun _ h_ => h_.1)))); (case side2 => exact (Kd.Q_reads' bA.out).2.1); rintro e lB ⟨rfl, hb⟩; refine ⟨_, rfl, ?_⟩; have n_ := o2_ (Kd.Q_below (by (with_reducible repeat (first | apply Kd.Q_alloc | apply Kd.Q_drewN | apply Kd.Q_drew)); exact (Kd.Q_mono (Kd.Q_far (p := ⟨aS, 4, none⟩) (Kd.Q_far (p := ⟨aS, 3, none⟩) (Kd.Q_far (p := ⟨aS, 2, none⟩) (Kd.Q_far (p := ⟨aS, 1, none⟩) (Kd.Q_far (p := ⟨aS, 0, none⟩) (Kd.Q_types bA.out aH.out oD) (fun _ hk => hk.2) (.int .i64 4)) (fun _ hk => hk.2) (.int .i64 0)) (fun _ hk => hk.2) (.int .i64 0)) (fun _ hk => hk.2) (.int .i64 0)) (fun _ hk => hk.2) (.int .i64 0)) (fun _ h_ => h_.1))) hb) (o2_ (blk_below (oP aB) hb) (o2_ (blk_below (oP aG) hb) (o2_ (blk_below (oP aD) hb) (o2_ (blk_below (g := aS) (o := .cells #[.int .i64 4, .int .i64 0, .int .i64 0, .int .i64 0, .int .i64 0] 27 (0, 0)) (blk_put (blk_put (blk_put (blk_put (blk_put aH.out 0 _ rfl) 1 _ rfl) 2 _ rfl) 3 _ rfl) 4 _ rfl) hb) (o1_ (below_step (oB HB) hb)))))); clear bA aB aG aD aH HB; obtain ⟨bA, aB, aG, aD, aH, HB⟩ := n_; (try clear hb); (try clear hb2); (try clear hk); (try clear hi); have hV : lB.cell? ⟨aZ, 0, none⟩ = some (.int .i64 bK) := (blk_cell aB.out 0).trans rfl; have hW : lB.cell? ⟨aZ, 1, none⟩ = some (.int .i64 bL) := (blk_cell aB.out 1).trans rfl; have hX : lB.cell? ⟨aZ, 2, none⟩ = some (.slice cQ aN.length cJ) := (blk_cell aB.out 2).trans rfl; have jJ := blk_frozen aB.out 0; have jK := blk_frozen aB.out 1; have jL := blk_frozen aB.out 2; have hY : lB.cell? ⟨aQ, 0, none⟩ = some (.int .i64 5) := (blk_cell aD.out 0).trans rfl; have hZ : lB.cell? ⟨aQ, 1, none⟩ = some (.int .i64 0) := (blk_cell aD.out 1).trans rfl; have iA : lB.cell? ⟨aQ, 2, none⟩ = some (.int .i64 0) := (blk_cell aD.out 2).trans rfl; have iB : lB.cell? ⟨aQ, 3, none⟩ = some (.int .i64 0) := (blk_cell aD.out 3).trans rfl; have iC : lB.cell? ⟨aQ, 4, none⟩ = some (.int .i64 0) := (blk_cell aD.out 4).trans rfl; have jM := blk_frozen aD.out 0; have jN := blk_frozen aD.out 1; have jO := blk_frozen aD.out 2; have jP := blk_frozen aD.out 3; have jQ := blk_frozen aD.out 4) | ((with_reducible refine gate_dst (N := 35) rfl ?_); (try (refine gate_guard (by rfl) ?_; dsimp only)); refine Kd.R_lit k27 _ 27 ?hg (N := 35) ?hd (xs := ([(⟨5, 0, 0, 0, 0⟩ : S27)] : List (S27))) (inner := [.int .i64 5, .int .i64 0, .int .i64 0, .int .i64 0, .int .i64 0]) (ok := fun _ => True) (okp := fun _ => True) ?hr ?hp (fun _ hk => hk) trivial (Below.refl _ _) (Nat.le_refl _) (by simp) ?_; (case hd => rfl); (case hg => rfl); (case hr => first | (go_simp; done) | (go_simp; rfl)); (case hp => exact (Reps.c5 (show Kd.M k27 _ _ _ (⟨5, 0, 0, 0, 0⟩ : S27) [.int .i64 5, .int .i64 0, .int .i64 0, .int .i64 0, .int .i64 0] from (k27_mkM _ _ _ (⟨5, 0, 0, 0, 0⟩ : S27) )) (Reps.none _ _))); intro xL xX ho29 hb hg_ hnew_; clear hg_ hnew_; (first | rw [← kM.out] at ho29 | (simp only [Int.reduceToNat] at ho29; rw [← kM.out] at ho29)); have n_ := o2_ (Kd.Q_below (oQ bA) hb) (o2_ (Kd.R_lower (Kd.R_newB (Kd.R_newB (Kd.R_newB ho29 (oP aG)) (oP aD)) (oP aH)) (below_size (oB HB))) (o2_ (blk_below (oP aB) hb) (o2_ (blk_below (oP aG) hb) (o2_ (blk_below (oP aD) hb) (o2_ (blk_below (oP aH) hb) (o1_ (below_step (oB HB) hb))))))); clear bA aB aG aD aH HB; obtain ⟨bA, cF, aB, aG, aD, aH, HB⟩ := n_; clear hb ho29; obtain ⟨gW, gY, rS⟩ := Kd.R_slice cF.out; subst rS) | ((with_reducible refine gate_callee (f := 27) rfl ?_); refine goesL_ (some 36) rfl rfl Try.func27 oK rfl #[.agg #[.int .i64 bK, .int .i64 bL, .slice cQ aN.length cJ], .slice gW y756.length gY] rfl oA ?_; (with_reducible refine (laws_eaDo.calls k bK bL (fun k_ => some k_ = (.slice cQ aN.length cJ : Value).ownBlock) _ _ aN _ _ y756 bT bU aL _ ?side1 ?side2 ?side3 A6.out).mono ?_); (case side1 => exact Kd.Q_V (Kd.Q_tight rfl (Kd.Q_types (Kd.Q_types (Kd.Q_types (Kd.Q_types (Kd.Q_apart' (bA.out) (Kd.R_typed cF.out) oD) aB.out oD) aG.out oD) aD.out oD) aH.out oD))); (case side2 => repeat (first | exact (Kd.R_reads' cF.out).2.2 | (with_reducible refine Kd.C_alloc ?_ _) | (with_reducible refine Kd.C_drewN ?_ _) | (with_reducible refine Kd.C_drew ?_))); (case side3 => exact (Kd.R_reads' cF.out).2.1); rintro e xY ⟨xM, rfl, ho0, hb⟩; refine ⟨_, rfl, ?_⟩; have hq_ := (Kd.Q_types (Kd.Q_types (Kd.Q_types (Kd.Q_types (Kd.Q_apart' (bA.out) (Kd.R_typed cF.out) oD) aB.out oD) aG.out oD) aD.out oD) aH.out oD); have n_ := o2_ (Kd.Q_below (oQ bA) hb) (o2_ (Kd.R_below (oR cF) hb) (o2_ (Kd.V_lower (Kd.V_mono (ok' := fun k_ => some k_ ≠ (.slice gW y756.length gY : Value).ownBlock ∧ k_ ≠ aZ ∧ k_ ≠ bB ∧ k_ ≠ aQ ∧ k_ ≠ aS) ho0 (fun k_ hk_ => ⟨Or.elim hk_ (fun hs_ => (hq_.1 k_ hs_.symm).1.1.1.1.2) (fun hn_ => (Kd.fresh' (Kd.R_lt (oR cF)) k_ hn_)), Or.elim hk_ (fun hs_ => (hq_.1 k_ hs_.symm).1.1.1.2) (fun hn_ => (Kd.freshB (oP aB) k_ hn_)), Or.elim hk_ (fun hs_ => (hq_.1 k_ hs_.symm).1.1.2) (fun hn_ => (Kd.freshB (oP aG) k_ hn_)), Or.elim hk_ (fun hs_ => (hq_.1 k_ hs_.symm).1.2) (fun hn_ => (Kd.freshB (oP aD) k_ hn_)), Or.elim hk_ (fun hs_ => (hq_.1 k_ hs_.symm).2) (fun hn_ => (Kd.freshB (oP aH) k_ hn_))⟩)) (below_size (oB HB))) (o2_ (blk_below (oP aB) hb) (o2_ (blk_below (oP aG) hb) (o2_ (blk_below (oP aD) hb) (o2_ (blk_below (oP aH) hb) (o1_ (below_step (oB HB) hb)))))))); clear bA cF aB aG aD aH HB; obtain ⟨bA, cF, cK, aB, aG, aD, aH, HB⟩ := n_; clear hq_; (try clear hb); (try clear hb2); (try clear hk); (try clear hi); (try clear ho0)) | ((with_reducible refine gate_dst (N := 7) rfl ?_); (try (refine gate_guard (by rfl) ?_; dsimp only)); refine box_event ?hg (N := 7) ?hd (cs := #[.int .i64 0, .int .i64 0, .slice none 0 0]) (t := 25) ?hr ?_; (case hd => rfl); (case hg => rfl); (case hr => first | (go_simp; done) | (go_simp; rfl)); intro bD hg lC hbox hb; have n_ := o2_ (Kd.Q_below (oQ bA) hb) (o2_ (Kd.R_below (oR cF) hb) (o2_ (Kd.V_below (Kd.V_elderB (oV cK) bD (Nat.le_of_eq hg.symm)) hb) (o2_ (blk_below (oP aB) hb) (o2_ (blk_below (oP aG) hb) (o2_ (blk_below (oP aD) hb) (o2_ (blk_below (oP aH) hb) (o2_ (below_step (oB HB) hb) (o2_ (hbox) (o2_ ((oG hg (below_size (oB HB)) : w.heap.size ≤ bD)) (o2_ ((oG hg (below_size (oB HB)) : w.heap.size ≤ bD)) (o2_ ((oL hg (blk_lt (oP aB)))) (o2_ ((oN hg (blk_lt (oP aB)))) (o2_ ((oL hg (blk_lt (oP aG)))) (o2_ ((oN hg (blk_lt (oP aG)))) (o2_ ((oL hg (blk_lt (oP aD)))) (o2_ ((oN hg (blk_lt (oP aD)))) (o2_ ((oL hg (blk_lt (oP aH)))) (o1_ ((oN hg (blk_lt (oP aH)))))))))))))))))))))); clear bA cF cK aB aG aD aH HB; obtain ⟨bA, cF, cK, aB, aG, aD, aH, HB, aM, tS, tO, dC, dM, dF, dN, dI, dO, dL, dP⟩ := n_; clear hb hbox hg; have uJ := dM.out; have vX := dC.out; have uK := dN.out; have vY := dF.out; have uL := dO.out; have vZ := dI.out; have uM := dP.out; have wA := dL.out; have iD : lC.cell? ⟨bD, 0, none⟩ = some (.int .i64 0) := (blk_cell aM.out 0).trans rfl; have iE : lC.cell? ⟨bD, 1, none⟩ = some (.int .i64 0) := (blk_cell aM.out 1).trans rfl; have iF : lC.cell? ⟨bD, 2, none⟩ = some (.slice none 0 0) := (blk_cell aM.out 2).trans rfl; have jR := blk_frozen aM.out 0; have jS := blk_frozen aM.out 1; have jT := blk_frozen aM.out 2; obtain ⟨cI, cH, rT⟩ := Kd.V_slice cK.out; subst rT; have iG : lC.cell? ⟨aQ, 0, none⟩ = some (.int .i64 5) := (blk_cell aD.out 0).trans rfl; have iH : lC.cell? ⟨aQ, 1, none⟩ = some (.int .i64 0) := (blk_cell aD.out 1).trans rfl; have iI : lC.cell? ⟨aQ, 2, none⟩ = some (.int .i64 0) := (blk_cell aD.out 2).trans rfl; have iJ : lC.cell? ⟨aQ, 3, none⟩ = some (.int .i64 0) := (blk_cell aD.out 3).trans rfl; have iK : lC.cell? ⟨aQ, 4, none⟩ = some (.int .i64 0) := (blk_cell aD.out 4).trans rfl; have jU := blk_frozen aD.out 0; have jV := blk_frozen aD.out 1; have jW := blk_frozen aD.out 2; have jX := blk_frozen aD.out 3; have jY := blk_frozen aD.out 4) | ((with_reducible refine gate_dst (N := 39) rfl ?_); (try (refine gate_guard (by rfl) ?_; dsimp only)); refine Kd.R_lit k27 _ 27 ?hg (N := 39) ?hd (xs := ([(⟨5, 0, 0, 0, 0⟩ : S27)] : List (S27))) (inner := [.int .i64 5, .int .i64 0, .int .i64 0, .int .i64 0, .int .i64 0]) (ok := fun _ => True) (okp := fun _ => True) ?hr ?hp (fun _ hk => hk) trivial (Below.refl _ _) (Nat.le_refl _) (by simp) ?_; (case hd => rfl); (case hg => rfl); (case hr => first | (go_simp; done) | (go_simp; rfl)); (case hp => exact (Reps.c5 (show Kd.M k27 _ _ _ (⟨5, 0, 0, 0, 0⟩ : S27) [.int .i64 5, .int .i64 0, .int .i64 0, .int .i64 0, .int .i64 0] from (k27_mkM _ _ _ (⟨5, 0, 0, 0, 0⟩ : S27) )) (Reps.none _ _))); intro xN xZ ho41 hb hg_ hnew_; clear hg_ hnew_; (first | rw [← kN.out] at ho41 | (simp only [Int.reduceToNat] at ho41; rw [← kN.out] at ho41)); have n_ := o2_ (Kd.Q_below (by (with_reducible repeat (first | apply Kd.Q_alloc | apply Kd.Q_drewN | apply Kd.Q_drew)); exact (Kd.Q_mono (Kd.Q_far (p := ⟨bD, 2, none⟩) (Kd.Q_far (p := ⟨bD, 1, none⟩) (Kd.Q_far (p := ⟨bD, 0, none⟩) (Kd.Q_types bA.out aM.out oD) (fun _ hk => hk.2) (.int .i64 bT)) (fun _ hk => hk.2) (.int .i64 bU)) (fun _ hk => hk.2) (.slice cI aL.length cH)) (fun _ h_ => h_.1))) hb) (o2_ (Kd.R_elder' (by (with_reducible repeat (first | apply Kd.R_alloc | apply Kd.R_drewN | apply Kd.R_drew)); exact (Kd.R_mono (Kd.R_far (p := ⟨bD, 2, none⟩) (Kd.R_far (p := ⟨bD, 1, none⟩) (Kd.R_far (p := ⟨bD, 0, none⟩) (Kd.R_types cF.out aM.out oD) (fun _ hk => hk.2) (.int .i64 bT)) (fun _ hk => hk.2) (.int .i64 bU)) (fun _ hk => hk.2) (.slice cI aL.length cH)) (fun _ h_ => h_.1))) (Kd.R_base ho41) hb) (o2_ (Kd.V_elder' (by (with_reducible repeat (first | apply Kd.V_alloc | apply Kd.V_drewN | apply Kd.V_drew)); exact (Kd.V_mono (Kd.V_far (p := ⟨bD, 2, none⟩) (Kd.V_far (p := ⟨bD, 1, none⟩) (Kd.V_far (p := ⟨bD, 0, none⟩) (Kd.V_mono cK.out (fun k_ hk => (⟨hk, hk.2⟩ : _ ∧ k_ ≠ bD))) (fun _ hk => hk.2) (.int .i64 bT)) (fun _ hk => hk.2) (.int .i64 bU)) (fun _ hk => hk.2) (.slice cI aL.length cH)) (fun _ h_ => h_.1))) (Kd.R_base ho41) hb) (o2_ (Kd.R_lower (Kd.R_newB (Kd.R_newB (Kd.R_newB (Kd.R_new' ho41 (Kd.R_lt (by (with_reducible repeat (first | apply Kd.R_alloc | apply Kd.R_drewN | apply Kd.R_drew)); exact (Kd.R_mono (Kd.R_far (p := ⟨bD, 2, none⟩) (Kd.R_far (p := ⟨bD, 1, none⟩) (Kd.R_far (p := ⟨bD, 0, none⟩) (Kd.R_types cF.out aM.out oD) (fun _ hk => hk.2) (.int .i64 bT)) (fun _ hk => hk.2) (.int .i64 bU)) (fun _ hk => hk.2) (.slice cI aL.length cH)) (fun _ h_ => h_.1))))) (oP aG)) (oP aD)) (oP aH)) (below_size (oB HB))) (o2_ (blk_below (oP aB) hb) (o2_ (blk_below (oP aG) hb) (o2_ (blk_below (oP aD) hb) (o2_ (blk_below (oP aH) hb) (o2_ (blk_below (g := bD) (o := .cells #[.int .i64 bT, .int .i64 bU, .slice cI aL.length cH] 25 (0, 0)) (blk_put (blk_put (blk_put aM.out 0 _ rfl) 1 _ rfl) 2 _ rfl) hb) (o1_ (below_step (oB HB) hb)))))))))); clear bA cF cK aB aG aD aH aM HB; obtain ⟨bA, cF, cK, eO, aB, aG, aD, aH, aM, HB⟩ := n_; clear hb ho41; obtain ⟨lD, lH, rU⟩ := Kd.R_slice eO.out; subst rU) | ((with_reducible refine gate_callee (f := 27) rfl ?_); refine goesL_ (some 40) rfl rfl Try.func27 oK rfl #[.agg #[.int .i64 bT, .int .i64 bU, .slice cI aL.length cH], .slice lD y765.length lH] rfl oA ?_; (with_reducible refine (laws_eaDo.calls k bT bU (fun k_ => (((some k_ ≠ (.slice gW y756.length gY : Value).ownBlock ∧ (k_ ≠ aZ ∧ (k_ ≠ bB ∧ (k_ ≠ aQ ∧ k_ ≠ aS)))) ∧ k_ ≠ bD) ∧ some k_ ≠ (.slice lD y765.length lH : Value).ownBlock)) _ _ aL _ _ y765 dX dY bJ _ ?side1 ?side2 ?side3 A7.out).mono ?_); (case side1 => exact cK.out); (case side2 => repeat (first | exact (Kd.R_reads' eO.out).2.2 | (with_reducible refine Kd.C_alloc ?_ _) | (with_reducible refine Kd.C_drewN ?_ _) | (with_reducible refine Kd.C_drew ?_))); (case side3 => exact (Kd.R_reads' eO.out).2.1); rintro e yA ⟨xO, rfl, ho0, hb⟩; refine ⟨_, rfl, ?_⟩; have n_ := o2_ (Kd.Q_below (oQ bA) hb) (o2_ (Kd.V_below (oV cK) hb) (o2_ (Kd.V_lower (Kd.V_mono (ok' := fun k_ => some k_ ≠ (.slice gW y756.length gY : Value).ownBlock ∧ some k_ ≠ (.slice lD y765.length lH : Value).ownBlock ∧ k_ ≠ aZ ∧ k_ ≠ bB ∧ k_ ≠ aQ ∧ k_ ≠ aS ∧ k_ ≠ bD) ho0 (fun k_ hk_ => ⟨Or.elim hk_ (fun hs_ => hs_.1.1.1) (fun hn_ => (Kd.fresh' (Kd.R_lt (oR cF)) k_ hn_)), Or.elim hk_ (fun hs_ => hs_.2) (fun hn_ => (Kd.fresh' (Kd.R_lt (oR eO)) k_ hn_)), Or.elim hk_ (fun hs_ => hs_.1.1.2.1) (fun hn_ => (Kd.freshB (oP aB) k_ hn_)), Or.elim hk_ (fun hs_ => hs_.1.1.2.2.1) (fun hn_ => (Kd.freshB (oP aG) k_ hn_)), Or.elim hk_ (fun hs_ => hs_.1.1.2.2.2.1) (fun hn_ => (Kd.freshB (oP aD) k_ hn_)), Or.elim hk_ (fun hs_ => hs_.1.1.2.2.2.2) (fun hn_ => (Kd.freshB (oP aH) k_ hn_)), Or.elim hk_ (fun hs_ => hs_.1.2) (fun hn_ => (Kd.freshB (oP aM) k_ hn_))⟩)) (below_size (oB HB))) (o2_ (blk_below (oP aB) hb) (o2_ (blk_below (oP aG) hb) (o2_ (blk_below (oP aD) hb) (o2_ (blk_below (oP aH) hb) (o2_ (blk_below (oP aM) hb) (o1_ (below_step (oB HB) hb))))))))); clear bA cK aB aG aD aH aM HB; obtain ⟨bA, cK, eJ, aB, aG, aD, aH, aM, HB⟩ := n_; (try clear hb); (try clear hb2); (try clear hk); (try clear hi); (try clear ho0)) | ((with_reducible refine gate_dst (N := 8) rfl ?_); (try (refine gate_guard (by rfl) ?_; dsimp only)); refine box_event ?hg (N := 8) ?hd (cs := #[.int .i64 0, .int .i64 0, .slice none 0 0]) (t := 25) ?hr ?_; (case hd => rfl); (case hg => rfl); (case hr => first | (go_simp; done) | (go_simp; rfl)); intro bI hg sZ hbox hb; have n_ := o2_ (Kd.Q_below (oQ bA) hb) (o2_ (Kd.V_below (Kd.V_elderB (oV cK) bI (Nat.le_of_eq hg.symm)) hb) (o2_ (Kd.V_below (Kd.V_elderB (oV eJ) bI (Nat.le_of_eq hg.symm)) hb) (o2_ (blk_below (oP aB) hb) (o2_ (blk_below (oP aG) hb) (o2_ (blk_below (oP aD) hb) (o2_ (blk_below (oP aH) hb) (o2_ (blk_below (oP aM) hb) (o2_ (below_step (oB HB) hb) (o2_ (hbox) (o2_ ((oG hg (below_size (oB HB)) : w.heap.size ≤ bI)) (o2_ ((oG hg (below_size (oB HB)) : w.heap.size ≤ bI)) (o2_ ((oL hg (blk_lt (oP aB)))) (o2_ ((oN hg (blk_lt (oP aB)))) (o2_ ((oL hg (blk_lt (oP aG)))) (o2_ ((oN hg (blk_lt (oP aG)))) (o2_ ((oL hg (blk_lt (oP aD)))) (o2_ ((oN hg (blk_lt (oP aD)))) (o2_ ((oL hg (blk_lt (oP aH)))) (o2_ ((oN hg (blk_lt (oP aH)))) (o2_ ((oL hg (blk_lt (oP aM)))) (o1_ ((oN hg (blk_lt (oP aM))))))))))))))))))))))))); clear bA cK eJ aB aG aD aH aM HB; obtain ⟨bA, cK, eJ, aB, aG, aD, aH, aM, HB, aP, tT, tP, eE, eF, eV, fG, eY, fH, fB, fI, dQ, dR⟩ := n_; clear hb hbox hg; have uN := eF.out; have wB := eE.out; have uO := fG.out; have wC := eV.out; have uP := fH.out; have wD := eY.out; have uS := fI.out; have wE := fB.out; have uT := dR.out; have wF := dQ.out; have iL : sZ.cell? ⟨bI, 0, none⟩ = some (.int .i64 0) := (blk_cell aP.out 0).trans rfl; have iM : sZ.cell? ⟨bI, 1, none⟩ = some (.int .i64 0) := (blk_cell aP.out 1).trans rfl; have iN : sZ.cell? ⟨bI, 2, none⟩ = some (.slice none 0 0) := (blk_cell aP.out 2).trans rfl; have jZ := blk_frozen aP.out 0; have kA := blk_frozen aP.out 1; have kB := blk_frozen aP.out 2; obtain ⟨eH, eD, rV⟩ := Kd.V_slice eJ.out; subst rV))
   go_loopg [9] k (fun kq v9 w' => ∃ (aA : Int), v9 = .int .i64 aA ∧ Aside0 (laws_FnOpGray.l0 kq aA bK bL aN 5 0 0 0 0 4 0 0 0 0 bT bU aL dX dY bJ = some r) ∧ Aside0 (kq ≤ k) ∧ Aside0 (Kd.Q k38 38 w' w.heap.size (fun _ => True) (.slice cQ aN.length cJ) aN) ∧ Aside0 (Kd.V k38 38 w' w.heap.size (fun k_ => k_ ≠ aZ ∧ k_ ≠ bB ∧ k_ ≠ aQ ∧ k_ ≠ aS ∧ k_ ≠ bD ∧ k_ ≠ bI) (.slice cI aL.length cH) aL) ∧ Aside0 (Kd.V k38 38 w' w.heap.size (fun k_ => k_ ≠ aZ ∧ k_ ≠ bB ∧ k_ ≠ aQ ∧ k_ ≠ aS ∧ k_ ≠ bD ∧ k_ ≠ bI) (.slice eH bJ.length eD) bJ) ∧ Aside0 (w'.heap[aZ]? = some (.cells #[.int .i64 bK, .int .i64 bL, (.slice cQ aN.length cJ)] 25 (0, 0))) ∧ Aside0 (w'.heap[bB]? = some (.cells #[.int .i64 dS, .int .i64 dT, .int .i64 dU, .int .i64 dV, .int .i64 dW] 27 (0, 0))) ∧ Aside0 (w'.heap[aQ]? = some (.cells #[.int .i64 5, .int .i64 0, .int .i64 0, .int .i64 0, .int .i64 0] 27 (0, 0))) ∧ Aside0 (w'.heap[aS]? = some (.cells #[.int .i64 4, .int .i64 0, .int .i64 0, .int .i64 0, .int .i64 0] 27 (0, 0))) ∧ Aside0 (w'.heap[bD]? = some (.cells #[.int .i64 bT, .int .i64 bU, (.slice cI aL.length cH)] 25 (0, 0))) ∧ Aside0 (w'.heap[bI]? = some (.cells #[.int .i64 dX, .int .i64 dY, (.slice eH bJ.length eD)] 25 (0, 0))) ∧ Aside0 (Below w.heap.size w w'))
   case atStart => exact ⟨(0), (by first | rfl | (simp; done) | (simp [*]; done)), H', ⟨Nat.le_refl _⟩, ⟨(by (with_reducible repeat (first | apply Kd.Q_alloc | apply Kd.Q_drewN | apply Kd.Q_drew)); exact Kd.Q_mono (Kd.Q_far (p := ⟨bI, 2, none⟩) (Kd.Q_far (p := ⟨bI, 1, none⟩) (Kd.Q_far (p := ⟨bI, 0, none⟩) (Kd.Q_types bA.out aP.out oD) (fun _ hk => hk.2) (.int .i64 dX)) (fun _ hk => hk.2) (.int .i64 dY)) (fun _ hk => hk.2) (.slice eH bJ.length eD)) (fun _ hk => trivial))⟩, ⟨(by (with_reducible repeat (first | apply Kd.V_alloc | apply Kd.V_drewN | apply Kd.V_drew)); exact Kd.V_mono (Kd.V_far (p := ⟨bI, 2, none⟩) (Kd.V_far (p := ⟨bI, 1, none⟩) (Kd.V_far (p := ⟨bI, 0, none⟩) (Kd.V_mono cK.out (fun k_ hk => (⟨hk, hk.2⟩ : _ ∧ k_ ≠ bI))) (fun _ hk => hk.2) (.int .i64 dX)) (fun _ hk => hk.2) (.int .i64 dY)) (fun _ hk => hk.2) (.slice eH bJ.length eD)) oY)⟩, ⟨(by (with_reducible repeat (first | apply Kd.V_alloc | apply Kd.V_drewN | apply Kd.V_drew)); exact Kd.V_mono (Kd.V_far (p := ⟨bI, 2, none⟩) (Kd.V_far (p := ⟨bI, 1, none⟩) (Kd.V_far (p := ⟨bI, 0, none⟩) (Kd.V_mono eJ.out (fun k_ hk => (⟨hk, hk.2⟩ : _ ∧ k_ ≠ bI))) (fun _ hk => hk.2) (.int .i64 dX)) (fun _ hk => hk.2) (.int .i64 dY)) (fun _ hk => hk.2) (.slice eH bJ.length eD)) oY)⟩, ⟨(oP aB)⟩, ⟨(oP aG)⟩, ⟨(oP aD)⟩, ⟨(oP aH)⟩, ⟨(oP aM)⟩, ⟨(blk_put (blk_put (blk_put aP.out 0 _ rfl) 1 _ rfl) 2 _ rfl)⟩, ⟨(oB HB)⟩⟩
   case round =>
    clear H'
    try clear c1
    try clear c2
    try clear mH
    try clear mI
    try clear p2
    try clear c3
    try clear c4
    try clear c5
    try clear c8
    try clear c11
    try clear c16
    try clear c17
    try clear c18
    try clear c20
    try clear c21
    try clear c22
    try clear c24
    try clear c27
    try clear c33
    try clear c34
    try clear c35
    try clear c36
    try clear c45
    try clear c46
    try clear c47
    try clear c48
    try clear c49
    try clear gZ
    try clear hA
    try clear hB
    try clear hC
    try clear hD
    try clear hE
    try clear hF
    try clear hG
    try clear hH
    try clear hI
    try clear hJ
    try clear hL
    try clear hM
    try clear hN
    try clear hO
    try clear hP
    try clear hQ
    try clear hR
    try clear hS
    try clear hT
    try clear hU
    try clear hV
    try clear hW
    try clear hX
    try clear hY
    try clear hZ
    try clear iA
    try clear iB
    try clear iC
    try clear iD
    try clear iE
    try clear iF
    try clear iG
    try clear iH
    try clear iI
    try clear iJ
    try clear iK
    try clear iL
    try clear iM
    try clear iN
    try clear iO
    try clear iP
    try clear iQ
    try clear iR
    try clear iS
    try clear iT
    try clear iU
    try clear iV
    try clear iW
    try clear iX
    try clear iY
    try clear iZ
    try clear jA
    try clear jB
    try clear jC
    try clear jD
    try clear jE
    try clear jF
    try clear jG
    try clear jH
    try clear jI
    try clear jJ
    try clear jK
    try clear jL
    try clear jM
    try clear jN
    try clear jO
    try clear jP
    try clear jQ
    try clear jR
    try clear jS
    try clear jT
    try clear jU
    try clear jV
    try clear jW
    try clear jX
    try clear jY
    try clear jZ
    try clear kA
    try clear kB
    obtain ⟨aA, rfl, HA, HK1, aC, aE, aF, aB, aG, aD, aH, aM, aP, HB⟩ := hrel
    cases gk with
    | zero => exact nomatch (show none = some _ from HA.out)
    | succ k1 =>
     have H := HA.out
     clear HA
     simp only [laws_FnOpGray.l0] at H
     by_cases lT : aA < (aL.length : Int)
     ·rw [if_pos lT] at H
      have mJ : decide (aA < (aL.length : Int)) = true := decide_eq_true lT
      clear lT
      by_cases pZ : 0 ≤ aA
      ·rw [if_pos pZ] at H
       have tY : decide (0 ≤ aA) = true := decide_eq_true pZ
       clear pZ
       by_cases qA : aA < (aN.length : Int)
       ·rw [if_pos qA] at H
        have tZ : decide (aA < (aN.length : Int)) = true := decide_eq_true qA
        clear qA
        obtain ⟨ji55, hji55⟩ : ∃ j_ : Int, (mn ((rd_T38 aN aA).f1) ((rd_T38 aN aA).f2)) = j_ := ⟨_, rfl⟩
        replace H : (if ((rd_T38 aL aA).f0) = ((rd_T38 aL aA).f1) then (if ((rd_T38 aL aA).f1) = ((rd_T38 aL aA).f2) then (if ((rd_T38 aL aA).f3) = ((rd_T38 aN aA).f3) then (if ((rd_T38 aL aA).f0) < (mn ((rd_T38 aN aA).f0) (ji55)) then (none) else (if ((rd_T38 aL aA).f0) > (mx ((rd_T38 aN aA).f0) (mx ((rd_T38 aN aA).f1) ((rd_T38 aN aA).f2))) then (none) else (if aA < (bJ.length : Int) then (if (!(((rd_T38 bJ aA).f0) == ((rd_T38 aL aA).f0)) || (!(((rd_T38 bJ aA).f1) == ((rd_T38 aL aA).f1)) || (!(((rd_T38 bJ aA).f2) == ((rd_T38 aL aA).f2)) || (!(((rd_T38 bJ aA).f3) == ((rd_T38 aL aA).f3)))))) = true then (none) else (laws_FnOpGray.l0 k1 (wrap64 (aA + 1)) bK bL aN 5 0 0 0 0 4 0 0 0 0 bT bU aL dX dY bJ)) else (none)))) else (none)) else (none)) else (none)) = some r := by first | (rw [hji55] at H; exact H) | (simp only [hji55] at H ⊢; exact H)
        have rW : (if ((rd_T38 aN aA).f2) < ((rd_T38 aN aA).f1) then ((rd_T38 aN aA).f2) else ((rd_T38 aN aA).f1)) = ji55 := hji55
        obtain ⟨ji56, hji56⟩ : ∃ j_ : Int, (mn ((rd_T38 aN aA).f0) (ji55)) = j_ := ⟨_, rfl⟩
        replace H : (if ((rd_T38 aL aA).f0) = ((rd_T38 aL aA).f1) then (if ((rd_T38 aL aA).f1) = ((rd_T38 aL aA).f2) then (if ((rd_T38 aL aA).f3) = ((rd_T38 aN aA).f3) then (if ((rd_T38 aL aA).f0) < (ji56) then (none) else (if ((rd_T38 aL aA).f0) > (mx ((rd_T38 aN aA).f0) (mx ((rd_T38 aN aA).f1) ((rd_T38 aN aA).f2))) then (none) else (if aA < (bJ.length : Int) then (if (!(((rd_T38 bJ aA).f0) == ((rd_T38 aL aA).f0)) || (!(((rd_T38 bJ aA).f1) == ((rd_T38 aL aA).f1)) || (!(((rd_T38 bJ aA).f2) == ((rd_T38 aL aA).f2)) || (!(((rd_T38 bJ aA).f3) == ((rd_T38 aL aA).f3)))))) = true then (none) else (laws_FnOpGray.l0 k1 (wrap64 (aA + 1)) bK bL aN 5 0 0 0 0 4 0 0 0 0 bT bU aL dX dY bJ)) else (none)))) else (none)) else (none)) else (none)) = some r := by first | (rw [hji56] at H; exact H) | (simp only [hji56] at H ⊢; exact H)
        have rX : (if (ji55) < ((rd_T38 aN aA).f0) then (ji55) else ((rd_T38 aN aA).f0)) = ji56 := hji56
        obtain ⟨ji57, hji57⟩ : ∃ j_ : Int, (mx ((rd_T38 aN aA).f1) ((rd_T38 aN aA).f2)) = j_ := ⟨_, rfl⟩
        replace H : (if ((rd_T38 aL aA).f0) = ((rd_T38 aL aA).f1) then (if ((rd_T38 aL aA).f1) = ((rd_T38 aL aA).f2) then (if ((rd_T38 aL aA).f3) = ((rd_T38 aN aA).f3) then (if ((rd_T38 aL aA).f0) < (ji56) then (none) else (if ((rd_T38 aL aA).f0) > (mx ((rd_T38 aN aA).f0) (ji57)) then (none) else (if aA < (bJ.length : Int) then (if (!(((rd_T38 bJ aA).f0) == ((rd_T38 aL aA).f0)) || (!(((rd_T38 bJ aA).f1) == ((rd_T38 aL aA).f1)) || (!(((rd_T38 bJ aA).f2) == ((rd_T38 aL aA).f2)) || (!(((rd_T38 bJ aA).f3) == ((rd_T38 aL aA).f3)))))) = true then (none) else (laws_FnOpGray.l0 k1 (wrap64 (aA + 1)) bK bL aN 5 0 0 0 0 4 0 0 0 0 bT bU aL dX dY bJ)) else (none)))) else (none)) else (none)) else (none)) = some r := by first | (rw [hji57] at H; exact H) | (simp only [hji57] at H ⊢; exact H)
        have rY : (if ((rd_T38 aN aA).f1) < ((rd_T38 aN aA).f2) then ((rd_T38 aN aA).f2) else ((rd_T38 aN aA).f1)) = ji57 := hji57
        obtain ⟨ji58, hji58⟩ : ∃ j_ : Int, (mx ((rd_T38 aN aA).f0) (ji57)) = j_ := ⟨_, rfl⟩
        replace H : (if ((rd_T38 aL aA).f0) = ((rd_T38 aL aA).f1) then (if ((rd_T38 aL aA).f1) = ((rd_T38 aL aA).f2) then (if ((rd_T38 aL aA).f3) = ((rd_T38 aN aA).f3) then (if ((rd_T38 aL aA).f0) < (ji56) then (none) else (if ((rd_T38 aL aA).f0) > (ji58) then (none) else (if aA < (bJ.length : Int) then (if (!(((rd_T38 bJ aA).f0) == ((rd_T38 aL aA).f0)) || (!(((rd_T38 bJ aA).f1) == ((rd_T38 aL aA).f1)) || (!(((rd_T38 bJ aA).f2) == ((rd_T38 aL aA).f2)) || (!(((rd_T38 bJ aA).f3) == ((rd_T38 aL aA).f3)))))) = true then (none) else (laws_FnOpGray.l0 k1 (wrap64 (aA + 1)) bK bL aN 5 0 0 0 0 4 0 0 0 0 bT bU aL dX dY bJ)) else (none)))) else (none)) else (none)) else (none)) = some r := by first | (rw [hji58] at H; exact H) | (simp only [hji58] at H ⊢; exact H)
        have rZ : (if ((rd_T38 aN aA).f0) < (ji57) then (ji57) else ((rd_T38 aN aA).f0)) = ji58 := hji58
        by_cases lE : ((rd_T38 aL aA).f0) = ((rd_T38 aL aA).f1)
        ·rw [if_pos lE] at H
         have mK : (((rd_T38 aL aA).f0) == ((rd_T38 aL aA).f1)) = true := beq_iff_eq.mpr lE
         have mL : (((rd_T38 aL aA).f0) != ((rd_T38 aL aA).f1)) = false := bne_eq_false_iff_eq.mpr lE
         clear lE
         by_cases lF : ((rd_T38 aL aA).f1) = ((rd_T38 aL aA).f2)
         ·rw [if_pos lF] at H
          have mM : (((rd_T38 aL aA).f1) == ((rd_T38 aL aA).f2)) = true := beq_iff_eq.mpr lF
          have mN : (((rd_T38 aL aA).f1) != ((rd_T38 aL aA).f2)) = false := bne_eq_false_iff_eq.mpr lF
          clear lF
          by_cases lG : ((rd_T38 aL aA).f3) = ((rd_T38 aN aA).f3)
          ·rw [if_pos lG] at H
           have mO : (((rd_T38 aL aA).f3) == ((rd_T38 aN aA).f3)) = true := beq_iff_eq.mpr lG
           have mP : (((rd_T38 aL aA).f3) != ((rd_T38 aN aA).f3)) = false := bne_eq_false_iff_eq.mpr lG
           clear lG
           by_cases lU : ((rd_T38 aL aA).f0) < (ji56)
           ·rw [if_pos lU] at H
            have mQ : decide (((rd_T38 aL aA).f0) < (ji56)) = true := decide_eq_true lU
            clear lU
            exact absurd H (by simp)
           ·rw [if_neg lU] at H
            have mQ : decide (((rd_T38 aL aA).f0) < (ji56)) = false := decide_eq_false lU
            clear lU
            by_cases lV : ((rd_T38 aL aA).f0) > (ji58)
            ·rw [if_pos lV] at H
             have mR : decide ((ji58) < ((rd_T38 aL aA).f0)) = true := decide_eq_true lV
             clear lV
             exact absurd H (by simp)
            ·rw [if_neg lV] at H
             have mR : decide ((ji58) < ((rd_T38 aL aA).f0)) = false := decide_eq_false lV
             clear lV
             by_cases qB : aA < (bJ.length : Int)
             ·rw [if_pos qB] at H
              have uA : decide (aA < (bJ.length : Int)) = true := decide_eq_true qB
              clear qB
              by_cases qC : (!(((rd_T38 bJ aA).f0) == ((rd_T38 aL aA).f0)) || (!(((rd_T38 bJ aA).f1) == ((rd_T38 aL aA).f1)) || (!(((rd_T38 bJ aA).f2) == ((rd_T38 aL aA).f2)) || (!(((rd_T38 bJ aA).f3) == ((rd_T38 aL aA).f3)))))) = true
              ·rw [if_pos qC] at H
               exact absurd H (by simp)
              ·rw [if_neg qC] at H
               have uB : (!(((rd_T38 bJ aA).f0) == ((rd_T38 aL aA).f0)) || (!(((rd_T38 bJ aA).f1) == ((rd_T38 aL aA).f1)) || (!(((rd_T38 bJ aA).f2) == ((rd_T38 aL aA).f2)) || (!(((rd_T38 bJ aA).f3) == ((rd_T38 aL aA).f3)))))) = false := by simpa using qC
               clear qC
               have H' := Aside0.mk H
               clear H
               have uU := dM.out
               have wG := dC.out
               have uW := dN.out
               have wH := dF.out
               have uX := dO.out
               have wI := dI.out
               have uY := dP.out
               have wJ := dL.out
               have uZ := dQ.out
               have wK := dR.out
               have qF : wr.cell? ⟨bD, 0, none⟩ = some (.int .i64 bT) := (blk_cell aM.out 0).trans rfl
               have qG : wr.cell? ⟨bD, 1, none⟩ = some (.int .i64 bU) := (blk_cell aM.out 1).trans rfl
               have qH : wr.cell? ⟨bD, 2, none⟩ = some (.slice cI aL.length cH) := (blk_cell aM.out 2).trans rfl
               have qT := blk_frozen aM.out 0
               have qU := blk_frozen aM.out 1
               have qV := blk_frozen aM.out 2
               have lK : 0 ≤ (aA : Int) := of_decide_eq_true oM
               have lN : aA < (aL.length : Int) := of_decide_eq_true oM
               obtain ⟨kQ, rO, rH, rI, rJ, rK⟩ := at_T38 (Kd.V_reads' aE.out).2.2 aA lK lN
               cases rO
               replace lK := eq_true lK
               replace lN := eq_true lN
               try go_wp2_with (first | ((with_reducible refine gate_dst (N := 10) rfl ?_); (try (refine gate_guard (by rfl) ?_; dsimp only)); refine box_event ?hg (N := 10) ?hd (cs := #[.int .i64 0, .int .i64 0, .int .i64 0, .int .i64 0]) (t := 38) ?hr ?_; (case hd => rfl); (case hg => rfl); (case hr => first | (go_simp; done) | (go_simp; rfl)); intro bC hg lS hbox hb; have n_ := o2_ (Kd.Q_below (Kd.Q_elderB (oQ aC) bC (Nat.le_of_eq hg.symm)) hb) (o2_ (Kd.V_below (Kd.V_elderB (oV aE) bC (Nat.le_of_eq hg.symm)) hb) (o2_ (Kd.V_below (Kd.V_elderB (oV aF) bC (Nat.le_of_eq hg.symm)) hb) (o2_ (blk_below (oP aB) hb) (o2_ (blk_below (oP aG) hb) (o2_ (blk_below (oP aD) hb) (o2_ (blk_below (oP aH) hb) (o2_ (blk_below (oP aM) hb) (o2_ (blk_below (oP aP) hb) (o2_ (below_step (oB HB) hb) (o2_ (hbox) (o2_ ((oG hg (below_size (oB HB)) : w.heap.size ≤ bC)) (o2_ ((oG hg (below_size (oB HB)) : w.heap.size ≤ bC)) (o2_ ((oL hg (blk_lt (oP aB)))) (o2_ ((oN hg (blk_lt (oP aB)))) (o2_ ((oL hg (blk_lt (oP aG)))) (o2_ ((oN hg (blk_lt (oP aG)))) (o2_ ((oL hg (blk_lt (oP aD)))) (o2_ ((oN hg (blk_lt (oP aD)))) (o2_ ((oL hg (blk_lt (oP aH)))) (o2_ ((oN hg (blk_lt (oP aH)))) (o2_ ((oL hg (blk_lt (oP aM)))) (o2_ ((oN hg (blk_lt (oP aM)))) (o2_ ((oL hg (blk_lt (oP aP)))) (o1_ ((oN hg (blk_lt (oP aP)))))))))))))))))))))))))))); clear aC aE aF aB aG aD aH aM aP HB; obtain ⟨aC, aE, aF, aB, aG, aD, aH, aM, aP, HB, bM, tU, tQ, eT, fL, eW, fM, eZ, fN, fC, fO, fE, fP, fJ, fQ⟩ := n_; clear hb hbox hg; have vA := fL.out; have wL := eT.out; have vB := fM.out; have wM := eW.out; have vC := fN.out; have wN := eZ.out; have vD := fO.out; have wO := fC.out; have vE := fP.out; have wP := fE.out; have vF := fQ.out; have wQ := fJ.out; have qI : lS.cell? ⟨bC, 0, none⟩ = some (.int .i64 0) := (blk_cell bM.out 0).trans rfl; have qJ : lS.cell? ⟨bC, 1, none⟩ = some (.int .i64 0) := (blk_cell bM.out 1).trans rfl; have qK : lS.cell? ⟨bC, 2, none⟩ = some (.int .i64 0) := (blk_cell bM.out 2).trans rfl; have qL : lS.cell? ⟨bC, 3, none⟩ = some (.int .i64 0) := (blk_cell bM.out 3).trans rfl; have qW := blk_frozen bM.out 0; have qX := blk_frozen bM.out 1; have qY := blk_frozen bM.out 2; have qZ := blk_frozen bM.out 3; have vG := aR.out; have wR := cW.out; have vH := cU.out; have wS := cX.out; have vI := cV.out; have wT := cY.out; have vJ := eE.out; have wU := eF.out; have qM : lS.cell? ⟨aZ, 0, none⟩ = some (.int .i64 bK) := (blk_cell aB.out 0).trans rfl; have qN : lS.cell? ⟨aZ, 1, none⟩ = some (.int .i64 bL) := (blk_cell aB.out 1).trans rfl; have qO : lS.cell? ⟨aZ, 2, none⟩ = some (.slice cQ aN.length cJ) := (blk_cell aB.out 2).trans rfl; have rA := blk_frozen aB.out 0; have rB := blk_frozen aB.out 1; have rC := blk_frozen aB.out 2; have lL : 0 ≤ (aA : Int) := of_decide_eq_true oM; have lO : aA < (aN.length : Int) := of_decide_eq_true oM; obtain ⟨eG, rP, cM, cN, cO, cP⟩ := at_T38 (Kd.Q_reads' aC.out).2.2 aA lL lO; cases rP; have bW : eG.block ≠ bC := (by first | exact Kd.own_blk (Kd.Q_ne aC.out bM.out oD) | exact (aC.out.1 _ rfl).2); have bX : eG.block ≠ bC := (by first | exact Kd.own_blk (Kd.Q_ne aC.out bM.out oD) | exact (aC.out.1 _ rfl).2); have bY : eG.block ≠ bC := (by first | exact Kd.own_blk (Kd.Q_ne aC.out bM.out oD) | exact (aC.out.1 _ rfl).2); have bZ : eG.block ≠ bC := (by first | exact Kd.own_blk (Kd.Q_ne aC.out bM.out oD) | exact (aC.out.1 _ rfl).2); replace cM := (cell_far (p := ⟨bC, 0, none⟩) (by first | (rw [add_block]; exact bW) | (show (Addr.add _ _).block ≠ _; rw [add_block]; exact bW) | exact bW) (.int .i64 ((rd_T38 aL aA).f0))).trans cM; replace cN := (cell_far (p := ⟨bC, 0, none⟩) (by first | (rw [add_block]; exact bW) | (show (Addr.add _ _).block ≠ _; rw [add_block]; exact bW) | exact bW) (.int .i64 ((rd_T38 aL aA).f0))).trans cN; replace cO := (cell_far (p := ⟨bC, 0, none⟩) (by first | (rw [add_block]; exact bW) | (show (Addr.add _ _).block ≠ _; rw [add_block]; exact bW) | exact bW) (.int .i64 ((rd_T38 aL aA).f0))).trans cO; replace cP := (cell_far (p := ⟨bC, 0, none⟩) (by first | (rw [add_block]; exact bW) | (show (Addr.add _ _).block ≠ _; rw [add_block]; exact bW) | exact bW) (.int .i64 ((rd_T38 aL aA).f0))).trans cP; replace cM := (cell_far (p := ⟨bC, 1, none⟩) (by first | (rw [add_block]; exact bX) | (show (Addr.add _ _).block ≠ _; rw [add_block]; exact bX) | exact bX) (.int .i64 ((rd_T38 aL aA).f1))).trans cM; replace cN := (cell_far (p := ⟨bC, 1, none⟩) (by first | (rw [add_block]; exact bX) | (show (Addr.add _ _).block ≠ _; rw [add_block]; exact bX) | exact bX) (.int .i64 ((rd_T38 aL aA).f1))).trans cN; replace cO := (cell_far (p := ⟨bC, 1, none⟩) (by first | (rw [add_block]; exact bX) | (show (Addr.add _ _).block ≠ _; rw [add_block]; exact bX) | exact bX) (.int .i64 ((rd_T38 aL aA).f1))).trans cO; replace cP := (cell_far (p := ⟨bC, 1, none⟩) (by first | (rw [add_block]; exact bX) | (show (Addr.add _ _).block ≠ _; rw [add_block]; exact bX) | exact bX) (.int .i64 ((rd_T38 aL aA).f1))).trans cP; replace cM := (cell_far (p := ⟨bC, 2, none⟩) (by first | (rw [add_block]; exact bY) | (show (Addr.add _ _).block ≠ _; rw [add_block]; exact bY) | exact bY) (.int .i64 ((rd_T38 aL aA).f2))).trans cM; replace cN := (cell_far (p := ⟨bC, 2, none⟩) (by first | (rw [add_block]; exact bY) | (show (Addr.add _ _).block ≠ _; rw [add_block]; exact bY) | exact bY) (.int .i64 ((rd_T38 aL aA).f2))).trans cN; replace cO := (cell_far (p := ⟨bC, 2, none⟩) (by first | (rw [add_block]; exact bY) | (show (Addr.add _ _).block ≠ _; rw [add_block]; exact bY) | exact bY) (.int .i64 ((rd_T38 aL aA).f2))).trans cO; replace cP := (cell_far (p := ⟨bC, 2, none⟩) (by first | (rw [add_block]; exact bY) | (show (Addr.add _ _).block ≠ _; rw [add_block]; exact bY) | exact bY) (.int .i64 ((rd_T38 aL aA).f2))).trans cP; replace cM := (cell_far (p := ⟨bC, 3, none⟩) (by first | (rw [add_block]; exact bZ) | (show (Addr.add _ _).block ≠ _; rw [add_block]; exact bZ) | exact bZ) (.int .i64 ((rd_T38 aL aA).f3))).trans cM; replace cN := (cell_far (p := ⟨bC, 3, none⟩) (by first | (rw [add_block]; exact bZ) | (show (Addr.add _ _).block ≠ _; rw [add_block]; exact bZ) | exact bZ) (.int .i64 ((rd_T38 aL aA).f3))).trans cN; replace cO := (cell_far (p := ⟨bC, 3, none⟩) (by first | (rw [add_block]; exact bZ) | (show (Addr.add _ _).block ≠ _; rw [add_block]; exact bZ) | exact bZ) (.int .i64 ((rd_T38 aL aA).f3))).trans cO; replace cP := (cell_far (p := ⟨bC, 3, none⟩) (by first | (rw [add_block]; exact bZ) | (show (Addr.add _ _).block ≠ _; rw [add_block]; exact bZ) | exact bZ) (.int .i64 ((rd_T38 aL aA).f3))).trans cP; clear bW; clear bX; clear bY; clear bZ; replace lL := eq_true lL; replace lO := eq_true lO) | ((with_reducible refine gate_dst (N := 11) rfl ?_); (try (refine gate_guard (by rfl) ?_; dsimp only)); refine box_event ?hg (N := 11) ?hd (cs := #[.int .i64 0, .int .i64 0, .int .i64 0, .int .i64 0]) (t := 38) ?hr ?_; (case hd => rfl); (case hg => rfl); (case hr => first | (go_simp; done) | (go_simp; rfl)); intro aO hg eM hbox hb; have n_ := o2_ (Kd.Q_below (Kd.Q_elderB (by (with_reducible repeat (first | apply Kd.Q_alloc | apply Kd.Q_drewN | apply Kd.Q_drew)); exact (Kd.Q_mono (Kd.Q_far (p := ⟨bC, 3, none⟩) (Kd.Q_far (p := ⟨bC, 2, none⟩) (Kd.Q_far (p := ⟨bC, 1, none⟩) (Kd.Q_far (p := ⟨bC, 0, none⟩) (Kd.Q_mono aC.out (fun k_ hk => (⟨hk, hk.2⟩ : _ ∧ k_ ≠ bC))) (fun _ hk => hk.2) (.int .i64 ((rd_T38 aL aA).f0))) (fun _ hk => hk.2) (.int .i64 ((rd_T38 aL aA).f1))) (fun _ hk => hk.2) (.int .i64 ((rd_T38 aL aA).f2))) (fun _ hk => hk.2) (.int .i64 ((rd_T38 aL aA).f3))) (fun _ h_ => h_.1))) aO (Nat.le_of_eq hg.symm)) hb) (o2_ (Kd.V_below (Kd.V_elderB (by (with_reducible repeat (first | apply Kd.V_alloc | apply Kd.V_drewN | apply Kd.V_drew)); exact (Kd.V_mono (Kd.V_far (p := ⟨bC, 3, none⟩) (Kd.V_far (p := ⟨bC, 2, none⟩) (Kd.V_far (p := ⟨bC, 1, none⟩) (Kd.V_far (p := ⟨bC, 0, none⟩) (Kd.V_mono aE.out (fun k_ hk => (⟨hk, hk.2⟩ : _ ∧ k_ ≠ bC))) (fun _ hk => hk.2) (.int .i64 ((rd_T38 aL aA).f0))) (fun _ hk => hk.2) (.int .i64 ((rd_T38 aL aA).f1))) (fun _ hk => hk.2) (.int .i64 ((rd_T38 aL aA).f2))) (fun _ hk => hk.2) (.int .i64 ((rd_T38 aL aA).f3))) (fun _ h_ => h_.1))) aO (Nat.le_of_eq hg.symm)) hb) (o2_ (Kd.V_below (Kd.V_elderB (by (with_reducible repeat (first | apply Kd.V_alloc | apply Kd.V_drewN | apply Kd.V_drew)); exact (Kd.V_mono (Kd.V_far (p := ⟨bC, 3, none⟩) (Kd.V_far (p := ⟨bC, 2, none⟩) (Kd.V_far (p := ⟨bC, 1, none⟩) (Kd.V_far (p := ⟨bC, 0, none⟩) (Kd.V_mono aF.out (fun k_ hk => (⟨hk, hk.2⟩ : _ ∧ k_ ≠ bC))) (fun _ hk => hk.2) (.int .i64 ((rd_T38 aL aA).f0))) (fun _ hk => hk.2) (.int .i64 ((rd_T38 aL aA).f1))) (fun _ hk => hk.2) (.int .i64 ((rd_T38 aL aA).f2))) (fun _ hk => hk.2) (.int .i64 ((rd_T38 aL aA).f3))) (fun _ h_ => h_.1))) aO (Nat.le_of_eq hg.symm)) hb) (o2_ (blk_below (oP aB) hb) (o2_ (blk_below (oP aG) hb) (o2_ (blk_below (oP aD) hb) (o2_ (blk_below (oP aH) hb) (o2_ (blk_below (oP aM) hb) (o2_ (blk_below (oP aP) hb) (o2_ (blk_below (g := bC) (o := .cells #[.int .i64 ((rd_T38 aL aA).f0), .int .i64 ((rd_T38 aL aA).f1), .int .i64 ((rd_T38 aL aA).f2), .int .i64 ((rd_T38 aL aA).f3)] 38 (0, 0)) (blk_put (blk_put (blk_put (blk_put bM.out 0 _ rfl) 1 _ rfl) 2 _ rfl) 3 _ rfl) hb) (o2_ (below_step (oB HB) hb) (o2_ (hbox) (o2_ ((oG hg (below_size (oB HB)) : w.heap.size ≤ aO)) (o2_ ((oG hg (below_size (oB HB)) : w.heap.size ≤ aO)) (o2_ ((oL hg (blk_lt (oP aB)))) (o2_ ((oN hg (blk_lt (oP aB)))) (o2_ ((oL hg (blk_lt (oP aG)))) (o2_ ((oN hg (blk_lt (oP aG)))) (o2_ ((oL hg (blk_lt (oP aD)))) (o2_ ((oN hg (blk_lt (oP aD)))) (o2_ ((oL hg (blk_lt (oP aH)))) (o2_ ((oN hg (blk_lt (oP aH)))) (o2_ ((oL hg (blk_lt (oP aM)))) (o2_ ((oN hg (blk_lt (oP aM)))) (o2_ ((oL hg (blk_lt (oP aP)))) (o2_ ((oN hg (blk_lt (oP aP)))) (o2_ ((by rw [hg]; exact Nat.ne_of_lt (blk_lt (g := bC) (o := .cells #[.int .i64 ((rd_T38 aL aA).f0), .int .i64 ((rd_T38 aL aA).f1), .int .i64 ((rd_T38 aL aA).f2), .int .i64 ((rd_T38 aL aA).f3)] 38 (0, 0)) (blk_put (blk_put (blk_put (blk_put bM.out 0 _ rfl) 1 _ rfl) 2 _ rfl) 3 _ rfl)) : bC ≠ aO)) (o1_ ((by rw [hg]; exact Nat.ne_of_gt (blk_lt (g := bC) (o := .cells #[.int .i64 ((rd_T38 aL aA).f0), .int .i64 ((rd_T38 aL aA).f1), .int .i64 ((rd_T38 aL aA).f2), .int .i64 ((rd_T38 aL aA).f3)] 38 (0, 0)) (blk_put (blk_put (blk_put (blk_put bM.out 0 _ rfl) 1 _ rfl) 2 _ rfl) 3 _ rfl)) : aO ≠ bC))))))))))))))))))))))))))))); clear aC aE aF aB aG aD aH aM aP bM HB; obtain ⟨aC, aE, aF, aB, aG, aD, aH, aM, aP, bM, HB, cD, tV, tR, eU, fS, eX, fT, fA, fU, fD, fV, fF, fW, fK, fX, fR, fY⟩ := n_; clear hb hbox hg; have vK := fS.out; have wV := eU.out; have vL := fT.out; have wW := eX.out; have vM := fU.out; have wX := fA.out; have vN := fV.out; have wY := fD.out; have vO := fW.out; have wZ := fF.out; have vP := fX.out; have xA := fK.out; have vQ := fY.out; have xB := fR.out; have qP : eM.cell? ⟨aO, 0, none⟩ = some (.int .i64 0) := (blk_cell cD.out 0).trans rfl; have qQ : eM.cell? ⟨aO, 1, none⟩ = some (.int .i64 0) := (blk_cell cD.out 1).trans rfl; have qR : eM.cell? ⟨aO, 2, none⟩ = some (.int .i64 0) := (blk_cell cD.out 2).trans rfl; have qS : eM.cell? ⟨aO, 3, none⟩ = some (.int .i64 0) := (blk_cell cD.out 3).trans rfl; have rD := blk_frozen cD.out 0; have rE := blk_frozen cD.out 1; have rF := blk_frozen cD.out 2; have rG := blk_frozen cD.out 3))
               have gC : Aside0 (Kd.Q k38 38 ((((eM.setCell ⟨aO, 0, none⟩ (.int .i64 ((rd_T38 aN aA).f0))).setCell ⟨aO, 1, none⟩ (.int .i64 ((rd_T38 aN aA).f1))).setCell ⟨aO, 2, none⟩ (.int .i64 ((rd_T38 aN aA).f2))).setCell ⟨aO, 3, none⟩ (.int .i64 ((rd_T38 aN aA).f3))) w.heap.size (fun k_ => k_ ≠ bC ∧ k_ ≠ aO) (.slice (some eG) aN.length cJ) aN) := ⟨(by (with_reducible repeat (first | apply Kd.Q_alloc | apply Kd.Q_drewN | apply Kd.Q_drew)); exact Kd.Q_mono (Kd.Q_far (p := ⟨aO, 3, none⟩) (Kd.Q_far (p := ⟨aO, 2, none⟩) (Kd.Q_far (p := ⟨aO, 1, none⟩) (Kd.Q_far (p := ⟨aO, 0, none⟩) (Kd.Q_mono aC.out (fun k_ hk => (⟨hk, hk.2⟩ : _ ∧ k_ ≠ aO))) (fun _ hk => hk.2) (.int .i64 ((rd_T38 aN aA).f0))) (fun _ hk => hk.2) (.int .i64 ((rd_T38 aN aA).f1))) (fun _ hk => hk.2) (.int .i64 ((rd_T38 aN aA).f2))) (fun _ hk => hk.2) (.int .i64 ((rd_T38 aN aA).f3))) oY)⟩
               have gD : Aside0 (Kd.V k38 38 ((((eM.setCell ⟨aO, 0, none⟩ (.int .i64 ((rd_T38 aN aA).f0))).setCell ⟨aO, 1, none⟩ (.int .i64 ((rd_T38 aN aA).f1))).setCell ⟨aO, 2, none⟩ (.int .i64 ((rd_T38 aN aA).f2))).setCell ⟨aO, 3, none⟩ (.int .i64 ((rd_T38 aN aA).f3))) w.heap.size (fun k_ => k_ ≠ aZ ∧ k_ ≠ bB ∧ k_ ≠ aQ ∧ k_ ≠ aS ∧ k_ ≠ bD ∧ k_ ≠ bI ∧ k_ ≠ bC ∧ k_ ≠ aO) (.slice (some kQ) aL.length cH) aL) := ⟨(by (with_reducible repeat (first | apply Kd.V_alloc | apply Kd.V_drewN | apply Kd.V_drew)); exact Kd.V_mono (Kd.V_far (p := ⟨aO, 3, none⟩) (Kd.V_far (p := ⟨aO, 2, none⟩) (Kd.V_far (p := ⟨aO, 1, none⟩) (Kd.V_far (p := ⟨aO, 0, none⟩) (Kd.V_mono aE.out (fun k_ hk => (⟨hk, hk.2⟩ : _ ∧ k_ ≠ aO))) (fun _ hk => hk.2) (.int .i64 ((rd_T38 aN aA).f0))) (fun _ hk => hk.2) (.int .i64 ((rd_T38 aN aA).f1))) (fun _ hk => hk.2) (.int .i64 ((rd_T38 aN aA).f2))) (fun _ hk => hk.2) (.int .i64 ((rd_T38 aN aA).f3))) oY)⟩
               have gE : Aside0 (Kd.V k38 38 ((((eM.setCell ⟨aO, 0, none⟩ (.int .i64 ((rd_T38 aN aA).f0))).setCell ⟨aO, 1, none⟩ (.int .i64 ((rd_T38 aN aA).f1))).setCell ⟨aO, 2, none⟩ (.int .i64 ((rd_T38 aN aA).f2))).setCell ⟨aO, 3, none⟩ (.int .i64 ((rd_T38 aN aA).f3))) w.heap.size (fun k_ => k_ ≠ aZ ∧ k_ ≠ bB ∧ k_ ≠ aQ ∧ k_ ≠ aS ∧ k_ ≠ bD ∧ k_ ≠ bI ∧ k_ ≠ bC ∧ k_ ≠ aO) (.slice eH bJ.length eD) bJ) := ⟨(by (with_reducible repeat (first | apply Kd.V_alloc | apply Kd.V_drewN | apply Kd.V_drew)); exact Kd.V_mono (Kd.V_far (p := ⟨aO, 3, none⟩) (Kd.V_far (p := ⟨aO, 2, none⟩) (Kd.V_far (p := ⟨aO, 1, none⟩) (Kd.V_far (p := ⟨aO, 0, none⟩) (Kd.V_mono aF.out (fun k_ hk => (⟨hk, hk.2⟩ : _ ∧ k_ ≠ aO))) (fun _ hk => hk.2) (.int .i64 ((rd_T38 aN aA).f0))) (fun _ hk => hk.2) (.int .i64 ((rd_T38 aN aA).f1))) (fun _ hk => hk.2) (.int .i64 ((rd_T38 aN aA).f2))) (fun _ hk => hk.2) (.int .i64 ((rd_T38 aN aA).f3))) oY)⟩
               have gF : Aside0 (((((eM.setCell ⟨aO, 0, none⟩ (.int .i64 ((rd_T38 aN aA).f0))).setCell ⟨aO, 1, none⟩ (.int .i64 ((rd_T38 aN aA).f1))).setCell ⟨aO, 2, none⟩ (.int .i64 ((rd_T38 aN aA).f2))).setCell ⟨aO, 3, none⟩ (.int .i64 ((rd_T38 aN aA).f3))).heap[aZ]? = some (.cells #[.int .i64 bK, .int .i64 bL, .slice (some eG) aN.length cJ] 25 (0, 0))) := ⟨(oP aB)⟩
               have gG : Aside0 (((((eM.setCell ⟨aO, 0, none⟩ (.int .i64 ((rd_T38 aN aA).f0))).setCell ⟨aO, 1, none⟩ (.int .i64 ((rd_T38 aN aA).f1))).setCell ⟨aO, 2, none⟩ (.int .i64 ((rd_T38 aN aA).f2))).setCell ⟨aO, 3, none⟩ (.int .i64 ((rd_T38 aN aA).f3))).heap[bB]? = some (.cells #[.int .i64 dS, .int .i64 dT, .int .i64 dU, .int .i64 dV, .int .i64 dW] 27 (0, 0))) := ⟨(oP aG)⟩
               have gH : Aside0 (((((eM.setCell ⟨aO, 0, none⟩ (.int .i64 ((rd_T38 aN aA).f0))).setCell ⟨aO, 1, none⟩ (.int .i64 ((rd_T38 aN aA).f1))).setCell ⟨aO, 2, none⟩ (.int .i64 ((rd_T38 aN aA).f2))).setCell ⟨aO, 3, none⟩ (.int .i64 ((rd_T38 aN aA).f3))).heap[aQ]? = some (.cells #[.int .i64 5, .int .i64 0, .int .i64 0, .int .i64 0, .int .i64 0] 27 (0, 0))) := ⟨(oP aD)⟩
               have gI : Aside0 (((((eM.setCell ⟨aO, 0, none⟩ (.int .i64 ((rd_T38 aN aA).f0))).setCell ⟨aO, 1, none⟩ (.int .i64 ((rd_T38 aN aA).f1))).setCell ⟨aO, 2, none⟩ (.int .i64 ((rd_T38 aN aA).f2))).setCell ⟨aO, 3, none⟩ (.int .i64 ((rd_T38 aN aA).f3))).heap[aS]? = some (.cells #[.int .i64 4, .int .i64 0, .int .i64 0, .int .i64 0, .int .i64 0] 27 (0, 0))) := ⟨(oP aH)⟩
               have gJ : Aside0 (((((eM.setCell ⟨aO, 0, none⟩ (.int .i64 ((rd_T38 aN aA).f0))).setCell ⟨aO, 1, none⟩ (.int .i64 ((rd_T38 aN aA).f1))).setCell ⟨aO, 2, none⟩ (.int .i64 ((rd_T38 aN aA).f2))).setCell ⟨aO, 3, none⟩ (.int .i64 ((rd_T38 aN aA).f3))).heap[bD]? = some (.cells #[.int .i64 bT, .int .i64 bU, .slice (some kQ) aL.length cH] 25 (0, 0))) := ⟨(oP aM)⟩
               have gK : Aside0 (((((eM.setCell ⟨aO, 0, none⟩ (.int .i64 ((rd_T38 aN aA).f0))).setCell ⟨aO, 1, none⟩ (.int .i64 ((rd_T38 aN aA).f1))).setCell ⟨aO, 2, none⟩ (.int .i64 ((rd_T38 aN aA).f2))).setCell ⟨aO, 3, none⟩ (.int .i64 ((rd_T38 aN aA).f3))).heap[bI]? = some (.cells #[.int .i64 dX, .int .i64 dY, .slice eH bJ.length eD] 25 (0, 0))) := ⟨(oP aP)⟩
               have gL : Aside0 (((((eM.setCell ⟨aO, 0, none⟩ (.int .i64 ((rd_T38 aN aA).f0))).setCell ⟨aO, 1, none⟩ (.int .i64 ((rd_T38 aN aA).f1))).setCell ⟨aO, 2, none⟩ (.int .i64 ((rd_T38 aN aA).f2))).setCell ⟨aO, 3, none⟩ (.int .i64 ((rd_T38 aN aA).f3))).heap[bC]? = some (.cells #[.int .i64 ((rd_T38 aL aA).f0), .int .i64 ((rd_T38 aL aA).f1), .int .i64 ((rd_T38 aL aA).f2), .int .i64 ((rd_T38 aL aA).f3)] 38 (0, 0))) := ⟨(oP bM)⟩
               have eB : Aside0 (((((eM.setCell ⟨aO, 0, none⟩ (.int .i64 ((rd_T38 aN aA).f0))).setCell ⟨aO, 1, none⟩ (.int .i64 ((rd_T38 aN aA).f1))).setCell ⟨aO, 2, none⟩ (.int .i64 ((rd_T38 aN aA).f2))).setCell ⟨aO, 3, none⟩ (.int .i64 ((rd_T38 aN aA).f3))).heap[aO]? = some (.cells #[.int .i64 ((rd_T38 aN aA).f0), .int .i64 ((rd_T38 aN aA).f1), .int .i64 ((rd_T38 aN aA).f2), .int .i64 ((rd_T38 aN aA).f3)] 38 (0, 0))) := ⟨(blk_put (blk_put (blk_put (blk_put cD.out 0 _ rfl) 1 _ rfl) 2 _ rfl) 3 _ rfl)⟩
               have fZ : Aside0 (Below w.heap.size w ((((eM.setCell ⟨aO, 0, none⟩ (.int .i64 ((rd_T38 aN aA).f0))).setCell ⟨aO, 1, none⟩ (.int .i64 ((rd_T38 aN aA).f1))).setCell ⟨aO, 2, none⟩ (.int .i64 ((rd_T38 aN aA).f2))).setCell ⟨aO, 3, none⟩ (.int .i64 ((rd_T38 aN aA).f3)))) := ⟨(oB HB)⟩
               (try clear aC)
               (try clear aE)
               (try clear aF)
               (try clear aB)
               (try clear aG)
               (try clear aD)
               (try clear aH)
               (try clear aM)
               (try clear aP)
               (try clear bM)
               (try clear cD)
               (try clear HB)
               generalize ((((eM.setCell ⟨aO, 0, none⟩ (.int .i64 ((rd_T38 aN aA).f0))).setCell ⟨aO, 1, none⟩ (.int .i64 ((rd_T38 aN aA).f1))).setCell ⟨aO, 2, none⟩ (.int .i64 ((rd_T38 aN aA).f2))).setCell ⟨aO, 3, none⟩ (.int .i64 ((rd_T38 aN aA).f3))) = xW at gC gD gE gF gG gH gI gJ gK gL eB fZ ⊢
               have aC := gC
               have aE := gD
               have aF := gE
               have aB := gF
               have aG := gG
               have aD := gH
               have aH := gI
               have aM := gJ
               have aP := gK
               have bM := gL
               have cD := eB
               have HB := fZ
               clear gC gD gE gF gG gH gI gJ gK gL eB fZ
               have n_ := o2_ (Kd.Q_drew aC.out) (o2_ (Kd.V_drew aE.out) (o2_ (Kd.V_drew aF.out) (o2_ (blk_drew aB.out) (o2_ (blk_drew aG.out) (o2_ (blk_drew aD.out) (o2_ (blk_drew aH.out) (o2_ (blk_drew aM.out) (o2_ (blk_drew aP.out) (o2_ (blk_drew bM.out) (o2_ (blk_drew cD.out) (o1_ (below_drew1 HB.out))))))))))))
               clear aC aE aF aB aG aD aH aM aP bM cD HB
               obtain ⟨aC, aE, aF, aB, aG, aD, aH, aM, aP, bM, cD, HB⟩ := n_
               have lM : 0 ≤ (aA : Int) := of_decide_eq_true oM
               have lP : aA < (bJ.length : Int) := of_decide_eq_true oM
               obtain ⟨eA, rQ, eP, eQ, eR, eS⟩ := at_T38 (Kd.V_reads' aF.out).2.2 aA lM lP
               cases rQ
               replace lM := eq_true lM
               replace lP := eq_true lP
               refine start_ (n := 40) (S := fun w' => w'.cell? ⟨bC, 0, none⟩ = some (.int .i64 ((rd_T38 aL aA).f0)) ∧ w'.cell? ⟨bC, 1, none⟩ = some (.int .i64 ((rd_T38 aL aA).f1)) ∧ w'.cell? ⟨bC, 2, none⟩ = some (.int .i64 ((rd_T38 aL aA).f2)) ∧ w'.cell? ⟨bC, 3, none⟩ = some (.int .i64 ((rd_T38 aL aA).f3)) ∧ w'.cell? ⟨aO, 0, none⟩ = some (.int .i64 ((rd_T38 aN aA).f0)) ∧ w'.cell? ⟨aO, 1, none⟩ = some (.int .i64 ((rd_T38 aN aA).f1)) ∧ w'.cell? ⟨aO, 2, none⟩ = some (.int .i64 ((rd_T38 aN aA).f2)) ∧ w'.cell? ⟨aO, 3, none⟩ = some (.int .i64 ((rd_T38 aN aA).f3)) ∧ w'.cell? ⟨bI, 0, none⟩ = some (.int .i64 dX) ∧ w'.cell? ⟨bI, 1, none⟩ = some (.int .i64 dY) ∧ w'.cell? ⟨bI, 2, none⟩ = some (.slice (some eA) bJ.length eD) ∧ w'.cell? (eA.add ((aA).toNat * 4)) = some (.int .i64 ((rd_T38 bJ aA).f0)) ∧ w'.cell? ⟨(eA.add ((aA).toNat * 4)).block, (eA.add ((aA).toNat * 4)).off + 1, none⟩ = some (.int .i64 ((rd_T38 bJ aA).f1)) ∧ w'.cell? ⟨(eA.add ((aA).toNat * 4)).block, (eA.add ((aA).toNat * 4)).off + 2, none⟩ = some (.int .i64 ((rd_T38 bJ aA).f2)) ∧ w'.cell? ⟨(eA.add ((aA).toNat * 4)).block, (eA.add ((aA).toNat * 4)).off + 3, none⟩ = some (.int .i64 ((rd_T38 bJ aA).f3))) (ds := []) #[false, false, false, false, false, false, false, false, false, false, false, false, false, false, false, false, false, false, false, false, false, false, false, false, false, false, false, false, false, false, false, false, false, false, false, false, false, false, false, false] oK rfl rfl ⟨(blk_cell bM.out 0).trans rfl, (blk_cell bM.out 1).trans rfl, (blk_cell bM.out 2).trans rfl, (blk_cell bM.out 3).trans rfl, (blk_cell cD.out 0).trans rfl, (blk_cell cD.out 1).trans rfl, (blk_cell cD.out 2).trans rfl, (blk_cell cD.out 3).trans rfl, (blk_cell aP.out 0).trans rfl, (blk_cell aP.out 1).trans rfl, (blk_cell aP.out 2).trans rfl, eP, eQ, eR, eS⟩ (fun hHeld => ?_); refine with_tabW laws_FnOpGray.tab17 laws_FnOpGray.bits17 (fun HT_ HW_ => ?_)
               generalize xW.drew = yB at aC aE aF aB aG aD aH aM aP bM cD HB eP eQ eR eS hHeld ⊢
               refine pure_ (i := 0) (N := some 74) (v := ?_) (a' := ?_) #[true, false, false, false, false, false, false, false, false, false, false, false, false, false, false, false, false, false, false, false, false, false, false, false, false, false, false, false, false, false, false, false, false, false, false, false, false, false, false, false] rfl rfl (any_of HT_.out oK) (fun _ _ _ h => h) (Or.inl ⟨by rfl, ?_⟩) ?_ ?_
               rotate_left
               ·intro w'
                go_simp
                with_reducible rfl
               rotate_left
               ·simp only [Act.put, List.setIfInBounds_toArray, List.set_cons_zero, List.set_cons_succ, i64_w, i32_w]
                rfl
               refine pure_ (i := 2) (N := some 76) (v := ?_) (a' := ?_) #[true, false, true, false, false, false, false, false, false, false, false, false, false, false, false, false, false, false, false, false, false, false, false, false, false, false, false, false, false, false, false, false, false, false, false, false, false, false, false, false] rfl rfl (any_of HT_.out oK) (fun _ _ _ h => h) (Or.inl ⟨by rfl, ?_⟩) ?_ ?_
               rotate_left
               ·intro w'
                go_simp
                with_reducible rfl
               rotate_left
               ·simp only [Act.put, List.setIfInBounds_toArray, List.set_cons_zero, List.set_cons_succ, i64_w, i32_w]
                rfl
               refine take_ (i := 1) (N := some 75) (v := ?_) (a' := ?_) #[true, true, true, false, false, false, false, false, false, false, false, false, false, false, false, false, false, false, false, false, false, false, false, false, false, false, false, false, false, false, false, false, false, false, false, false, false, false, false, false] rfl rfl (take_ofW HT_.out HW_.out oK) (fun _ _ _ h => h) (Or.inl ⟨by rfl, ?_⟩) hHeld ?_ ?_
               rotate_left
               ·rintro w' ⟨s0, s1, s2, s3, s4, s5, s6, s7, s8, s9, s10, s11, s12, s13, s14⟩
                go_simp
                with_reducible rfl
               rotate_left
               ·simp only [Act.put, List.setIfInBounds_toArray, List.set_cons_zero, List.set_cons_succ, i64_w, i32_w]
                rfl
               refine take_ (i := 3) (N := some 77) (v := ?_) (a' := ?_) #[true, true, true, true, false, false, false, false, false, false, false, false, false, false, false, false, false, false, false, false, false, false, false, false, false, false, false, false, false, false, false, false, false, false, false, false, false, false, false, false] rfl rfl (take_ofW HT_.out HW_.out oK) (fun _ _ _ h => h) (Or.inl ⟨by rfl, ?_⟩) hHeld ?_ ?_
               rotate_left
               ·rintro w' ⟨s0, s1, s2, s3, s4, s5, s6, s7, s8, s9, s10, s11, s12, s13, s14⟩
                go_simp
                with_reducible rfl
               rotate_left
               ·simp only [Act.put, List.setIfInBounds_toArray, List.set_cons_zero, List.set_cons_succ, i64_w, i32_w]
                rfl
               refine pure_ (i := 4) (N := some 78) (v := ?_) (a' := ?_) #[true, true, true, true, true, false, false, false, false, false, false, false, false, false, false, false, false, false, false, false, false, false, false, false, false, false, false, false, false, false, false, false, false, false, false, false, false, false, false, false] rfl rfl (any_of HT_.out oK) (fun _ _ _ h => h) (Or.inl ⟨by rfl, ?_⟩) ?_ ?_
               rotate_left
               ·intro w'
                go_simp
                with_reducible rfl
               rotate_left
               ·simp only [Act.put, List.setIfInBounds_toArray, List.set_cons_zero, List.set_cons_succ, i64_w, i32_w]
                rfl
               refine pure_ (i := 5) (N := some 79) (v := ?_) (a' := ?_) #[true, true, true, true, true, true, false, false, false, false, false, false, false, false, false, false, false, false, false, false, false, false, false, false, false, false, false, false, false, false, false, false, false, false, false, false, false, false, false, false] rfl rfl (any_of HT_.out oK) (fun _ _ _ h => h) (Or.inl ⟨by rfl, ?_⟩) ?_ ?_
               rotate_left
               ·intro w'
                go_simp
                with_reducible rfl
               rotate_left
               ·simp only [Act.put, List.setIfInBounds_toArray, List.set_cons_zero, List.set_cons_succ, i64_w, i32_w]
                rfl
               refine pure_ (i := 6) (N := some 80) (v := ?_) (a' := ?_) #[true, true, true, true, true, true, true, false, false, false, false, false, false, false, false, false, false, false, false, false, false, false, false, false, false, false, false, false, false, false, false, false, false, false, false, false, false, false, false, false] rfl rfl (any_of HT_.out oK) (fun _ _ _ h => h) (Or.inl ⟨by rfl, ?_⟩) ?_ ?_
               rotate_left
               ·intro w'
                go_simp
                with_reducible rfl
               rotate_left
               ·simp only [Act.put, List.setIfInBounds_toArray, List.set_cons_zero, List.set_cons_succ, i64_w, i32_w]
                rfl
               refine pure_ (i := 8) (N := some 82) (v := ?_) (a' := ?_) #[true, true, true, true, true, true, true, false, true, false, false, false, false, false, false, false, false, false, false, false, false, false, false, false, false, false, false, false, false, false, false, false, false, false, false, false, false, false, false, false] rfl rfl (any_of HT_.out oK) (fun _ _ _ h => h) (Or.inl ⟨by rfl, ?_⟩) ?_ ?_
               rotate_left
               ·intro w'
                go_simp
                with_reducible rfl
               rotate_left
               ·simp only [Act.put, List.setIfInBounds_toArray, List.set_cons_zero, List.set_cons_succ, i64_w, i32_w]
                rfl
               refine take_ (i := 7) (N := some 81) (v := ?_) (a' := ?_) #[true, true, true, true, true, true, true, true, true, false, false, false, false, false, false, false, false, false, false, false, false, false, false, false, false, false, false, false, false, false, false, false, false, false, false, false, false, false, false, false] rfl rfl (take_ofW HT_.out HW_.out oK) (fun _ _ _ h => h) (Or.inl ⟨by rfl, ?_⟩) hHeld ?_ ?_
               rotate_left
               ·rintro w' ⟨s0, s1, s2, s3, s4, s5, s6, s7, s8, s9, s10, s11, s12, s13, s14⟩
                go_simp
                with_reducible rfl
               rotate_left
               ·simp only [Act.put, List.setIfInBounds_toArray, List.set_cons_zero, List.set_cons_succ, i64_w, i32_w]
                rfl
               refine take_ (i := 9) (N := some 83) (v := ?_) (a' := ?_) #[true, true, true, true, true, true, true, true, true, true, false, false, false, false, false, false, false, false, false, false, false, false, false, false, false, false, false, false, false, false, false, false, false, false, false, false, false, false, false, false] rfl rfl (take_ofW HT_.out HW_.out oK) (fun _ _ _ h => h) (Or.inl ⟨by rfl, ?_⟩) hHeld ?_ ?_
               rotate_left
               ·rintro w' ⟨s0, s1, s2, s3, s4, s5, s6, s7, s8, s9, s10, s11, s12, s13, s14⟩
                go_simp
                with_reducible rfl
               rotate_left
               ·simp only [Act.put, List.setIfInBounds_toArray, List.set_cons_zero, List.set_cons_succ, i64_w, i32_w]
                rfl
               refine pure_ (i := 10) (N := some 84) (v := ?_) (a' := ?_) #[true, true, true, true, true, true, true, true, true, true, true, false, false, false, false, false, false, false, false, false, false, false, false, false, false, false, false, false, false, false, false, false, false, false, false, false, false, false, false, false] rfl rfl (any_of HT_.out oK) (fun _ _ _ h => h) (Or.inl ⟨by rfl, ?_⟩) ?_ ?_
               rotate_left
               ·intro w'
                go_simp
                with_reducible rfl
               rotate_left
               ·simp only [Act.put, List.setIfInBounds_toArray, List.set_cons_zero, List.set_cons_succ, i64_w, i32_w]
                rfl
               refine pure_ (i := 11) (N := some 85) (v := ?_) (a' := ?_) #[true, true, true, true, true, true, true, true, true, true, true, true, false, false, false, false, false, false, false, false, false, false, false, false, false, false, false, false, false, false, false, false, false, false, false, false, false, false, false, false] rfl rfl (any_of HT_.out oK) (fun _ _ _ h => h) (Or.inl ⟨by rfl, ?_⟩) ?_ ?_
               rotate_left
               ·intro w'
                go_simp
                with_reducible rfl
               rotate_left
               ·simp only [Act.put, List.setIfInBounds_toArray, List.set_cons_zero, List.set_cons_succ, i64_w, i32_w]
                rfl
               refine pure_ (i := 12) (N := some 86) (v := ?_) (a' := ?_) #[true, true, true, true, true, true, true, true, true, true, true, true, true, false, false, false, false, false, false, false, false, false, false, false, false, false, false, false, false, false, false, false, false, false, false, false, false, false, false, false] rfl rfl (any_of HT_.out oK) (fun _ _ _ h => h) (Or.inl ⟨by rfl, ?_⟩) ?_ ?_
               rotate_left
               ·intro w'
                go_simp
                with_reducible rfl
               rotate_left
               ·simp only [Act.put, List.setIfInBounds_toArray, List.set_cons_zero, List.set_cons_succ, i64_w, i32_w]
                rfl
               refine pure_ (i := 13) (N := some 87) (v := ?_) (a' := ?_) #[true, true, true, true, true, true, true, true, true, true, true, true, true, true, false, false, false, false, false, false, false, false, false, false, false, false, false, false, false, false, false, false, false, false, false, false, false, false, false, false] rfl rfl (any_of HT_.out oK) (fun _ _ _ h => h) (Or.inl ⟨by rfl, ?_⟩) ?_ ?_
               rotate_left
               ·intro w'
                go_simp
                with_reducible rfl
               rotate_left
               ·simp only [Act.put, List.setIfInBounds_toArray, List.set_cons_zero, List.set_cons_succ, i64_w, i32_w]
                rfl
               refine pure_ (i := 15) (N := some 89) (v := ?_) (a' := ?_) #[true, true, true, true, true, true, true, true, true, true, true, true, true, true, false, true, false, false, false, false, false, false, false, false, false, false, false, false, false, false, false, false, false, false, false, false, false, false, false, false] rfl rfl (any_of HT_.out oK) (fun _ _ _ h => h) (Or.inl ⟨by rfl, ?_⟩) ?_ ?_
               rotate_left
               ·intro w'
                go_simp
                with_reducible rfl
               rotate_left
               ·simp only [Act.put, List.setIfInBounds_toArray, List.set_cons_zero, List.set_cons_succ, i64_w, i32_w]
                rfl
               refine take_ (i := 14) (N := some 88) (v := ?_) (a' := ?_) #[true, true, true, true, true, true, true, true, true, true, true, true, true, true, true, true, false, false, false, false, false, false, false, false, false, false, false, false, false, false, false, false, false, false, false, false, false, false, false, false] rfl rfl (take_ofW HT_.out HW_.out oK) (fun _ _ _ h => h) (Or.inl ⟨by rfl, ?_⟩) hHeld ?_ ?_
               rotate_left
               ·rintro w' ⟨s0, s1, s2, s3, s4, s5, s6, s7, s8, s9, s10, s11, s12, s13, s14⟩
                go_simp
                with_reducible rfl
               rotate_left
               ·simp only [Act.put, List.setIfInBounds_toArray, List.set_cons_zero, List.set_cons_succ, i64_w, i32_w]
                rfl
               refine take_ (i := 16) (N := some 90) (v := ?_) (a' := ?_) #[true, true, true, true, true, true, true, true, true, true, true, true, true, true, true, true, true, false, false, false, false, false, false, false, false, false, false, false, false, false, false, false, false, false, false, false, false, false, false, false] rfl rfl (take_ofW HT_.out HW_.out oK) (fun _ _ _ h => h) (Or.inl ⟨by rfl, ?_⟩) hHeld ?_ ?_
               rotate_left
               ·rintro w' ⟨s0, s1, s2, s3, s4, s5, s6, s7, s8, s9, s10, s11, s12, s13, s14⟩
                go_simp
                with_reducible rfl
               rotate_left
               ·simp only [Act.put, List.setIfInBounds_toArray, List.set_cons_zero, List.set_cons_succ, i64_w, i32_w]
                rfl
               refine pure_ (i := 17) (N := some 91) (v := ?_) (a' := ?_) #[true, true, true, true, true, true, true, true, true, true, true, true, true, true, true, true, true, true, false, false, false, false, false, false, false, false, false, false, false, false, false, false, false, false, false, false, false, false, false, false] rfl rfl (any_of HT_.out oK) (fun _ _ _ h => h) (Or.inl ⟨by rfl, ?_⟩) ?_ ?_
               rotate_left
               ·intro w'
                go_simp
                with_reducible rfl
               rotate_left
               ·simp only [Act.put, List.setIfInBounds_toArray, List.set_cons_zero, List.set_cons_succ, i64_w, i32_w]
                rfl
               refine pure_ (i := 18) (N := some 92) (v := ?_) (a' := ?_) #[true, true, true, true, true, true, true, true, true, true, true, true, true, true, true, true, true, true, true, false, false, false, false, false, false, false, false, false, false, false, false, false, false, false, false, false, false, false, false, false] rfl rfl (any_of HT_.out oK) (fun _ _ _ h => h) (Or.inl ⟨by rfl, ?_⟩) ?_ ?_
               rotate_left
               ·intro w'
                go_simp
                with_reducible rfl
               rotate_left
               ·simp only [Act.put, List.setIfInBounds_toArray, List.set_cons_zero, List.set_cons_succ, i64_w, i32_w]
                rfl
               refine pure_ (i := 19) (N := some 93) (v := ?_) (a' := ?_) #[true, true, true, true, true, true, true, true, true, true, true, true, true, true, true, true, true, true, true, true, false, false, false, false, false, false, false, false, false, false, false, false, false, false, false, false, false, false, false, false] rfl rfl (any_of HT_.out oK) (fun _ _ _ h => h) (Or.inl ⟨by rfl, ?_⟩) ?_ ?_
               rotate_left
               ·intro w'
                go_simp
                with_reducible rfl
               rotate_left
               ·simp only [Act.put, List.setIfInBounds_toArray, List.set_cons_zero, List.set_cons_succ, i64_w, i32_w]
                rfl
               refine pure_ (i := 20) (N := some 94) (v := ?_) (a' := ?_) #[true, true, true, true, true, true, true, true, true, true, true, true, true, true, true, true, true, true, true, true, true, false, false, false, false, false, false, false, false, false, false, false, false, false, false, false, false, false, false, false] rfl rfl (any_of HT_.out oK) (fun _ _ _ h => h) (Or.inl ⟨by rfl, ?_⟩) ?_ ?_
               rotate_left
               ·intro w'
                go_simp
                with_reducible rfl
               rotate_left
               ·simp only [Act.put, List.setIfInBounds_toArray, List.set_cons_zero, List.set_cons_succ, i64_w, i32_w]
                rfl
               refine pure_ (i := 22) (N := some 96) (v := ?_) (a' := ?_) #[true, true, true, true, true, true, true, true, true, true, true, true, true, true, true, true, true, true, true, true, true, false, true, false, false, false, false, false, false, false, false, false, false, false, false, false, false, false, false, false] rfl rfl (any_of HT_.out oK) (fun _ _ _ h => h) (Or.inl ⟨by rfl, ?_⟩) ?_ ?_
               rotate_left
               ·intro w'
                go_simp
                with_reducible rfl
               rotate_left
               ·simp only [Act.put, List.setIfInBounds_toArray, List.set_cons_zero, List.set_cons_succ, i64_w, i32_w]
                rfl
               refine take_ (i := 21) (N := some 95) (v := ?_) (a' := ?_) #[true, true, true, true, true, true, true, true, true, true, true, true, true, true, true, true, true, true, true, true, true, true, true, false, false, false, false, false, false, false, false, false, false, false, false, false, false, false, false, false] rfl rfl (take_ofW HT_.out HW_.out oK) (fun _ _ _ h => h) (Or.inl ⟨by rfl, ?_⟩) hHeld ?_ ?_
               rotate_left
               ·rintro w' ⟨s0, s1, s2, s3, s4, s5, s6, s7, s8, s9, s10, s11, s12, s13, s14⟩
                go_simp
                with_reducible rfl
               rotate_left
               ·simp only [Act.put, List.setIfInBounds_toArray, List.set_cons_zero, List.set_cons_succ, i64_w, i32_w]
                rfl
               refine pure_ (i := 23) (N := some 97) (v := ?_) (a' := ?_) #[true, true, true, true, true, true, true, true, true, true, true, true, true, true, true, true, true, true, true, true, true, true, true, true, false, false, false, false, false, false, false, false, false, false, false, false, false, false, false, false] rfl rfl (any_of HT_.out oK) (fun _ _ _ h => h) (Or.inl ⟨by rfl, ?_⟩) ?_ ?_
               rotate_left
               ·intro w'
                go_simp
                with_reducible rfl
               rotate_left
               ·simp only [Act.put, List.setIfInBounds_toArray, List.set_cons_zero, List.set_cons_succ, i64_w, i32_w]
                rfl
               refine pure_ (i := 24) (N := some 98) (v := ?_) (a' := ?_) #[true, true, true, true, true, true, true, true, true, true, true, true, true, true, true, true, true, true, true, true, true, true, true, true, true, false, false, false, false, false, false, false, false, false, false, false, false, false, false, false] rfl rfl (any_of HT_.out oK) (fun _ _ _ h => h) (Or.inl ⟨by rfl, ?_⟩) ?_ ?_
               rotate_left
               ·intro w'
                go_simp
                with_reducible rfl
               rotate_left
               ·simp only [Act.put, List.setIfInBounds_toArray, List.set_cons_zero, List.set_cons_succ, i64_w, i32_w]
                rfl
               refine pure_ (i := 25) (N := some 99) (v := ?_) (a' := ?_) #[true, true, true, true, true, true, true, true, true, true, true, true, true, true, true, true, true, true, true, true, true, true, true, true, true, true, false, false, false, false, false, false, false, false, false, false, false, false, false, false] rfl rfl (any_of HT_.out oK) (fun _ _ _ h => h) (Or.inl ⟨by rfl, ?_⟩) ?_ ?_
               rotate_left
               ·intro w'
                go_simp
                with_reducible rfl
               rotate_left
               ·simp only [Act.put, List.setIfInBounds_toArray, List.set_cons_zero, List.set_cons_succ, i64_w, i32_w]
                rfl
               refine pure_ (i := 26) (N := some 100) (v := ?_) (a' := ?_) #[true, true, true, true, true, true, true, true, true, true, true, true, true, true, true, true, true, true, true, true, true, true, true, true, true, true, true, false, false, false, false, false, false, false, false, false, false, false, false, false] rfl rfl (any_of HT_.out oK) (fun _ _ _ h => h) (Or.inl ⟨by rfl, ?_⟩) ?_ ?_
               rotate_left
               ·intro w'
                go_simp
                with_reducible rfl
               rotate_left
               ·simp only [Act.put, List.setIfInBounds_toArray, List.set_cons_zero, List.set_cons_succ, i64_w, i32_w]
                rfl
               refine pure_ (i := 28) (N := some 102) (v := ?_) (a' := ?_) #[true, true, true, true, true, true, true, true, true, true, true, true, true, true, true, true, true, true, true, true, true, true, true, true, true, true, true, false, true, false, false, false, false, false, false, false, false, false, false, false] rfl rfl (any_of HT_.out oK) (fun _ _ _ h => h) (Or.inl ⟨by rfl, ?_⟩) ?_ ?_
               rotate_left
               ·intro w'
                go_simp
                with_reducible rfl
               rotate_left
               ·simp only [Act.put, List.setIfInBounds_toArray, List.set_cons_zero, List.set_cons_succ, i64_w, i32_w]
                rfl
               refine take_ (i := 27) (N := some 101) (v := ?_) (a' := ?_) #[true, true, true, true, true, true, true, true, true, true, true, true, true, true, true, true, true, true, true, true, true, true, true, true, true, true, true, true, true, false, false, false, false, false, false, false, false, false, false, false] rfl rfl (take_ofW HT_.out HW_.out oK) (fun _ _ _ h => h) (Or.inl ⟨by rfl, ?_⟩) hHeld ?_ ?_
               rotate_left
               ·rintro w' ⟨s0, s1, s2, s3, s4, s5, s6, s7, s8, s9, s10, s11, s12, s13, s14⟩
                go_simp
                with_reducible rfl
               rotate_left
               ·simp only [Act.put, List.setIfInBounds_toArray, List.set_cons_zero, List.set_cons_succ, i64_w, i32_w]
                rfl
               refine pure_ (i := 29) (N := some 103) (v := ?_) (a' := ?_) #[true, true, true, true, true, true, true, true, true, true, true, true, true, true, true, true, true, true, true, true, true, true, true, true, true, true, true, true, true, true, false, false, false, false, false, false, false, false, false, false] rfl rfl (any_of HT_.out oK) (fun _ _ _ h => h) (Or.inl ⟨by rfl, ?_⟩) ?_ ?_
               rotate_left
               ·intro w'
                go_simp
                with_reducible rfl
               rotate_left
               ·simp only [Act.put, List.setIfInBounds_toArray, List.set_cons_zero, List.set_cons_succ, i64_w, i32_w]
                rfl
               refine pure_ (i := 30) (N := some 104) (v := ?_) (a' := ?_) #[true, true, true, true, true, true, true, true, true, true, true, true, true, true, true, true, true, true, true, true, true, true, true, true, true, true, true, true, true, true, true, false, false, false, false, false, false, false, false, false] rfl rfl (any_of HT_.out oK) (fun _ _ _ h => h) (Or.inl ⟨by rfl, ?_⟩) ?_ ?_
               rotate_left
               ·intro w'
                go_simp
                with_reducible rfl
               rotate_left
               ·simp only [Act.put, List.setIfInBounds_toArray, List.set_cons_zero, List.set_cons_succ, i64_w, i32_w]
                rfl
               refine pure_ (i := 31) (N := some 105) (v := ?_) (a' := ?_) #[true, true, true, true, true, true, true, true, true, true, true, true, true, true, true, true, true, true, true, true, true, true, true, true, true, true, true, true, true, true, true, true, false, false, false, false, false, false, false, false] rfl rfl (any_of HT_.out oK) (fun _ _ _ h => h) (Or.inl ⟨by rfl, ?_⟩) ?_ ?_
               rotate_left
               ·intro w'
                go_simp
                with_reducible rfl
               rotate_left
               ·simp only [Act.put, List.setIfInBounds_toArray, List.set_cons_zero, List.set_cons_succ, i64_w, i32_w]
                rfl
               refine pure_ (i := 32) (N := some 106) (v := ?_) (a' := ?_) #[true, true, true, true, true, true, true, true, true, true, true, true, true, true, true, true, true, true, true, true, true, true, true, true, true, true, true, true, true, true, true, true, true, false, false, false, false, false, false, false] rfl rfl (any_of HT_.out oK) (fun _ _ _ h => h) (Or.inl ⟨by rfl, ?_⟩) ?_ ?_
               rotate_left
               ·intro w'
                go_simp
                with_reducible rfl
               rotate_left
               ·simp only [Act.put, List.setIfInBounds_toArray, List.set_cons_zero, List.set_cons_succ, i64_w, i32_w]
                rfl
               refine pure_ (i := 34) (N := some 108) (v := ?_) (a' := ?_) #[true, true, true, true, true, true, true, true, true, true, true, true, true, true, true, true, true, true, true, true, true, true, true, true, true, true, true, true, true, true, true, true, true, false, true, false, false, false, false, false] rfl rfl (any_of HT_.out oK) (fun _ _ _ h => h) (Or.inl ⟨by rfl, ?_⟩) ?_ ?_
               rotate_left
               ·intro w'
                go_simp
                with_reducible rfl
               rotate_left
               ·simp only [Act.put, List.setIfInBounds_toArray, List.set_cons_zero, List.set_cons_succ, i64_w, i32_w]
                rfl
               refine take_ (i := 33) (N := some 107) (v := ?_) (a' := ?_) #[true, true, true, true, true, true, true, true, true, true, true, true, true, true, true, true, true, true, true, true, true, true, true, true, true, true, true, true, true, true, true, true, true, true, true, false, false, false, false, false] rfl rfl (take_ofW HT_.out HW_.out oK) (fun _ _ _ h => h) (Or.inl ⟨by rfl, ?_⟩) hHeld ?_ ?_
               rotate_left
               ·rintro w' ⟨s0, s1, s2, s3, s4, s5, s6, s7, s8, s9, s10, s11, s12, s13, s14⟩
                go_simp
                with_reducible rfl
               rotate_left
               ·simp only [Act.put, List.setIfInBounds_toArray, List.set_cons_zero, List.set_cons_succ, i64_w, i32_w]
                rfl
               refine pure_ (i := 35) (N := some 109) (v := ?_) (a' := ?_) #[true, true, true, true, true, true, true, true, true, true, true, true, true, true, true, true, true, true, true, true, true, true, true, true, true, true, true, true, true, true, true, true, true, true, true, true, false, false, false, false] rfl rfl (any_of HT_.out oK) (fun _ _ _ h => h) (Or.inl ⟨by rfl, ?_⟩) ?_ ?_
               rotate_left
               ·intro w'
                go_simp
                with_reducible rfl
               rotate_left
               ·simp only [Act.put, List.setIfInBounds_toArray, List.set_cons_zero, List.set_cons_succ, i64_w, i32_w]
                rfl
               refine take_ (i := 36) (N := some 110) (v := ?_) (a' := ?_) #[true, true, true, true, true, true, true, true, true, true, true, true, true, true, true, true, true, true, true, true, true, true, true, true, true, true, true, true, true, true, true, true, true, true, true, true, true, false, false, false] rfl rfl (take_ofW HT_.out HW_.out oK) (fun _ _ _ h => h) (Or.inl ⟨by rfl, ?_⟩) hHeld ?_ ?_
               rotate_left
               ·rintro w' ⟨s0, s1, s2, s3, s4, s5, s6, s7, s8, s9, s10, s11, s12, s13, s14⟩
                go_simp
                with_reducible rfl
               rotate_left
               ·simp only [Act.put, List.setIfInBounds_toArray, List.set_cons_zero, List.set_cons_succ, i64_w, i32_w]
                rfl
               refine take_ (i := 37) (N := some 111) (v := ?_) (a' := ?_) #[true, true, true, true, true, true, true, true, true, true, true, true, true, true, true, true, true, true, true, true, true, true, true, true, true, true, true, true, true, true, true, true, true, true, true, true, true, true, false, false] rfl rfl (take_ofW HT_.out HW_.out oK) (fun _ _ _ h => h) (Or.inl ⟨by rfl, ?_⟩) hHeld ?_ ?_
               rotate_left
               ·rintro w' ⟨s0, s1, s2, s3, s4, s5, s6, s7, s8, s9, s10, s11, s12, s13, s14⟩
                go_simp
                with_reducible rfl
               rotate_left
               ·simp only [Act.put, List.setIfInBounds_toArray, List.set_cons_zero, List.set_cons_succ, i64_w, i32_w]
                rfl
               refine pure_ (i := 38) (N := some 112) (v := ?_) (a' := ?_) #[true, true, true, true, true, true, true, true, true, true, true, true, true, true, true, true, true, true, true, true, true, true, true, true, true, true, true, true, true, true, true, true, true, true, true, true, true, true, true, false] rfl rfl (any_of HT_.out oK) (fun _ _ _ h => h) (Or.inl ⟨by rfl, ?_⟩) ?_ ?_
               rotate_left
               ·intro w'
                go_simp
                with_reducible rfl
               rotate_left
               ·simp only [Act.put, List.setIfInBounds_toArray, List.set_cons_zero, List.set_cons_succ, i64_w, i32_w]
                rfl
               refine pure_ (i := 39) (N := some 113) (v := ?_) (a' := ?_) #[true, true, true, true, true, true, true, true, true, true, true, true, true, true, true, true, true, true, true, true, true, true, true, true, true, true, true, true, true, true, true, true, true, true, true, true, true, true, true, true] rfl rfl (any_of HT_.out oK) (fun _ _ _ h => h) (Or.inl ⟨by rfl, ?_⟩) ?_ ?_
               rotate_left
               ·intro w'
                go_simp
                with_reducible rfl
               rotate_left
               ·simp only [Act.put, List.setIfInBounds_toArray, List.set_cons_zero, List.set_cons_succ, i64_w, i32_w]
                rfl
               refine done_ (done_of HT_.out oK) ?_
               try go_wp2
               go_roundg k1
               case measure => have := HK1.out; omega
               case rel => exact ⟨(wrap64 (aA + 1)), (by first | rfl | (simp; done) | (simp [*]; done)), H', ⟨(by have := HK1.out; omega)⟩, ⟨(by (with_reducible repeat (first | apply Kd.Q_alloc | apply Kd.Q_drewN | apply Kd.Q_drew)); exact Kd.Q_mono aC.out (fun _ hk => trivial))⟩, ⟨(by (with_reducible repeat (first | apply Kd.V_alloc | apply Kd.V_drewN | apply Kd.V_drew)); exact Kd.V_mono aE.out oY)⟩, ⟨(by (with_reducible repeat (first | apply Kd.V_alloc | apply Kd.V_drewN | apply Kd.V_drew)); exact Kd.V_mono aF.out oY)⟩, ⟨(oP aB)⟩, ⟨(oP aG)⟩, ⟨(oP aD)⟩, ⟨(oP aH)⟩, ⟨(oP aM)⟩, ⟨(oP aP)⟩, ⟨(oB HB)⟩⟩
             ·rw [if_neg qB] at H
              exact absurd H (by simp)
          ·rw [if_neg lG] at H
           have mO : (((rd_T38 aL aA).f3) == ((rd_T38 aN aA).f3)) = false := beq_eq_false_iff_ne.mpr lG
           have mP : (((rd_T38 aL aA).f3) != ((rd_T38 aN aA).f3)) = true := bne_iff_ne.mpr lG
           exact absurd H (by simp)
         ·rw [if_neg lF] at H
          have mM : (((rd_T38 aL aA).f1) == ((rd_T38 aL aA).f2)) = false := beq_eq_false_iff_ne.mpr lF
          have mN : (((rd_T38 aL aA).f1) != ((rd_T38 aL aA).f2)) = true := bne_iff_ne.mpr lF
          exact absurd H (by simp)
        ·rw [if_neg lE] at H
         have mK : (((rd_T38 aL aA).f0) == ((rd_T38 aL aA).f1)) = false := beq_eq_false_iff_ne.mpr lE
         have mL : (((rd_T38 aL aA).f0) != ((rd_T38 aL aA).f1)) = true := bne_iff_ne.mpr lE
         exact absurd H (by simp)
       ·rw [if_neg qA] at H
        exact absurd H (by simp)
      ·rw [if_neg pZ] at H
       exact absurd H (by simp)
     ·rw [if_neg lT] at H
      have mJ : decide (aA < (aL.length : Int)) = false := decide_eq_false lT
      clear lT
      replace H := Option.bind_eq_some_iff.mp H
      obtain ⟨lQ, lW, H⟩ := H
      (try dsimp only at H)
      have xC := Aside0.mk lW
      clear lW
      by_cases qD : lQ = true
      ·subst qD
       rw [if_pos rfl] at H
       obtain ⟨y780, hy780⟩ : ∃ y_ : List (S27), y_ = (([(⟨4, 0, 0, 0, 0⟩ : S27)] : List (S27))) := ⟨_, rfl⟩
       replace H : ((laws_eaDo.f k1 bT bU aL y780).bind fun eC => ((laws_eaDo.f k1 bK bL aN (([(⟨4, 0, 0, 0, 0⟩ : S27), (⟨5, 0, 0, 0, 0⟩ : S27)] : List (S27)))).bind fun cT => ((laws_eaRas.f k1 eC.1 eC.2.1 eC.2.2 cT.1 cT.2.1 cT.2.2).bind fun dA => (some dA)))) = some r := by first | (rw [hy780]; with_reducible exact H) | (have H2_ := (Option.bind_some _ _).symm.trans H; rw [hy780]; with_reducible exact H2_) | (have H2_ := (Option.bind_some _ _).symm.trans H; with_reducible exact H2_) | with_reducible exact H | (rw [hy780]; exact H) | exact H
       have kO := Aside0.mk hy780
       clear hy780
       replace H := Option.bind_eq_some_iff.mp H
       obtain ⟨⟨gA, gB, eN⟩, lX, H⟩ := H
       (try dsimp only at H)
       have xD := Aside0.mk lX
       clear lX
       obtain ⟨y788, hy788⟩ : ∃ y_ : List (S27), y_ = (([(⟨4, 0, 0, 0, 0⟩ : S27), (⟨5, 0, 0, 0, 0⟩ : S27)] : List (S27))) := ⟨_, rfl⟩
       replace H : ((laws_eaDo.f k1 bK bL aN y788).bind fun cT => ((laws_eaRas.f k1 gA gB eN cT.1 cT.2.1 cT.2.2).bind fun dA => (some dA))) = some r := by first | (rw [hy788]; with_reducible exact H) | (have H2_ := (Option.bind_some _ _).symm.trans H; rw [hy788]; with_reducible exact H2_) | (have H2_ := (Option.bind_some _ _).symm.trans H; with_reducible exact H2_) | with_reducible exact H | (rw [hy788]; exact H) | exact H
       have kP := Aside0.mk hy788
       clear hy788
       replace H := Option.bind_eq_some_iff.mp H
       obtain ⟨⟨gS, gT, gU⟩, lY, H⟩ := H
       (try dsimp only at H)
       have xE := Aside0.mk lY
       clear lY
       replace H := Option.bind_eq_some_iff.mp H
       obtain ⟨dA, kF, H⟩ := H
       (try dsimp only at H)
       have rL := Aside0.mk kF
       clear kF
       obtain rfl := Option.some.inj H
       have sA := dM.out
       have sL := dC.out
       have sB := dN.out
       have sM := dF.out
       have sC := dO.out
       have sN := dI.out
       have sD := dP.out
       have sO := dL.out
       have sE := dQ.out
       have sP := dR.out
       have nA : wr.cell? ⟨bD, 0, none⟩ = some (.int .i64 bT) := (blk_cell aM.out 0).trans rfl
       have nB : wr.cell? ⟨bD, 1, none⟩ = some (.int .i64 bU) := (blk_cell aM.out 1).trans rfl
       have nC : wr.cell? ⟨bD, 2, none⟩ = some (.slice cI aL.length cH) := (blk_cell aM.out 2).trans rfl
       have oS := blk_frozen aM.out 0
       have oT := blk_frozen aM.out 1
       have oU := blk_frozen aM.out 2
       try go_wp2
       have n_ := o2_ (Kd.Q_drew aC.out) (o2_ (Kd.V_drew aE.out) (o2_ (Kd.V_drew aF.out) (o2_ (blk_drew aB.out) (o2_ (blk_drew aG.out) (o2_ (blk_drew aD.out) (o2_ (blk_drew aH.out) (o2_ (blk_drew aM.out) (o2_ (blk_drew aP.out) (o1_ (below_drew1 HB.out))))))))))
       clear aC aE aF aB aG aD aH aM aP HB
       obtain ⟨aC, aE, aF, aB, aG, aD, aH, aM, aP, HB⟩ := n_
       refine start_ (n := 15) (S := fun w' => True) (ds := []) #[false, false, false, false, false, false, false, false, false, false, false, false, false, false, false] oK rfl rfl trivial (fun hHeld => ?_); refine with_tabW laws_FnOpGray.tab19 laws_FnOpGray.bits19 (fun HT_ HW_ => ?_)
       generalize wr.drew = xP at aC aE aF aB aG aD aH aM aP HB hHeld ⊢
       refine inv_at [0, 1, 2, 3, 4, 5, 6, 7, 8, 9, 10, 11, 12, 13, 14] (fun a0_ b a w' => ∃ (bS : Value) (bV : Value) (bQ : Value) (cB : Value) (cZ : Value) (cA : Value), a = putSel a0_ b [(0, 114, .agg #[.int .i64 bT, .int .i64 bU, .slice cI aL.length cH]), (1, 115, .bool true), (2, 116, .bool true), (3, 117, .agg #[.int .i64 bT, .int .i64 bU, .slice cI aL.length cH]), (4, 118, .agg #[.int .i64 4, .int .i64 0, .int .i64 0, .int .i64 0, .int .i64 0]), (5, 119, bS), (6, 120, cZ), (7, 121, .agg #[.int .i64 bK, .int .i64 bL, .slice cQ aN.length cJ]), (8, 122, .agg #[.int .i64 4, .int .i64 0, .int .i64 0, .int .i64 0, .int .i64 0]), (9, 123, .agg #[.int .i64 5, .int .i64 0, .int .i64 0, .int .i64 0, .int .i64 0]), (10, 124, bQ), (11, 125, cA), (12, 126, .bool dA), (13, 127, .bool dA), (14, 2, .bool dA)] ∧ (Kd.Q k38 38 w' w.heap.size (fun _ => True) (.slice cQ aN.length cJ) aN) ∧ (Kd.V k38 38 w' w.heap.size (fun k_ => k_ ≠ aZ ∧ k_ ≠ bB ∧ k_ ≠ aQ ∧ k_ ≠ aS ∧ k_ ≠ bD ∧ k_ ≠ bI) (.slice cI aL.length cH) aL) ∧ (Kd.V k38 38 w' w.heap.size (fun k_ => k_ ≠ aZ ∧ k_ ≠ bB ∧ k_ ≠ aQ ∧ k_ ≠ aS ∧ k_ ≠ bD ∧ k_ ≠ bI) (.slice eH bJ.length eD) bJ) ∧ (w'.heap[aZ]? = some (.cells #[.int .i64 bK, .int .i64 bL, .slice cQ aN.length cJ] 25 (0, 0))) ∧ (w'.heap[bB]? = some (.cells #[.int .i64 dS, .int .i64 dT, .int .i64 dU, .int .i64 dV, .int .i64 dW] 27 (0, 0))) ∧ (w'.heap[aQ]? = some (.cells #[.int .i64 5, .int .i64 0, .int .i64 0, .int .i64 0, .int .i64 0] 27 (0, 0))) ∧ (w'.heap[aS]? = some (.cells #[.int .i64 4, .int .i64 0, .int .i64 0, .int .i64 0, .int .i64 0] 27 (0, 0))) ∧ (w'.heap[bD]? = some (.cells #[.int .i64 bT, .int .i64 bU, .slice cI aL.length cH] 25 (0, 0))) ∧ (w'.heap[bI]? = some (.cells #[.int .i64 dX, .int .i64 dY, .slice eH bJ.length eD] 25 (0, 0))) ∧ (Below w.heap.size w w') ∧ (b 5 = true → Kd.R k27 27 w' w.heap.size (fun k_ => k_ ≠ bB ∧ k_ ≠ aQ ∧ k_ ≠ aS) bS y780) ∧ (b 6 = true → Kd.V k38 38 w' w.heap.size (fun k_ => k_ ≠ aZ ∧ k_ ≠ bB ∧ k_ ≠ aQ ∧ k_ ≠ aS ∧ k_ ≠ bD ∧ k_ ≠ bI) bV eN) ∧ (b 10 = true → Kd.R k27 27 w' w.heap.size (fun k_ => k_ ≠ bB ∧ k_ ≠ aQ ∧ k_ ≠ aS) bQ y788) ∧ (b 11 = true → Kd.V k38 38 w' w.heap.size (fun k_ => k_ ≠ aZ ∧ k_ ≠ bB ∧ k_ ≠ aQ ∧ k_ ≠ aS ∧ k_ ≠ bD ∧ k_ ≠ bI) cB gU) ∧ (b 6 = true → (cZ : Value) = .agg #[.int .i64 gA, .int .i64 gB, bV]) ∧ (b 11 = true → (cA : Value) = .agg #[.int .i64 gS, .int .i64 gT, cB])) HT_.out HW_.out oK oK ?_ ?_ ?_
       ·exact ⟨.bool false, .bool false, .bool false, .bool false, .bool false, .bool false, by simp only [putSel, Bool.false_eq_true, if_false], aC.out, aE.out, aF.out, aB.out, aG.out, aD.out, aH.out, aM.out, aP.out, HB.out, fun h_ => absurd h_ oD, fun h_ => absurd h_ oD, fun h_ => absurd h_ oD, fun h_ => absurd h_ oD, fun h_ => absurd h_ oD, fun h_ => absurd h_ oD⟩
       ·skip
        clear aB aG aD aH aM aP HB aC aE aF
        refine steps_cons ?_ ?_
        ·rintro b a w' ⟨bS, bV, bQ, cB, cZ, cA, ha, aI, aJ, aK, aT, aU, aV, aW, aX, aY, Q_HB, bE, bG, bF, bH, bO, bN⟩ hb_ hon hoff
         refine ⟨_, rfl, fun K hK => ?_⟩
         have e7 : a.tmps[7]? = some (.pointer (some ⟨bD, 0, none⟩)) := by rw [ha]; exact (putSel_off rfl).trans rfl
         replace ha := Aside0.mk ha
         obtain ⟨aC, aE, aF, aB, aG, aD, aH, aM, aP, HB⟩ := o2_ aI (o2_ aJ (o2_ aK (o2_ aT (o2_ aU (o2_ aV (o2_ aW (o2_ aX (o2_ aY (o1_ Q_HB)))))))))
         have gM : w'.cell? ⟨bD, 0, none⟩ = some (.int .i64 bT) := (blk_cell aM.out 0).trans rfl
         have gN : w'.cell? ⟨bD, 1, none⟩ = some (.int .i64 bU) := (blk_cell aM.out 1).trans rfl
         have gO : w'.cell? ⟨bD, 2, none⟩ = some (.slice cI aL.length cH) := (blk_cell aM.out 2).trans rfl
         refine value_ (w1 := w') (v := .agg #[.int .i64 bT, .int .i64 bU, .slice cI aL.length cH]) (by rfl) rfl ?_ ?_
         ·go_simp
          (try simp only [i64_w])
          try rfl
         refine hK.out _ _ ⟨bS, bV, bQ, cB, cZ, cA, (by rw [ha.out]; exact putSel_upk 0 hb_ rfl rfl rfl), aI, aJ, aK, aT, aU, aV, aW, aX, aY, Q_HB, oF (hoff 5 oK), oF (hoff 6 oK), oF (hoff 10 oK), oF (hoff 11 oK), oF (hoff 6 oK), oF (hoff 11 oK)⟩
        refine steps_cons ?_ ?_
        ·rintro b a w' ⟨bS, bV, bQ, cB, cZ, cA, ha, aI, aJ, aK, aT, aU, aV, aW, aX, aY, Q_HB, bE, bG, bF, bH, bO, bN⟩ hb_ hon hoff
         refine ⟨_, rfl, fun K hK => ?_⟩
         have mS : a.tmps[114]? = some (.agg #[.int .i64 bT, .int .i64 bU, .slice cI aL.length cH]) := by rw [ha]; exact putSel_on (e := (0, 114, .agg #[.int .i64 bT, .int .i64 bU, .slice cI aL.length cH])) 0 rfl rfl (hon 0 oK) rfl
         replace ha := Aside0.mk ha
         obtain ⟨aC, aE, aF, aB, aG, aD, aH, aM, aP, HB⟩ := o2_ aI (o2_ aJ (o2_ aK (o2_ aT (o2_ aU (o2_ aV (o2_ aW (o2_ aX (o2_ aY (o1_ Q_HB)))))))))
         refine goes_ Try.func26 oK rfl #[.agg #[.int .i64 bT, .int .i64 bU, .slice cI aL.length cH]] (by first | rfl | exact wanted_on rfl rfl rfl (by assumption)) rfl rfl (by first | (simp only [List.map_toArray, List.map_cons, List.map_nil, Act.eval, Array.getD_eq_getD_getElem?, Option.getD_some, mS]; done) | (simp only [List.map_toArray, List.map_cons, List.map_nil, Act.eval, Array.getD_eq_getD_getElem?, Option.getD_some, mS]; rfl)) ?_
         with_reducible refine (impl_RasOk.calls k1 bT bU _ _ aL true _ ?side1 ?side2 xC.out).mono ?_
         (case side1 => repeat (first | exact (Kd.V_reads' aE.out).2.2 | (with_reducible refine Kd.C_alloc ?_ _) | (with_reducible refine Kd.C_drewN ?_ _) | (with_reducible refine Kd.C_drew ?_)))
         (case side2 => exact (Kd.V_reads' aE.out).2.1)
         rintro e xQ ⟨rfl, hb⟩
         refine ⟨_, rfl, ?_⟩
         have n_ := o2_ (Kd.Q_below aC.out hb) (o2_ (Kd.V_below aE.out hb) (o2_ (Kd.V_below aF.out hb) (o2_ (blk_below aB.out hb) (o2_ (blk_below aG.out hb) (o2_ (blk_below aD.out hb) (o2_ (blk_below aH.out hb) (o2_ (blk_below aM.out hb) (o2_ (blk_below aP.out hb) (o1_ (below_step (oB HB) hb))))))))))
         clear aC aE aF aB aG aD aH aM aP HB
         obtain ⟨aC, aE, aF, aB, aG, aD, aH, aM, aP, HB⟩ := n_
         (try clear hb)
         (try clear hb2)
         (try clear hk)
         (try clear hi)
         refine hK.out _ _ ⟨bS, bV, bQ, cB, cZ, cA, (by rw [ha.out]; exact putSel_upk 1 hb_ rfl rfl rfl), aC.out, aE.out, aF.out, aB.out, aG.out, aD.out, aH.out, aM.out, aP.out, (oB HB), oF (hoff 5 oK), oF (hoff 6 oK), oF (hoff 10 oK), oF (hoff 11 oK), oF (hoff 6 oK), oF (hoff 11 oK)⟩
        refine steps_cons ?_ ?_
        ·rintro b a w' ⟨bS, bV, bQ, cB, cZ, cA, ha, aI, aJ, aK, aT, aU, aV, aW, aX, aY, Q_HB, bE, bG, bF, bH, bO, bN⟩ hb_ hon hoff
         refine ⟨_, rfl, fun K hK => ?_⟩
         have xF : a.tmps[115]? = some (.bool true) := by rw [ha]; exact putSel_on (e := (1, 115, .bool true)) 1 rfl rfl (hon 1 oK) rfl
         replace ha := Aside0.mk ha
         obtain ⟨aC, aE, aF, aB, aG, aD, aH, aM, aP, HB⟩ := o2_ aI (o2_ aJ (o2_ aK (o2_ aT (o2_ aU (o2_ aV (o2_ aW (o2_ aX (o2_ aY (o1_ Q_HB)))))))))
         refine value_ (w1 := w') (v := .bool true) (by rfl) rfl ?_ ?_
         ·go_simp
          (try simp only [i64_w])
          try rfl
         refine hK.out _ _ ⟨bS, bV, bQ, cB, cZ, cA, (by rw [ha.out]; exact putSel_upk 2 hb_ rfl rfl rfl), aI, aJ, aK, aT, aU, aV, aW, aX, aY, Q_HB, oF (hoff 5 oK), oF (hoff 6 oK), oF (hoff 10 oK), oF (hoff 11 oK), oF (hoff 6 oK), oF (hoff 11 oK)⟩
        refine steps_cons ?_ ?_
        ·rintro b a w' ⟨bS, bV, bQ, cB, cZ, cA, ha, aI, aJ, aK, aT, aU, aV, aW, aX, aY, Q_HB, bE, bG, bF, bH, bO, bN⟩ hb_ hon hoff
         refine ⟨_, rfl, fun K hK => ?_⟩
         have e7 : a.tmps[7]? = some (.pointer (some ⟨bD, 0, none⟩)) := by rw [ha]; exact (putSel_off rfl).trans rfl
         have cR : a.tmps[116]? = some (.bool true) := by rw [ha]; exact putSel_on (e := (2, 116, .bool true)) 2 rfl rfl (hon 2 oK) rfl
         replace ha := Aside0.mk ha
         obtain ⟨aC, aE, aF, aB, aG, aD, aH, aM, aP, HB⟩ := o2_ aI (o2_ aJ (o2_ aK (o2_ aT (o2_ aU (o2_ aV (o2_ aW (o2_ aX (o2_ aY (o1_ Q_HB)))))))))
         have gM : w'.cell? ⟨bD, 0, none⟩ = some (.int .i64 bT) := (blk_cell aM.out 0).trans rfl
         have gN : w'.cell? ⟨bD, 1, none⟩ = some (.int .i64 bU) := (blk_cell aM.out 1).trans rfl
         have gO : w'.cell? ⟨bD, 2, none⟩ = some (.slice cI aL.length cH) := (blk_cell aM.out 2).trans rfl
         refine value_ (w1 := w') (v := .agg #[.int .i64 bT, .int .i64 bU, .slice cI aL.length cH]) (wanted_on rfl rfl rfl (cR.trans (by first | rfl | (simp [*]; done)))) rfl ?_ ?_
         ·go_simp
          (try simp only [i64_w])
          try rfl
         refine hK.out _ _ ⟨bS, bV, bQ, cB, cZ, cA, (by rw [ha.out]; exact putSel_upk 3 hb_ rfl rfl rfl), aI, aJ, aK, aT, aU, aV, aW, aX, aY, Q_HB, bE, oF (hoff 6 oK), bF, oF (hoff 11 oK), oF (hoff 6 oK), oF (hoff 11 oK)⟩
        refine steps_cons ?_ ?_
        ·rintro b a w' ⟨bS, bV, bQ, cB, cZ, cA, ha, aI, aJ, aK, aT, aU, aV, aW, aX, aY, Q_HB, bE, bG, bF, bH, bO, bN⟩ hb_ hon hoff
         refine ⟨_, rfl, fun K hK => ?_⟩
         have e6 : a.tmps[6]? = some (.pointer (some ⟨aS, 0, none⟩)) := by rw [ha]; exact (putSel_off rfl).trans rfl
         have cR : a.tmps[116]? = some (.bool true) := by rw [ha]; exact putSel_on (e := (2, 116, .bool true)) 2 rfl rfl (hon 2 oK) rfl
         replace ha := Aside0.mk ha
         obtain ⟨aC, aE, aF, aB, aG, aD, aH, aM, aP, HB⟩ := o2_ aI (o2_ aJ (o2_ aK (o2_ aT (o2_ aU (o2_ aV (o2_ aW (o2_ aX (o2_ aY (o1_ Q_HB)))))))))
         have gM : w'.cell? ⟨aS, 0, none⟩ = some (.int .i64 4) := (blk_cell aH.out 0).trans rfl
         have gN : w'.cell? ⟨aS, 1, none⟩ = some (.int .i64 0) := (blk_cell aH.out 1).trans rfl
         have gO : w'.cell? ⟨aS, 2, none⟩ = some (.int .i64 0) := (blk_cell aH.out 2).trans rfl
         have mY : w'.cell? ⟨aS, 3, none⟩ = some (.int .i64 0) := (blk_cell aH.out 3).trans rfl
         have mZ : w'.cell? ⟨aS, 4, none⟩ = some (.int .i64 0) := (blk_cell aH.out 4).trans rfl
         refine value_ (w1 := w') (v := .agg #[.int .i64 4, .int .i64 0, .int .i64 0, .int .i64 0, .int .i64 0]) (wanted_on rfl rfl rfl (cR.trans (by first | rfl | (simp [*]; done)))) rfl ?_ ?_
         ·go_simp
          (try simp only [i64_w])
          try rfl
         refine hK.out _ _ ⟨bS, bV, bQ, cB, cZ, cA, (by rw [ha.out]; exact putSel_upk 4 hb_ rfl rfl rfl), aI, aJ, aK, aT, aU, aV, aW, aX, aY, Q_HB, oF (hoff 5 oK), oF (hoff 6 oK), bF, oF (hoff 11 oK), oF (hoff 6 oK), oF (hoff 11 oK)⟩
        refine steps_cons ?_ ?_
        ·rintro b a w' ⟨bS, bV, bQ, cB, cZ, cA, ha, aI, aJ, aK, aT, aU, aV, aW, aX, aY, Q_HB, bE, bG, bF, bH, bO, bN⟩ hb_ hon hoff
         refine ⟨_, rfl, fun K hK => ?_⟩
         have xG : a.tmps[118]? = some (.agg #[.int .i64 4, .int .i64 0, .int .i64 0, .int .i64 0, .int .i64 0]) := by rw [ha]; exact putSel_on (e := (4, 118, .agg #[.int .i64 4, .int .i64 0, .int .i64 0, .int .i64 0, .int .i64 0])) 4 rfl rfl (hon 4 oK) rfl
         have cR : a.tmps[116]? = some (.bool true) := by rw [ha]; exact putSel_on (e := (2, 116, .bool true)) 2 rfl rfl (hon 2 oK) rfl
         replace ha := Aside0.mk ha
         obtain ⟨aC, aE, aF, aB, aG, aD, aH, aM, aP, HB⟩ := o2_ aI (o2_ aJ (o2_ aK (o2_ aT (o2_ aU (o2_ aV (o2_ aW (o2_ aX (o2_ aY (o1_ Q_HB)))))))))
         refine Kd.R_lit_step k27 _ 27 ?hg (N := 119) ?hd (xs := ([(⟨4, 0, 0, 0, 0⟩ : S27)] : List (S27))) (inner := [.int .i64 4, .int .i64 0, .int .i64 0, .int .i64 0, .int .i64 0]) (ok := fun _ => True) (okp := fun _ => True) ?hr ?hp (fun _ hk => hk) trivial (Below.refl _ _) (Nat.le_refl _) (by simp) ?_; (case hd => rfl); (case hg => first | rfl | exact wanted_on rfl rfl rfl (by assumption)); (case hr => first | (go_simp; done) | (go_simp; rfl)); (case hp => exact (Reps.c5 (show Kd.M k27 _ _ _ (⟨4, 0, 0, 0, 0⟩ : S27) [.int .i64 4, .int .i64 0, .int .i64 0, .int .i64 0, .int .i64 0] from (k27_mkM _ _ _ (⟨4, 0, 0, 0, 0⟩ : S27) )) (Reps.none _ _)))
         intro bS kC ho111 hb hg_ hnew_
         clear hg_ hnew_
         (first | rw [← kO.out] at ho111 | (simp only [Int.reduceToNat] at ho111; rw [← kO.out] at ho111))
         have gC := Aside0.mk (Kd.Q_below aC.out hb)
         have gD := Aside0.mk (Kd.V_elder' aE.out (Kd.R_base ho111) hb)
         have gE := Aside0.mk (Kd.V_elder' aF.out (Kd.R_base ho111) hb)
         have gF := Aside0.mk (Kd.R_lower (Kd.R_newB (Kd.R_newB (Kd.R_newB ho111 aG.out) aD.out) aH.out) (below_size (oB HB)))
         have gG := Aside0.mk (blk_below aB.out hb)
         have gH := Aside0.mk (blk_below aG.out hb)
         have gI := Aside0.mk (blk_below aD.out hb)
         have gJ := Aside0.mk (blk_below aH.out hb)
         have gK := Aside0.mk (blk_below aM.out hb)
         have gL := Aside0.mk (blk_below aP.out hb)
         have eB := Aside0.mk (below_step (oB HB) hb)
         have eI := fun (h0_ : b 10 = true) => (show Kd.R k27 27 kC w.heap.size (fun k_ => k_ ≠ bB ∧ k_ ≠ aQ ∧ k_ ≠ aS) bQ y788 from by first | exact (Kd.R_elder' (uR ((bF h0_))) (Kd.R_base ho111) hb) | exact Kd.R_mono (Kd.R_elder' (uR ((bF h0_))) (Kd.R_base ho111) hb) (fun _ h_ => by first | trivial | exact h_ | exact h_.1))
         clear aC
         clear aE
         clear aF
         clear aB
         clear aG
         clear aD
         clear aH
         clear aM
         clear aP
         clear HB
         have aC := gC
         have aE := gD
         have aF := gE
         have bR := gF
         have aB := gG
         have aG := gH
         have aD := gI
         have aH := gJ
         have aM := gK
         have aP := gL
         have HB := eB
         clear gC gD gE gF gG gH gI gJ gK gL eB
         clear hb ho111
         refine hK.out _ _ ⟨bS, bV, bQ, cB, cZ, cA, (by rw [ha.out]; exact putSel_upk 5 hb_ rfl rfl rfl), aC.out, (by (with_reducible repeat (first | apply Kd.V_alloc | apply Kd.V_drewN | apply Kd.V_drew)); exact Kd.V_mono aE.out oY), (by (with_reducible repeat (first | apply Kd.V_alloc | apply Kd.V_drewN | apply Kd.V_drew)); exact Kd.V_mono aF.out oY), aB.out, aG.out, aD.out, aH.out, aM.out, aP.out, (oB HB), fun _ => (by (with_reducible repeat (first | apply Kd.R_alloc | apply Kd.R_drewN | apply Kd.R_drew)); exact Kd.R_mono bR.out oY), oF (hoff 6 oK), eI, oF (hoff 11 oK), oF (hoff 6 oK), oF (hoff 11 oK)⟩
        refine steps_cons ?_ ?_
        ·rintro b a w' ⟨bS, bV, bQ, cB, cZ, cA, ha, aI, aJ, aK, aT, aU, aV, aW, aX, aY, Q_HB, bE, bG, bF, bH, bO, bN⟩ hb_ hon hoff
         refine ⟨_, rfl, fun K hK => ?_⟩
         have mT : a.tmps[117]? = some (.agg #[.int .i64 bT, .int .i64 bU, .slice cI aL.length cH]) := by rw [ha]; exact putSel_on (e := (3, 117, .agg #[.int .i64 bT, .int .i64 bU, .slice cI aL.length cH])) 3 rfl rfl (hon 3 oK) rfl
         have mU : a.tmps[119]? = some (bS) := by rw [ha]; exact putSel_on (e := (5, 119, bS)) 5 rfl rfl (hon 5 oK) rfl
         have cR : a.tmps[116]? = some (.bool true) := by rw [ha]; exact putSel_on (e := (2, 116, .bool true)) 2 rfl rfl (hon 2 oK) rfl
         replace ha := Aside0.mk ha
         obtain ⟨aC, aE, aF, aB, aG, aD, aH, aM, aP, HB, bR⟩ := o2_ aI (o2_ aJ (o2_ aK (o2_ aT (o2_ aU (o2_ aV (o2_ aW (o2_ aX (o2_ aY (o2_ Q_HB (o1_ (bE (hon 5 oK))))))))))))
         obtain ⟨kI, kR, kV⟩ := Kd.R_slice bR.out
         (first | subst kV | (injection kV with f1_ f2_ f3_; have f4_ := f1_.symm; have f5_ := f3_.symm; clear f1_ f2_ f3_; subst f4_; subst f5_))
         refine goes_ Try.func27 oK rfl #[.agg #[.int .i64 bT, .int .i64 bU, .slice cI aL.length cH], .slice kI y780.length kR] (by first | rfl | exact wanted_on rfl rfl rfl (by assumption)) rfl rfl (by first | (simp only [List.map_toArray, List.map_cons, List.map_nil, Act.eval, Array.getD_eq_getD_getElem?, Option.getD_some, mT, mU, cR]; done) | (simp only [List.map_toArray, List.map_cons, List.map_nil, Act.eval, Array.getD_eq_getD_getElem?, Option.getD_some, mT, mU, cR]; rfl)) ?_
         with_reducible refine (laws_eaDo.calls k1 bT bU (fun k_ => k_ ≠ aZ ∧ (k_ ≠ bB ∧ (k_ ≠ aQ ∧ (k_ ≠ aS ∧ (k_ ≠ bD ∧ k_ ≠ bI))))) _ _ aL _ _ y780 gA gB eN _ ?side1 ?side2 ?side3 xD.out).mono ?_
         (case side1 => exact aE.out)
         (case side2 => repeat (first | exact (Kd.R_reads' bR.out).2.2 | (with_reducible refine Kd.C_alloc ?_ _) | (with_reducible refine Kd.C_drewN ?_ _) | (with_reducible refine Kd.C_drew ?_)))
         (case side3 => exact (Kd.R_reads' bR.out).2.1)
         rintro e sX ⟨bV, rfl, ho0, hb⟩
         refine ⟨_, rfl, ?_⟩
         have gC := Aside0.mk (Kd.Q_below aC.out hb)
         have gD := Aside0.mk (Kd.V_below aE.out hb)
         have gE := Aside0.mk (Kd.V_below aF.out hb)
         have gF := Aside0.mk (Kd.R_below bR.out hb)
         have gG := Aside0.mk (Kd.V_lower (Kd.V_mono (ok' := fun k_ => k_ ≠ aZ ∧ k_ ≠ bB ∧ k_ ≠ aQ ∧ k_ ≠ aS ∧ k_ ≠ bD ∧ k_ ≠ bI) ho0 (fun k_ hk_ => ⟨Or.elim hk_ (fun hs_ => hs_.1) (fun hn_ => (Kd.freshB aB.out k_ hn_)), Or.elim hk_ (fun hs_ => hs_.2.1) (fun hn_ => (Kd.freshB aG.out k_ hn_)), Or.elim hk_ (fun hs_ => hs_.2.2.1) (fun hn_ => (Kd.freshB aD.out k_ hn_)), Or.elim hk_ (fun hs_ => hs_.2.2.2.1) (fun hn_ => (Kd.freshB aH.out k_ hn_)), Or.elim hk_ (fun hs_ => hs_.2.2.2.2.1) (fun hn_ => (Kd.freshB aM.out k_ hn_)), Or.elim hk_ (fun hs_ => hs_.2.2.2.2.2) (fun hn_ => (Kd.freshB aP.out k_ hn_))⟩)) (below_size (oB HB)))
         have gH := Aside0.mk (blk_below aB.out hb)
         have gI := Aside0.mk (blk_below aG.out hb)
         have gJ := Aside0.mk (blk_below aD.out hb)
         have gK := Aside0.mk (blk_below aH.out hb)
         have gL := Aside0.mk (blk_below aM.out hb)
         have eB := Aside0.mk (blk_below aP.out hb)
         have fZ := Aside0.mk (below_step (oB HB) hb)
         have eI := fun (h0_ : b 10 = true) => (show Kd.R k27 27 sX w.heap.size (fun k_ => k_ ≠ bB ∧ k_ ≠ aQ ∧ k_ ≠ aS) bQ y788 from by first | exact (Kd.R_below (uR ((bF h0_))) hb) | exact Kd.R_mono (Kd.R_below (uR ((bF h0_))) hb) (fun _ h_ => by first | trivial | exact h_ | exact h_.1))
         clear aC
         clear aE
         clear aF
         clear bR
         clear aB
         clear aG
         clear aD
         clear aH
         clear aM
         clear aP
         clear HB
         have aC := gC
         have aE := gD
         have aF := gE
         have bR := gF
         have cG := gG
         have aB := gH
         have aG := gI
         have aD := gJ
         have aH := gK
         have aM := gL
         have aP := eB
         have HB := fZ
         clear gC gD gE gF gG gH gI gJ gK gL eB fZ
         (try clear hb)
         (try clear hb2)
         (try clear hk)
         (try clear hi)
         (try clear ho0)
         refine hK.out _ _ ⟨.slice kI y780.length kR, bV, bQ, cB, (.agg #[.int .i64 gA, .int .i64 gB, bV]), cA, (by rw [ha.out]; exact putSel_upk 6 hb_ rfl rfl rfl), aC.out, aE.out, aF.out, aB.out, aG.out, aD.out, aH.out, aM.out, aP.out, (oB HB), fun _ => bR.out, fun _ => cG.out, eI, oF (hoff 11 oK), fun _ => rfl, oF (hoff 11 oK)⟩
        refine steps_cons ?_ ?_
        ·rintro b a w' ⟨bS, bV, bQ, cB, cZ, cA, ha, aI, aJ, aK, aT, aU, aV, aW, aX, aY, Q_HB, bE, bG, bF, bH, bO, bN⟩ hb_ hon hoff
         refine ⟨_, rfl, fun K hK => ?_⟩
         have e3 : a.tmps[3]? = some (.pointer (some ⟨aZ, 0, none⟩)) := by rw [ha]; exact (putSel_off rfl).trans rfl
         have cR : a.tmps[116]? = some (.bool true) := by rw [ha]; exact putSel_on (e := (2, 116, .bool true)) 2 rfl rfl (hon 2 oK) rfl
         replace ha := Aside0.mk ha
         obtain ⟨aC, aE, aF, aB, aG, aD, aH, aM, aP, HB⟩ := o2_ aI (o2_ aJ (o2_ aK (o2_ aT (o2_ aU (o2_ aV (o2_ aW (o2_ aX (o2_ aY (o1_ Q_HB)))))))))
         have gM : w'.cell? ⟨aZ, 0, none⟩ = some (.int .i64 bK) := (blk_cell aB.out 0).trans rfl
         have gN : w'.cell? ⟨aZ, 1, none⟩ = some (.int .i64 bL) := (blk_cell aB.out 1).trans rfl
         have gO : w'.cell? ⟨aZ, 2, none⟩ = some (.slice cQ aN.length cJ) := (blk_cell aB.out 2).trans rfl
         refine value_ (w1 := w') (v := .agg #[.int .i64 bK, .int .i64 bL, .slice cQ aN.length cJ]) (wanted_on rfl rfl rfl (cR.trans (by first | rfl | (simp [*]; done)))) rfl ?_ ?_
         ·go_simp
          (try simp only [i64_w])
          try rfl
         refine hK.out _ _ ⟨bS, bV, bQ, cB, cZ, cA, (by rw [ha.out]; exact putSel_upk 7 hb_ rfl rfl rfl), aI, aJ, aK, aT, aU, aV, aW, aX, aY, Q_HB, bE, bG, bF, oF (hoff 11 oK), bO, oF (hoff 11 oK)⟩
        refine steps_cons ?_ ?_
        ·rintro b a w' ⟨bS, bV, bQ, cB, cZ, cA, ha, aI, aJ, aK, aT, aU, aV, aW, aX, aY, Q_HB, bE, bG, bF, bH, bO, bN⟩ hb_ hon hoff
         refine ⟨_, rfl, fun K hK => ?_⟩
         have e6 : a.tmps[6]? = some (.pointer (some ⟨aS, 0, none⟩)) := by rw [ha]; exact (putSel_off rfl).trans rfl
         have cR : a.tmps[116]? = some (.bool true) := by rw [ha]; exact putSel_on (e := (2, 116, .bool true)) 2 rfl rfl (hon 2 oK) rfl
         replace ha := Aside0.mk ha
         obtain ⟨aC, aE, aF, aB, aG, aD, aH, aM, aP, HB⟩ := o2_ aI (o2_ aJ (o2_ aK (o2_ aT (o2_ aU (o2_ aV (o2_ aW (o2_ aX (o2_ aY (o1_ Q_HB)))))))))
         have gM : w'.cell? ⟨aS, 0, none⟩ = some (.int .i64 4) := (blk_cell aH.out 0).trans rfl
         have gN : w'.cell? ⟨aS, 1, none⟩ = some (.int .i64 0) := (blk_cell aH.out 1).trans rfl
         have gO : w'.cell? ⟨aS, 2, none⟩ = some (.int .i64 0) := (blk_cell aH.out 2).trans rfl
         have mY : w'.cell? ⟨aS, 3, none⟩ = some (.int .i64 0) := (blk_cell aH.out 3).trans rfl
         have mZ : w'.cell? ⟨aS, 4, none⟩ = some (.int .i64 0) := (blk_cell aH.out 4).trans rfl
         refine value_ (w1 := w') (v := .agg #[.int .i64 4, .int .i64 0, .int .i64 0, .int .i64 0, .int .i64 0]) (wanted_on rfl rfl rfl (cR.trans (by first | rfl | (simp [*]; done)))) rfl ?_ ?_
         ·go_simp
          (try simp only [i64_w])
          try rfl
         refine hK.out _ _ ⟨bS, bV, bQ, cB, cZ, cA, (by rw [ha.out]; exact putSel_upk 8 hb_ rfl rfl rfl), aI, aJ, aK, aT, aU, aV, aW, aX, aY, Q_HB, bE, bG, oF (hoff 10 oK), oF (hoff 11 oK), bO, oF (hoff 11 oK)⟩
        refine steps_cons ?_ ?_
        ·rintro b a w' ⟨bS, bV, bQ, cB, cZ, cA, ha, aI, aJ, aK, aT, aU, aV, aW, aX, aY, Q_HB, bE, bG, bF, bH, bO, bN⟩ hb_ hon hoff
         refine ⟨_, rfl, fun K hK => ?_⟩
         have e5 : a.tmps[5]? = some (.pointer (some ⟨aQ, 0, none⟩)) := by rw [ha]; exact (putSel_off rfl).trans rfl
         have cR : a.tmps[116]? = some (.bool true) := by rw [ha]; exact putSel_on (e := (2, 116, .bool true)) 2 rfl rfl (hon 2 oK) rfl
         replace ha := Aside0.mk ha
         obtain ⟨aC, aE, aF, aB, aG, aD, aH, aM, aP, HB⟩ := o2_ aI (o2_ aJ (o2_ aK (o2_ aT (o2_ aU (o2_ aV (o2_ aW (o2_ aX (o2_ aY (o1_ Q_HB)))))))))
         have gM : w'.cell? ⟨aQ, 0, none⟩ = some (.int .i64 5) := (blk_cell aD.out 0).trans rfl
         have gN : w'.cell? ⟨aQ, 1, none⟩ = some (.int .i64 0) := (blk_cell aD.out 1).trans rfl
         have gO : w'.cell? ⟨aQ, 2, none⟩ = some (.int .i64 0) := (blk_cell aD.out 2).trans rfl
         have mY : w'.cell? ⟨aQ, 3, none⟩ = some (.int .i64 0) := (blk_cell aD.out 3).trans rfl
         have mZ : w'.cell? ⟨aQ, 4, none⟩ = some (.int .i64 0) := (blk_cell aD.out 4).trans rfl
         refine value_ (w1 := w') (v := .agg #[.int .i64 5, .int .i64 0, .int .i64 0, .int .i64 0, .int .i64 0]) (wanted_on rfl rfl rfl (cR.trans (by first | rfl | (simp [*]; done)))) rfl ?_ ?_
         ·go_simp
          (try simp only [i64_w])
          try rfl
         refine hK.out _ _ ⟨bS, bV, bQ, cB, cZ, cA, (by rw [ha.out]; exact putSel_upk 9 hb_ rfl rfl rfl), aI, aJ, aK, aT, aU, aV, aW, aX, aY, Q_HB, bE, bG, oF (hoff 10 oK), oF (hoff 11 oK), bO, oF (hoff 11 oK)⟩
        refine steps_cons ?_ ?_
        ·rintro b a w' ⟨bS, bV, bQ, cB, cZ, cA, ha, aI, aJ, aK, aT, aU, aV, aW, aX, aY, Q_HB, bE, bG, bF, bH, bO, bN⟩ hb_ hon hoff
         refine ⟨_, rfl, fun K hK => ?_⟩
         have xH : a.tmps[122]? = some (.agg #[.int .i64 4, .int .i64 0, .int .i64 0, .int .i64 0, .int .i64 0]) := by rw [ha]; exact putSel_on (e := (8, 122, .agg #[.int .i64 4, .int .i64 0, .int .i64 0, .int .i64 0, .int .i64 0])) 8 rfl rfl (hon 8 oK) rfl
         have xI : a.tmps[123]? = some (.agg #[.int .i64 5, .int .i64 0, .int .i64 0, .int .i64 0, .int .i64 0]) := by rw [ha]; exact putSel_on (e := (9, 123, .agg #[.int .i64 5, .int .i64 0, .int .i64 0, .int .i64 0, .int .i64 0])) 9 rfl rfl (hon 9 oK) rfl
         have cR : a.tmps[116]? = some (.bool true) := by rw [ha]; exact putSel_on (e := (2, 116, .bool true)) 2 rfl rfl (hon 2 oK) rfl
         replace ha := Aside0.mk ha
         obtain ⟨aC, aE, aF, aB, aG, aD, aH, aM, aP, HB⟩ := o2_ aI (o2_ aJ (o2_ aK (o2_ aT (o2_ aU (o2_ aV (o2_ aW (o2_ aX (o2_ aY (o1_ Q_HB)))))))))
         refine Kd.R_lit_step k27 _ 27 ?hg (N := 124) ?hd (xs := ([(⟨4, 0, 0, 0, 0⟩ : S27), (⟨5, 0, 0, 0, 0⟩ : S27)] : List (S27))) (inner := [.int .i64 4, .int .i64 0, .int .i64 0, .int .i64 0, .int .i64 0, .int .i64 5, .int .i64 0, .int .i64 0, .int .i64 0, .int .i64 0]) (ok := fun _ => True) (okp := fun _ => True) ?hr ?hp (fun _ hk => hk) trivial (Below.refl _ _) (Nat.le_refl _) (by simp) ?_; (case hd => rfl); (case hg => first | rfl | exact wanted_on rfl rfl rfl (by assumption)); (case hr => first | (go_simp; done) | (go_simp; rfl)); (case hp => exact (Reps.c5 (show Kd.M k27 _ _ _ (⟨4, 0, 0, 0, 0⟩ : S27) [.int .i64 4, .int .i64 0, .int .i64 0, .int .i64 0, .int .i64 0] from (k27_mkM _ _ _ (⟨4, 0, 0, 0, 0⟩ : S27) )) (Reps.c5 (show Kd.M k27 _ _ _ (⟨5, 0, 0, 0, 0⟩ : S27) [.int .i64 5, .int .i64 0, .int .i64 0, .int .i64 0, .int .i64 0] from (k27_mkM _ _ _ (⟨5, 0, 0, 0, 0⟩ : S27) )) (Reps.none _ _))))
         intro bQ kC ho111 hb hg_ hnew_
         clear hg_ hnew_
         (first | rw [← kP.out] at ho111 | (simp only [Int.reduceToNat] at ho111; rw [← kP.out] at ho111))
         have gC := Aside0.mk (Kd.Q_below aC.out hb)
         have gD := Aside0.mk (Kd.V_elder' aE.out (Kd.R_base ho111) hb)
         have gE := Aside0.mk (Kd.V_elder' aF.out (Kd.R_base ho111) hb)
         have gF := Aside0.mk (Kd.R_lower (Kd.R_newB (Kd.R_newB (Kd.R_newB ho111 aG.out) aD.out) aH.out) (below_size (oB HB)))
         have gG := Aside0.mk (blk_below aB.out hb)
         have gH := Aside0.mk (blk_below aG.out hb)
         have gI := Aside0.mk (blk_below aD.out hb)
         have gJ := Aside0.mk (blk_below aH.out hb)
         have gK := Aside0.mk (blk_below aM.out hb)
         have gL := Aside0.mk (blk_below aP.out hb)
         have eB := Aside0.mk (below_step (oB HB) hb)
         have kD := fun (h0_ : b 5 = true) => (show Kd.R k27 27 kC w.heap.size (fun k_ => k_ ≠ bB ∧ k_ ≠ aQ ∧ k_ ≠ aS) bS y780 from by first | exact (Kd.R_elder' (uR ((bE h0_))) (Kd.R_base ho111) hb) | exact Kd.R_mono (Kd.R_elder' (uR ((bE h0_))) (Kd.R_base ho111) hb) (fun _ h_ => by first | trivial | exact h_ | exact h_.1))
         have kE := fun (h0_ : b 6 = true) => (show Kd.V k38 38 kC w.heap.size (fun k_ => k_ ≠ aZ ∧ k_ ≠ bB ∧ k_ ≠ aQ ∧ k_ ≠ aS ∧ k_ ≠ bD ∧ k_ ≠ bI) bV eN from by first | exact (Kd.V_elder' (uV ((bG h0_))) (Kd.R_base ho111) hb) | exact Kd.V_mono (Kd.V_elder' (uV ((bG h0_))) (Kd.R_base ho111) hb) (fun _ h_ => by first | trivial | exact h_ | exact h_.1))
         clear aC
         clear aE
         clear aF
         clear aB
         clear aG
         clear aD
         clear aH
         clear aM
         clear aP
         clear HB
         have aC := gC
         have aE := gD
         have aF := gE
         have cE := gF
         have aB := gG
         have aG := gH
         have aD := gI
         have aH := gJ
         have aM := gK
         have aP := gL
         have HB := eB
         clear gC gD gE gF gG gH gI gJ gK gL eB
         clear hb ho111
         refine hK.out _ _ ⟨bS, bV, bQ, cB, cZ, cA, (by rw [ha.out]; exact putSel_upk 10 hb_ rfl rfl rfl), aC.out, (by (with_reducible repeat (first | apply Kd.V_alloc | apply Kd.V_drewN | apply Kd.V_drew)); exact Kd.V_mono aE.out oY), (by (with_reducible repeat (first | apply Kd.V_alloc | apply Kd.V_drewN | apply Kd.V_drew)); exact Kd.V_mono aF.out oY), aB.out, aG.out, aD.out, aH.out, aM.out, aP.out, (oB HB), kD, kE, fun _ => (by (with_reducible repeat (first | apply Kd.R_alloc | apply Kd.R_drewN | apply Kd.R_drew)); exact Kd.R_mono cE.out oY), oF (hoff 11 oK), bO, oF (hoff 11 oK)⟩
        refine steps_cons ?_ ?_
        ·rintro b a w' ⟨bS, bV, bQ, cB, cZ, cA, ha, aI, aJ, aK, aT, aU, aV, aW, aX, aY, Q_HB, bE, bG, bF, bH, bO, bN⟩ hb_ hon hoff
         refine ⟨_, rfl, fun K hK => ?_⟩
         have mV : a.tmps[121]? = some (.agg #[.int .i64 bK, .int .i64 bL, .slice cQ aN.length cJ]) := by rw [ha]; exact putSel_on (e := (7, 121, .agg #[.int .i64 bK, .int .i64 bL, .slice cQ aN.length cJ])) 7 rfl rfl (hon 7 oK) rfl
         have mW : a.tmps[124]? = some (bQ) := by rw [ha]; exact putSel_on (e := (10, 124, bQ)) 10 rfl rfl (hon 10 oK) rfl
         have cR : a.tmps[116]? = some (.bool true) := by rw [ha]; exact putSel_on (e := (2, 116, .bool true)) 2 rfl rfl (hon 2 oK) rfl
         replace ha := Aside0.mk ha
         obtain ⟨aC, aE, aF, aB, aG, aD, aH, aM, aP, HB, bR, cG, cE⟩ := o2_ aI (o2_ aJ (o2_ aK (o2_ aT (o2_ aU (o2_ aV (o2_ aW (o2_ aX (o2_ aY (o2_ Q_HB (o2_ (bE (hon 5 oK)) (o2_ (bG (hon 6 oK)) (o1_ (bF (hon 10 oK))))))))))))))
         obtain ⟨kJ, kS, kW⟩ := Kd.R_slice cE.out
         (first | subst kW | (injection kW with f1_ f2_ f3_; have f4_ := f1_.symm; have f5_ := f3_.symm; clear f1_ f2_ f3_; subst f4_; subst f5_))
         refine goes_ Try.func27 oK rfl #[.agg #[.int .i64 bK, .int .i64 bL, .slice cQ aN.length cJ], .slice kJ y788.length kS] (by first | rfl | exact wanted_on rfl rfl rfl (by assumption)) rfl rfl (by first | (simp only [List.map_toArray, List.map_cons, List.map_nil, Act.eval, Array.getD_eq_getD_getElem?, Option.getD_some, mV, mW, cR]; done) | (simp only [List.map_toArray, List.map_cons, List.map_nil, Act.eval, Array.getD_eq_getD_getElem?, Option.getD_some, mV, mW, cR]; rfl)) ?_
         with_reducible refine (laws_eaDo.calls k1 bK bL (fun k_ => some k_ = (.slice cQ aN.length cJ : Value).ownBlock) _ _ aN _ _ y788 gS gT gU _ ?side1 ?side2 ?side3 xE.out).mono ?_
         (case side1 => exact Kd.Q_V (Kd.Q_tight rfl (Kd.Q_types (Kd.Q_types (Kd.Q_types (Kd.Q_types (Kd.Q_types (Kd.Q_types (Kd.Q_apart' (Kd.Q_apart' (aC.out) (Kd.R_typed bR.out) oD) (Kd.R_typed cE.out) oD) aB.out oD) aG.out oD) aD.out oD) aH.out oD) aM.out oD) aP.out oD)))
         (case side2 => repeat (first | exact (Kd.R_reads' cE.out).2.2 | (with_reducible refine Kd.C_alloc ?_ _) | (with_reducible refine Kd.C_drewN ?_ _) | (with_reducible refine Kd.C_drew ?_)))
         (case side3 => exact (Kd.R_reads' cE.out).2.1)
         rintro e xR ⟨cB, rfl, ho0, hb⟩
         refine ⟨_, rfl, ?_⟩
         have hq_ := (Kd.Q_types (Kd.Q_types (Kd.Q_types (Kd.Q_types (Kd.Q_types (Kd.Q_types (Kd.Q_apart' (Kd.Q_apart' (aC.out) (Kd.R_typed bR.out) oD) (Kd.R_typed cE.out) oD) aB.out oD) aG.out oD) aD.out oD) aH.out oD) aM.out oD) aP.out oD)
         have n_ := o2_ (Kd.Q_below aC.out hb) (o2_ (Kd.V_below aE.out hb) (o2_ (Kd.V_below aF.out hb) (o2_ (Kd.R_below bR.out hb) (o2_ (Kd.V_below cG.out hb) (o2_ (Kd.R_below cE.out hb) (o2_ (Kd.V_lower (Kd.V_mono (ok' := fun k_ => k_ ≠ aZ ∧ k_ ≠ bB ∧ k_ ≠ aQ ∧ k_ ≠ aS ∧ k_ ≠ bD ∧ k_ ≠ bI) ho0 (fun k_ hk_ => ⟨Or.elim hk_ (fun hs_ => (hq_.1 k_ hs_.symm).1.1.1.1.1.2) (fun hn_ => (Kd.freshB aB.out k_ hn_)), Or.elim hk_ (fun hs_ => (hq_.1 k_ hs_.symm).1.1.1.1.2) (fun hn_ => (Kd.freshB aG.out k_ hn_)), Or.elim hk_ (fun hs_ => (hq_.1 k_ hs_.symm).1.1.1.2) (fun hn_ => (Kd.freshB aD.out k_ hn_)), Or.elim hk_ (fun hs_ => (hq_.1 k_ hs_.symm).1.1.2) (fun hn_ => (Kd.freshB aH.out k_ hn_)), Or.elim hk_ (fun hs_ => (hq_.1 k_ hs_.symm).1.2) (fun hn_ => (Kd.freshB aM.out k_ hn_)), Or.elim hk_ (fun hs_ => (hq_.1 k_ hs_.symm).2) (fun hn_ => (Kd.freshB aP.out k_ hn_))⟩)) (below_size (oB HB))) (o2_ (blk_below aB.out hb) (o2_ (blk_below aG.out hb) (o2_ (blk_below aD.out hb) (o2_ (blk_below aH.out hb) (o2_ (blk_below aM.out hb) (o2_ (blk_below aP.out hb) (o1_ (below_step (oB HB) hb))))))))))))))
         clear aC aE aF bR cG cE aB aG aD aH aM aP HB
         obtain ⟨aC, aE, aF, bR, cG, cE, cS, aB, aG, aD, aH, aM, aP, HB⟩ := n_
         clear hq_
         (try clear hb)
         (try clear hb2)
         (try clear hk)
         (try clear hi)
         (try clear ho0)
         refine hK.out _ _ ⟨bS, bV, .slice kJ y788.length kS, cB, cZ, (.agg #[.int .i64 gS, .int .i64 gT, cB]), (by rw [ha.out]; exact putSel_upk 11 hb_ rfl rfl rfl), aC.out, aE.out, aF.out, aB.out, aG.out, aD.out, aH.out, aM.out, aP.out, (oB HB), fun _ => bR.out, fun _ => cG.out, fun _ => cE.out, fun _ => cS.out, bO, fun _ => rfl⟩
        refine steps_cons ?_ ?_
        ·rintro b a w' ⟨bS, bV, bQ, cB, cZ, cA, ha, aI, aJ, aK, aT, aU, aV, aW, aX, aY, Q_HB, bE, bG, bF, bH, bO, bN⟩ hb_ hon hoff
         refine ⟨_, rfl, fun K hK => ?_⟩
         have lI : a.tmps[120]? = some (cZ) := by rw [ha]; exact putSel_on (e := (6, 120, cZ)) 6 rfl rfl (hon 6 oK) rfl
         rw [bO (hon 6 oK)] at lI
         have lJ : a.tmps[125]? = some (cA) := by rw [ha]; exact putSel_on (e := (11, 125, cA)) 11 rfl rfl (hon 11 oK) rfl
         rw [bN (hon 11 oK)] at lJ
         have cR : a.tmps[116]? = some (.bool true) := by rw [ha]; exact putSel_on (e := (2, 116, .bool true)) 2 rfl rfl (hon 2 oK) rfl
         replace ha := Aside0.mk ha
         obtain ⟨aC, aE, aF, aB, aG, aD, aH, aM, aP, HB, bR, cG, cE, cS⟩ := o2_ aI (o2_ aJ (o2_ aK (o2_ aT (o2_ aU (o2_ aV (o2_ aW (o2_ aX (o2_ aY (o2_ Q_HB (o2_ (bE (hon 5 oK)) (o2_ (bG (hon 6 oK)) (o2_ (bF (hon 10 oK)) (o1_ (bH (hon 11 oK)))))))))))))))
         obtain ⟨kK, kT, kX⟩ := Kd.V_slice cG.out
         (first | subst kX | (injection kX with f1_ f2_ f3_; have f4_ := f1_.symm; have f5_ := f3_.symm; clear f1_ f2_ f3_; subst f4_; subst f5_))
         obtain ⟨kL, kU, kY⟩ := Kd.V_slice cS.out
         (first | subst kY | (injection kY with f1_ f2_ f3_; have f4_ := f1_.symm; have f5_ := f3_.symm; clear f1_ f2_ f3_; subst f4_; subst f5_))
         refine goes_ Try.func21 oK rfl #[.agg #[.int .i64 gA, .int .i64 gB, .slice kK eN.length kT], .agg #[.int .i64 gS, .int .i64 gT, .slice kL gU.length kU]] (by first | rfl | exact wanted_on rfl rfl rfl (by assumption)) rfl rfl (by first | (simp only [List.map_toArray, List.map_cons, List.map_nil, Act.eval, Array.getD_eq_getD_getElem?, Option.getD_some, lI, lJ, cR]; done) | (simp only [List.map_toArray, List.map_cons, List.map_nil, Act.eval, Array.getD_eq_getD_getElem?, Option.getD_some, lI, lJ, cR]; rfl)) ?_
         with_reducible refine (laws_eaRas.calls k1 gA gB _ _ eN gS gT _ _ gU dA _ ?side1 ?side2 ?side3 ?side4 rL.out).mono ?_
         (case side1 => repeat (first | exact (Kd.V_reads' cG.out).2.2 | (with_reducible refine Kd.C_alloc ?_ _) | (with_reducible refine Kd.C_drewN ?_ _) | (with_reducible refine Kd.C_drew ?_)))
         (case side2 => exact (Kd.V_reads' cG.out).2.1)
         (case side3 => repeat (first | exact (Kd.V_reads' cS.out).2.2 | (with_reducible refine Kd.C_alloc ?_ _) | (with_reducible refine Kd.C_drewN ?_ _) | (with_reducible refine Kd.C_drew ?_)))
         (case side4 => exact (Kd.V_reads' cS.out).2.1)
         rintro e sY ⟨rfl, hb⟩
         refine ⟨_, rfl, ?_⟩
         have n_ := o2_ (Kd.Q_below aC.out hb) (o2_ (Kd.V_below aE.out hb) (o2_ (Kd.V_below aF.out hb) (o2_ (Kd.R_below bR.out hb) (o2_ (Kd.V_below cG.out hb) (o2_ (Kd.R_below cE.out hb) (o2_ (Kd.V_below cS.out hb) (o2_ (blk_below aB.out hb) (o2_ (blk_below aG.out hb) (o2_ (blk_below aD.out hb) (o2_ (blk_below aH.out hb) (o2_ (blk_below aM.out hb) (o2_ (blk_below aP.out hb) (o1_ (below_step (oB HB) hb))))))))))))))
         clear aC aE aF bR cG cE cS aB aG aD aH aM aP HB
         obtain ⟨aC, aE, aF, bR, cG, cE, cS, aB, aG, aD, aH, aM, aP, HB⟩ := n_
         (try clear hb)
         (try clear hb2)
         (try clear hk)
         (try clear hi)
         refine hK.out _ _ ⟨bS, .slice kK eN.length kT, bQ, .slice kL gU.length kU, cZ, cA, (by rw [ha.out]; exact putSel_upk 12 hb_ rfl rfl rfl), aC.out, aE.out, aF.out, aB.out, aG.out, aD.out, aH.out, aM.out, aP.out, (oB HB), fun _ => bR.out, fun _ => cG.out, fun _ => cE.out, fun _ => cS.out, bO, bN⟩
        refine steps_cons ?_ ?_
        ·rintro b a w' ⟨bS, bV, bQ, cB, cZ, cA, ha, aI, aJ, aK, aT, aU, aV, aW, aX, aY, Q_HB, bE, bG, bF, bH, bO, bN⟩ hb_ hon hoff
         refine ⟨_, rfl, fun K hK => ?_⟩
         have cR : a.tmps[116]? = some (.bool true) := by rw [ha]; exact putSel_on (e := (2, 116, .bool true)) 2 rfl rfl (hon 2 oK) rfl
         have xJ : a.tmps[126]? = some (.bool dA) := by rw [ha]; exact putSel_on (e := (12, 126, .bool dA)) 12 rfl rfl (hon 12 oK) rfl
         replace ha := Aside0.mk ha
         obtain ⟨aC, aE, aF, aB, aG, aD, aH, aM, aP, HB, bR, cG, cE, cS⟩ := o2_ aI (o2_ aJ (o2_ aK (o2_ aT (o2_ aU (o2_ aV (o2_ aW (o2_ aX (o2_ aY (o2_ Q_HB (o2_ (bE (hon 5 oK)) (o2_ (bG (hon 6 oK)) (o2_ (bF (hon 10 oK)) (o1_ (bH (hon 11 oK)))))))))))))))
         refine value_ (w1 := w') (v := .bool dA) (by rfl) rfl ?_ ?_
         ·go_simp
          (try simp only [i64_w])
          try rfl
         refine hK.out _ _ ⟨bS, bV, bQ, cB, cZ, cA, (by rw [ha.out]; exact putSel_upk 13 hb_ rfl rfl rfl), aI, aJ, aK, aT, aU, aV, aW, aX, aY, Q_HB, bE, bG, bF, bH, bO, bN⟩
        refine steps_cons ?_ ?_
        ·rintro b a w' ⟨bS, bV, bQ, cB, cZ, cA, ha, aI, aJ, aK, aT, aU, aV, aW, aX, aY, Q_HB, bE, bG, bF, bH, bO, bN⟩ hb_ hon hoff
         refine ⟨_, rfl, fun K hK => ?_⟩
         have xK : a.tmps[127]? = some (.bool dA) := by rw [ha]; exact putSel_on (e := (13, 127, .bool dA)) 13 rfl rfl (hon 13 oK) rfl
         replace ha := Aside0.mk ha
         obtain ⟨aC, aE, aF, aB, aG, aD, aH, aM, aP, HB, bR, cG, cE, cS⟩ := o2_ aI (o2_ aJ (o2_ aK (o2_ aT (o2_ aU (o2_ aV (o2_ aW (o2_ aX (o2_ aY (o2_ Q_HB (o2_ (bE (hon 5 oK)) (o2_ (bG (hon 6 oK)) (o2_ (bF (hon 10 oK)) (o1_ (bH (hon 11 oK)))))))))))))))
         refine value_ (w1 := w') (v := .bool dA) (by rfl) rfl ?_ ?_
         ·go_simp
          (try simp only [i64_w])
          try rfl
         refine hK.out _ _ ⟨bS, bV, bQ, cB, cZ, cA, (by rw [ha.out]; exact putSel_upk 14 hb_ rfl rfl rfl), aI, aJ, aK, aT, aU, aV, aW, aX, aY, Q_HB, bE, bG, bF, bH, bO, bN⟩
        exact steps_nil
       rintro b a sY hall ⟨bS, bV, bQ, cB, cZ, cA, ha, aI, aJ, aK, aT, aU, aV, aW, aX, aY, Q_HB, bE, bG, bF, bH, bO, bN⟩
       clear aB aG aD aH aM aP HB aC aE aF
       have hb0_ := hall 0 oK
       have hb1_ := hall 1 oK
       have hb2_ := hall 2 oK
       have hb3_ := hall 3 oK
       have hb4_ := hall 4 oK
       have hb5_ := hall 5 oK
       have hb6_ := hall 6 oK
       have hb7_ := hall 7 oK
       have hb8_ := hall 8 oK
       have hb9_ := hall 9 oK
       have hb10_ := hall 10 oK
       have hb11_ := hall 11 oK
       have hb12_ := hall 12 oK
       have hb13_ := hall 13 oK
       have hb14_ := hall 14 oK
       subst ha
       obtain rfl := bO hb6_
       obtain rfl := bN hb11_
       simp only [putSel, hb0_, hb1_, hb2_, hb3_, hb4_, hb5_, hb6_, hb7_, hb8_, hb9_, hb10_, hb11_, hb12_, hb13_, hb14_, if_true, Act.put, List.setIfInBounds_toArray, List.set_cons_zero, List.set_cons_succ]
       have aC := Aside0.mk aI
       clear aI
       have aE := Aside0.mk aJ
       clear aJ
       have aF := Aside0.mk aK
       clear aK
       have aB := Aside0.mk aT
       clear aT
       have aG := Aside0.mk aU
       clear aU
       have aD := Aside0.mk aV
       clear aV
       have aH := Aside0.mk aW
       clear aW
       have aM := Aside0.mk aX
       clear aX
       have aP := Aside0.mk aY
       clear aY
       have HB := Aside0.mk Q_HB
       clear Q_HB
       have bR := Aside0.mk (bE hb5_)
       clear bE
       have cG := Aside0.mk (bG hb6_)
       clear bG
       have cE := Aside0.mk (bF hb10_)
       clear bF
       have cS := Aside0.mk (bH hb11_)
       clear bH
       clear hall hb0_ hb1_ hb2_ hb3_ hb4_ hb5_ hb6_ hb7_ hb8_ hb9_ hb10_ hb11_ hb12_ hb13_ hb14_
       try go_wp2
       go_ret
       exact ⟨by first | rfl | (simp [errW_none, errW_some] <;> rfl) | (simp [*, errW_none, errW_some] <;> rfl), oB HB⟩
      ·replace qD := Bool.eq_false_iff.mpr qD
       subst qD
       rw [if_neg (show ¬ (false = true) by decide)] at H
       exact absurd H (by simp)
  ·replace c5 := Bool.eq_false_iff.mpr c5
   subst c5
   rw [if_neg (show ¬ (false = true) by decide)] at H
   replace H := Option.bind_eq_some_iff.mp H
   obtain ⟨gQ, kG, H⟩ := H
   (try dsimp only at H)
   have rM := Aside0.mk kG
   clear kG
   by_cases gX : gQ = true
   ·subst gX
    rw [if_pos rfl] at H
    exact absurd H (by simp)
   ·replace gX := Bool.eq_false_iff.mpr gX
    subst gX
    rw [if_neg (show ¬ (false = true) by decide)] at H
    replace H := Option.bind_eq_some_iff.mp H
    obtain ⟨gR, kH, H⟩ := H
    (try dsimp only at H)
    have rN := Aside0.mk kH
    clear kH
    obtain rfl := Option.some.inj H
    go_enter Try.func8, Try.ntmps8
    go_wp2_with (first | ((with_reducible refine gate_callee (f := 18) rfl ?_); refine goesL_ (some 19) rfl rfl Try.func18 oK rfl #[.slice A0 l0.length c0] rfl oA ?_; (with_reducible refine (spec_DrawOpDo.calls k _ _ l0 bK bL aN dS dT dU dV dW _ ?side1 ?side2 A3.out).mono ?_); (case side1 => repeat (first | exact tX.out | (with_reducible refine Kd.C_alloc ?_ _) | (with_reducible refine Kd.C_drewN ?_ _) | (with_reducible refine Kd.C_drew ?_))); (case side2 => exact tW.out); rintro e xS ⟨sW, rfl, ho0, hb⟩; refine ⟨_, rfl, ?_⟩; have n_ := o2_ (Kd.Q_lower ho0 (below_size (oB HB))) (o1_ (below_step (oB HB) hb)); clear HB; obtain ⟨bA, HB⟩ := n_; (try clear hb); (try clear hb2); (try clear hk); (try clear hi); (try clear ho0)) | ((with_reducible refine gate_dst (N := 3) rfl ?_); (try (refine gate_guard (by rfl) ?_; dsimp only)); refine box_event ?hg (N := 3) ?hd (cs := #[.int .i64 0, .int .i64 0, .slice none 0 0]) (t := 25) ?hr ?_; (case hd => rfl); (case hg => rfl); (case hr => first | (go_simp; done) | (go_simp; rfl)); intro aZ hg xT hbox hb; have n_ := o2_ (Kd.Q_below (oQ bA) hb) (o2_ (below_step (oB HB) hb) (o2_ (hbox) (o2_ ((oG hg (below_size (oB HB)) : w.heap.size ≤ aZ)) (o1_ ((oG hg (below_size (oB HB)) : w.heap.size ≤ aZ)))))); clear bA HB; obtain ⟨bA, HB, aB, mD, lZ⟩ := n_; clear hb hbox hg) | ((with_reducible refine gate_dst (N := 4) rfl ?_); (try (refine gate_guard (by rfl) ?_; dsimp only)); refine box_event ?hg (N := 4) ?hd (cs := #[.int .i64 0, .int .i64 0, .int .i64 0, .int .i64 0, .int .i64 0]) (t := 27) ?hr ?_; (case hd => rfl); (case hg => rfl); (case hr => first | (go_simp; done) | (go_simp; rfl)); intro bB hg eK hbox hb; have n_ := o2_ (Kd.Q_below (oQ bA) hb) (o2_ (blk_below (oP aB) hb) (o2_ (below_step (oB HB) hb) (o2_ (hbox) (o2_ ((oG hg (below_size (oB HB)) : w.heap.size ≤ bB)) (o2_ ((oG hg (below_size (oB HB)) : w.heap.size ≤ bB)) (o2_ ((oL hg (blk_lt (oP aB)))) (o1_ ((oN hg (blk_lt (oP aB))))))))))); clear bA aB HB; obtain ⟨bA, aB, HB, aG, mE, mA, aR, cW⟩ := n_; clear hb hbox hg; have sF := aR.out; have sQ := cW.out; have nD : eK.cell? ⟨aZ, 0, none⟩ = some (.int .i64 0) := (blk_cell aB.out 0).trans rfl; have nE : eK.cell? ⟨aZ, 1, none⟩ = some (.int .i64 0) := (blk_cell aB.out 1).trans rfl; have nF : eK.cell? ⟨aZ, 2, none⟩ = some (.slice none 0 0) := (blk_cell aB.out 2).trans rfl; have pA := blk_frozen aB.out 0; have pB := blk_frozen aB.out 1; have pC := blk_frozen aB.out 2; obtain ⟨dZ, dB, mX, _⟩ := Kd.Q_slice bA.out; subst mX; have nG : eK.cell? ⟨bB, 0, none⟩ = some (.int .i64 0) := (blk_cell aG.out 0).trans rfl; have nH : eK.cell? ⟨bB, 1, none⟩ = some (.int .i64 0) := (blk_cell aG.out 1).trans rfl; have nI : eK.cell? ⟨bB, 2, none⟩ = some (.int .i64 0) := (blk_cell aG.out 2).trans rfl; have nJ : eK.cell? ⟨bB, 3, none⟩ = some (.int .i64 0) := (blk_cell aG.out 3).trans rfl; have nK : eK.cell? ⟨bB, 4, none⟩ = some (.int .i64 0) := (blk_cell aG.out 4).trans rfl; have pD := blk_frozen aG.out 0; have pE := blk_frozen aG.out 1; have pF := blk_frozen aG.out 2; have pG := blk_frozen aG.out 3; have pH := blk_frozen aG.out 4) | ((with_reducible refine gate_dst (N := 5) rfl ?_); (try (refine gate_guard (by rfl) ?_; dsimp only)); refine box_event ?hg (N := 5) ?hd (cs := #[.int .i64 0, .int .i64 0, .int .i64 0, .int .i64 0, .int .i64 0]) (t := 27) ?hr ?_; (case hd => rfl); (case hg => rfl); (case hr => first | (go_simp; done) | (go_simp; rfl)); intro aQ hg gV hbox hb; have n_ := o2_ (Kd.Q_below (by (with_reducible repeat (first | apply Kd.Q_alloc | apply Kd.Q_drewN | apply Kd.Q_drew)); exact (Kd.Q_mono (Kd.Q_mono (Kd.Q_far (p := ⟨bB, 4, none⟩) (Kd.Q_far (p := ⟨bB, 3, none⟩) (Kd.Q_far (p := ⟨bB, 2, none⟩) (Kd.Q_far (p := ⟨bB, 1, none⟩) (Kd.Q_far (p := ⟨bB, 0, none⟩) (Kd.Q_far (p := ⟨aZ, 2, none⟩) (Kd.Q_far (p := ⟨aZ, 1, none⟩) (Kd.Q_far (p := ⟨aZ, 0, none⟩) (Kd.Q_types (Kd.Q_types bA.out aB.out oD) aG.out oD) (fun _ hk => hk.1.2) (.int .i64 bK)) (fun _ hk => hk.1.2) (.int .i64 bL)) (fun _ hk => hk.1.2) (.slice dZ aN.length dB)) (fun _ hk => hk.2) (.int .i64 dS)) (fun _ hk => hk.2) (.int .i64 dT)) (fun _ hk => hk.2) (.int .i64 dU)) (fun _ hk => hk.2) (.int .i64 dV)) (fun _ hk => hk.2) (.int .i64 dW)) (fun _ h_ => h_.1)) (fun _ h_ => h_.1))) hb) (o2_ (blk_below (g := aZ) (o := .cells #[.int .i64 bK, .int .i64 bL, .slice dZ aN.length dB] 25 (0, 0)) (blk_far (blk_far (blk_far (blk_far (blk_far (blk_put (blk_put (blk_put (oP aB) 0 _ rfl) 1 _ rfl) 2 _ rfl) aR.out _) aR.out _) aR.out _) aR.out _) aR.out _) hb) (o2_ (blk_below (g := bB) (o := .cells #[.int .i64 dS, .int .i64 dT, .int .i64 dU, .int .i64 dV, .int .i64 dW] 27 (0, 0)) (blk_put (blk_put (blk_put (blk_put (blk_put (oP aG) 0 _ rfl) 1 _ rfl) 2 _ rfl) 3 _ rfl) 4 _ rfl) hb) (o2_ (below_step (oB HB) hb) (o2_ (hbox) (o2_ ((oG hg (below_size (oB HB)) : w.heap.size ≤ aQ)) (o2_ ((oG hg (below_size (oB HB)) : w.heap.size ≤ aQ)) (o2_ ((by rw [hg]; exact Nat.ne_of_lt (blk_lt (g := aZ) (o := .cells #[.int .i64 bK, .int .i64 bL, .slice dZ aN.length dB] 25 (0, 0)) (blk_far (blk_far (blk_far (blk_far (blk_far (blk_put (blk_put (blk_put (oP aB) 0 _ rfl) 1 _ rfl) 2 _ rfl) aR.out _) aR.out _) aR.out _) aR.out _) aR.out _)) : aZ ≠ aQ)) (o2_ ((by rw [hg]; exact Nat.ne_of_gt (blk_lt (g := aZ) (o := .cells #[.int .i64 bK, .int .i64 bL, .slice dZ aN.length dB] 25 (0, 0)) (blk_far (blk_far (blk_far (blk_far (blk_far (blk_put (blk_put (blk_put (oP aB) 0 _ rfl) 1 _ rfl) 2 _ rfl) aR.out _) aR.out _) aR.out _) aR.out _) aR.out _)) : aQ ≠ aZ)) (o2_ ((by rw [hg]; exact Nat.ne_of_lt (blk_lt (g := bB) (o := .cells #[.int .i64 dS, .int .i64 dT, .int .i64 dU, .int .i64 dV, .int .i64 dW] 27 (0, 0)) (blk_put (blk_put (blk_put (blk_put (blk_put (oP aG) 0 _ rfl) 1 _ rfl) 2 _ rfl) 3 _ rfl) 4 _ rfl)) : bB ≠ aQ)) (o1_ ((by rw [hg]; exact Nat.ne_of_gt (blk_lt (g := bB) (o := .cells #[.int .i64 dS, .int .i64 dT, .int .i64 dU, .int .i64 dV, .int .i64 dW] 27 (0, 0)) (blk_put (blk_put (blk_put (blk_put (blk_put (oP aG) 0 _ rfl) 1 _ rfl) 2 _ rfl) 3 _ rfl) 4 _ rfl)) : aQ ≠ bB)))))))))))); clear bA aB aG HB; obtain ⟨bA, aB, aG, HB, aD, mF, mB, cU, cX, dD, dG⟩ := n_; clear hb hbox hg; have sG := cX.out; have sR := cU.out; have sH := dG.out; have sS := dD.out; have nL : gV.cell? ⟨aQ, 0, none⟩ = some (.int .i64 0) := (blk_cell aD.out 0).trans rfl; have nM : gV.cell? ⟨aQ, 1, none⟩ = some (.int .i64 0) := (blk_cell aD.out 1).trans rfl; have nN : gV.cell? ⟨aQ, 2, none⟩ = some (.int .i64 0) := (blk_cell aD.out 2).trans rfl; have nO : gV.cell? ⟨aQ, 3, none⟩ = some (.int .i64 0) := (blk_cell aD.out 3).trans rfl; have nP : gV.cell? ⟨aQ, 4, none⟩ = some (.int .i64 0) := (blk_cell aD.out 4).trans rfl; have pI := blk_frozen aD.out 0; have pJ := blk_frozen aD.out 1; have pK := blk_frozen aD.out 2; have pL := blk_frozen aD.out 3; have pM := blk_frozen aD.out 4) | ((with_reducible refine gate_dst (N := 6) rfl ?_); (try (refine gate_guard (by rfl) ?_; dsimp only)); refine box_event ?hg (N := 6) ?hd (cs := #[.int .i64 0, .int .i64 0, .int .i64 0, .int .i64 0, .int .i64 0]) (t := 27) ?hr ?_; (case hd => rfl); (case hg => rfl); (case hr => first | (go_simp; done) | (go_simp; rfl)); intro aS hg eL hbox hb; have n_ := o2_ (Kd.Q_below (by (with_reducible repeat (first | apply Kd.Q_alloc | apply Kd.Q_drewN | apply Kd.Q_drew)); exact (Kd.Q_mono (Kd.Q_far (p := ⟨aQ, 4, none⟩) (Kd.Q_far (p := ⟨aQ, 3, none⟩) (Kd.Q_far (p := ⟨aQ, 2, none⟩) (Kd.Q_far (p := ⟨aQ, 1, none⟩) (Kd.Q_far (p := ⟨aQ, 0, none⟩) (Kd.Q_types bA.out aD.out oD) (fun _ hk => hk.2) (.int .i64 5)) (fun _ hk => hk.2) (.int .i64 0)) (fun _ hk => hk.2) (.int .i64 0)) (fun _ hk => hk.2) (.int .i64 0)) (fun _ hk => hk.2) (.int .i64 0)) (fun _ h_ => h_.1))) hb) (o2_ (blk_below (oP aB) hb) (o2_ (below_step (oB HB) hb) (o2_ (hbox) (o2_ ((oG hg (below_size (oB HB)) : w.heap.size ≤ aS)) (o2_ ((oG hg (below_size (oB HB)) : w.heap.size ≤ aS)) (o2_ ((oL hg (blk_lt (oP aB)))) (o2_ ((oN hg (blk_lt (oP aB)))) (o2_ ((oL hg (blk_lt (oP aG)))) (o2_ ((oN hg (blk_lt (oP aG)))) (o2_ ((by rw [hg]; exact Nat.ne_of_lt (blk_lt (g := aQ) (o := .cells #[.int .i64 5, .int .i64 0, .int .i64 0, .int .i64 0, .int .i64 0] 27 (0, 0)) (blk_put (blk_put (blk_put (blk_put (blk_put aD.out 0 _ rfl) 1 _ rfl) 2 _ rfl) 3 _ rfl) 4 _ rfl)) : aQ ≠ aS)) (o1_ ((by rw [hg]; exact Nat.ne_of_gt (blk_lt (g := aQ) (o := .cells #[.int .i64 5, .int .i64 0, .int .i64 0, .int .i64 0, .int .i64 0] 27 (0, 0)) (blk_put (blk_put (blk_put (blk_put (blk_put aD.out 0 _ rfl) 1 _ rfl) 2 _ rfl) 3 _ rfl) 4 _ rfl)) : aS ≠ aQ))))))))))))); clear bA aB HB; obtain ⟨bA, aB, HB, aH, mG, mC, cV, cY, dE, dJ, dH, dK⟩ := n_; clear hb hbox hg; have sI := cY.out; have sT := cV.out; have sJ := dJ.out; have sU := dE.out; have sK := dK.out; have sV := dH.out; have nQ : eL.cell? ⟨aS, 0, none⟩ = some (.int .i64 0) := (blk_cell aH.out 0).trans rfl; have nR : eL.cell? ⟨aS, 1, none⟩ = some (.int .i64 0) := (blk_cell aH.out 1).trans rfl; have nS : eL.cell? ⟨aS, 2, none⟩ = some (.int .i64 0) := (blk_cell aH.out 2).trans rfl; have nT : eL.cell? ⟨aS, 3, none⟩ = some (.int .i64 0) := (blk_cell aH.out 3).trans rfl; have nU : eL.cell? ⟨aS, 4, none⟩ = some (.int .i64 0) := (blk_cell aH.out 4).trans rfl; have pN := blk_frozen aH.out 0; have pO := blk_frozen aH.out 1; have pP := blk_frozen aH.out 2; have pQ := blk_frozen aH.out 3; have pR := blk_frozen aH.out 4; have nV : eL.cell? ⟨aZ, 0, none⟩ = some (.int .i64 bK) := (blk_cell aB.out 0).trans rfl; have nW : eL.cell? ⟨aZ, 1, none⟩ = some (.int .i64 bL) := (blk_cell aB.out 1).trans rfl; have nX : eL.cell? ⟨aZ, 2, none⟩ = some (.slice dZ aN.length dB) := (blk_cell aB.out 2).trans rfl; have pS := blk_frozen aB.out 0; have pT := blk_frozen aB.out 1; have pU := blk_frozen aB.out 2) | ((with_reducible refine gate_callee (f := 24) rfl ?_); refine goesL_ (some 25) rfl rfl Try.func24 oK rfl #[.agg #[.int .i64 bK, .int .i64 bL, .slice dZ aN.length dB]] rfl oA ?_; (with_reducible refine (spec_RasOk.calls k bK bL _ _ aN false _ ?side1 ?side2 A4.out).mono ?_); (case side1 => refine (Kd.Q_reads' (e := 38) (base := w.heap.size) (ok := fun k_ => True) (n := aN.length) (c := dB) ?_).2.2; exact (by (with_reducible repeat (first | apply Kd.Q_alloc | apply Kd.Q_drewN | apply Kd.Q_drew)); exact (Kd.Q_mono (Kd.Q_far (p := ⟨aS, 4, none⟩) (Kd.Q_far (p := ⟨aS, 3, none⟩) (Kd.Q_far (p := ⟨aS, 2, none⟩) (Kd.Q_far (p := ⟨aS, 1, none⟩) (Kd.Q_far (p := ⟨aS, 0, none⟩) (Kd.Q_types bA.out aH.out oD) (fun _ hk => hk.2) (.int .i64 4)) (fun _ hk => hk.2) (.int .i64 0)) (fun _ hk => hk.2) (.int .i64 0)) (fun _ hk => hk.2) (.int .i64 0)) (fun _ hk => hk.2) (.int .i64 0)) (fun _ h_ => h_.1)))); (case side2 => exact (Kd.Q_reads' bA.out).2.1); rintro e lR ⟨rfl, hb⟩; refine ⟨_, rfl, ?_⟩; have n_ := o2_ (Kd.Q_below (by (with_reducible repeat (first | apply Kd.Q_alloc | apply Kd.Q_drewN | apply Kd.Q_drew)); exact (Kd.Q_mono (Kd.Q_far (p := ⟨aS, 4, none⟩) (Kd.Q_far (p := ⟨aS, 3, none⟩) (Kd.Q_far (p := ⟨aS, 2, none⟩) (Kd.Q_far (p := ⟨aS, 1, none⟩) (Kd.Q_far (p := ⟨aS, 0, none⟩) (Kd.Q_types bA.out aH.out oD) (fun _ hk => hk.2) (.int .i64 4)) (fun _ hk => hk.2) (.int .i64 0)) (fun _ hk => hk.2) (.int .i64 0)) (fun _ hk => hk.2) (.int .i64 0)) (fun _ hk => hk.2) (.int .i64 0)) (fun _ h_ => h_.1))) hb) (o2_ (blk_below (oP aB) hb) (o1_ (below_step (oB HB) hb))); clear bA aB HB; obtain ⟨bA, aB, HB⟩ := n_; (try clear hb); (try clear hb2); (try clear hk); (try clear hi); have nY : lR.cell? ⟨aZ, 0, none⟩ = some (.int .i64 bK) := (blk_cell aB.out 0).trans rfl; have nZ : lR.cell? ⟨aZ, 1, none⟩ = some (.int .i64 bL) := (blk_cell aB.out 1).trans rfl; have oO : lR.cell? ⟨aZ, 2, none⟩ = some (.slice dZ aN.length dB) := (blk_cell aB.out 2).trans rfl; have pV := blk_frozen aB.out 0; have pW := blk_frozen aB.out 1; have pX := blk_frozen aB.out 2) | ((with_reducible refine gate_callee (f := 26) rfl ?_); refine goesL_ (some 28) rfl rfl Try.func26 oK rfl #[.agg #[.int .i64 bK, .int .i64 bL, .slice dZ aN.length dB]] rfl oA ?_; (with_reducible refine (impl_RasOk.calls k bK bL _ _ aN false _ ?side1 ?side2 rM.out).mono ?_); (case side1 => repeat (first | exact (Kd.Q_reads' bA.out).2.2 | (with_reducible refine Kd.C_alloc ?_ _) | (with_reducible refine Kd.C_drewN ?_ _) | (with_reducible refine Kd.C_drew ?_))); (case side2 => exact (Kd.Q_reads' bA.out).2.1); rintro e xU ⟨rfl, hb⟩; refine ⟨_, rfl, ?_⟩; replace HB := o1_ (below_step (oB HB) hb); (try clear hb); (try clear hb2); (try clear hk); (try clear hi)) | (go_at_call 25; (with_reducible refine (laws_eaOk.calls  gR _ rN.out).mono ?_); rintro e xV ⟨rfl, hb⟩; replace HB := o1_ (below_step (oB HB) hb); (try clear hb); (try clear hb2); (try clear hk); (try clear hi)))
    go_ret
    exact ⟨by first | rfl | (simp [errW_none, errW_some] <;> rfl) | (simp [*, errW_none, errW_some] <;> rfl), oB HB⟩

/-- THE ONE PURE STATEMENT of laws_FnOpGray: yours. -/
def laws_FnOpGray.Pure : Prop := ∀ (l0 : List Int), l0.length ≤ maxLen → l0.length * 1 ≤ 140737488351232 → (∀ x ∈ l0, (Lit.int .u8 x).wf = true) → ∃ k, laws_FnOpGray.f k l0 = some true
theorem laws_FnOpGray.walk (P : laws_FnOpGray.Pure) (a0 : Option Addr) (len0 cap0 : Nat) (z0 : List Int) (w : World) (w0 : (a0 = none ∧ len0 = 0 ∧ cap0 = 0 ∧ z0 = []) ∨ ∃ x, a0 = some x ∧ len0 ≤ cap0 ∧ cap0 ≤ maxLen ∧ z0.length = cap0 ∧ (∀ i, i < z0.length → w.cell? (x.add i) = some (.int .u8 (z0.getD i 0))) ∧ ∀ n ∈ z0, (Lit.int .u8 n).wf = true) (y0 : len0 * 1 ≤ 140737488351232) :
  Calls Try.prog 8 #[.slice a0 len0 cap0] w fun e w' => e = .returned (.bool true) ∧ Below w.heap.size w w' := by
 obtain ⟨l0, rfl, hr0, hm0, hw0, qE⟩ := ReadsInt.ofRowC w0
 obtain ⟨k, h⟩ := P l0 hm0 y0 hw0
 refine (laws_FnOpGray.calls k _ _ l0 true w (Kd.C_of_reads (d := (0 : Int)) (h1 := fun _ => rfl) hr0) qE h).mono ?_
 rintro e w' ⟨rfl, hd⟩
 exact ⟨rfl, hd⟩

end Go.Proofs.Ythnmeogafklhnaa.X
