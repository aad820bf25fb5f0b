/- What functions of the program come to, each with its proof. No condition but what each theorem states. -/
import Derived.Test.YtfnkaccncmjnaaaX0
import Derived.Test.YtfnkaccncmjnaaaX18
import Derived.Test.YtfnkaccncmjnaaaX19
namespace Go.Proofs.Ytfnkaccncmjnaaa.X
open Go.RowKit Go.Proofs.YtfnkaccncmjnaaaW.PrintWords Go.Proofs.YtfnkaccncmjnaaaW.PrintLast Go.Proofs.YtfnkaccncmjnaaaW.PrintMore Go.Proofs.Ytfnkaccncmjnaaa.Hyb
attribute [local go_sem] max2_int min2_int max_two min_two max_three min_three max_four min_four
set_option linter.unusedVariables false
set_option linter.unusedSimpArgs false

/-! ### spec_l20Turn: function 58 -/
def spec_l20Turn.f (k : Nat) (s0_0 : List Int) (s0_1 : Int) (l1 : List Int) : Option (List Int × Int) := if (l1.length : Int) = 0 then ((spec_l20Rd_pick.f k s0_0 s0_1 256).bind fun aY => (some ((([(aY.1) % 256] : List Int)), aY.2))) else ((spec_l20Rd_pick.f k s0_0 s0_1 (l1.length : Int)).bind fun aB => ((spec_l20Rd_pick.f k s0_0 aB.2 3).bind fun aG => (if aG.1 = 0 then ((some (([] : List Int) : List Int)).bind fun aU => (if 0 ≤ aB.1 then (if aB.1 ≤ (l1.length : Int) then (if aU.length + (l1.take (aB.1 : Int).toNat).length < 140737488355328 then ((some (aU ++ (l1.take (aB.1 : Int).toNat) : List Int)).bind fun aK => (if 0 ≤ (wrap64 (aB.1 + 1)) then (if (wrap64 (aB.1 + 1)) ≤ (l1.length : Int) then (if aK.length + (l1.drop ((wrap64 (aB.1 + 1)) : Int).toNat).length < 140737488355328 then (some ((aK ++ (l1.drop ((wrap64 (aB.1 + 1)) : Int).toNat)), aG.2)) else (none)) else (none)) else (none))) else (none)) else (none)) else (none))) else (if aG.1 = 1 then ((some (([] : List Int) : List Int)).bind fun aV => (if 0 ≤ aB.1 then (if aB.1 ≤ (l1.length : Int) then (if aV.length + (l1.take (aB.1 : Int).toNat).length < 140737488355328 then ((some (aV ++ (l1.take (aB.1 : Int).toNat) : List Int)).bind fun aN => ((spec_l20Rd_pick.f k s0_0 aG.2 9).bind fun aH => (if aN.length < 140737488355328 then ((some (aN ++ [(aH.1) % 256] : List Int)).bind fun aJ => (if aJ.length + (l1.drop (aB.1 : Int).toNat).length < 140737488355328 then (some ((aJ ++ (l1.drop (aB.1 : Int).toNat)), aH.2)) else (none))) else (none)))) else (none)) else (none)) else (none))) else ((some (([] : List Int) : List Int)).bind fun aW => (if aW.length + l1.length < 140737488355328 then ((some (aW ++ l1 : List Int)).bind fun aE => (if 0 ≤ aB.1 then (if aB.1 < (aE.length : Int) then ((spec_l20Rd_pick.f k s0_0 aG.2 255).bind fun aI => (some ((aE.set (aB.1 : Int).toNat (Go.bits .xor .u8 (rd aE aB.1) ((wrap64 (1 + aI.1)) % 256))), aI.2))) else (none)) else (none))) else (none)))))))
theorem spec_l20Turn.mono : ∀ a0 a1 a2 k, LeO (spec_l20Turn.f k a0 a1 a2) (spec_l20Turn.f (k + 1) a0 a1 a2) := by
 intro a0 a1 a2 k
 unfold spec_l20Turn.f
 repeat' first
   | (with_reducible exact spec_l20Rd_pick.mono _ _ _ _)
   | (with_reducible exact LeO.refl _)
   | (with_reducible exact LeO.none _)
   | (with_reducible refine LeO.ite ?_ ?_)
   | (with_reducible refine LeO.bind ?_ (fun _ => ?_))
   | exact spec_l20Rd_pick.mono _ _ _ _
   | exact LeO.none _
   | refine LeO.ite ?_ ?_
   | refine LeO.bind ?_ (fun _ => ?_)
def spec_l20Turn.T6 : Bool × List (List Nat × List Nat) := (true, [([], []), ([], []), ([], []), ([1, 2], [1, 2]), ([0, 3], [0, 3]), ([], []), ([], []), ([6], [6]), ([5, 7], [5, 7]), ([4, 8, 4], [4, 8]), ([9, 9, 0, 1, 2, 3, 4, 5, 6, 7, 8, 9], [9])])
def spec_l20Turn.B6 : List Nat := [0, 0, 0, 6, 15, 0, 0, 64, 224, 511, 1023]
theorem spec_l20Turn.tab6 : rtab .any (opsOf Try.f58 6) = spec_l20Turn.T6 := by kernel_rfl
theorem spec_l20Turn.bits6 : waitsOk spec_l20Turn.T6.2 spec_l20Turn.B6 = true := by kernel_rfl
def spec_l20Turn.T8 : Bool × List (List Nat × List Nat) := (true, [([], []), ([], []), ([], []), ([1, 2], [1, 2]), ([0, 3], [0, 3]), ([], []), ([5, 4], [5]), ([6], [6]), ([7], [7]), ([4, 8, 6], [4, 8]), ([], []), ([], []), ([10, 11], [10, 11]), ([9, 12, 9], [9, 12]), ([13, 13, 0, 1, 2, 3, 4, 5, 6, 7, 8, 9, 10, 11, 12, 13], [13])])
def spec_l20Turn.B8 : List Nat := [0, 0, 0, 6, 15, 0, 63, 127, 255, 511, 0, 0, 3072, 8191, 16383]
theorem spec_l20Turn.tab8 : rtab .any (opsOf Try.f58 8) = spec_l20Turn.T8 := by kernel_rfl
theorem spec_l20Turn.bits8 : waitsOk spec_l20Turn.T8.2 spec_l20Turn.B8 = true := by kernel_rfl
def spec_l20Turn.T10 : Bool × List (List Nat × List Nat) := (true, [([], []), ([], []), ([], []), ([], []), ([2, 3], [2, 3]), ([4], [4]), ([], []), ([6], [6]), ([7], [7]), ([8], [8]), ([5, 9], [5, 9]), ([0, 1, 0, 1, 2, 3, 4, 5, 6, 7, 8, 9, 10], [0, 1]), ([11, 10, 7, 0, 1, 2, 3, 4, 5, 6, 7, 8, 9, 10], [10, 11])])
def spec_l20Turn.B10 : List Nat := [0, 0, 0, 0, 12, 28, 0, 64, 192, 448, 1020, 2047, 4095]
theorem spec_l20Turn.tab10 : rtab .any (opsOf Try.f58 10) = spec_l20Turn.T10 := by kernel_rfl
theorem spec_l20Turn.bits10 : waitsOk spec_l20Turn.T10.2 spec_l20Turn.B10 = true := by kernel_rfl
set_option maxHeartbeats 8000000 in
set_option maxRecDepth 100000 in
theorem spec_l20Turn.calls (k : Nat) (g : Nat) (s0_0 : List Int) (s0_1 : Int) (A1 : Option Addr) (c1 : Nat) (l1 : List Int) (r1 : List Int) (r2 : Int) (w0 w : World) (hI : IsS89 w0 w g s0_0 s0_1) (hB : Below w0.heap.size w0 w) (hr1 : Kd.C (Kd.int .u8) w A1 l1.length l1) (eS : l1.length ≤ c1) (hf1 : ∀ ad, A1 = some ad → 0 < l1.length → ad.block ≠ g) (h : spec_l20Turn.f k s0_0 s0_1 l1 = some (r1, r2)) :
  Calls Try.prog 58 #[.pointer (some ⟨g, 0, none⟩), .slice A1 l1.length c1] w fun e w' => ∃ eT : Value, e = .returned (eT) ∧ Kd.R (Kd.int .u8) 5 w' w.heap.size (fun _ => True) eT r1 ∧ IsS89 w0 w' g s0_0 r2 ∧ Below w0.heap.size w0 w' ∧ KeepBut w w' g none := by
 have bK := Aside0.mk hr1
 have cZ := Aside0.mk eS
 clear hr1 eS
 have aC := Aside0.mk hI
 have HK := Aside0.mk (KeepBut.refl w g none)
 have HL := Aside0.mk hB.size
 clear hI
 have HW0 := Aside0.mk hB.size
 have HB := Aside0.mk hB
 clear hB
 have H : (if (l1.length : Int) = 0 then ((spec_l20Rd_pick.f k s0_0 s0_1 256).bind fun aY => (some ((([(aY.1) % 256] : List Int)), aY.2))) else ((spec_l20Rd_pick.f k s0_0 s0_1 (l1.length : Int)).bind fun aB => ((spec_l20Rd_pick.f k s0_0 aB.2 3).bind fun aG => (if aG.1 = 0 then ((some (([] : List Int) : List Int)).bind fun aU => (if 0 ≤ aB.1 then (if aB.1 ≤ (l1.length : Int) then (if aU.length + (l1.take (aB.1 : Int).toNat).length < 140737488355328 then ((some (aU ++ (l1.take (aB.1 : Int).toNat) : List Int)).bind fun aK => (if 0 ≤ (wrap64 (aB.1 + 1)) then (if (wrap64 (aB.1 + 1)) ≤ (l1.length : Int) then (if aK.length + (l1.drop ((wrap64 (aB.1 + 1)) : Int).toNat).length < 140737488355328 then (some ((aK ++ (l1.drop ((wrap64 (aB.1 + 1)) : Int).toNat)), aG.2)) else (none)) else (none)) else (none))) else (none)) else (none)) else (none))) else (if aG.1 = 1 then ((some (([] : List Int) : List Int)).bind fun aV => (if 0 ≤ aB.1 then (if aB.1 ≤ (l1.length : Int) then (if aV.length + (l1.take (aB.1 : Int).toNat).length < 140737488355328 then ((some (aV ++ (l1.take (aB.1 : Int).toNat) : List Int)).bind fun aN => ((spec_l20Rd_pick.f k s0_0 aG.2 9).bind fun aH => (if aN.length < 140737488355328 then ((some (aN ++ [(aH.1) % 256] : List Int)).bind fun aJ => (if aJ.length + (l1.drop (aB.1 : Int).toNat).length < 140737488355328 then (some ((aJ ++ (l1.drop (aB.1 : Int).toNat)), aH.2)) else (none))) else (none)))) else (none)) else (none)) else (none))) else ((some (([] : List Int) : List Int)).bind fun aW => (if aW.length + l1.length < 140737488355328 then ((some (aW ++ l1 : List Int)).bind fun aE => (if 0 ≤ aB.1 then (if aB.1 < (aE.length : Int) then ((spec_l20Rd_pick.f k s0_0 aG.2 255).bind fun aI => (some ((aE.set (aB.1 : Int).toNat (Go.bits .xor .u8 (rd aE aB.1) ((wrap64 (1 + aI.1)) % 256))), aI.2))) else (none)) else (none))) else (none)))))))) = some (r1, r2) := h
 clear h
 by_cases c3 : (l1.length : Int) = 0
 ·rw [if_pos c3] at H
  have dI : ((l1.length : Int) == 0) = true := beq_iff_eq.mpr c3
  have dJ : ((l1.length : Int) != 0) = false := bne_eq_false_iff_eq.mpr c3
  clear c3
  replace H := Option.bind_eq_some_iff.mp H
  obtain ⟨⟨bE, cW⟩, cY, H⟩ := H
  (try dsimp only at H)
  have A4 := Aside0.mk cY
  clear cY
  obtain ⟨y744, hy744⟩ : ∃ y_ : List Int, y_ = (([(bE) % 256] : List Int)) := ⟨_, rfl⟩
  replace H : (some (y744, cW)) = some (r1, r2) := by first | (rw [hy744]; with_reducible exact H) | (have H2_ := (Option.bind_some _ _).symm.trans H; rw [hy744]; with_reducible exact H2_) | (have H2_ := (Option.bind_some _ _).symm.trans H; with_reducible exact H2_) | with_reducible exact H | (rw [hy744]; exact H) | exact H
  have bM := Aside0.mk hy744
  clear hy744
  simp only [Option.some.injEq, Prod.mk.injEq] at H
  obtain ⟨rfl, rfl⟩ := H
  go_enter Try.func58, Try.ntmps58
  go_wp2_with (first | ((with_reducible refine gate_callee (f := 40) rfl ?_); refine goesL_ (some 11) rfl rfl Try.func40 oK rfl #[.pointer (some ⟨g, 0, none⟩), .int .i64 256] rfl oA ?_; (with_reducible refine (spec_l20Rd_pick.calls k g s0_0 s0_1 256 bE cW w0 _ ?side1 ?side2 A4.out).mono ?_); (case side1 => exact oI89 aC); (case side2 => exact oH HB (IsS89.ge aC.out)); rintro e w5 ⟨rfl, hi, hb, hk⟩; refine ⟨_, rfl, ?_⟩; have n_ := o2_ (KeepBut.trans (oE HK) hk (.inl rfl)) (o2_ (hb) (o1_ (hi))); clear HK HB aC; obtain ⟨HK, HB, aC⟩ := n_; (try clear hb); (try clear hb2); (try clear hk); (try clear hi)) | ((with_reducible refine gate_dst (N := 13) rfl ?_); refine Kd.R_lit (Kd.int .u8) _ 5 ?hg (N := 13) ?hd (xs := ([(bE) % 256] : List Int)) (inner := [.int .u8 ((bE) % 256)]) (ok := fun _ => True) (okp := fun _ => True) ?hr ?hp (fun _ hk => hk) trivial (Below.refl _ _) (Nat.le_refl _) (by simp) ?_; (case hd => rfl); (case hg => rfl); (case hr => first | (go_simp; done) | (go_simp; rfl)); (case hp => exact (Reps.one (show Kd.M (Kd.int .u8) _ _ _ ((bE) % 256) [.int .u8 ((bE) % 256)] from rfl) (Reps.none _ _))); intro fB w6 ho7 hb hg_ hnew_; clear hg_ hnew_; (first | rw [← bM.out] at ho7 | (simp only [Int.reduceToNat] at ho7; rw [← bM.out] at ho7)); have n_ := o2_ (Kd.R_lower ho7 (keep_size (w := w) (g := g) (row := none) (oE HK))) (o2_ (IsS89.below (oI89 aC) hb) (o2_ (KeepBut.trans (oE HK) (KeepBut.of_below hb g none) (.inl rfl)) (o1_ (below_step (oH HB (IsS89.ge aC.out)) hb)))); clear aC HK HB; obtain ⟨bY, aC, HK, HB⟩ := n_; clear hb ho7))
  go_ret
  exact ⟨_, by first | rfl | (simp [errW_none, errW_some] <;> rfl) | (simp [*, errW_none, errW_some] <;> rfl), by (with_reducible repeat (first | apply Kd.R_alloc | apply Kd.R_drewN | apply Kd.R_drew)); exact bY.out, oI89 aC, oH HB (IsS89.ge aC.out), oE HK⟩
 ·rw [if_neg c3] at H
  have dI : ((l1.length : Int) == 0) = false := beq_eq_false_iff_ne.mpr c3
  have dJ : ((l1.length : Int) != 0) = true := bne_iff_ne.mpr c3
  have eY : ¬ (l1 = []) := fun h_ => c3 (by rw [h_]; rfl)
  replace H := Option.bind_eq_some_iff.mp H
  obtain ⟨⟨aA, bF⟩, dW, H⟩ := H
  (try dsimp only at H)
  have A8 := Aside0.mk dW
  clear dW
  replace H := Option.bind_eq_some_iff.mp H
  obtain ⟨⟨aQ, aM⟩, dX, H⟩ := H
  (try dsimp only at H)
  have A9 := Aside0.mk dX
  clear dX
  by_cases bQ : aQ = 0
  ·rw [if_pos bQ] at H
   have cJ : (aQ == 0) = true := beq_iff_eq.mpr bQ
   have cK : (aQ != 0) = false := bne_eq_false_iff_eq.mpr bQ
   clear bQ
   obtain ⟨aU, hy751⟩ : ∃ y_ : List Int, y_ = (([] : List Int)) := ⟨_, rfl⟩
   replace H : (if 0 ≤ aA then (if aA ≤ (l1.length : Int) then (if aU.length + (l1.take (aA : Int).toNat).length < 140737488355328 then ((some (aU ++ (l1.take (aA : Int).toNat) : List Int)).bind fun aK => (if 0 ≤ (wrap64 (aA + 1)) then (if (wrap64 (aA + 1)) ≤ (l1.length : Int) then (if aK.length + (l1.drop ((wrap64 (aA + 1)) : Int).toNat).length < 140737488355328 then (some ((aK ++ (l1.drop ((wrap64 (aA + 1)) : Int).toNat)), aM)) else (none)) else (none)) else (none))) else (none)) else (none)) else (none)) = some (r1, r2) := by first | (rw [hy751]; with_reducible exact H) | (have H2_ := (Option.bind_some _ _).symm.trans H; rw [hy751]; with_reducible exact H2_) | (have H2_ := (Option.bind_some _ _).symm.trans H; with_reducible exact H2_) | with_reducible exact H | (rw [hy751]; exact H) | exact H
   have bN := Aside0.mk hy751
   clear hy751
   by_cases cL : 0 ≤ aA
   ·rw [if_pos cL] at H
    have eC := eq_true cL
    have eD : decide (0 ≤ aA) = true := decide_eq_true cL
    clear cL
    by_cases cM : aA ≤ (l1.length : Int)
    ·rw [if_pos cM] at H
     have eE := eq_true cM
     have eF : decide (aA ≤ (l1.length : Int)) = true := decide_eq_true cM
     clear cM
     by_cases dA : aU.length + (l1.take (aA : Int).toNat).length < 140737488355328
     ·rw [if_pos dA] at H
      have LMc13 := Aside0.mk dA
      clear dA
      obtain ⟨aK, hy755⟩ : ∃ y_ : List Int, y_ = (aU ++ (l1.take (aA : Int).toNat)) := ⟨_, rfl⟩
      replace H : (if 0 ≤ (wrap64 (aA + 1)) then (if (wrap64 (aA + 1)) ≤ (l1.length : Int) then (if aK.length + (l1.drop ((wrap64 (aA + 1)) : Int).toNat).length < 140737488355328 then (some ((aK ++ (l1.drop ((wrap64 (aA + 1)) : Int).toNat)), aM)) else (none)) else (none)) else (none)) = some (r1, r2) := by first | (rw [hy755]; with_reducible exact H) | (have H2_ := (Option.bind_some _ _).symm.trans H; rw [hy755]; with_reducible exact H2_) | (have H2_ := (Option.bind_some _ _).symm.trans H; with_reducible exact H2_) | with_reducible exact H | (rw [hy755]; exact H) | exact H
      have cB := Aside0.mk hy755
      clear hy755
      obtain ⟨ji14, hji14⟩ : ∃ j_ : Int, (wrap64 (aA + 1)) = j_ := ⟨_, rfl⟩
      replace H : (if 0 ≤ (ji14) then (if (ji14) ≤ (l1.length : Int) then (if aK.length + (l1.drop ((ji14) : Int).toNat).length < 140737488355328 then (some ((aK ++ (l1.drop ((ji14) : Int).toNat)), aM)) else (none)) else (none)) else (none)) = some (r1, r2) := by first | (rw [hji14] at H; exact H) | (simp only [hji14] at H ⊢; exact H)
      (try rw [hji14] at A8)
      (try rw [hji14] at A9)
      have dM : (IntKind.i64.wrap (aA + 1)) = ji14 := (i64_w _).trans hji14
      by_cases cN : 0 ≤ (ji14)
      ·rw [if_pos cN] at H
       have eG := eq_true cN
       have eH : decide (0 ≤ (ji14)) = true := decide_eq_true cN
       clear cN
       by_cases cO : (ji14) ≤ (l1.length : Int)
       ·rw [if_pos cO] at H
        have eI := eq_true cO
        have eJ : decide ((ji14) ≤ (l1.length : Int)) = true := decide_eq_true cO
        clear cO
        by_cases dB : aK.length + (l1.drop ((ji14) : Int).toNat).length < 140737488355328
        ·rw [if_pos dB] at H
         have LMc17 := Aside0.mk dB
         clear dB
         obtain ⟨y759, hy759⟩ : ∃ y_ : List Int, y_ = (aK ++ (l1.drop ((ji14) : Int).toNat)) := ⟨_, rfl⟩
         replace H : (some (y759, aM)) = some (r1, r2) := by first | (rw [hy759]; with_reducible exact H) | (have H2_ := (Option.bind_some _ _).symm.trans H; rw [hy759]; with_reducible exact H2_) | (have H2_ := (Option.bind_some _ _).symm.trans H; with_reducible exact H2_) | with_reducible exact H | (rw [hy759]; exact H) | exact H
         have cC := Aside0.mk hy759
         clear hy759
         simp only [Option.some.injEq, Prod.mk.injEq] at H
         obtain ⟨rfl, rfl⟩ := H
         go_enter Try.func58, Try.ntmps58
         try go_wp2_with (first | ((with_reducible refine gate_callee (f := 40) rfl ?_); refine goesL_ (some 17) rfl rfl Try.func40 oK rfl #[.pointer (some ⟨g, 0, none⟩), .int .i64 (l1.length : Int)] rfl oA ?_; (with_reducible refine (spec_l20Rd_pick.calls k g s0_0 s0_1 (l1.length : Int) aA bF w0 _ ?side1 ?side2 A8.out).mono ?_); (case side1 => exact oI89 aC); (case side2 => exact oH HB (IsS89.ge aC.out)); rintro e fI ⟨rfl, hi, hb, hk⟩; refine ⟨_, rfl, ?_⟩; have n_ := o2_ (KeepBut.trans (oE HK) hk (.inl rfl)) (o2_ (hb) (o1_ (hi))); clear HK HB aC; obtain ⟨HK, HB, aC⟩ := n_; (try clear hb); (try clear hb2); (try clear hk); (try clear hi)) | ((with_reducible refine gate_callee (f := 40) rfl ?_); refine goesL_ (some 19) rfl rfl Try.func40 oK rfl #[.pointer (some ⟨g, 0, none⟩), .int .i64 3] rfl oA ?_; (with_reducible refine (spec_l20Rd_pick.calls k g s0_0 bF 3 aQ aM w0 _ ?side1 ?side2 A9.out).mono ?_); (case side1 => exact oI89 aC); (case side2 => exact oH HB (IsS89.ge aC.out)); rintro e fF ⟨rfl, hi, hb, hk⟩; refine ⟨_, rfl, ?_⟩; have n_ := o2_ (KeepBut.trans (oE HK) hk (.inl rfl)) (o2_ (hb) (o1_ (hi))); clear HK HB aC; obtain ⟨HK, HB, aC⟩ := n_; (try clear hb); (try clear hb2); (try clear hk); (try clear hi)))
         have n_ := o2_ (IsS89.drew aC.out) (o2_ (keep_drew HK.out) (o1_ (below_drew1 HB.out)))
         clear aC HK HB
         obtain ⟨aC, HK, HB⟩ := n_
         obtain ⟨i021, hi021, _, hsz21, _⟩ := info_parts info5
         obtain ⟨hcut21, hA21, hC21⟩ := print_take_of (P := Try.prog) (Value.int .u8) 0 24 5 .i64 Try.underlying24 hi021 hsz21 A1 c1 l1 aA (of_decide_eq_true oM) (of_decide_eq_true oM) cZ.out
         have bG := Aside0.mk (Kd.C_of_reads (h1 := fun _ => rfl) (hA21 _ (Kd.reads_of_C bK.out)))
         have dY := Aside0.mk hC21
         have hf754 : ∀ ad : Addr, A1 = some ad → 0 < (l1.take (aA : Int).toNat).length → ad.block ≠ g := fun ad he h_ => by cases he; exact Kd.foot_ne (fun W_ hk_ => Kd.C_of_reads (h1 := fun _ => rfl) (hA21 _ (Kd.reads_of_C (Kd.C_foot_ne (fun h => h) bK.out hf1 W_ hk_)))) h_ oD
         clear hA21 hC21 hi021 hsz21
         obtain ⟨i022, hi022, _, hsz22, _⟩ := info_parts info5
         obtain ⟨eU, hcut22, hA22, hC22⟩ := print_drop_of (P := Try.prog) (Value.int .u8) 0 24 5 .i64 Try.underlying24 hi022 hsz22 A1 c1 l1 (ji14) (of_decide_eq_true oM) (of_decide_eq_true oM) cZ.out
         have bH := Aside0.mk (Kd.C_of_reads (h1 := fun _ => rfl) (hA22 _ (Kd.reads_of_C bK.out)))
         have dZ := Aside0.mk hC22
         have hf758 : ∀ ad : Addr, eU = some ad → 0 < (l1.drop ((ji14) : Int).toNat).length → ad.block ≠ g := fun ad he h_ => by cases he; exact Kd.foot_ne (fun W_ hk_ => Kd.C_of_reads (h1 := fun _ => rfl) (hA22 _ (Kd.reads_of_C (Kd.C_foot_ne (fun h => h) bK.out hf1 W_ hk_)))) h_ oD
         clear hA22 hC22 hi022 hsz22
         refine start_ (n := 11) (S := fun w' => True) (ds := []) #[false, false, false, false, false, false, false, false, false, false, false] oK rfl rfl trivial (fun hHeld => ?_); refine with_tabW spec_l20Turn.tab6 spec_l20Turn.bits6 (fun HT_ HW_ => ?_)
         generalize fF.drew = fJ at aC HK HB bG bH hHeld ⊢
         refine pure_ (i := 1) (N := some 23) (v := ?_) (a' := ?_) #[false, true, false, false, false, false, false, false, false, false, false] rfl rfl (any_of HT_.out oK) (fun _ _ _ h => h) (Or.inl ⟨by rfl, ?_⟩) ?_ ?_
         rotate_left
         ·intro w'
          go_simp
          with_reducible rfl
         rotate_left
         ·exact oT
         refine pure_ (i := 2) (N := some 24) (v := ?_) (a' := ?_) #[false, true, true, false, false, false, false, false, false, false, false] rfl rfl (any_of HT_.out oK) (fun _ _ _ h => h) (Or.inl ⟨by rfl, ?_⟩) ?_ ?_
         rotate_left
         ·intro w'
          go_simp
          with_reducible rfl
         rotate_left
         ·exact oT
         refine pure_ (i := 3) (N := some 25) (v := ?_) (a' := ?_) #[false, true, true, true, false, false, false, false, false, false, false] rfl rfl (any_of HT_.out oK) (fun _ _ _ h => h) (Or.inl ⟨by rfl, ?_⟩) ?_ ?_
         rotate_left
         ·intro w'
          go_simp
          with_reducible rfl
         rotate_left
         ·exact oT
         refine pure_ (i := 5) (N := some 27) (v := ?_) (a' := ?_) #[false, true, true, true, false, true, false, false, false, false, false] rfl rfl (any_of HT_.out oK) (fun _ _ _ h => h) (Or.inl ⟨by rfl, ?_⟩) ?_ ?_
         rotate_left
         ·intro w'
          go_simp
          with_reducible rfl
         rotate_left
         ·exact oT
         refine pure_ (i := 6) (N := some 28) (v := ?_) (a' := ?_) #[false, true, true, true, false, true, true, false, false, false, false] rfl rfl (any_of HT_.out oK) (fun _ _ _ h => h) (Or.inl ⟨by rfl, ?_⟩) ?_ ?_
         rotate_left
         ·intro w'
          go_simp
          with_reducible rfl
         rotate_left
         ·exact oT
         refine pure_ (i := 7) (N := some 29) (v := ?_) (a' := ?_) #[false, true, true, true, false, true, true, true, false, false, false] rfl rfl (any_of HT_.out oK) (fun _ _ _ h => h) (Or.inl ⟨by rfl, ?_⟩) ?_ ?_
         rotate_left
         ·intro w'
          go_simp
          with_reducible rfl
         rotate_left
         ·exact oT
         refine pure_ (i := 8) (N := some 30) (v := ?_) (a' := ?_) #[false, true, true, true, false, true, true, true, true, false, false] rfl rfl (any_of HT_.out oK) (fun _ _ _ h => h) (Or.inl ⟨by rfl, ?_⟩) ?_ ?_
         rotate_left
         ·intro w'
          go_simp
          with_reducible rfl
         rotate_left
         ·exact oT
         refine one_ (i := 0) (N := some 22) #[true, true, true, true, false, true, true, true, true, false, false] rfl rfl (one_of HT_.out oK) oD (fun K hK => ?_)
         refine Kd.R_lit_step (Kd.int .u8) _ 5 ?hg (N := 22) ?hd (xs := ([] : List Int)) (inner := []) (ok := fun _ => True) (okp := fun _ => True) ?hr ?hp (fun _ hk => hk) trivial (Below.refl _ _) (Nat.le_refl _) (by simp) ?_; (case hd => rfl); (case hg => rfl); (case hr => first | (go_simp; done) | (go_simp; rfl)); (case hp => exact (Reps.none _ _))
         intro dQ fK ho24 hb hg_ hnew_
         clear hg_ hnew_
         (first | rw [← bN.out] at ho24 | (simp only [Int.reduceToNat] at ho24; rw [← bN.out] at ho24))
         have n_ := o2_ (Kd.R_lower ho24 (keep_size (w := w) (g := g) (row := none) (oE HK))) (o2_ (IsS89.below (oI89 aC) hb) (o2_ (KeepBut.trans (oE HK) (KeepBut.of_below hb g none) (.inl rfl)) (o1_ (below_step (oH HB (IsS89.ge aC.out)) hb))))
         clear aC HK HB
         obtain ⟨aZ, aC, HK, HB⟩ := n_
         clear hb ho24
         refine hK.out _ _ trivial (fun hHeld => ?_)
         clear hK K
         refine norm_ (a' := ?_) ?_ ?_
         rotate_left
         ·show Act.put _ (some 22) _ = _
          exact oT
         refine one_ (i := 4) (N := some 26) #[true, true, true, true, true, true, true, true, true, false, false] rfl rfl (one_of HT_.out oK) oD (fun K hK => ?_)
         refine Kd.R_append_rows_step (Kd.int .u8) w.heap.size (by rfl) (.tmp 22) (.tmp 25) 24 5 (.int .u8 0) 1 rfl Try.underlying24 info5 rfl oD (by omega) dQ aU (l1.take (aA : Int).toNat) _ _ _ (fun _ => True) (fun _ => False) rfl rfl ?aO ?aR (fun _ _ h => h) (fun _ h => h.elim) ?aF (Below.refl _ _) ?aS ?aL ?_
         (case aR => first | (refine Go.Proofs.Ytfnkaccncmjnaaa.Hyb.C_cast (show (l1.take (aA : Int).toNat).length = aA.toNat from (by rw [List.length_take]; have h_ : (aA : Int) ≤ (l1.length : Int) := of_decide_eq_true oM; omega)) ?_; exact Kd.C_keep 0 bG.out (oE HK) hf754) | (exact Kd.C_keep 0 bG.out (oE HK) hf754))
         (case aF => exact (fun _ _ => trivial))
         (case aO => exact (oR aZ))
         (case aS => exact (keep_size (w := w) (g := g) (row := none) (oE HK)))
         (case aL => have := LMc13.out; have hlx_ := (show (l1.take (aA : Int).toNat).length = aA.toNat from (by rw [List.length_take]; have h_ : (aA : Int) ≤ (l1.length : Int) := of_decide_eq_true oM; omega)); omega)
         intro dR fL ho hb hg hat
         rw [← cB.out] at ho
         have n_ := o2_ (IsS89.grownF aC.out (oI89 aC) hg (IsS89.own_ne aC.out aZ.out oD)) (o2_ (below_weaken (oH HB (IsS89.ge aC.out)) HL.out hb) (o2_ (KeepBut.trans (oE HK) (KeepBut.of_grown hg g) (Kd.R_base2 aZ.out)) (o1_ (ho))))
         clear aC HB HK aZ
         obtain ⟨aC, HB, HK, bA⟩ := n_
         clear ho hb hg hat
         refine hK.out _ _ trivial (fun hHeld => ?_)
         clear hK K
         refine norm_ (a' := ?_) ?_ ?_
         rotate_left
         ·show Act.put _ (some 26) _ = _
          exact oT
         refine one_ (i := 9) (N := some 31) #[true, true, true, true, true, true, true, true, true, true, false] rfl rfl (one_of HT_.out oK) oD (fun K hK => ?_)
         refine Kd.R_append_rows_step (Kd.int .u8) w.heap.size (by rfl) (.tmp 26) (.tmp 30) 24 5 (.int .u8 0) 1 rfl Try.underlying24 info5 rfl oD (by omega) dR aK (l1.drop ((ji14) : Int).toNat) _ _ _ (fun _ => True) (fun _ => False) rfl rfl ?aO ?aR (fun _ _ h => h) (fun _ h => h.elim) ?aF (Below.refl _ _) ?aS ?aL ?_
         (case aR => first | (refine Go.Proofs.Ytfnkaccncmjnaaa.Hyb.C_cast (show (l1.drop ((ji14) : Int).toNat).length = (l1.length - (ji14).toNat) from List.length_drop) ?_; exact Kd.C_keep 0 bH.out (oE HK) hf758) | (exact Kd.C_keep 0 bH.out (oE HK) hf758))
         (case aF => exact (fun _ _ => trivial))
         (case aO => exact (oR bA))
         (case aS => exact (keep_size (w := w) (g := g) (row := none) (oE HK)))
         (case aL => have := LMc17.out; have hlx_ := (show (l1.drop ((ji14) : Int).toNat).length = (l1.length - (ji14).toNat) from List.length_drop); omega)
         intro fC fM ho hb hg hat
         rw [← cC.out] at ho
         have n_ := o2_ (IsS89.grownF aC.out (oI89 aC) hg (IsS89.own_ne aC.out bA.out oD)) (o2_ (below_weaken (oH HB (IsS89.ge aC.out)) HL.out hb) (o2_ (KeepBut.trans (oE HK) (KeepBut.of_grown hg g) (Kd.R_base2 bA.out)) (o1_ (ho))))
         clear aC HB HK bA
         obtain ⟨aC, HB, HK, bZ⟩ := n_
         clear ho hb hg hat
         refine hK.out _ _ trivial (fun hHeld => ?_)
         clear hK K
         refine norm_ (a' := ?_) ?_ ?_
         rotate_left
         ·show Act.put _ (some 31) _ = _
          exact oT
         refine pure_ (i := 10) (N := some 4) (v := ?_) (a' := ?_) #[true, true, true, true, true, true, true, true, true, true, true] rfl rfl (any_of HT_.out oK) (fun _ _ _ h => h) (Or.inl ⟨by rfl, ?_⟩) ?_ ?_
         rotate_left
         ·intro w'
          go_simp
          with_reducible rfl
         rotate_left
         ·exact oT
         refine done_ (done_of HT_.out oK) ?_
         try go_wp2
         go_ret
         exact ⟨_, by first | rfl | (simp [errW_none, errW_some] <;> rfl) | (simp only [← hji14]; first | rfl | (simp [errW_none, errW_some] <;> rfl)) | (simp [*, errW_none, errW_some] <;> rfl), by (with_reducible repeat (first | apply Kd.R_alloc | apply Kd.R_drewN | apply Kd.R_drew)); exact bZ.out, oI89 aC, oH HB (IsS89.ge aC.out), oE HK⟩
        ·rw [if_neg dB] at H
         exact absurd H (by simp)
       ·rw [if_neg cO] at H
        exact absurd H (by simp)
      ·rw [if_neg cN] at H
       exact absurd H (by simp)
     ·rw [if_neg dA] at H
      exact absurd H (by simp)
    ·rw [if_neg cM] at H
     exact absurd H (by simp)
   ·rw [if_neg cL] at H
    exact absurd H (by simp)
  ·rw [if_neg bQ] at H
   have cJ : (aQ == 0) = false := beq_eq_false_iff_ne.mpr bQ
   have cK : (aQ != 0) = true := bne_iff_ne.mpr bQ
   by_cases bR : aQ = 1
   ·rw [if_pos bR] at H
    have cP : (aQ == 1) = true := beq_iff_eq.mpr bR
    have cQ : (aQ != 1) = false := bne_eq_false_iff_eq.mpr bR
    clear bR
    obtain ⟨aV, hy762⟩ : ∃ y_ : List Int, y_ = (([] : List Int)) := ⟨_, rfl⟩
    replace H : (if 0 ≤ aA then (if aA ≤ (l1.length : Int) then (if aV.length + (l1.take (aA : Int).toNat).length < 140737488355328 then ((some (aV ++ (l1.take (aA : Int).toNat) : List Int)).bind fun aN => ((spec_l20Rd_pick.f k s0_0 aM 9).bind fun aH => (if aN.length < 140737488355328 then ((some (aN ++ [(aH.1) % 256] : List Int)).bind fun aJ => (if aJ.length + (l1.drop (aA : Int).toNat).length < 140737488355328 then (some ((aJ ++ (l1.drop (aA : Int).toNat)), aH.2)) else (none))) else (none)))) else (none)) else (none)) else (none)) = some (r1, r2) := by first | (rw [hy762]; with_reducible exact H) | (have H2_ := (Option.bind_some _ _).symm.trans H; rw [hy762]; with_reducible exact H2_) | (have H2_ := (Option.bind_some _ _).symm.trans H; with_reducible exact H2_) | with_reducible exact H | (rw [hy762]; exact H) | exact H
    have bO := Aside0.mk hy762
    clear hy762
    by_cases cR : 0 ≤ aA
    ·rw [if_pos cR] at H
     have eK := eq_true cR
     have eL : decide (0 ≤ aA) = true := decide_eq_true cR
     clear cR
     by_cases cS : aA ≤ (l1.length : Int)
     ·rw [if_pos cS] at H
      have eM := eq_true cS
      have eN : decide (aA ≤ (l1.length : Int)) = true := decide_eq_true cS
      clear cS
      by_cases dC : aV.length + (l1.take (aA : Int).toNat).length < 140737488355328
      ·rw [if_pos dC] at H
       have LMc30 := Aside0.mk dC
       clear dC
       obtain ⟨aN, hy766⟩ : ∃ y_ : List Int, y_ = (aV ++ (l1.take (aA : Int).toNat)) := ⟨_, rfl⟩
       replace H : ((spec_l20Rd_pick.f k s0_0 aM 9).bind fun aH => (if aN.length < 140737488355328 then ((some (aN ++ [(aH.1) % 256] : List Int)).bind fun aJ => (if aJ.length + (l1.drop (aA : Int).toNat).length < 140737488355328 then (some ((aJ ++ (l1.drop (aA : Int).toNat)), aH.2)) else (none))) else (none))) = some (r1, r2) := by first | (rw [hy766]; with_reducible exact H) | (have H2_ := (Option.bind_some _ _).symm.trans H; rw [hy766]; with_reducible exact H2_) | (have H2_ := (Option.bind_some _ _).symm.trans H; with_reducible exact H2_) | with_reducible exact H | (rw [hy766]; exact H) | exact H
       have cD := Aside0.mk hy766
       clear hy766
       replace H := Option.bind_eq_some_iff.mp H
       obtain ⟨⟨bL, bU⟩, bW, H⟩ := H
       (try dsimp only at H)
       have eV := Aside0.mk bW
       clear bW
       by_cases dD : aN.length < 140737488355328
       ·rw [if_pos dD] at H
        have LMc32 := Aside0.mk dD
        clear dD
        obtain ⟨aJ, hy771⟩ : ∃ y_ : List Int, y_ = (aN ++ [(bL) % 256]) := ⟨_, rfl⟩
        replace H : (if aJ.length + (l1.drop (aA : Int).toNat).length < 140737488355328 then (some ((aJ ++ (l1.drop (aA : Int).toNat)), bU)) else (none)) = some (r1, r2) := by first | (rw [hy771]; with_reducible exact H) | (have H2_ := (Option.bind_some _ _).symm.trans H; rw [hy771]; with_reducible exact H2_) | (have H2_ := (Option.bind_some _ _).symm.trans H; with_reducible exact H2_) | with_reducible exact H | (rw [hy771]; exact H) | exact H
        have cE := Aside0.mk hy771
        clear hy771
        have eO := eq_true (of_decide_eq_true oM : 0 ≤ aA)
        have eP := eq_true (of_decide_eq_true oM : aA ≤ (l1.length : Int))
        by_cases dE : aJ.length + (l1.drop (aA : Int).toNat).length < 140737488355328
        ·rw [if_pos dE] at H
         have LMc35 := Aside0.mk dE
         clear dE
         obtain ⟨y775, hy775⟩ : ∃ y_ : List Int, y_ = (aJ ++ (l1.drop (aA : Int).toNat)) := ⟨_, rfl⟩
         replace H : (some (y775, bU)) = some (r1, r2) := by first | (rw [hy775]; with_reducible exact H) | (have H2_ := (Option.bind_some _ _).symm.trans H; rw [hy775]; with_reducible exact H2_) | (have H2_ := (Option.bind_some _ _).symm.trans H; with_reducible exact H2_) | with_reducible exact H | (rw [hy775]; exact H) | exact H
         have cF := Aside0.mk hy775
         clear hy775
         simp only [Option.some.injEq, Prod.mk.injEq] at H
         obtain ⟨rfl, rfl⟩ := H
         go_enter Try.func58, Try.ntmps58
         try go_wp2_with (first | ((with_reducible refine gate_callee (f := 40) rfl ?_); refine goesL_ (some 17) rfl rfl Try.func40 oK rfl #[.pointer (some ⟨g, 0, none⟩), .int .i64 (l1.length : Int)] rfl oA ?_; (with_reducible refine (spec_l20Rd_pick.calls k g s0_0 s0_1 (l1.length : Int) aA bF w0 _ ?side1 ?side2 A8.out).mono ?_); (case side1 => exact oI89 aC); (case side2 => exact oH HB (IsS89.ge aC.out)); rintro e fN ⟨rfl, hi, hb, hk⟩; refine ⟨_, rfl, ?_⟩; have n_ := o2_ (KeepBut.trans (oE HK) hk (.inl rfl)) (o2_ (hb) (o1_ (hi))); clear HK HB aC; obtain ⟨HK, HB, aC⟩ := n_; (try clear hb); (try clear hb2); (try clear hk); (try clear hi)) | ((with_reducible refine gate_callee (f := 40) rfl ?_); refine goesL_ (some 19) rfl rfl Try.func40 oK rfl #[.pointer (some ⟨g, 0, none⟩), .int .i64 3] rfl oA ?_; (with_reducible refine (spec_l20Rd_pick.calls k g s0_0 bF 3 aQ aM w0 _ ?side1 ?side2 A9.out).mono ?_); (case side1 => exact oI89 aC); (case side2 => exact oH HB (IsS89.ge aC.out)); rintro e fG ⟨rfl, hi, hb, hk⟩; refine ⟨_, rfl, ?_⟩; have n_ := o2_ (KeepBut.trans (oE HK) hk (.inl rfl)) (o2_ (hb) (o1_ (hi))); clear HK HB aC; obtain ⟨HK, HB, aC⟩ := n_; (try clear hb); (try clear hb2); (try clear hk); (try clear hi)))
         have n_ := o2_ (IsS89.drew aC.out) (o2_ (keep_drew HK.out) (o1_ (below_drew1 HB.out)))
         clear aC HK HB
         obtain ⟨aC, HK, HB⟩ := n_
         obtain ⟨i039, hi039, _, hsz39, _⟩ := info_parts info5
         obtain ⟨hcut39, hA39, hC39⟩ := print_take_of (P := Try.prog) (Value.int .u8) 0 24 5 .i64 Try.underlying24 hi039 hsz39 A1 c1 l1 aA (of_decide_eq_true oM) (of_decide_eq_true oM) cZ.out
         have bI := Aside0.mk (Kd.C_of_reads (h1 := fun _ => rfl) (hA39 _ (Kd.reads_of_C bK.out)))
         have eA := Aside0.mk hC39
         have hf765 : ∀ ad : Addr, A1 = some ad → 0 < (l1.take (aA : Int).toNat).length → ad.block ≠ g := fun ad he h_ => by cases he; exact Kd.foot_ne (fun W_ hk_ => Kd.C_of_reads (h1 := fun _ => rfl) (hA39 _ (Kd.reads_of_C (Kd.C_foot_ne (fun h => h) bK.out hf1 W_ hk_)))) h_ oD
         clear hA39 hC39 hi039 hsz39
         obtain ⟨i040, hi040, _, hsz40, _⟩ := info_parts info5
         obtain ⟨cY, hcut40, hA40, hC40⟩ := print_drop_of (P := Try.prog) (Value.int .u8) 0 24 5 .i64 Try.underlying24 hi040 hsz40 A1 c1 l1 aA (of_decide_eq_true oM) (of_decide_eq_true oM) cZ.out
         have bJ := Aside0.mk (Kd.C_of_reads (h1 := fun _ => rfl) (hA40 _ (Kd.reads_of_C bK.out)))
         have eB := Aside0.mk hC40
         have hf774 : ∀ ad : Addr, cY = some ad → 0 < (l1.drop (aA : Int).toNat).length → ad.block ≠ g := fun ad he h_ => by cases he; exact Kd.foot_ne (fun W_ hk_ => Kd.C_of_reads (h1 := fun _ => rfl) (hA40 _ (Kd.reads_of_C (Kd.C_foot_ne (fun h => h) bK.out hf1 W_ hk_)))) h_ oD
         clear hA40 hC40 hi040 hsz40
         refine start_ (n := 15) (S := fun w' => True) (ds := []) #[false, false, false, false, false, false, false, false, false, false, false, false, false, false, false] oK rfl rfl trivial (fun hHeld => ?_); refine with_tabW spec_l20Turn.tab8 spec_l20Turn.bits8 (fun HT_ HW_ => ?_)
         generalize fG.drew = fO at aC HK HB bI bJ hHeld ⊢
         refine pure_ (i := 1) (N := some 35) (v := ?_) (a' := ?_) #[false, true, false, false, false, false, false, false, false, false, false, false, false, false, false] rfl rfl (any_of HT_.out oK) (fun _ _ _ h => h) (Or.inl ⟨by rfl, ?_⟩) ?_ ?_
         rotate_left
         ·intro w'
          go_simp
          with_reducible rfl
         rotate_left
         ·exact oT
         refine pure_ (i := 2) (N := some 36) (v := ?_) (a' := ?_) #[false, true, true, false, false, false, false, false, false, false, false, false, false, false, false] rfl rfl (any_of HT_.out oK) (fun _ _ _ h => h) (Or.inl ⟨by rfl, ?_⟩) ?_ ?_
         rotate_left
         ·intro w'
          go_simp
          with_reducible rfl
         rotate_left
         ·exact oT
         refine pure_ (i := 3) (N := some 37) (v := ?_) (a' := ?_) #[false, true, true, true, false, false, false, false, false, false, false, false, false, false, false] rfl rfl (any_of HT_.out oK) (fun _ _ _ h => h) (Or.inl ⟨by rfl, ?_⟩) ?_ ?_
         rotate_left
         ·intro w'
          go_simp
          with_reducible rfl
         rotate_left
         ·exact oT
         refine pure_ (i := 5) (N := some 39) (v := ?_) (a' := ?_) #[false, true, true, true, false, true, false, false, false, false, false, false, false, false, false] rfl rfl (any_of HT_.out oK) (fun _ _ _ h => h) (Or.inl ⟨by rfl, ?_⟩) ?_ ?_
         rotate_left
         ·intro w'
          go_simp
          with_reducible rfl
         rotate_left
         ·exact oT
         refine pure_ (i := 10) (N := some 44) (v := ?_) (a' := ?_) #[false, true, true, true, false, true, false, false, false, false, true, false, false, false, false] rfl rfl (any_of HT_.out oK) (fun _ _ _ h => h) (Or.inl ⟨by rfl, ?_⟩) ?_ ?_
         rotate_left
         ·intro w'
          go_simp
          with_reducible rfl
         rotate_left
         ·exact oT
         refine pure_ (i := 11) (N := some 45) (v := ?_) (a' := ?_) #[false, true, true, true, false, true, false, false, false, false, true, true, false, false, false] rfl rfl (any_of HT_.out oK) (fun _ _ _ h => h) (Or.inl ⟨by rfl, ?_⟩) ?_ ?_
         rotate_left
         ·intro w'
          go_simp
          with_reducible rfl
         rotate_left
         ·exact oT
         refine pure_ (i := 12) (N := some 46) (v := ?_) (a' := ?_) #[false, true, true, true, false, true, false, false, false, false, true, true, true, false, false] rfl rfl (any_of HT_.out oK) (fun _ _ _ h => h) (Or.inl ⟨by rfl, ?_⟩) ?_ ?_
         rotate_left
         ·intro w'
          go_simp
          with_reducible rfl
         rotate_left
         ·exact oT
         refine one_ (i := 0) (N := some 34) #[true, true, true, true, false, true, false, false, false, false, true, true, true, false, false] rfl rfl (one_of HT_.out oK) oD (fun K hK => ?_)
         refine Kd.R_lit_step (Kd.int .u8) _ 5 ?hg (N := 34) ?hd (xs := ([] : List Int)) (inner := []) (ok := fun _ => True) (okp := fun _ => True) ?hr ?hp (fun _ hk => hk) trivial (Below.refl _ _) (Nat.le_refl _) (by simp) ?_; (case hd => rfl); (case hg => rfl); (case hr => first | (go_simp; done) | (go_simp; rfl)); (case hp => exact (Reps.none _ _))
         intro dS fP ho42 hb hg_ hnew_
         clear hg_ hnew_
         (first | rw [← bO.out] at ho42 | (simp only [Int.reduceToNat] at ho42; rw [← bO.out] at ho42))
         have n_ := o2_ (Kd.R_lower ho42 (keep_size (w := w) (g := g) (row := none) (oE HK))) (o2_ (IsS89.below (oI89 aC) hb) (o2_ (KeepBut.trans (oE HK) (KeepBut.of_below hb g none) (.inl rfl)) (o1_ (below_step (oH HB (IsS89.ge aC.out)) hb))))
         clear aC HK HB
         obtain ⟨bB, aC, HK, HB⟩ := n_
         clear hb ho42
         refine hK.out _ _ trivial (fun hHeld => ?_)
         clear hK K
         refine norm_ (a' := ?_) ?_ ?_
         rotate_left
         ·show Act.put _ (some 34) _ = _
          exact oT
         refine one_ (i := 4) (N := some 38) #[true, true, true, true, true, true, false, false, false, false, true, true, true, false, false] rfl rfl (one_of HT_.out oK) oD (fun K hK => ?_)
         refine Kd.R_append_rows_step (Kd.int .u8) w.heap.size (by rfl) (.tmp 34) (.tmp 37) 24 5 (.int .u8 0) 1 rfl Try.underlying24 info5 rfl oD (by omega) dS aV (l1.take (aA : Int).toNat) _ _ _ (fun _ => True) (fun _ => False) rfl rfl ?aO ?aR (fun _ _ h => h) (fun _ h => h.elim) ?aF (Below.refl _ _) ?aS ?aL ?_
         (case aR => first | (refine Go.Proofs.Ytfnkaccncmjnaaa.Hyb.C_cast (show (l1.take (aA : Int).toNat).length = aA.toNat from (by rw [List.length_take]; have h_ : (aA : Int) ≤ (l1.length : Int) := of_decide_eq_true oM; omega)) ?_; exact Kd.C_keep 0 bI.out (oE HK) hf765) | (exact Kd.C_keep 0 bI.out (oE HK) hf765))
         (case aF => exact (fun _ _ => trivial))
         (case aO => exact (oR bB))
         (case aS => exact (keep_size (w := w) (g := g) (row := none) (oE HK)))
         (case aL => have := LMc30.out; have hlx_ := (show (l1.take (aA : Int).toNat).length = aA.toNat from (by rw [List.length_take]; have h_ : (aA : Int) ≤ (l1.length : Int) := of_decide_eq_true oM; omega)); omega)
         intro dT fQ ho hb hg hat
         rw [← cD.out] at ho
         have n_ := o2_ (IsS89.grownF aC.out (oI89 aC) hg (IsS89.own_ne aC.out bB.out oD)) (o2_ (below_weaken (oH HB (IsS89.ge aC.out)) HL.out hb) (o2_ (KeepBut.trans (oE HK) (KeepBut.of_grown hg g) (Kd.R_base2 bB.out)) (o1_ (ho))))
         clear aC HB HK bB
         obtain ⟨aC, HB, HK, aT⟩ := n_
         clear ho hb hg hat
         refine hK.out _ _ trivial (fun hHeld => ?_)
         clear hK K
         refine norm_ (a' := ?_) ?_ ?_
         rotate_left
         ·show Act.put _ (some 38) _ = _
          exact oT
         refine one_ (i := 6) (N := some 40) #[true, true, true, true, true, true, true, false, false, false, true, true, true, false, false] rfl rfl (one_of HT_.out oK) oD (fun K hK => ?_)
         refine goes_ Try.func40 oK rfl #[.pointer (some ⟨g, 0, none⟩), .int .i64 9] (by rfl) rfl rfl oA ?_
         with_reducible refine (spec_l20Rd_pick.calls k g s0_0 aM 9 bL bU w0 _ ?side1 ?side2 eV.out).mono ?_
         (case side1 => exact oI89 aC)
         (case side2 => exact oH HB (IsS89.ge aC.out))
         rintro e fR ⟨rfl, hi, hb, hk⟩
         refine ⟨_, rfl, ?_⟩
         have n_ := o2_ (Kd.R_mono (Kd.R_keep (IsS89.apart (show IsS89 w0 _ g s0_0 aM from oI89 aC) (oR aT) oD) hk (fun _ h => h.2)) (fun _ h => h.1)) (o2_ (KeepBut.trans (oE HK) hk (.inl rfl)) (o2_ (hb) (o1_ (hi))))
         clear aT HK HB aC
         obtain ⟨aT, HK, HB, aC⟩ := n_
         (try clear hb)
         (try clear hb2)
         (try clear hk)
         (try clear hi)
         refine hK.out _ _ trivial (fun hHeld => ?_)
         clear hK K
         refine norm_ (a' := ?_) ?_ ?_
         rotate_left
         ·show Act.put _ (some 40) _ = _
          exact oT
         refine pure_ (i := 7) (N := some 41) (v := ?_) (a' := ?_) #[true, true, true, true, true, true, true, true, false, false, true, true, true, false, false] rfl rfl (any_of HT_.out oK) (fun _ _ _ h => h) (Or.inl ⟨by rfl, ?_⟩) ?_ ?_
         rotate_left
         ·intro w'
          go_simp
          with_reducible rfl
         rotate_left
         ·exact oT
         refine one_ (i := 8) (N := some 42) #[true, true, true, true, true, true, true, true, true, false, true, true, true, false, false] rfl rfl (one_of HT_.out oK) oD (fun K hK => ?_)
         refine value_ (w1 := ?_) (v := ?_) (by rfl) rfl ?_ ?_
         rotate_left 2
         ·go_simp
          constructor
          ·rfl
          ·rfl
         refine hK.out _ _ trivial (fun hHeld => ?_)
         clear hK K
         refine norm_ (a' := ?_) ?_ ?_
         rotate_left
         ·show Act.put _ (some 42) _ = _
          exact oT
         refine one_ (i := 9) (N := some 43) #[true, true, true, true, true, true, true, true, true, true, true, true, true, false, false] rfl rfl (one_of HT_.out oK) oD (fun K hK => ?_)
         refine Kd.R_append_step (Kd.int .u8) w.heap.size (by rfl) (.tmp 38) (.tmp 42) 24 5 (.int .u8 0) 1 rfl Try.underlying24 info5 rfl oD (by omega) dT aN ((bL) % 256) [.int .u8 ((bL) % 256)] (fun _ => True) (fun _ => False) rfl rfl ?aP (fun _ hk => hk.elim) ?aF ?aO (Below.refl _ _) ?aS ?aL ?_
         (case aP => exact rfl)
         (case aF => exact (fun _ _ => trivial))
         (case aO => exact (oR aT))
         (case aS => exact (keep_size (w := w) (g := g) (row := none) (oE HK)))
         (case aL => have := LMc32.out; omega)
         intro dU fS ho hb hg hat
         rw [← cE.out] at ho
         have n_ := o2_ (IsS89.grownF aC.out (oI89 aC) hg (IsS89.own_ne aC.out aT.out oD)) (o2_ (below_weaken (oH HB (IsS89.ge aC.out)) HL.out hb) (o2_ (KeepBut.trans (oE HK) (KeepBut.of_grown hg g) (Kd.R_base2 aT.out)) (o1_ (ho))))
         clear aC HB HK aT
         obtain ⟨aC, HB, HK, bC⟩ := n_
         clear ho hb hg hat
         refine hK.out _ _ trivial (fun hHeld => ?_)
         clear hK K
         refine norm_ (a' := ?_) ?_ ?_
         rotate_left
         ·show Act.put _ (some 43) _ = _
          exact oT
         refine one_ (i := 13) (N := some 47) #[true, true, true, true, true, true, true, true, true, true, true, true, true, true, false] rfl rfl (one_of HT_.out oK) oD (fun K hK => ?_)
         refine Kd.R_append_rows_step (Kd.int .u8) w.heap.size (by rfl) (.tmp 43) (.tmp 46) 24 5 (.int .u8 0) 1 rfl Try.underlying24 info5 rfl oD (by omega) dU aJ (l1.drop (aA : Int).toNat) _ _ _ (fun _ => True) (fun _ => False) rfl rfl ?aO ?aR (fun _ _ h => h) (fun _ h => h.elim) ?aF (Below.refl _ _) ?aS ?aL ?_
         (case aR => first | (refine Go.Proofs.Ytfnkaccncmjnaaa.Hyb.C_cast (show (l1.drop (aA : Int).toNat).length = (l1.length - aA.toNat) from List.length_drop) ?_; exact Kd.C_keep 0 bJ.out (oE HK) hf774) | (exact Kd.C_keep 0 bJ.out (oE HK) hf774))
         (case aF => exact (fun _ _ => trivial))
         (case aO => exact (oR bC))
         (case aS => exact (keep_size (w := w) (g := g) (row := none) (oE HK)))
         (case aL => have := LMc35.out; have hlx_ := (show (l1.drop (aA : Int).toNat).length = (l1.length - aA.toNat) from List.length_drop); omega)
         intro fD fT ho hb hg hat
         rw [← cF.out] at ho
         have n_ := o2_ (IsS89.grownF aC.out (oI89 aC) hg (IsS89.own_ne aC.out bC.out oD)) (o2_ (below_weaken (oH HB (IsS89.ge aC.out)) HL.out hb) (o2_ (KeepBut.trans (oE HK) (KeepBut.of_grown hg g) (Kd.R_base2 bC.out)) (o1_ (ho))))
         clear aC HB HK bC
         obtain ⟨aC, HB, HK, cA⟩ := n_
         clear ho hb hg hat
         refine hK.out _ _ trivial (fun hHeld => ?_)
         clear hK K
         refine norm_ (a' := ?_) ?_ ?_
         rotate_left
         ·show Act.put _ (some 47) _ = _
          exact oT
         refine pure_ (i := 14) (N := some 4) (v := ?_) (a' := ?_) #[true, true, true, true, true, true, true, true, true, true, true, true, true, true, true] rfl rfl (any_of HT_.out oK) (fun _ _ _ h => h) (Or.inl ⟨by rfl, ?_⟩) ?_ ?_
         rotate_left
         ·intro w'
          go_simp
          with_reducible rfl
         rotate_left
         ·exact oT
         refine done_ (done_of HT_.out oK) ?_
         try go_wp2
         go_ret
         exact ⟨_, by first | rfl | (simp [errW_none, errW_some] <;> rfl) | (simp [*, errW_none, errW_some] <;> rfl), by (with_reducible repeat (first | apply Kd.R_alloc | apply Kd.R_drewN | apply Kd.R_drew)); exact cA.out, oI89 aC, oH HB (IsS89.ge aC.out), oE HK⟩
        ·rw [if_neg dE] at H
         exact absurd H (by simp)
       ·rw [if_neg dD] at H
        exact absurd H (by simp)
      ·rw [if_neg dC] at H
       exact absurd H (by simp)
     ·rw [if_neg cS] at H
      exact absurd H (by simp)
    ·rw [if_neg cR] at H
     exact absurd H (by simp)
   ·rw [if_neg bR] at H
    have cP : (aQ == 1) = false := beq_eq_false_iff_ne.mpr bR
    have cQ : (aQ != 1) = true := bne_iff_ne.mpr bR
    obtain ⟨aW, hy778⟩ : ∃ y_ : List Int, y_ = (([] : List Int)) := ⟨_, rfl⟩
    replace H : (if aW.length + l1.length < 140737488355328 then ((some (aW ++ l1 : List Int)).bind fun aE => (if 0 ≤ aA then (if aA < (aE.length : Int) then ((spec_l20Rd_pick.f k s0_0 aM 255).bind fun aI => (some ((aE.set (aA : Int).toNat (Go.bits .xor .u8 (rd aE aA) ((wrap64 (1 + aI.1)) % 256))), aI.2))) else (none)) else (none))) else (none)) = some (r1, r2) := by first | (rw [hy778]; with_reducible exact H) | (have H2_ := (Option.bind_some _ _).symm.trans H; rw [hy778]; with_reducible exact H2_) | (have H2_ := (Option.bind_some _ _).symm.trans H; with_reducible exact H2_) | with_reducible exact H | (rw [hy778]; exact H) | exact H
    have bP := Aside0.mk hy778
    clear hy778
    by_cases dF : aW.length + l1.length < 140737488355328
    ·rw [if_pos dF] at H
     have LMc47 := Aside0.mk dF
     clear dF
     obtain ⟨aE, hy781⟩ : ∃ y_ : List Int, y_ = (aW ++ l1) := ⟨_, rfl⟩
     replace H : (if 0 ≤ aA then (if aA < (aE.length : Int) then ((spec_l20Rd_pick.f k s0_0 aM 255).bind fun aI => (some ((aE.set (aA : Int).toNat (Go.bits .xor .u8 (rd aE aA) ((wrap64 (1 + aI.1)) % 256))), aI.2))) else (none)) else (none)) = some (r1, r2) := by first | (rw [hy781]; with_reducible exact H) | (have H2_ := (Option.bind_some _ _).symm.trans H; rw [hy781]; with_reducible exact H2_) | (have H2_ := (Option.bind_some _ _).symm.trans H; with_reducible exact H2_) | with_reducible exact H | (rw [hy781]; exact H) | exact H
     have cG := Aside0.mk hy781
     clear hy781
     by_cases dG : 0 ≤ aA
     ·rw [if_pos dG] at H
      have eQ : decide (0 ≤ aA) = true := decide_eq_true dG
      clear dG
      by_cases dH : aA < (aE.length : Int)
      ·rw [if_pos dH] at H
       have eR : decide (aA < (aE.length : Int)) = true := decide_eq_true dH
       clear dH
       replace H := Option.bind_eq_some_iff.mp H
       obtain ⟨⟨bV, cX⟩, bX, H⟩ := H
       (try dsimp only at H)
       have eW := Aside0.mk bX
       clear bX
       obtain ⟨y787, hy787⟩ : ∃ y_ : List Int, y_ = (aE.set (aA : Int).toNat (Go.bits .xor .u8 (rd aE aA) ((wrap64 (1 + bV)) % 256))) := ⟨_, rfl⟩
       replace H : (some (y787, cX)) = some (r1, r2) := by first | (rw [hy787]; with_reducible exact H) | (have H2_ := (Option.bind_some _ _).symm.trans H; rw [hy787]; with_reducible exact H2_) | (have H2_ := (Option.bind_some _ _).symm.trans H; with_reducible exact H2_) | with_reducible exact H | (rw [hy787]; exact H) | exact H
       have cH := Aside0.mk hy787
       clear hy787
       simp only [Option.some.injEq, Prod.mk.injEq] at H
       obtain ⟨rfl, rfl⟩ := H
       go_enter Try.func58, Try.ntmps58
       try go_wp2_with (first | ((with_reducible refine gate_callee (f := 40) rfl ?_); refine goesL_ (some 17) rfl rfl Try.func40 oK rfl #[.pointer (some ⟨g, 0, none⟩), .int .i64 (l1.length : Int)] rfl oA ?_; (with_reducible refine (spec_l20Rd_pick.calls k g s0_0 s0_1 (l1.length : Int) aA bF w0 _ ?side1 ?side2 A8.out).mono ?_); (case side1 => exact oI89 aC); (case side2 => exact oH HB (IsS89.ge aC.out)); rintro e fU ⟨rfl, hi, hb, hk⟩; refine ⟨_, rfl, ?_⟩; have n_ := o2_ (KeepBut.trans (oE HK) hk (.inl rfl)) (o2_ (hb) (o1_ (hi))); clear HK HB aC; obtain ⟨HK, HB, aC⟩ := n_; (try clear hb); (try clear hb2); (try clear hk); (try clear hi)) | ((with_reducible refine gate_callee (f := 40) rfl ?_); refine goesL_ (some 19) rfl rfl Try.func40 oK rfl #[.pointer (some ⟨g, 0, none⟩), .int .i64 3] rfl oA ?_; (with_reducible refine (spec_l20Rd_pick.calls k g s0_0 bF 3 aQ aM w0 _ ?side1 ?side2 A9.out).mono ?_); (case side1 => exact oI89 aC); (case side2 => exact oH HB (IsS89.ge aC.out)); rintro e fV ⟨rfl, hi, hb, hk⟩; refine ⟨_, rfl, ?_⟩; have n_ := o2_ (KeepBut.trans (oE HK) hk (.inl rfl)) (o2_ (hb) (o1_ (hi))); clear HK HB aC; obtain ⟨HK, HB, aC⟩ := n_; (try clear hb); (try clear hb2); (try clear hk); (try clear hi)) | ((with_reducible refine gate_dst (N := 48) rfl ?_); refine Kd.R_lit (Kd.int .u8) _ 5 ?hg (N := 48) ?hd (xs := ([] : List Int)) (inner := []) (ok := fun _ => True) (okp := fun _ => True) ?hr ?hp (fun _ hk => hk) trivial (Below.refl _ _) (Nat.le_refl _) (by simp) ?_; (case hd => rfl); (case hg => rfl); (case hr => first | (go_simp; done) | (go_simp; rfl)); (case hp => exact (Reps.none _ _)); intro dV fW ho55 hb hg_ hnew_; clear hg_ hnew_; (first | rw [← bP.out] at ho55 | (simp only [Int.reduceToNat] at ho55; rw [← bP.out] at ho55)); have n_ := o2_ (Kd.R_lower ho55 (keep_size (w := w) (g := g) (row := none) (oE HK))) (o2_ (IsS89.below (oI89 aC) hb) (o2_ (KeepBut.trans (oE HK) (KeepBut.of_below hb g none) (.inl rfl)) (o1_ (below_step (oH HB (IsS89.ge aC.out)) hb)))); clear aC HK HB; obtain ⟨bD, aC, HK, HB⟩ := n_; clear hb ho55) | ((with_reducible refine gate_builtin (b := .append) (xs := #[.tmp 48, .tmp 49]) rfl ?_); at_builtin; refine Kd.R_append_rows (Kd.int .u8) w.heap.size rfl (.tmp 48) (.tmp 49) 24 5 (.int .u8 0) 1 rfl Try.underlying24 info5 rfl oD (by omega) dV aW l1 _ _ _ (fun _ => True) (fun _ => False) rfl rfl ?aO ?aR (fun _ _ h => h) (fun _ h => h.elim) ?aF (Below.refl _ _) ?aS ?aL ?_; (case aR => exact Kd.C_keep 0 bK.out (oE HK) hf1); (case aF => exact (fun _ _ => trivial)); (case aO => exact (oR bD)); (case aS => exact (keep_size (w := w) (g := g) (row := none) (oE HK))); (case aL => have := LMc47.out; omega); intro fE fH ho hb hg hat; rw [← cG.out] at ho; have n_ := o2_ (IsS89.grownF aC.out (oI89 aC) hg (IsS89.own_ne aC.out bD.out oD)) (o2_ (below_weaken (oH HB (IsS89.ge aC.out)) HL.out hb) (o2_ (KeepBut.trans (oE HK) (KeepBut.of_grown hg g) (Kd.R_base2 bD.out)) (o1_ (ho)))); clear aC HB HK bD; obtain ⟨aC, HB, HK, aD⟩ := n_; clear ho hb hg hat))
       have n_ := o2_ (Kd.R_drew aD.out) (o2_ (IsS89.drew aC.out) (o2_ (keep_drew HK.out) (o1_ (below_drew1 HB.out))))
       clear aD aC HK HB
       obtain ⟨aD, aC, HK, HB⟩ := n_
       obtain ⟨eX, fA, cU⟩ := Kd.R_slice aD.out
       (first | subst cU | (injection cU with f1_ f2_ f3_; have f4_ := f1_.symm; have f5_ := f3_.symm; clear f1_ f2_ f3_; subst f4_; subst f5_))
       have bS : 0 ≤ (aA : Int) := of_decide_eq_true oM
       have bT : aA < (aE.length : Int) := of_decide_eq_true oM
       obtain ⟨cI, dK, aX⟩ := Kd.at_int (Kd.R_reads' aD.out).2.2 aA bS bT
       cases dK
       replace bS := eq_true bS
       replace bT := eq_true bT
       refine start_ (n := 13) (S := fun w' => w'.cell? (cI.add (aA).toNat) = some (.int .u8 (rd aE aA))) (ds := [12]) #[false, false, false, false, false, false, false, false, false, false, false, false, false] oK rfl rfl (aX) (fun hHeld => ?_); refine with_tabW spec_l20Turn.tab10 spec_l20Turn.bits10 (fun HT_ HW_ => ?_)
       generalize fH.drew = fX at aD aC HK HB aX hHeld ⊢
       refine pure_ (i := 0) (N := some 51) (v := ?_) (a' := ?_) #[true, false, false, false, false, false, false, false, false, false, false, false, false] rfl rfl (any_of HT_.out oK) (fun _ _ _ h => h) (Or.inl ⟨by rfl, ?_⟩) ?_ ?_
       rotate_left
       ·intro w'
        go_simp
        with_reducible rfl
       rotate_left
       ·exact oT
       refine pure_ (i := 1) (N := some 52) (v := ?_) (a' := ?_) #[true, true, false, false, false, false, false, false, false, false, false, false, false] rfl rfl (any_of HT_.out oK) (fun _ _ _ h => h) (Or.inl ⟨by rfl, ?_⟩) ?_ ?_
       rotate_left
       ·intro w'
        go_simp
        with_reducible rfl
       rotate_left
       ·exact oT
       refine pure_ (i := 2) (N := some 53) (v := ?_) (a' := ?_) #[true, true, true, false, false, false, false, false, false, false, false, false, false] rfl rfl (any_of HT_.out oK) (fun _ _ _ h => h) (Or.inl ⟨by rfl, ?_⟩) ?_ ?_
       rotate_left
       ·intro w'
        go_simp
        with_reducible rfl
       rotate_left
       ·exact oT
       refine pure_ (i := 3) (N := some 54) (v := ?_) (a' := ?_) #[true, true, true, true, false, false, false, false, false, false, false, false, false] rfl rfl (any_of HT_.out oK) (fun _ _ _ h => h) (Or.inl ⟨by rfl, ?_⟩) ?_ ?_
       rotate_left
       ·intro w'
        go_simp
        with_reducible rfl
       rotate_left
       ·exact oT
       refine pure_ (i := 4) (N := some 55) (v := ?_) (a' := ?_) #[true, true, true, true, true, false, false, false, false, false, false, false, false] rfl rfl (any_of HT_.out oK) (fun _ _ _ h => h) (Or.inl ⟨by rfl, ?_⟩) ?_ ?_
       rotate_left
       ·intro w'
        go_simp
        with_reducible rfl
       rotate_left
       ·exact oT
       refine pure_ (i := 6) (N := some 57) (v := ?_) (a' := ?_) #[true, true, true, true, true, false, true, false, false, false, false, false, false] rfl rfl (any_of HT_.out oK) (fun _ _ _ h => h) (Or.inl ⟨by rfl, ?_⟩) ?_ ?_
       rotate_left
       ·intro w'
        go_simp
        with_reducible rfl
       rotate_left
       ·exact oT
       refine take_ (i := 5) (N := some 56) (v := ?_) (a' := ?_) #[true, true, true, true, true, true, true, false, false, false, false, false, false] rfl rfl (take_ofW HT_.out HW_.out oK) (fun _ _ _ h => h) (Or.inl ⟨by rfl, ?_⟩) hHeld ?_ ?_
       rotate_left
       ·intro w' s0
        go_simp
        with_reducible rfl
       rotate_left
       ·exact oT
       refine one_ (i := 7) (N := some 58) #[true, true, true, true, true, true, true, true, false, false, false, false, false] rfl rfl (one_of HT_.out oK) oD (fun K hK => ?_)
       refine goes_ Try.func40 oK rfl #[.pointer (some ⟨g, 0, none⟩), .int .i64 255] (by rfl) rfl rfl oA ?_
       with_reducible refine (spec_l20Rd_pick.calls k g s0_0 aM 255 bV cX w0 _ ?side1 ?side2 eW.out).mono ?_
       (case side1 => exact oI89 aC)
       (case side2 => exact oH HB (IsS89.ge aC.out))
       rintro e fY ⟨rfl, hi, hb, hk⟩
       have HS0_ := keep_cell hk (hHeld) (by first | (rw [add_block]; exact Kd.own_blk (IsS89.own_ne aC.out aD.out oD)) | (show (Addr.add _ _).block ≠ _; rw [add_block]; exact Kd.own_blk (IsS89.own_ne aC.out aD.out oD)) | exact Kd.own_blk (IsS89.own_ne aC.out aD.out oD))
       refine ⟨_, rfl, ?_⟩
       have n_ := o2_ (Kd.R_mono (Kd.R_keep (IsS89.apart (show IsS89 w0 _ g s0_0 aM from oI89 aC) (oR aD) oD) hk (fun _ h => h.2)) (fun _ h => h.1)) (o2_ (KeepBut.trans (oE HK) hk (.inl rfl)) (o2_ (hb) (o1_ (hi))))
       clear aD HK HB aC
       obtain ⟨aD, HK, HB, aC⟩ := n_
       (try clear hb)
       (try clear hb2)
       (try clear hk)
       (try clear hi)
       have dO : 0 ≤ (aA : Int) := of_decide_eq_true oM
       have dP : (aA : Int) < ((aE.length : Int) : Int) := of_decide_eq_true oM
       obtain ⟨dL, eZ, cT, cV, gl51, cl51, HG51⟩ := Kd.R_form aD.out (by omega)
       (first | cases cT | (injection cT with ea_ en_ ec_; (first | subst ea_ | (injection ea_ with ea_; subst ea_)); subst ec_; clear en_))
       have GB51 := Aside0.mk cV
       have GG51 := Aside0.mk HG51
       clear cV gl51 HG51
       (first | simp only [add_plain] at aX | skip)
       obtain ⟨dN, hf51_0⟩ := Kd.R_celln 0 aD.out (aA : Int) dO dP
       replace dO := eq_true dO
       replace dP := eq_true dP
       have HN0_go51 := Aside0.mk (show g ≠ dL from by have h_ := IsS89.own_ne aC.out aD.out oD; intro e_; exact h_ (by rw [e_]; rfl))
       have HP60 := Kd.R_putn aD.out (aA : Int) (Go.bits .xor .u8 (rd aE aA) ((wrap64 (1 + bV)) % 256))
       rw [← cH.out] at HP60
       have HQ60 := Aside0.mk HP60
       clear HP60
       refine hK.out _ _ (HS0_) (fun hHeld => ?_)
       clear hK K
       refine norm_ (a' := ?_) ?_ ?_
       rotate_left
       ·show Act.put _ (some 58) _ = _
        exact oT
       refine pure_ (i := 8) (N := some 59) (v := ?_) (a' := ?_) #[true, true, true, true, true, true, true, true, true, false, false, false, false] rfl rfl (any_of HT_.out oK) (fun _ _ _ h => h) (Or.inl ⟨by rfl, ?_⟩) ?_ ?_
       rotate_left
       ·intro w'
        go_simp
        with_reducible rfl
       rotate_left
       ·exact oT
       refine pure_ (i := 9) (N := some 60) (v := ?_) (a' := ?_) #[true, true, true, true, true, true, true, true, true, true, false, false, false] rfl rfl (any_of HT_.out oK) (fun _ _ _ h => h) (Or.inl ⟨by rfl, ?_⟩) ?_ ?_
       rotate_left
       ·intro w'
        go_simp
        with_reducible rfl
       rotate_left
       ·exact oT
       refine pure_ (i := 10) (N := some 61) (v := ?_) (a' := ?_) #[true, true, true, true, true, true, true, true, true, true, true, false, false] rfl rfl (any_of HT_.out oK) (fun _ _ _ h => h) (Or.inl ⟨by rfl, ?_⟩) ?_ ?_
       rotate_left
       ·intro w'
        go_simp
        with_reducible rfl
       rotate_left
       ·exact oT
       refine pure_ (i := 11) (N := some 62) (v := ?_) (a' := ?_) #[true, true, true, true, true, true, true, true, true, true, true, true, false] rfl rfl (any_of HT_.out oK) (fun _ _ _ h => h) (Or.inl ⟨by rfl, ?_⟩) ?_ ?_
       rotate_left
       ·intro w'
        go_simp
        with_reducible rfl
       rotate_left
       ·exact oT
       refine last_ (i := 12) (N := none) #[true, true, true, true, true, true, true, true, true, true, true, true, true] rfl rfl (one_of HT_.out oK) oD (fun K hK => ?_)
       refine skip_ (w1 := ?_) (by rfl) rfl ?_ ?_
       rotate_left
       ·go_simp
        rfl
       refine hK.out _ _ ?_
       clear hK K
       refine done_ (done_of HT_.out oK) ?_
       try go_wp2
       go_ret
       exact ⟨_, by first | rfl | (simp [errW_none, errW_some] <;> rfl) | (simp [*, errW_none, errW_some] <;> rfl), by (with_reducible repeat (first | apply Kd.R_alloc | apply Kd.R_drewN | apply Kd.R_drew)); exact HQ60.out, by repeat (first | (with_reducible first | exact aC.out | apply IsS89.alloc | apply IsS89.drewN | apply IsS89.drew | apply IsS89.set_1 | refine IsS89.far ?_ HN0_go51.out _) | exact aC.out), by repeat (first | (with_reducible first | exact HB.out | apply below_alloc | apply pw_below_drewN | apply below_drew1 | refine below_set ?_ (Nat.le_trans HL.out GB51.out) | refine below_set ?_ (IsS89.ge aC.out)) | exact HB.out), by repeat (first | (with_reducible first | exact HK.out | apply KeepBut.set_ | apply keep_drewN | apply keep_drew | apply keep_alloc | refine keep_far ?_ GB51.out _) | exact HK.out)⟩
      ·rw [if_neg dH] at H
       exact absurd H (by simp)
     ·rw [if_neg dG] at H
      exact absurd H (by simp)
    ·rw [if_neg dF] at H
     exact absurd H (by simp)

end Go.Proofs.Ytfnkaccncmjnaaa.X
