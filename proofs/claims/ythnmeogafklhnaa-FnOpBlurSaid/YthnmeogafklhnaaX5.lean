/- What functions of the program come to, each with its proof. No condition but what each theorem states. -/
import Derived.Test.YthnmeogafklhnaaX0
import Derived.Test.YthnmeogafklhnaaX3
import Derived.Test.YthnmeogafklhnaaX4
namespace Go.Proofs.Ythnmeogafklhnaa.X
open Go.RowKit Go.Proofs.YthnmeogafklhnaaW.PrintWords Go.Proofs.YthnmeogafklhnaaW.PrintLast Go.Proofs.YthnmeogafklhnaaW.PrintMore Go.Proofs.Ythnmeogafklhnaa.Hyb
attribute [local go_sem] max2_int min2_int max_two min_two max_three min_three max_four min_four
set_option linter.unusedVariables false
set_option linter.unusedSimpArgs false

/-! ### spec_l20Pix: function 55 -/
def spec_l20Pix.f (k : Nat) (s0_0 : List Int) (s0_1 : Int) : Option (Int × Int × Int × Int × Int) := (spec_l20Rd_pick.f k s0_0 s0_1 256).bind fun cS => ((some (([0, 255, cS.1] : List Int) : List Int)).bind fun aT => ((spec_l20Rd_pick.f k s0_0 cS.2 3).bind fun bM => (if 0 ≤ bM.1 then (if bM.1 < (aT.length : Int) then ((spec_l20Rd_pick.f k s0_0 bM.2 256).bind fun cI => ((some (([rd aT bM.1, cI.1] : List Int) : List Int)).bind fun bE => ((spec_l20Rd_pick.f k s0_0 cI.2 2).bind fun bQ => (if 0 ≤ bQ.1 then (if bQ.1 < (bE.length : Int) then ((spec_l20Rd_pick.f k s0_0 bQ.2 256).bind fun cA => ((some (([rd aT bM.1, cA.1] : List Int) : List Int)).bind fun bF => ((spec_l20Rd_pick.f k s0_0 cA.2 2).bind fun bJ => (if 0 ≤ bJ.1 then (if bJ.1 < (bF.length : Int) then ((spec_l20Rd_pick.f k s0_0 bJ.2 256).bind fun bV => ((some (([255, 255, 0, bV.1] : List Int) : List Int)).bind fun bG => ((spec_l20Rd_pick.f k s0_0 bV.2 4).bind fun bA => (if 0 ≤ bA.1 then (if bA.1 < (bG.length : Int) then (some (rd aT bM.1, rd bE bQ.1, rd bF bJ.1, rd bG bA.1, bA.2)) else (none)) else (none))))) else (none)) else (none))))) else (none)) else (none))))) else (none)) else (none))))
theorem spec_l20Pix.mono : ∀ a0 a1 k, LeO (spec_l20Pix.f k a0 a1) (spec_l20Pix.f (k + 1) a0 a1) := by
 intro a0 a1 k
 unfold spec_l20Pix.f
 repeat' first
   | (with_reducible exact spec_l20Rd_pick.mono _ _ _ _)
   | (with_reducible exact LeO.refl _)
   | (with_reducible exact LeO.none _)
   | (with_reducible refine LeO.ite ?_ ?_)
   | (with_reducible refine LeO.bind ?_ (fun _ => ?_))
   | exact spec_l20Rd_pick.mono _ _ _ _
   | exact LeO.none _
   | refine LeO.ite ?_ ?_
   | refine LeO.bind ?_ (fun _ => ?_)
def spec_l20Pix.T2 : Bool × List (List Nat × List Nat) := (true, [([], []), ([], []), ([], []), ([2], [2]), ([1, 3], [1, 3]), ([], []), ([5, 3], [5]), ([4, 6], [4, 6]), ([7], [7]), ([], []), ([], []), ([10, 6], [10]), ([9, 11], [9, 11]), ([], []), ([13, 11], [13]), ([12, 14], [12, 14]), ([15], [15]), ([], []), ([17, 14], [17]), ([18], [18]), ([], []), ([20, 18], [20]), ([19, 21], [19, 21]), ([22], [22]), ([0, 8, 16, 23], [0, 8, 16, 23]), ([24, 21, 0, 1, 2, 3, 4, 5, 6, 7, 8, 9, 10, 11, 12, 13, 14, 15, 16, 17, 18, 19, 20, 21, 22, 23, 24], [24])])
def spec_l20Pix.B2 : List Nat := [0, 0, 0, 4, 14, 0, 44, 126, 254, 0, 0, 1132, 3692, 0, 11372, 32364, 65132, 0, 158828, 420972, 0, 1469548, 4090988, 8285292, 16777215, 33554431]
theorem spec_l20Pix.tab2 : rtab .any (opsOf Try.f55 2) = spec_l20Pix.T2 := by kernel_rfl
theorem spec_l20Pix.bits2 : waitsOk spec_l20Pix.T2.2 spec_l20Pix.B2 = true := by kernel_rfl
set_option maxHeartbeats 8000000 in
set_option maxRecDepth 100000 in
theorem spec_l20Pix.calls (k : Nat) (g : Nat) (s0_0 : List Int) (s0_1 : Int) (r1 : Int) (r2 : Int) (r3 : Int) (r4 : Int) (r5 : Int) (w0 w : World) (hI : IsS72 w0 w g s0_0 s0_1) (hB : Below w0.heap.size w0 w) (h : spec_l20Pix.f k s0_0 s0_1 = some (r1, r2, r3, r4, r5)) :
  Calls Try.prog 55 #[.pointer (some ⟨g, 0, none⟩)] w fun e w' => e = .returned (.agg #[.int .i64 r1, .int .i64 r2, .int .i64 r3, .int .i64 r4]) ∧ IsS72 w0 w' g s0_0 r5 ∧ Below w0.heap.size w0 w' ∧ KeepBut w w' g none := by
 have hu38 := Try.underlying38
 have aX := Aside0.mk hI
 have HK := Aside0.mk (KeepBut.refl w g none)
 have HL := Aside0.mk hB.size
 clear hI
 have HW0 := Aside0.mk hB.size
 have HB := Aside0.mk hB
 clear hB
 have H : ((spec_l20Rd_pick.f k s0_0 s0_1 256).bind fun cS => ((some (([0, 255, cS.1] : List Int) : List Int)).bind fun aT => ((spec_l20Rd_pick.f k s0_0 cS.2 3).bind fun bM => (if 0 ≤ bM.1 then (if bM.1 < (aT.length : Int) then ((spec_l20Rd_pick.f k s0_0 bM.2 256).bind fun cI => ((some (([rd aT bM.1, cI.1] : List Int) : List Int)).bind fun bE => ((spec_l20Rd_pick.f k s0_0 cI.2 2).bind fun bQ => (if 0 ≤ bQ.1 then (if bQ.1 < (bE.length : Int) then ((spec_l20Rd_pick.f k s0_0 bQ.2 256).bind fun cA => ((some (([rd aT bM.1, cA.1] : List Int) : List Int)).bind fun bF => ((spec_l20Rd_pick.f k s0_0 cA.2 2).bind fun bJ => (if 0 ≤ bJ.1 then (if bJ.1 < (bF.length : Int) then ((spec_l20Rd_pick.f k s0_0 bJ.2 256).bind fun bV => ((some (([255, 255, 0, bV.1] : List Int) : List Int)).bind fun bG => ((spec_l20Rd_pick.f k s0_0 bV.2 4).bind fun bA => (if 0 ≤ bA.1 then (if bA.1 < (bG.length : Int) then (some (rd aT bM.1, rd bE bQ.1, rd bF bJ.1, rd bG bA.1, bA.2)) else (none)) else (none))))) else (none)) else (none))))) else (none)) else (none))))) else (none)) else (none))))) = some (r1, r2, r3, r4, r5) := h
 clear h
 replace H := Option.bind_eq_some_iff.mp H
 obtain ⟨⟨cW, dE⟩, eN, H⟩ := H
 (try dsimp only at H)
 have A2 := Aside0.mk eN
 clear eN
 obtain ⟨aT, hy110⟩ : ∃ y_ : List Int, y_ = (([0, 255, cW] : List Int)) := ⟨_, rfl⟩
 replace H : ((spec_l20Rd_pick.f k s0_0 dE 3).bind fun bM => (if 0 ≤ bM.1 then (if bM.1 < (aT.length : Int) then ((spec_l20Rd_pick.f k s0_0 bM.2 256).bind fun cI => ((some (([rd aT bM.1, cI.1] : List Int) : List Int)).bind fun bE => ((spec_l20Rd_pick.f k s0_0 cI.2 2).bind fun bQ => (if 0 ≤ bQ.1 then (if bQ.1 < (bE.length : Int) then ((spec_l20Rd_pick.f k s0_0 bQ.2 256).bind fun cA => ((some (([rd aT bM.1, cA.1] : List Int) : List Int)).bind fun bF => ((spec_l20Rd_pick.f k s0_0 cA.2 2).bind fun bJ => (if 0 ≤ bJ.1 then (if bJ.1 < (bF.length : Int) then ((spec_l20Rd_pick.f k s0_0 bJ.2 256).bind fun bV => ((some (([255, 255, 0, bV.1] : List Int) : List Int)).bind fun bG => ((spec_l20Rd_pick.f k s0_0 bV.2 4).bind fun bA => (if 0 ≤ bA.1 then (if bA.1 < (bG.length : Int) then (some (rd aT bM.1, rd bE bQ.1, rd bF bJ.1, rd bG bA.1, bA.2)) else (none)) else (none))))) else (none)) else (none))))) else (none)) else (none))))) else (none)) else (none))) = some (r1, r2, r3, r4, r5) := by first | (rw [hy110]; with_reducible exact H) | (have H2_ := (Option.bind_some _ _).symm.trans H; rw [hy110]; with_reducible exact H2_) | (have H2_ := (Option.bind_some _ _).symm.trans H; with_reducible exact H2_) | with_reducible exact H | (rw [hy110]; exact H) | exact H
 have dH := Aside0.mk hy110
 clear hy110
 replace H := Option.bind_eq_some_iff.mp H
 obtain ⟨⟨bK, dF⟩, eO, H⟩ := H
 (try dsimp only at H)
 have A3 := Aside0.mk eO
 clear eO
 by_cases c4 : 0 ≤ bK
 ·rw [if_pos c4] at H
  have fM : decide (0 ≤ bK) = true := decide_eq_true c4
  clear c4
  by_cases c5 : bK < (aT.length : Int)
  ·rw [if_pos c5] at H
   have fN : decide (bK < (aT.length : Int)) = true := decide_eq_true c5
   clear c5
   replace H := Option.bind_eq_some_iff.mp H
   obtain ⟨⟨cP, cT⟩, eP, H⟩ := H
   (try dsimp only at H)
   have A6 := Aside0.mk eP
   clear eP
   obtain ⟨bE, hy118⟩ : ∃ y_ : List Int, y_ = (([rd aT bK, cP] : List Int)) := ⟨_, rfl⟩
   replace H : ((spec_l20Rd_pick.f k s0_0 cT 2).bind fun bQ => (if 0 ≤ bQ.1 then (if bQ.1 < (bE.length : Int) then ((spec_l20Rd_pick.f k s0_0 bQ.2 256).bind fun cA => ((some (([rd aT bK, cA.1] : List Int) : List Int)).bind fun bF => ((spec_l20Rd_pick.f k s0_0 cA.2 2).bind fun bJ => (if 0 ≤ bJ.1 then (if bJ.1 < (bF.length : Int) then ((spec_l20Rd_pick.f k s0_0 bJ.2 256).bind fun bV => ((some (([255, 255, 0, bV.1] : List Int) : List Int)).bind fun bG => ((spec_l20Rd_pick.f k s0_0 bV.2 4).bind fun bA => (if 0 ≤ bA.1 then (if bA.1 < (bG.length : Int) then (some (rd aT bK, rd bE bQ.1, rd bF bJ.1, rd bG bA.1, bA.2)) else (none)) else (none))))) else (none)) else (none))))) else (none)) else (none))) = some (r1, r2, r3, r4, r5) := by first | (rw [hy118]; with_reducible exact H) | (have H2_ := (Option.bind_some _ _).symm.trans H; rw [hy118]; with_reducible exact H2_) | (have H2_ := (Option.bind_some _ _).symm.trans H; with_reducible exact H2_) | with_reducible exact H | (rw [hy118]; exact H) | exact H
   have cX := Aside0.mk hy118
   clear hy118
   replace H := Option.bind_eq_some_iff.mp H
   obtain ⟨⟨bN, cU⟩, eQ, H⟩ := H
   (try dsimp only at H)
   have A7 := Aside0.mk eQ
   clear eQ
   by_cases c8 : 0 ≤ bN
   ·rw [if_pos c8] at H
    have fO : decide (0 ≤ bN) = true := decide_eq_true c8
    clear c8
    by_cases c9 : bN < (bE.length : Int)
    ·rw [if_pos c9] at H
     have fP : decide (bN < (bE.length : Int)) = true := decide_eq_true c9
     clear c9
     replace H := Option.bind_eq_some_iff.mp H
     obtain ⟨⟨cQ, cN⟩, dM, H⟩ := H
     (try dsimp only at H)
     have fE := Aside0.mk dM
     clear dM
     obtain ⟨bF, hy126⟩ : ∃ y_ : List Int, y_ = (([rd aT bK, cQ] : List Int)) := ⟨_, rfl⟩
     replace H : ((spec_l20Rd_pick.f k s0_0 cN 2).bind fun bJ => (if 0 ≤ bJ.1 then (if bJ.1 < (bF.length : Int) then ((spec_l20Rd_pick.f k s0_0 bJ.2 256).bind fun bV => ((some (([255, 255, 0, bV.1] : List Int) : List Int)).bind fun bG => ((spec_l20Rd_pick.f k s0_0 bV.2 4).bind fun bA => (if 0 ≤ bA.1 then (if bA.1 < (bG.length : Int) then (some (rd aT bK, rd bE bN, rd bF bJ.1, rd bG bA.1, bA.2)) else (none)) else (none))))) else (none)) else (none))) = some (r1, r2, r3, r4, r5) := by first | (rw [hy126]; with_reducible exact H) | (have H2_ := (Option.bind_some _ _).symm.trans H; rw [hy126]; with_reducible exact H2_) | (have H2_ := (Option.bind_some _ _).symm.trans H; with_reducible exact H2_) | with_reducible exact H | (rw [hy126]; exact H) | exact H
     have cY := Aside0.mk hy126
     clear hy126
     replace H := Option.bind_eq_some_iff.mp H
     obtain ⟨⟨bR, cO⟩, dN, H⟩ := H
     (try dsimp only at H)
     have fF := Aside0.mk dN
     clear dN
     by_cases dR : 0 ≤ bR
     ·rw [if_pos dR] at H
      have eT : decide (0 ≤ bR) = true := decide_eq_true dR
      clear dR
      by_cases dS : bR < (bF.length : Int)
      ·rw [if_pos dS] at H
       have eU : decide (bR < (bF.length : Int)) = true := decide_eq_true dS
       clear dS
       replace H := Option.bind_eq_some_iff.mp H
       obtain ⟨⟨cR, cE⟩, dO, H⟩ := H
       (try dsimp only at H)
       have fG := Aside0.mk dO
       clear dO
       obtain ⟨bG, hy134⟩ : ∃ y_ : List Int, y_ = (([255, 255, 0, cR] : List Int)) := ⟨_, rfl⟩
       replace H : ((spec_l20Rd_pick.f k s0_0 cE 4).bind fun bA => (if 0 ≤ bA.1 then (if bA.1 < (bG.length : Int) then (some (rd aT bK, rd bE bN, rd bF bR, rd bG bA.1, bA.2)) else (none)) else (none))) = some (r1, r2, r3, r4, r5) := by first | (rw [hy134]; with_reducible exact H) | (have H2_ := (Option.bind_some _ _).symm.trans H; rw [hy134]; with_reducible exact H2_) | (have H2_ := (Option.bind_some _ _).symm.trans H; with_reducible exact H2_) | with_reducible exact H | (rw [hy134]; exact H) | exact H
       have cZ := Aside0.mk hy134
       clear hy134
       replace H := Option.bind_eq_some_iff.mp H
       obtain ⟨⟨bS, dA⟩, dP, H⟩ := H
       (try dsimp only at H)
       have fH := Aside0.mk dP
       clear dP
       by_cases dT : 0 ≤ bS
       ·rw [if_pos dT] at H
        have eV : decide (0 ≤ bS) = true := decide_eq_true dT
        clear dT
        by_cases dU : bS < (bG.length : Int)
        ·rw [if_pos dU] at H
         have eW : decide (bS < (bG.length : Int)) = true := decide_eq_true dU
         clear dU
         simp only [Option.some.injEq, Prod.mk.injEq] at H
         obtain ⟨rfl, rfl, rfl, rfl, rfl⟩ := H
         go_enter Try.func55, Try.ntmps55
         try go_wp2_with (first | ((with_reducible refine gate_dst (N := 2) rfl ?_); refine box_event rfl (N := 2) rfl (cs := #[.int .i64 0, .int .i64 0, .int .i64 0, .int .i64 0]) (t := 38) oS ?_; intro bB hg gP hbox hb; have n_ := o2_ (IsS72.below (oI72 aX) hb) (o2_ (KeepBut.trans (oE HK) (KeepBut.of_below hb g none) (.inl rfl)) (o2_ (below_step (oH HB (IsS72.ge aX.out)) hb) (o2_ (hbox) (o2_ ((by rw [hg]; exact (keep_size (w := w) (g := g) (row := none) (oE HK)) : w.heap.size ≤ bB)) (o2_ ((Nat.le_trans HW0.out (by rw [hg]; exact (keep_size (w := w) (g := g) (row := none) (oE HK)) : w.heap.size ≤ bB) : w0.heap.size ≤ bB)) (o2_ ((by rw [hg]; exact Nat.ne_of_lt (IsS72.lt (show IsS72 w0 _ g s0_0 s0_1 from oI72 aX)) : g ≠ bB)) (o1_ ((by rw [hg]; exact Nat.ne_of_gt (IsS72.lt (show IsS72 w0 _ g s0_0 s0_1 from oI72 aX)) : bB ≠ g))))))))); clear aX HK HB; obtain ⟨aX, HK, HB, aD, eS, eR, dQ, bU⟩ := n_; clear hb hbox hg) | ((with_reducible refine gate_callee (f := 56) rfl ?_); refine goesL_ (some 5) rfl rfl Try.func56 oK rfl #[.pointer (some ⟨g, 0, none⟩), .int .i64 256] rfl oA ?_; (with_reducible refine (spec_l20Rd_pick.calls k g s0_0 s0_1 256 cW dE w0 _ ?side1 ?side2 A2.out).mono ?_); (case side1 => exact oI72 aX); (case side2 => exact oH HB (IsS72.ge aX.out)); rintro e gQ ⟨rfl, hi, hb, hk⟩; refine ⟨_, rfl, ?_⟩; have n_ := o2_ (oJ hk aD bU) (o2_ (KeepBut.trans (oE HK) hk (.inl rfl)) (o2_ (hb) (o1_ (hi)))); clear aD HK HB aX; obtain ⟨aD, HK, HB, aX⟩ := n_; (try clear hb); (try clear hb2); (try clear hk); (try clear hi)) | ((with_reducible refine gate_dst (N := 6) rfl ?_); refine Kd.R_lit (Kd.int .i64) _ 3 ?hg (N := 6) ?hd (xs := ([0, 255, cW] : List Int)) (inner := [.int .i64 0, .int .i64 255, .int .i64 cW]) (ok := fun _ => True) (okp := fun _ => True) ?hr ?hp (fun _ hk => hk) trivial (Below.refl _ _) (Nat.le_refl _) (by simp) ?_; (case hd => rfl); (case hg => rfl); (case hr => first | (go_simp; done) | (go_simp; rfl)); (case hp => exact (Reps.one (show Kd.M (Kd.int .i64) _ _ _ 0 [.int .i64 0] from rfl) (Reps.one (show Kd.M (Kd.int .i64) _ _ _ 255 [.int .i64 255] from rfl) (Reps.one (show Kd.M (Kd.int .i64) _ _ _ cW [.int .i64 cW] from rfl) (Reps.none _ _))))); intro fZ gR ho21 hb hg_ hnew_; clear hg_ hnew_; (first | rw [← dH.out] at ho21 | (simp only [Int.reduceToNat] at ho21; rw [← dH.out] at ho21)); have n_ := o2_ (Kd.R_lower ho21 (keep_size (w := w) (g := g) (row := none) (oE HK))) (o2_ (IsS72.below (oI72 aX) hb) (o2_ (blk_below (oP aD) hb) (o2_ (KeepBut.trans (oE HK) (KeepBut.of_below hb g none) (.inl rfl)) (o1_ (below_step (oH HB (IsS72.ge aX.out)) hb))))); clear aX aD HK HB; obtain ⟨aL, aX, aD, HK, HB⟩ := n_; clear hb ho21) | ((with_reducible refine gate_callee (f := 56) rfl ?_); refine goesL_ (some 8) rfl rfl Try.func56 oK rfl #[.pointer (some ⟨g, 0, none⟩), .int .i64 3] rfl oA ?_; (with_reducible refine (spec_l20Rd_pick.calls k g s0_0 dE 3 bK dF w0 _ ?side1 ?side2 A3.out).mono ?_); (case side1 => exact oI72 aX); (case side2 => exact oH HB (IsS72.ge aX.out)); rintro e gA ⟨rfl, hi, hb, hk⟩; refine ⟨_, rfl, ?_⟩; have n_ := o2_ (oJ hk aD bU) (o2_ (Kd.R_mono (Kd.R_keep (IsS72.apart (show IsS72 w0 _ g s0_0 dE from oI72 aX) (oR aL) oD) hk (fun _ h => h.2)) (fun _ h => h.1)) (o2_ (KeepBut.trans (oE HK) hk (.inl rfl)) (o2_ (hb) (o1_ (hi))))); clear aD aL HK HB aX; obtain ⟨aD, aL, HK, HB, aX⟩ := n_; (try clear hb); (try clear hb2); (try clear hk); (try clear hi); obtain ⟨fI, bY, eD⟩ := Kd.R_slice aL.out; subst eD; have dK : 0 ≤ (bK : Int) := of_decide_eq_true oM; have dL : bK < (aT.length : Int) := of_decide_eq_true oM; obtain ⟨bP, eC, dV⟩ := Kd.at_int (Kd.R_reads' aL.out).2.2 bK dK dL; cases eC; replace dK := eq_true dK; replace dL := eq_true dL))
         have pi123 : (0 ≤ (bN : Int)) = True := eq_true (of_decide_eq_true oM)
         have qi123 : (bN < (bE.length : Int)) = True := eq_true (of_decide_eq_true oM)
         have pi131 : (0 ≤ (bR : Int)) = True := eq_true (of_decide_eq_true oM)
         have qi131 : (bR < (bF.length : Int)) = True := eq_true (of_decide_eq_true oM)
         have pi139 : (0 ≤ (bS : Int)) = True := eq_true (of_decide_eq_true oM)
         have qi139 : (bS < (bG.length : Int)) = True := eq_true (of_decide_eq_true oM)
         have n_ := o2_ (Kd.R_drew aL.out) (o2_ (blk_drew aD.out) (o2_ (IsS72.drew aX.out) (o2_ (keep_drew HK.out) (o1_ (below_drew1 HB.out)))))
         clear aL aD aX HK HB
         obtain ⟨aL, aD, aX, HK, HB⟩ := n_
         refine start_ (n := 26) (S := fun w' => True) (ds := []) #[false, false, false, false, false, false, false, false, false, false, false, false, false, false, false, false, false, false, false, false, false, false, false, false, false, false] oK rfl rfl trivial (fun hHeld => ?_); refine with_tabW spec_l20Pix.tab2 spec_l20Pix.bits2 (fun HT_ HW_ => ?_)
         generalize gA.drew = gS at aL aD aX HK HB hHeld ⊢
         refine pure_ (i := 0) (N := some 11) (v := ?_) (a' := ?_) #[true, false, false, false, false, false, false, false, false, false, false, false, false, false, false, false, false, false, false, false, false, false, false, false, false, false] rfl rfl (any_of HT_.out oK) (fun _ _ _ h => h) (Or.inl ⟨by rfl, ?_⟩) ?_ ?_
         rotate_left
         ·intro w'
          go_simp
          with_reducible rfl
         rotate_left
         ·exact oT
         refine pure_ (i := 1) (N := some 12) (v := ?_) (a' := ?_) #[true, true, false, false, false, false, false, false, false, false, false, false, false, false, false, false, false, false, false, false, false, false, false, false, false, false] rfl rfl (any_of HT_.out oK) (fun _ _ _ h => h) (Or.inl ⟨by rfl, ?_⟩) ?_ ?_
         rotate_left
         ·intro w'
          go_simp
          with_reducible rfl
         rotate_left
         ·exact oT
         refine pure_ (i := 2) (N := some 13) (v := ?_) (a' := ?_) #[true, true, true, false, false, false, false, false, false, false, false, false, false, false, false, false, false, false, false, false, false, false, false, false, false, false] rfl rfl (any_of HT_.out oK) (fun _ _ _ h => h) (Or.inl ⟨by rfl, ?_⟩) ?_ ?_
         rotate_left
         ·intro w'
          go_simp
          with_reducible rfl
         rotate_left
         ·exact oT
         refine pure_ (i := 5) (N := some 16) (v := ?_) (a' := ?_) #[true, true, true, false, false, true, false, false, false, false, false, false, false, false, false, false, false, false, false, false, false, false, false, false, false, false] rfl rfl (any_of HT_.out oK) (fun _ _ _ h => h) (Or.inl ⟨by rfl, ?_⟩) ?_ ?_
         rotate_left
         ·intro w'
          go_simp
          with_reducible rfl
         rotate_left
         ·exact oT
         refine pure_ (i := 9) (N := some 20) (v := ?_) (a' := ?_) #[true, true, true, false, false, true, false, false, false, true, false, false, false, false, false, false, false, false, false, false, false, false, false, false, false, false] rfl rfl (any_of HT_.out oK) (fun _ _ _ h => h) (Or.inl ⟨by rfl, ?_⟩) ?_ ?_
         rotate_left
         ·intro w'
          go_simp
          with_reducible rfl
         rotate_left
         ·exact oT
         refine pure_ (i := 10) (N := some 21) (v := ?_) (a' := ?_) #[true, true, true, false, false, true, false, false, false, true, true, false, false, false, false, false, false, false, false, false, false, false, false, false, false, false] rfl rfl (any_of HT_.out oK) (fun _ _ _ h => h) (Or.inl ⟨by rfl, ?_⟩) ?_ ?_
         rotate_left
         ·intro w'
          go_simp
          with_reducible rfl
         rotate_left
         ·exact oT
         refine pure_ (i := 13) (N := some 24) (v := ?_) (a' := ?_) #[true, true, true, false, false, true, false, false, false, true, true, false, false, true, false, false, false, false, false, false, false, false, false, false, false, false] rfl rfl (any_of HT_.out oK) (fun _ _ _ h => h) (Or.inl ⟨by rfl, ?_⟩) ?_ ?_
         rotate_left
         ·intro w'
          go_simp
          with_reducible rfl
         rotate_left
         ·exact oT
         refine pure_ (i := 17) (N := some 28) (v := ?_) (a' := ?_) #[true, true, true, false, false, true, false, false, false, true, true, false, false, true, false, false, false, true, false, false, false, false, false, false, false, false] rfl rfl (any_of HT_.out oK) (fun _ _ _ h => h) (Or.inl ⟨by rfl, ?_⟩) ?_ ?_
         rotate_left
         ·intro w'
          go_simp
          with_reducible rfl
         rotate_left
         ·exact oT
         refine pure_ (i := 20) (N := some 31) (v := ?_) (a' := ?_) #[true, true, true, false, false, true, false, false, false, true, true, false, false, true, false, false, false, true, false, false, true, false, false, false, false, false] rfl rfl (any_of HT_.out oK) (fun _ _ _ h => h) (Or.inl ⟨by rfl, ?_⟩) ?_ ?_
         rotate_left
         ·intro w'
          go_simp
          with_reducible rfl
         rotate_left
         ·exact oT
         refine inv_at [3, 4, 6, 7, 8, 11, 12, 14, 15, 16, 18, 19, 21, 22, 23, 24, 25] (fun a0_ b a w' => ∃ (aZ : Value) (aE : Addr) (bC : Value) (aF : Addr) (bD : Value) (aG : Addr) (bZ : Value) (bH : Value) (bI : Value), a = putSel a0_ b [(3, 14, .int .i64 cP), (4, 15, aZ), (6, 17, .int .i64 bN), (7, 18, bZ), (8, 19, .int .i64 (rd bE bN)), (11, 22, .int .i64 cQ), (12, 23, bC), (14, 25, .int .i64 bR), (15, 26, bH), (16, 27, .int .i64 (rd bF bR)), (18, 29, .int .i64 cR), (19, 30, bD), (21, 32, .int .i64 bS), (22, 33, bI), (23, 34, .int .i64 (rd bG bS)), (24, 35, .agg #[.int .i64 (rd aT bK), .int .i64 (rd bE bN), .int .i64 (rd bF bR), .int .i64 (rd bG bS)])] ∧ (Kd.R (Kd.int .i64) 3 w' w.heap.size (fun _ => True) (.slice (some bP) aT.length bY) aT) ∧ (b 25 = false → w'.heap[bB]? = some (.cells #[.int .i64 0, .int .i64 0, .int .i64 0, .int .i64 0] 38 (0, 0))) ∧ (b 3 = false → IsS72 w0 w' g s0_0 dF) ∧ (KeepBut w w' g none) ∧ (Below w0.heap.size w0 w') ∧ (b 3 = true → b 6 = false → IsS72 w0 w' g s0_0 cT) ∧ (b 4 = true → Kd.R (Kd.int .i64) 3 w' w.heap.size (fun k_ => some k_ ≠ (.slice (some bP) aT.length bY : Value).ownBlock) aZ bE) ∧ (b 4 = true → ∃ c_, (aZ : Value) = .slice (some aE) bE.length c_) ∧ (b 6 = true → b 11 = false → IsS72 w0 w' g s0_0 cU) ∧ (b 11 = true → b 14 = false → IsS72 w0 w' g s0_0 cN) ∧ (b 12 = true → Kd.R (Kd.int .i64) 3 w' w.heap.size (fun k_ => some k_ ≠ (.slice (some bP) aT.length bY : Value).ownBlock) bC bF) ∧ (b 12 = true → ∃ c_, (bC : Value) = .slice (some aF) bF.length c_) ∧ (b 14 = true → b 18 = false → IsS72 w0 w' g s0_0 cO) ∧ (b 18 = true → b 21 = false → IsS72 w0 w' g s0_0 cE) ∧ (b 19 = true → Kd.R (Kd.int .i64) 3 w' w.heap.size (fun k_ => some k_ ≠ (.slice (some bP) aT.length bY : Value).ownBlock) bD bG) ∧ (b 19 = true → ∃ c_, (bD : Value) = .slice (some aG) bG.length c_) ∧ (b 21 = true → IsS72 w0 w' g s0_0 dA) ∧ (b 25 = true → w'.heap[bB]? = some (.cells #[.int .i64 (rd aT bK), .int .i64 (rd bE bN), .int .i64 (rd bF bR), .int .i64 (rd bG bS)] 38 (0, 0))) ∧ (b 7 = true → (bZ : Value) = .pointer (some (aE.add (bN).toNat))) ∧ (b 15 = true → (bH : Value) = .pointer (some (aF.add (bR).toNat))) ∧ (b 22 = true → (bI : Value) = .pointer (some (aG.add (bS).toNat)))) HT_.out HW_.out oK oK ?_ ?_ ?_
         ·exact ⟨.bool false, ⟨0, 0, none⟩, .bool false, ⟨0, 0, none⟩, .bool false, ⟨0, 0, none⟩, .bool false, .bool false, .bool false, by simp only [putSel, Bool.false_eq_true, if_false], aL.out, fun _ => aD.out, fun _ => aX.out, HK.out, HB.out, fun h_ => absurd h_ oD, fun h_ => absurd h_ oD, fun h_ => absurd h_ oD, fun h_ => absurd h_ oD, fun h_ => absurd h_ oD, fun h_ => absurd h_ oD, fun h_ => absurd h_ oD, fun h_ => absurd h_ oD, fun h_ => absurd h_ oD, fun h_ => absurd h_ oD, fun h_ => absurd h_ oD, fun h_ => absurd h_ oD, fun h_ => absurd h_ oD, fun h_ => absurd h_ oD, fun h_ => absurd h_ oD, fun h_ => absurd h_ oD⟩
         ·skip
          clear aD HB aX HK aL
          refine steps_cons ?_ ?_
          ·rintro b a w' ⟨aZ, aE, bC, aF, bD, aG, bZ, bH, bI, ha, aJ, aK, bO, Q_HK, Q_HB, aU, aI, aA, aS, aR, aM, aB, aP, aN, aO, aC, aH, aQ, aY, aV, aW⟩ hb_ hon hoff
           refine ⟨_, rfl, fun K hK => ?_⟩
           have eX : a.tmps[13]? = some (.pointer (some ⟨g, 0, none⟩)) := by rw [ha]; exact (putSel_off rfl).trans rfl
           replace ha := Aside0.mk ha
           have aL := Aside0.mk aJ
           have aD := Aside0.mk (aK (hoff 25 oK))
           have aX := Aside0.mk (bO hb_)
           obtain ⟨HK, HB⟩ := o2_ Q_HK (o1_ Q_HB)
           refine goes_ Try.func56 oK rfl #[.pointer (some ⟨g, 0, none⟩), .int .i64 256] (by rfl) rfl rfl (by first | (simp only [List.map_toArray, List.map_cons, List.map_nil, Act.eval, Array.getD_eq_getD_getElem?, Option.getD_some, eX]; done) | (simp only [List.map_toArray, List.map_cons, List.map_nil, Act.eval, Array.getD_eq_getD_getElem?, Option.getD_some, eX]; rfl)) ?_
           with_reducible refine (spec_l20Rd_pick.calls k g s0_0 dF 256 cP cT w0 _ ?side1 ?side2 A6.out).mono ?_
           (case side1 => exact oI72 aX)
           (case side2 => exact oH HB (IsS72.ge aX.out))
           rintro e gT ⟨rfl, hi, hb, hk⟩
           refine ⟨_, rfl, ?_⟩
           have n_ := o2_ (oJ hk aD bU) (o2_ (Kd.R_mono (Kd.R_keep (IsS72.apart (show IsS72 w0 _ g s0_0 dF from oI72 aX) aL.out oD) hk (fun _ h => h.2)) (fun _ h => h.1)) (o2_ (KeepBut.trans (oE HK) hk (.inl rfl)) (o2_ (hb) (o1_ (hi)))))
           clear aD aL HK HB aX
           obtain ⟨aD, aL, HK, HB, aX⟩ := n_
           (try clear hb)
           (try clear hb2)
           (try clear hk)
           (try clear hi)
           refine hK.out _ _ ⟨aZ, aE, bC, aF, bD, aG, bZ, bH, bI, (by rw [ha.out]; exact putSel_upk 0 hb_ rfl rfl rfl), aL.out, fun _ => aD.out, fun h0_ => absurd ((up_self b 3).symm.trans h0_) oD, (oE HK), (oH HB (IsS72.ge aX.out)), fun _ _ => (oI72 aX), oF (hoff 4 oK), oF (hoff 4 oK), fun h0_ _ => absurd ((hoff 6 oK).symm.trans h0_) oD, fun h0_ _ => absurd ((hoff 11 oK).symm.trans h0_) oD, oF (hoff 12 oK), oF (hoff 12 oK), fun h0_ _ => absurd ((hoff 14 oK).symm.trans h0_) oD, fun h0_ _ => absurd ((hoff 18 oK).symm.trans h0_) oD, oF (hoff 19 oK), oF (hoff 19 oK), oF (hoff 21 oK), oF (hoff 25 oK), oF (hoff 7 oK), oF (hoff 15 oK), oF (hoff 22 oK)⟩
          refine steps_cons ?_ ?_
          ·rintro b a w' ⟨aZ, aE, bC, aF, bD, aG, bZ, bH, bI, ha, aJ, aK, bO, Q_HK, Q_HB, aU, aI, aA, aS, aR, aM, aB, aP, aN, aO, aC, aH, aQ, aY, aV, aW⟩ hb_ hon hoff
           refine ⟨_, rfl, fun K hK => ?_⟩
           have gD : a.tmps[12]? = some (.int .i64 (rd aT bK)) := by rw [ha]; exact (putSel_off rfl).trans rfl
           have gE : a.tmps[14]? = some (.int .i64 cP) := by rw [ha]; exact putSel_on (e := (3, 14, .int .i64 cP)) 0 rfl rfl (hon 3 oK) rfl
           replace ha := Aside0.mk ha
           have aL := Aside0.mk aJ
           have aD := Aside0.mk (aK (hoff 25 oK))
           obtain ⟨HK, HB⟩ := o2_ Q_HK (o1_ Q_HB)
           refine Kd.R_lit_step (Kd.int .i64) _ 3 ?hg (N := 15) ?hd (xs := ([rd aT bK, cP] : List Int)) (inner := [.int .i64 (rd aT bK), .int .i64 cP]) (ok := fun _ => True) (okp := fun _ => True) ?hr ?hp (fun _ hk => hk) trivial (Below.refl _ _) (Nat.le_refl _) (by simp) ?_; (case hd => rfl); (case hg => rfl); (case hr => first | (go_simp; done) | (go_simp; rfl)); (case hp => exact (Reps.one (show Kd.M (Kd.int .i64) _ _ _ (rd aT bK) [.int .i64 (rd aT bK)] from rfl) (Reps.one (show Kd.M (Kd.int .i64) _ _ _ cP [.int .i64 cP] from rfl) (Reps.none _ _))))
           intro aZ dD ho28 hb hg_ hnew_
           clear hg_ hnew_
           (first | rw [← cX.out] at ho28 | (simp only [Int.reduceToNat] at ho28; rw [← cX.out] at ho28))
           have cJ := Aside0.mk (Kd.R_elder' aL.out (Kd.R_base ho28) hb)
           have cK := Aside0.mk (Kd.R_lower (Kd.R_new' ho28 (Kd.R_lt aL.out)) (keep_size (w := w) (g := g) (row := none) (oE HK)))
           have cL := Aside0.mk (blk_below aD.out hb)
           have cM := Aside0.mk (KeepBut.trans (oE HK) (KeepBut.of_below hb g none) (.inl rfl))
           have dI := Aside0.mk (below_step (oB HB) hb)
           have dB := fun (h0_ : b 3 = true) (h1_ : b 6 = false) => (show IsS72 w0 dD g s0_0 cT from by first | exact (IsS72.below (oI72 (o1_ (aU h0_ h1_))) hb))
           have dC := fun (h0_ : b 6 = true) (h1_ : b 11 = false) => (show IsS72 w0 dD g s0_0 cU from by first | exact (IsS72.below (oI72 (o1_ (aS h0_ h1_))) hb))
           have cG := fun (h0_ : b 11 = true) (h1_ : b 14 = false) => (show IsS72 w0 dD g s0_0 cN from by first | exact (IsS72.below (oI72 (o1_ (aR h0_ h1_))) hb))
           have bT := fun (h0_ : b 12 = true) => (show Kd.R (Kd.int .i64) 3 dD w.heap.size (fun k_ => some k_ ≠ (.slice (some bP) aT.length bY : Value).ownBlock) bC bF from by first | exact (Kd.R_elder' (uR ((aM h0_))) (Kd.R_base ho28) hb) | exact Kd.R_mono (Kd.R_elder' (uR ((aM h0_))) (Kd.R_base ho28) hb) (fun _ h_ => by first | trivial | exact h_ | exact h_.1))
           have cH := fun (h0_ : b 14 = true) (h1_ : b 18 = false) => (show IsS72 w0 dD g s0_0 cO from by first | exact (IsS72.below (oI72 (o1_ (aP h0_ h1_))) hb))
           have bW := fun (h0_ : b 18 = true) (h1_ : b 21 = false) => (show IsS72 w0 dD g s0_0 cE from by first | exact (IsS72.below (oI72 (o1_ (aN h0_ h1_))) hb))
           have cF := fun (h0_ : b 19 = true) => (show Kd.R (Kd.int .i64) 3 dD w.heap.size (fun k_ => some k_ ≠ (.slice (some bP) aT.length bY : Value).ownBlock) bD bG from by first | exact (Kd.R_elder' (uR ((aO h0_))) (Kd.R_base ho28) hb) | exact Kd.R_mono (Kd.R_elder' (uR ((aO h0_))) (Kd.R_base ho28) hb) (fun _ h_ => by first | trivial | exact h_ | exact h_.1))
           have bX := fun (h0_ : b 21 = true) => (show IsS72 w0 dD g s0_0 dA from by first | exact (IsS72.below (oI72 (o1_ (aH h0_))) hb))
           clear aL
           clear aD
           clear HK
           clear HB
           have aL := cJ
           have cB := cK
           have aD := cL
           have HK := cM
           have HB := dI
           clear cJ cK cL cM dI
           clear hb ho28
           obtain ⟨fJ, dW, eE⟩ := Kd.R_slice cB.out
           subst eE
           obtain ⟨ado29, fo29, _⟩ := Kd.at_int (Kd.R_reads' cB.out).2.2 0 oD (by rw [cX.out]; simp)
           cases fo29
           refine hK.out _ _ ⟨.slice (some ado29) bE.length dW, ado29, bC, aF, bD, aG, bZ, bH, bI, (by rw [ha.out]; exact putSel_upk 1 hb_ rfl rfl rfl), (by (with_reducible repeat (first | apply Kd.R_alloc | apply Kd.R_drewN | apply Kd.R_drew)); exact Kd.R_mono aL.out oX2), fun _ => aD.out, fun h0_ => absurd ((hon 3 oK).symm.trans h0_) oD, (oE HK), (oB HB), dB, fun _ => (by (with_reducible repeat (first | apply Kd.R_alloc | apply Kd.R_drewN | apply Kd.R_drew)); exact Kd.R_mono cB.out oX2), fun _ => ⟨_, rfl⟩, dC, cG, bT, aB, cH, bW, cF, aC, bX, oF (hoff 25 oK), oF (hoff 7 oK), aV, aW⟩
          refine steps_cons ?_ ?_
          ·rintro b a w' ⟨aZ, aE, bC, aF, bD, aG, bZ, bH, bI, ha, aJ, aK, bO, Q_HK, Q_HB, aU, aI, aA, aS, aR, aM, aB, aP, aN, aO, aC, aH, aQ, aY, aV, aW⟩ hb_ hon hoff
           refine ⟨_, rfl, fun K hK => ?_⟩
           have eY : a.tmps[16]? = some (.pointer (some ⟨g, 0, none⟩)) := by rw [ha]; exact (putSel_off rfl).trans rfl
           replace ha := Aside0.mk ha
           have aL := Aside0.mk aJ
           have aD := Aside0.mk (aK (hoff 25 oK))
           obtain ⟨HK, HB⟩ := o2_ Q_HK (o1_ Q_HB)
           have aX := Aside0.mk (aU (hon 3 oK) hb_)
           refine goes_ Try.func56 oK rfl #[.pointer (some ⟨g, 0, none⟩), .int .i64 2] (by rfl) rfl rfl (by first | (simp only [List.map_toArray, List.map_cons, List.map_nil, Act.eval, Array.getD_eq_getD_getElem?, Option.getD_some, eY]; done) | (simp only [List.map_toArray, List.map_cons, List.map_nil, Act.eval, Array.getD_eq_getD_getElem?, Option.getD_some, eY]; rfl)) ?_
           with_reducible refine (spec_l20Rd_pick.calls k g s0_0 cT 2 bN cU w0 _ ?side1 ?side2 A7.out).mono ?_
           (case side1 => exact oI72 aX)
           (case side2 => exact oH HB (IsS72.ge aX.out))
           rintro e dD ⟨rfl, hi, hb, hk⟩
           refine ⟨_, rfl, ?_⟩
           have cJ := Aside0.mk (oJ hk aD bU)
           have cK := Aside0.mk (Kd.R_mono (Kd.R_keep (IsS72.apart (show IsS72 w0 _ g s0_0 cT from oI72 aX) aL.out oD) hk (fun _ h => h.2)) (fun _ h => h.1))
           have cV := Aside0.mk (KeepBut.trans (oE HK) hk (.inl rfl))
           have cL := Aside0.mk (hb)
           have cM := Aside0.mk (hi)
           have bL := fun (h0_ : b 4 = true) => (show Kd.R (Kd.int .i64) 3 dD w.heap.size (fun k_ => some k_ ≠ (.slice (some bP) aT.length bY : Value).ownBlock) aZ bE from by first | exact (Kd.R_mono (Kd.R_keep (IsS72.apart (show IsS72 w0 _ g s0_0 cT from oI72 aX) (uR ((aI h0_))) oD) hk (fun _ h => h.2)) (fun _ h => h.1)) | exact Kd.R_mono (Kd.R_mono (Kd.R_keep (IsS72.apart (show IsS72 w0 _ g s0_0 cT from oI72 aX) (uR ((aI h0_))) oD) hk (fun _ h => h.2)) (fun _ h => h.1)) (fun _ h_ => by first | trivial | exact h_ | exact h_.1))
           clear aD
           clear aL
           clear HK
           clear HB
           clear aX
           have aD := cJ
           have aL := cK
           have HK := cV
           have HB := cL
           have aX := cM
           clear cJ cK cV cL cM
           (try clear hb)
           (try clear hb2)
           (try clear hk)
           (try clear hi)
           refine hK.out _ _ ⟨aZ, aE, bC, aF, bD, aG, bZ, bH, bI, (by rw [ha.out]; exact putSel_upk 2 hb_ rfl rfl rfl), aL.out, fun _ => aD.out, fun h0_ => absurd ((hon 3 oK).symm.trans h0_) oD, (oE HK), (oH HB (IsS72.ge aX.out)), fun _ h1_ => absurd ((up_self b 6).symm.trans h1_) oD, bL, aA, fun _ _ => (oI72 aX), fun h0_ _ => absurd ((hoff 11 oK).symm.trans h0_) oD, oF (hoff 12 oK), oF (hoff 12 oK), fun h0_ _ => absurd ((hoff 14 oK).symm.trans h0_) oD, fun h0_ _ => absurd ((hoff 18 oK).symm.trans h0_) oD, oF (hoff 19 oK), oF (hoff 19 oK), oF (hoff 21 oK), oF (hoff 25 oK), oF (hoff 7 oK), oF (hoff 15 oK), oF (hoff 22 oK)⟩
          refine steps_cons ?_ ?_
          ·rintro b a w' ⟨aZ, aE, bC, aF, bD, aG, bZ, bH, bI, ha, aJ, aK, bO, Q_HK, Q_HB, aU, aI, aA, aS, aR, aM, aB, aP, aN, aO, aC, aH, aQ, aY, aV, aW⟩ hb_ hon hoff
           refine ⟨_, rfl, fun K hK => ?_⟩
           have fT : a.tmps[15]? = some (aZ) := by rw [ha]; exact putSel_on (e := (4, 15, aZ)) 1 rfl rfl (hon 4 oK) rfl
           have gF : a.tmps[17]? = some (.int .i64 bN) := by rw [ha]; exact putSel_on (e := (6, 17, .int .i64 bN)) 2 rfl rfl (hon 6 oK) rfl
           replace ha := Aside0.mk ha
           have aL := Aside0.mk aJ
           have aD := Aside0.mk (aK (hoff 25 oK))
           obtain ⟨HK, HB, cB, HA_HO120⟩ := o2_ Q_HK (o2_ Q_HB (o2_ (aI (hon 4 oK)) (o1_ (aA (hon 4 oK)))))
           obtain ⟨c_, hv_⟩ := HA_HO120.out
           rw [hv_] at fT
           refine value_ (w1 := w') (v := .pointer (some (aE.add (bN).toNat))) (by rfl) rfl ?_ ?_
           ·go_simp
            (try simp only [i64_w])
            try rfl
           refine hK.out _ _ ⟨aZ, aE, bC, aF, bD, aG, (.pointer (some (aE.add (bN).toNat))), bH, bI, (by rw [ha.out]; exact putSel_upk 3 hb_ rfl rfl rfl), aJ, aK, fun h0_ => absurd ((hon 3 oK).symm.trans h0_) oD, Q_HK, Q_HB, fun _ h1_ => absurd ((hon 6 oK).symm.trans h1_) oD, aI, aA, aS, aR, aM, aB, aP, aN, aO, aC, aH, oF (hoff 25 oK), fun _ => rfl, aV, aW⟩
          refine steps_cons ?_ ?_
          ·rintro b a w' ⟨aZ, aE, bC, aF, bD, aG, bZ, bH, bI, ha, aJ, aK, bO, Q_HK, Q_HB, aU, aI, aA, aS, aR, aM, aB, aP, aN, aO, aC, aH, aQ, aY, aV, aW⟩ hb_ hon hoff
           refine ⟨_, rfl, fun K hK => ?_⟩
           have fU : a.tmps[18]? = some (bZ) := by rw [ha]; exact putSel_on (e := (7, 18, bZ)) 3 rfl rfl (hon 7 oK) rfl
           rw [aY (hon 7 oK)] at fU
           replace ha := Aside0.mk ha
           have aL := Aside0.mk aJ
           have aD := Aside0.mk (aK (hoff 25 oK))
           obtain ⟨HK, HB, cB, HA_HO120⟩ := o2_ Q_HK (o2_ Q_HB (o2_ (aI (hon 4 oK)) (o1_ (aA (hon 4 oK)))))
           obtain ⟨c_, hv_⟩ := HA_HO120.out
           have hF_ := cB.out
           rw [hv_] at hF_
           obtain ⟨ad_, ea_, hx_⟩ := Kd.at_int (Kd.R_reads' hF_).2.2 bN (of_eq_true pi123) (of_eq_true qi123)
           cases ea_
           refine value_ (w1 := w') (v := .int .i64 (rd bE bN)) (by rfl) rfl ?_ ?_
           ·go_simp
            (try simp only [i64_w])
            try rfl
           refine hK.out _ _ ⟨aZ, aE, bC, aF, bD, aG, bZ, bH, bI, (by rw [ha.out]; exact putSel_upk 4 hb_ rfl rfl rfl), aJ, aK, fun h0_ => absurd ((hon 3 oK).symm.trans h0_) oD, Q_HK, Q_HB, fun _ h1_ => absurd ((hon 6 oK).symm.trans h1_) oD, aI, aA, aS, aR, aM, aB, aP, aN, aO, aC, aH, oF (hoff 25 oK), aY, aV, aW⟩
          refine steps_cons ?_ ?_
          ·rintro b a w' ⟨aZ, aE, bC, aF, bD, aG, bZ, bH, bI, ha, aJ, aK, bO, Q_HK, Q_HB, aU, aI, aA, aS, aR, aM, aB, aP, aN, aO, aC, aH, aQ, aY, aV, aW⟩ hb_ hon hoff
           refine ⟨_, rfl, fun K hK => ?_⟩
           have eZ : a.tmps[21]? = some (.pointer (some ⟨g, 0, none⟩)) := by rw [ha]; exact (putSel_off rfl).trans rfl
           replace ha := Aside0.mk ha
           have aL := Aside0.mk aJ
           have aD := Aside0.mk (aK (hoff 25 oK))
           obtain ⟨HK, HB⟩ := o2_ Q_HK (o1_ Q_HB)
           have aX := Aside0.mk (aS (hon 6 oK) hb_)
           refine goes_ Try.func56 oK rfl #[.pointer (some ⟨g, 0, none⟩), .int .i64 256] (by rfl) rfl rfl (by first | (simp only [List.map_toArray, List.map_cons, List.map_nil, Act.eval, Array.getD_eq_getD_getElem?, Option.getD_some, eZ]; done) | (simp only [List.map_toArray, List.map_cons, List.map_nil, Act.eval, Array.getD_eq_getD_getElem?, Option.getD_some, eZ]; rfl)) ?_
           with_reducible refine (spec_l20Rd_pick.calls k g s0_0 cU 256 cQ cN w0 _ ?side1 ?side2 fE.out).mono ?_
           (case side1 => exact oI72 aX)
           (case side2 => exact oH HB (IsS72.ge aX.out))
           rintro e gB ⟨rfl, hi, hb, hk⟩
           refine ⟨_, rfl, ?_⟩
           have cJ := Aside0.mk (oJ hk aD bU)
           have cK := Aside0.mk (Kd.R_mono (Kd.R_keep (IsS72.apart (show IsS72 w0 _ g s0_0 cU from oI72 aX) aL.out oD) hk (fun _ h => h.2)) (fun _ h => h.1))
           have cV := Aside0.mk (KeepBut.trans (oE HK) hk (.inl rfl))
           have cL := Aside0.mk (hb)
           have cM := Aside0.mk (hi)
           have bL := fun (h0_ : b 4 = true) => (show Kd.R (Kd.int .i64) 3 gB w.heap.size (fun k_ => some k_ ≠ (.slice (some bP) aT.length bY : Value).ownBlock) aZ bE from by first | exact (Kd.R_mono (Kd.R_keep (IsS72.apart (show IsS72 w0 _ g s0_0 cU from oI72 aX) (uR ((aI h0_))) oD) hk (fun _ h => h.2)) (fun _ h => h.1)) | exact Kd.R_mono (Kd.R_mono (Kd.R_keep (IsS72.apart (show IsS72 w0 _ g s0_0 cU from oI72 aX) (uR ((aI h0_))) oD) hk (fun _ h => h.2)) (fun _ h => h.1)) (fun _ h_ => by first | trivial | exact h_ | exact h_.1))
           clear aD
           clear aL
           clear HK
           clear HB
           clear aX
           have aD := cJ
           have aL := cK
           have HK := cV
           have HB := cL
           have aX := cM
           clear cJ cK cV cL cM
           (try clear hb)
           (try clear hb2)
           (try clear hk)
           (try clear hi)
           refine hK.out _ _ ⟨aZ, aE, bC, aF, bD, aG, bZ, bH, bI, (by rw [ha.out]; exact putSel_upk 5 hb_ rfl rfl rfl), aL.out, fun _ => aD.out, fun h0_ => absurd ((hon 3 oK).symm.trans h0_) oD, (oE HK), (oH HB (IsS72.ge aX.out)), fun _ h1_ => absurd ((hon 6 oK).symm.trans h1_) oD, bL, aA, fun _ h1_ => absurd ((up_self b 11).symm.trans h1_) oD, fun _ _ => (oI72 aX), oF (hoff 12 oK), oF (hoff 12 oK), fun h0_ _ => absurd ((hoff 14 oK).symm.trans h0_) oD, fun h0_ _ => absurd ((hoff 18 oK).symm.trans h0_) oD, oF (hoff 19 oK), oF (hoff 19 oK), oF (hoff 21 oK), oF (hoff 25 oK), aY, oF (hoff 15 oK), oF (hoff 22 oK)⟩
          refine steps_cons ?_ ?_
          ·rintro b a w' ⟨aZ, aE, bC, aF, bD, aG, bZ, bH, bI, ha, aJ, aK, bO, Q_HK, Q_HB, aU, aI, aA, aS, aR, aM, aB, aP, aN, aO, aC, aH, aQ, aY, aV, aW⟩ hb_ hon hoff
           refine ⟨_, rfl, fun K hK => ?_⟩
           have gH : a.tmps[20]? = some (.int .i64 (rd aT bK)) := by rw [ha]; exact (putSel_off rfl).trans rfl
           have gI : a.tmps[22]? = some (.int .i64 cQ) := by rw [ha]; exact putSel_on (e := (11, 22, .int .i64 cQ)) 5 rfl rfl (hon 11 oK) rfl
           replace ha := Aside0.mk ha
           have aL := Aside0.mk aJ
           have aD := Aside0.mk (aK (hoff 25 oK))
           obtain ⟨HK, HB⟩ := o2_ Q_HK (o1_ Q_HB)
           refine Kd.R_lit_step (Kd.int .i64) _ 3 ?hg (N := 23) ?hd (xs := ([rd aT bK, cQ] : List Int)) (inner := [.int .i64 (rd aT bK), .int .i64 cQ]) (ok := fun _ => True) (okp := fun _ => True) ?hr ?hp (fun _ hk => hk) trivial (Below.refl _ _) (Nat.le_refl _) (by simp) ?_; (case hd => rfl); (case hg => rfl); (case hr => first | (go_simp; done) | (go_simp; rfl)); (case hp => exact (Reps.one (show Kd.M (Kd.int .i64) _ _ _ (rd aT bK) [.int .i64 (rd aT bK)] from rfl) (Reps.one (show Kd.M (Kd.int .i64) _ _ _ cQ [.int .i64 cQ] from rfl) (Reps.none _ _))))
           intro bC dG ho30 hb hg_ hnew_
           clear hg_ hnew_
           (first | rw [← cY.out] at ho30 | (simp only [Int.reduceToNat] at ho30; rw [← cY.out] at ho30))
           have cJ := Aside0.mk (Kd.R_elder' aL.out (Kd.R_base ho30) hb)
           have cK := Aside0.mk (Kd.R_lower (Kd.R_new' ho30 (Kd.R_lt aL.out)) (keep_size (w := w) (g := g) (row := none) (oE HK)))
           have cL := Aside0.mk (blk_below aD.out hb)
           have cM := Aside0.mk (KeepBut.trans (oE HK) (KeepBut.of_below hb g none) (.inl rfl))
           have dI := Aside0.mk (below_step (oB HB) hb)
           have bL := fun (h0_ : b 4 = true) => (show Kd.R (Kd.int .i64) 3 dG w.heap.size (fun k_ => some k_ ≠ (.slice (some bP) aT.length bY : Value).ownBlock) aZ bE from by first | exact (Kd.R_elder' (uR ((aI h0_))) (Kd.R_base ho30) hb) | exact Kd.R_mono (Kd.R_elder' (uR ((aI h0_))) (Kd.R_base ho30) hb) (fun _ h_ => by first | trivial | exact h_ | exact h_.1))
           have cG := fun (h0_ : b 11 = true) (h1_ : b 14 = false) => (show IsS72 w0 dG g s0_0 cN from by first | exact (IsS72.below (oI72 (o1_ (aR h0_ h1_))) hb))
           have cH := fun (h0_ : b 14 = true) (h1_ : b 18 = false) => (show IsS72 w0 dG g s0_0 cO from by first | exact (IsS72.below (oI72 (o1_ (aP h0_ h1_))) hb))
           have bW := fun (h0_ : b 18 = true) (h1_ : b 21 = false) => (show IsS72 w0 dG g s0_0 cE from by first | exact (IsS72.below (oI72 (o1_ (aN h0_ h1_))) hb))
           have cF := fun (h0_ : b 19 = true) => (show Kd.R (Kd.int .i64) 3 dG w.heap.size (fun k_ => some k_ ≠ (.slice (some bP) aT.length bY : Value).ownBlock) bD bG from by first | exact (Kd.R_elder' (uR ((aO h0_))) (Kd.R_base ho30) hb) | exact Kd.R_mono (Kd.R_elder' (uR ((aO h0_))) (Kd.R_base ho30) hb) (fun _ h_ => by first | trivial | exact h_ | exact h_.1))
           have bX := fun (h0_ : b 21 = true) => (show IsS72 w0 dG g s0_0 dA from by first | exact (IsS72.below (oI72 (o1_ (aH h0_))) hb))
           clear aL
           clear aD
           clear HK
           clear HB
           have aL := cJ
           have cC := cK
           have aD := cL
           have HK := cM
           have HB := dI
           clear cJ cK cL cM dI
           clear hb ho30
           obtain ⟨fK, dX, eF⟩ := Kd.R_slice cC.out
           subst eF
           obtain ⟨ado31, fo31, _⟩ := Kd.at_int (Kd.R_reads' cC.out).2.2 0 oD (by rw [cY.out]; simp)
           cases fo31
           refine hK.out _ _ ⟨aZ, aE, .slice (some ado31) bF.length dX, ado31, bD, aG, bZ, bH, bI, (by rw [ha.out]; exact putSel_upk 6 hb_ rfl rfl rfl), (by (with_reducible repeat (first | apply Kd.R_alloc | apply Kd.R_drewN | apply Kd.R_drew)); exact Kd.R_mono aL.out oX2), fun _ => aD.out, fun h0_ => absurd ((hon 3 oK).symm.trans h0_) oD, (oE HK), (oB HB), fun _ h1_ => absurd ((hon 6 oK).symm.trans h1_) oD, bL, aA, fun _ h1_ => absurd ((hon 11 oK).symm.trans h1_) oD, cG, fun _ => (by (with_reducible repeat (first | apply Kd.R_alloc | apply Kd.R_drewN | apply Kd.R_drew)); exact Kd.R_mono cC.out oX2), fun _ => ⟨_, rfl⟩, cH, bW, cF, aC, bX, oF (hoff 25 oK), aY, oF (hoff 15 oK), aW⟩
          refine steps_cons ?_ ?_
          ·rintro b a w' ⟨aZ, aE, bC, aF, bD, aG, bZ, bH, bI, ha, aJ, aK, bO, Q_HK, Q_HB, aU, aI, aA, aS, aR, aM, aB, aP, aN, aO, aC, aH, aQ, aY, aV, aW⟩ hb_ hon hoff
           refine ⟨_, rfl, fun K hK => ?_⟩
           have fA : a.tmps[24]? = some (.pointer (some ⟨g, 0, none⟩)) := by rw [ha]; exact (putSel_off rfl).trans rfl
           replace ha := Aside0.mk ha
           have aL := Aside0.mk aJ
           have aD := Aside0.mk (aK (hoff 25 oK))
           obtain ⟨HK, HB⟩ := o2_ Q_HK (o1_ Q_HB)
           have aX := Aside0.mk (aR (hon 11 oK) hb_)
           refine goes_ Try.func56 oK rfl #[.pointer (some ⟨g, 0, none⟩), .int .i64 2] (by rfl) rfl rfl (by first | (simp only [List.map_toArray, List.map_cons, List.map_nil, Act.eval, Array.getD_eq_getD_getElem?, Option.getD_some, fA]; done) | (simp only [List.map_toArray, List.map_cons, List.map_nil, Act.eval, Array.getD_eq_getD_getElem?, Option.getD_some, fA]; rfl)) ?_
           with_reducible refine (spec_l20Rd_pick.calls k g s0_0 cN 2 bR cO w0 _ ?side1 ?side2 fF.out).mono ?_
           (case side1 => exact oI72 aX)
           (case side2 => exact oH HB (IsS72.ge aX.out))
           rintro e dG ⟨rfl, hi, hb, hk⟩
           refine ⟨_, rfl, ?_⟩
           have cJ := Aside0.mk (oJ hk aD bU)
           have cK := Aside0.mk (Kd.R_mono (Kd.R_keep (IsS72.apart (show IsS72 w0 _ g s0_0 cN from oI72 aX) aL.out oD) hk (fun _ h => h.2)) (fun _ h => h.1))
           have cV := Aside0.mk (KeepBut.trans (oE HK) hk (.inl rfl))
           have cL := Aside0.mk (hb)
           have cM := Aside0.mk (hi)
           have bL := fun (h0_ : b 4 = true) => (show Kd.R (Kd.int .i64) 3 dG w.heap.size (fun k_ => some k_ ≠ (.slice (some bP) aT.length bY : Value).ownBlock) aZ bE from by first | exact (Kd.R_mono (Kd.R_keep (IsS72.apart (show IsS72 w0 _ g s0_0 cN from oI72 aX) (uR ((aI h0_))) oD) hk (fun _ h => h.2)) (fun _ h => h.1)) | exact Kd.R_mono (Kd.R_mono (Kd.R_keep (IsS72.apart (show IsS72 w0 _ g s0_0 cN from oI72 aX) (uR ((aI h0_))) oD) hk (fun _ h => h.2)) (fun _ h => h.1)) (fun _ h_ => by first | trivial | exact h_ | exact h_.1))
           have bT := fun (h0_ : b 12 = true) => (show Kd.R (Kd.int .i64) 3 dG w.heap.size (fun k_ => some k_ ≠ (.slice (some bP) aT.length bY : Value).ownBlock) bC bF from by first | exact (Kd.R_mono (Kd.R_keep (IsS72.apart (show IsS72 w0 _ g s0_0 cN from oI72 aX) (uR ((aM h0_))) oD) hk (fun _ h => h.2)) (fun _ h => h.1)) | exact Kd.R_mono (Kd.R_mono (Kd.R_keep (IsS72.apart (show IsS72 w0 _ g s0_0 cN from oI72 aX) (uR ((aM h0_))) oD) hk (fun _ h => h.2)) (fun _ h => h.1)) (fun _ h_ => by first | trivial | exact h_ | exact h_.1))
           clear aD
           clear aL
           clear HK
           clear HB
           clear aX
           have aD := cJ
           have aL := cK
           have HK := cV
           have HB := cL
           have aX := cM
           clear cJ cK cV cL cM
           (try clear hb)
           (try clear hb2)
           (try clear hk)
           (try clear hi)
           refine hK.out _ _ ⟨aZ, aE, bC, aF, bD, aG, bZ, bH, bI, (by rw [ha.out]; exact putSel_upk 7 hb_ rfl rfl rfl), aL.out, fun _ => aD.out, fun h0_ => absurd ((hon 3 oK).symm.trans h0_) oD, (oE HK), (oH HB (IsS72.ge aX.out)), fun _ h1_ => absurd ((hon 6 oK).symm.trans h1_) oD, bL, aA, fun _ h1_ => absurd ((hon 11 oK).symm.trans h1_) oD, fun _ h1_ => absurd ((up_self b 14).symm.trans h1_) oD, bT, aB, fun _ _ => (oI72 aX), fun h0_ _ => absurd ((hoff 18 oK).symm.trans h0_) oD, oF (hoff 19 oK), oF (hoff 19 oK), oF (hoff 21 oK), oF (hoff 25 oK), aY, oF (hoff 15 oK), oF (hoff 22 oK)⟩
          refine steps_cons ?_ ?_
          ·rintro b a w' ⟨aZ, aE, bC, aF, bD, aG, bZ, bH, bI, ha, aJ, aK, bO, Q_HK, Q_HB, aU, aI, aA, aS, aR, aM, aB, aP, aN, aO, aC, aH, aQ, aY, aV, aW⟩ hb_ hon hoff
           refine ⟨_, rfl, fun K hK => ?_⟩
           have fV : a.tmps[23]? = some (bC) := by rw [ha]; exact putSel_on (e := (12, 23, bC)) 6 rfl rfl (hon 12 oK) rfl
           have gJ : a.tmps[25]? = some (.int .i64 bR) := by rw [ha]; exact putSel_on (e := (14, 25, .int .i64 bR)) 7 rfl rfl (hon 14 oK) rfl
           replace ha := Aside0.mk ha
           have aL := Aside0.mk aJ
           have aD := Aside0.mk (aK (hoff 25 oK))
           obtain ⟨HK, HB, cC, HA_HO128⟩ := o2_ Q_HK (o2_ Q_HB (o2_ (aM (hon 12 oK)) (o1_ (aB (hon 12 oK)))))
           obtain ⟨c_, hv_⟩ := HA_HO128.out
           rw [hv_] at fV
           refine value_ (w1 := w') (v := .pointer (some (aF.add (bR).toNat))) (by rfl) rfl ?_ ?_
           ·go_simp
            (try simp only [i64_w])
            try rfl
           refine hK.out _ _ ⟨aZ, aE, bC, aF, bD, aG, bZ, (.pointer (some (aF.add (bR).toNat))), bI, (by rw [ha.out]; exact putSel_upk 8 hb_ rfl rfl rfl), aJ, aK, fun h0_ => absurd ((hon 3 oK).symm.trans h0_) oD, Q_HK, Q_HB, fun _ h1_ => absurd ((hon 6 oK).symm.trans h1_) oD, aI, aA, fun _ h1_ => absurd ((hon 11 oK).symm.trans h1_) oD, fun _ h1_ => absurd ((hon 14 oK).symm.trans h1_) oD, aM, aB, aP, aN, aO, aC, aH, oF (hoff 25 oK), aY, fun _ => rfl, aW⟩
          refine steps_cons ?_ ?_
          ·rintro b a w' ⟨aZ, aE, bC, aF, bD, aG, bZ, bH, bI, ha, aJ, aK, bO, Q_HK, Q_HB, aU, aI, aA, aS, aR, aM, aB, aP, aN, aO, aC, aH, aQ, aY, aV, aW⟩ hb_ hon hoff
           refine ⟨_, rfl, fun K hK => ?_⟩
           have fW : a.tmps[26]? = some (bH) := by rw [ha]; exact putSel_on (e := (15, 26, bH)) 8 rfl rfl (hon 15 oK) rfl
           rw [aV (hon 15 oK)] at fW
           replace ha := Aside0.mk ha
           have aL := Aside0.mk aJ
           have aD := Aside0.mk (aK (hoff 25 oK))
           obtain ⟨HK, HB, cC, HA_HO128⟩ := o2_ Q_HK (o2_ Q_HB (o2_ (aM (hon 12 oK)) (o1_ (aB (hon 12 oK)))))
           obtain ⟨c_, hv_⟩ := HA_HO128.out
           have hF_ := cC.out
           rw [hv_] at hF_
           obtain ⟨ad_, ea_, hx_⟩ := Kd.at_int (Kd.R_reads' hF_).2.2 bR (of_eq_true pi131) (of_eq_true qi131)
           cases ea_
           refine value_ (w1 := w') (v := .int .i64 (rd bF bR)) (by rfl) rfl ?_ ?_
           ·go_simp
            (try simp only [i64_w])
            try rfl
           refine hK.out _ _ ⟨aZ, aE, bC, aF, bD, aG, bZ, bH, bI, (by rw [ha.out]; exact putSel_upk 9 hb_ rfl rfl rfl), aJ, aK, fun h0_ => absurd ((hon 3 oK).symm.trans h0_) oD, Q_HK, Q_HB, fun _ h1_ => absurd ((hon 6 oK).symm.trans h1_) oD, aI, aA, fun _ h1_ => absurd ((hon 11 oK).symm.trans h1_) oD, fun _ h1_ => absurd ((hon 14 oK).symm.trans h1_) oD, aM, aB, aP, aN, aO, aC, aH, oF (hoff 25 oK), aY, aV, aW⟩
          refine steps_cons ?_ ?_
          ·rintro b a w' ⟨aZ, aE, bC, aF, bD, aG, bZ, bH, bI, ha, aJ, aK, bO, Q_HK, Q_HB, aU, aI, aA, aS, aR, aM, aB, aP, aN, aO, aC, aH, aQ, aY, aV, aW⟩ hb_ hon hoff
           refine ⟨_, rfl, fun K hK => ?_⟩
           have fB : a.tmps[28]? = some (.pointer (some ⟨g, 0, none⟩)) := by rw [ha]; exact (putSel_off rfl).trans rfl
           replace ha := Aside0.mk ha
           have aL := Aside0.mk aJ
           have aD := Aside0.mk (aK (hoff 25 oK))
           obtain ⟨HK, HB⟩ := o2_ Q_HK (o1_ Q_HB)
           have aX := Aside0.mk (aP (hon 14 oK) hb_)
           refine goes_ Try.func56 oK rfl #[.pointer (some ⟨g, 0, none⟩), .int .i64 256] (by rfl) rfl rfl (by first | (simp only [List.map_toArray, List.map_cons, List.map_nil, Act.eval, Array.getD_eq_getD_getElem?, Option.getD_some, fB]; done) | (simp only [List.map_toArray, List.map_cons, List.map_nil, Act.eval, Array.getD_eq_getD_getElem?, Option.getD_some, fB]; rfl)) ?_
           with_reducible refine (spec_l20Rd_pick.calls k g s0_0 cO 256 cR cE w0 _ ?side1 ?side2 fG.out).mono ?_
           (case side1 => exact oI72 aX)
           (case side2 => exact oH HB (IsS72.ge aX.out))
           rintro e fD ⟨rfl, hi, hb, hk⟩
           refine ⟨_, rfl, ?_⟩
           have cJ := Aside0.mk (oJ hk aD bU)
           have cK := Aside0.mk (Kd.R_mono (Kd.R_keep (IsS72.apart (show IsS72 w0 _ g s0_0 cO from oI72 aX) aL.out oD) hk (fun _ h => h.2)) (fun _ h => h.1))
           have cV := Aside0.mk (KeepBut.trans (oE HK) hk (.inl rfl))
           have cL := Aside0.mk (hb)
           have cM := Aside0.mk (hi)
           have bL := fun (h0_ : b 4 = true) => (show Kd.R (Kd.int .i64) 3 fD w.heap.size (fun k_ => some k_ ≠ (.slice (some bP) aT.length bY : Value).ownBlock) aZ bE from by first | exact (Kd.R_mono (Kd.R_keep (IsS72.apart (show IsS72 w0 _ g s0_0 cO from oI72 aX) (uR ((aI h0_))) oD) hk (fun _ h => h.2)) (fun _ h => h.1)) | exact Kd.R_mono (Kd.R_mono (Kd.R_keep (IsS72.apart (show IsS72 w0 _ g s0_0 cO from oI72 aX) (uR ((aI h0_))) oD) hk (fun _ h => h.2)) (fun _ h => h.1)) (fun _ h_ => by first | trivial | exact h_ | exact h_.1))
           have bT := fun (h0_ : b 12 = true) => (show Kd.R (Kd.int .i64) 3 fD w.heap.size (fun k_ => some k_ ≠ (.slice (some bP) aT.length bY : Value).ownBlock) bC bF from by first | exact (Kd.R_mono (Kd.R_keep (IsS72.apart (show IsS72 w0 _ g s0_0 cO from oI72 aX) (uR ((aM h0_))) oD) hk (fun _ h => h.2)) (fun _ h => h.1)) | exact Kd.R_mono (Kd.R_mono (Kd.R_keep (IsS72.apart (show IsS72 w0 _ g s0_0 cO from oI72 aX) (uR ((aM h0_))) oD) hk (fun _ h => h.2)) (fun _ h => h.1)) (fun _ h_ => by first | trivial | exact h_ | exact h_.1))
           clear aD
           clear aL
           clear HK
           clear HB
           clear aX
           have aD := cJ
           have aL := cK
           have HK := cV
           have HB := cL
           have aX := cM
           clear cJ cK cV cL cM
           (try clear hb)
           (try clear hb2)
           (try clear hk)
           (try clear hi)
           refine hK.out _ _ ⟨aZ, aE, bC, aF, bD, aG, bZ, bH, bI, (by rw [ha.out]; exact putSel_upk 10 hb_ rfl rfl rfl), aL.out, fun _ => aD.out, fun h0_ => absurd ((hon 3 oK).symm.trans h0_) oD, (oE HK), (oH HB (IsS72.ge aX.out)), fun _ h1_ => absurd ((hon 6 oK).symm.trans h1_) oD, bL, aA, fun _ h1_ => absurd ((hon 11 oK).symm.trans h1_) oD, fun _ h1_ => absurd ((hon 14 oK).symm.trans h1_) oD, bT, aB, fun _ h1_ => absurd ((up_self b 18).symm.trans h1_) oD, fun _ _ => (oI72 aX), oF (hoff 19 oK), oF (hoff 19 oK), oF (hoff 21 oK), oF (hoff 25 oK), aY, aV, oF (hoff 22 oK)⟩
          refine steps_cons ?_ ?_
          ·rintro b a w' ⟨aZ, aE, bC, aF, bD, aG, bZ, bH, bI, ha, aJ, aK, bO, Q_HK, Q_HB, aU, aI, aA, aS, aR, aM, aB, aP, aN, aO, aC, aH, aQ, aY, aV, aW⟩ hb_ hon hoff
           refine ⟨_, rfl, fun K hK => ?_⟩
           have gL : a.tmps[29]? = some (.int .i64 cR) := by rw [ha]; exact putSel_on (e := (18, 29, .int .i64 cR)) 10 rfl rfl (hon 18 oK) rfl
           replace ha := Aside0.mk ha
           have aL := Aside0.mk aJ
           have aD := Aside0.mk (aK (hoff 25 oK))
           obtain ⟨HK, HB⟩ := o2_ Q_HK (o1_ Q_HB)
           refine Kd.R_lit_step (Kd.int .i64) _ 3 ?hg (N := 30) ?hd (xs := ([255, 255, 0, cR] : List Int)) (inner := [.int .i64 255, .int .i64 255, .int .i64 0, .int .i64 cR]) (ok := fun _ => True) (okp := fun _ => True) ?hr ?hp (fun _ hk => hk) trivial (Below.refl _ _) (Nat.le_refl _) (by simp) ?_; (case hd => rfl); (case hg => rfl); (case hr => first | (go_simp; done) | (go_simp; rfl)); (case hp => exact (Reps.one (show Kd.M (Kd.int .i64) _ _ _ 255 [.int .i64 255] from rfl) (Reps.one (show Kd.M (Kd.int .i64) _ _ _ 255 [.int .i64 255] from rfl) (Reps.one (show Kd.M (Kd.int .i64) _ _ _ 0 [.int .i64 0] from rfl) (Reps.one (show Kd.M (Kd.int .i64) _ _ _ cR [.int .i64 cR] from rfl) (Reps.none _ _))))))
           intro bD dJ ho32 hb hg_ hnew_
           clear hg_ hnew_
           (first | rw [← cZ.out] at ho32 | (simp only [Int.reduceToNat] at ho32; rw [← cZ.out] at ho32))
           have cJ := Aside0.mk (Kd.R_elder' aL.out (Kd.R_base ho32) hb)
           have cK := Aside0.mk (Kd.R_lower (Kd.R_new' ho32 (Kd.R_lt aL.out)) (keep_size (w := w) (g := g) (row := none) (oE HK)))
           have cL := Aside0.mk (blk_below aD.out hb)
           have cM := Aside0.mk (KeepBut.trans (oE HK) (KeepBut.of_below hb g none) (.inl rfl))
           have dI := Aside0.mk (below_step (oB HB) hb)
           have bL := fun (h0_ : b 4 = true) => (show Kd.R (Kd.int .i64) 3 dJ w.heap.size (fun k_ => some k_ ≠ (.slice (some bP) aT.length bY : Value).ownBlock) aZ bE from by first | exact (Kd.R_elder' (uR ((aI h0_))) (Kd.R_base ho32) hb) | exact Kd.R_mono (Kd.R_elder' (uR ((aI h0_))) (Kd.R_base ho32) hb) (fun _ h_ => by first | trivial | exact h_ | exact h_.1))
           have bT := fun (h0_ : b 12 = true) => (show Kd.R (Kd.int .i64) 3 dJ w.heap.size (fun k_ => some k_ ≠ (.slice (some bP) aT.length bY : Value).ownBlock) bC bF from by first | exact (Kd.R_elder' (uR ((aM h0_))) (Kd.R_base ho32) hb) | exact Kd.R_mono (Kd.R_elder' (uR ((aM h0_))) (Kd.R_base ho32) hb) (fun _ h_ => by first | trivial | exact h_ | exact h_.1))
           have bW := fun (h0_ : b 18 = true) (h1_ : b 21 = false) => (show IsS72 w0 dJ g s0_0 cE from by first | exact (IsS72.below (oI72 (o1_ (aN h0_ h1_))) hb))
           have bX := fun (h0_ : b 21 = true) => (show IsS72 w0 dJ g s0_0 dA from by first | exact (IsS72.below (oI72 (o1_ (aH h0_))) hb))
           clear aL
           clear aD
           clear HK
           clear HB
           have aL := cJ
           have cD := cK
           have aD := cL
           have HK := cM
           have HB := dI
           clear cJ cK cL cM dI
           clear hb ho32
           obtain ⟨fL, dY, eG⟩ := Kd.R_slice cD.out
           subst eG
           obtain ⟨ado33, fo33, _⟩ := Kd.at_int (Kd.R_reads' cD.out).2.2 0 oD (by rw [cZ.out]; simp)
           cases fo33
           refine hK.out _ _ ⟨aZ, aE, bC, aF, .slice (some ado33) bG.length dY, ado33, bZ, bH, bI, (by rw [ha.out]; exact putSel_upk 11 hb_ rfl rfl rfl), (by (with_reducible repeat (first | apply Kd.R_alloc | apply Kd.R_drewN | apply Kd.R_drew)); exact Kd.R_mono aL.out oX2), fun _ => aD.out, fun h0_ => absurd ((hon 3 oK).symm.trans h0_) oD, (oE HK), (oB HB), fun _ h1_ => absurd ((hon 6 oK).symm.trans h1_) oD, bL, aA, fun _ h1_ => absurd ((hon 11 oK).symm.trans h1_) oD, fun _ h1_ => absurd ((hon 14 oK).symm.trans h1_) oD, bT, aB, fun _ h1_ => absurd ((hon 18 oK).symm.trans h1_) oD, bW, fun _ => (by (with_reducible repeat (first | apply Kd.R_alloc | apply Kd.R_drewN | apply Kd.R_drew)); exact Kd.R_mono cD.out oX2), fun _ => ⟨_, rfl⟩, bX, oF (hoff 25 oK), aY, aV, oF (hoff 22 oK)⟩
          refine steps_cons ?_ ?_
          ·rintro b a w' ⟨aZ, aE, bC, aF, bD, aG, bZ, bH, bI, ha, aJ, aK, bO, Q_HK, Q_HB, aU, aI, aA, aS, aR, aM, aB, aP, aN, aO, aC, aH, aQ, aY, aV, aW⟩ hb_ hon hoff
           refine ⟨_, rfl, fun K hK => ?_⟩
           have fC : a.tmps[31]? = some (.pointer (some ⟨g, 0, none⟩)) := by rw [ha]; exact (putSel_off rfl).trans rfl
           replace ha := Aside0.mk ha
           have aL := Aside0.mk aJ
           have aD := Aside0.mk (aK (hoff 25 oK))
           obtain ⟨HK, HB⟩ := o2_ Q_HK (o1_ Q_HB)
           have aX := Aside0.mk (aN (hon 18 oK) hb_)
           refine goes_ Try.func56 oK rfl #[.pointer (some ⟨g, 0, none⟩), .int .i64 4] (by rfl) rfl rfl (by first | (simp only [List.map_toArray, List.map_cons, List.map_nil, Act.eval, Array.getD_eq_getD_getElem?, Option.getD_some, fC]; done) | (simp only [List.map_toArray, List.map_cons, List.map_nil, Act.eval, Array.getD_eq_getD_getElem?, Option.getD_some, fC]; rfl)) ?_
           with_reducible refine (spec_l20Rd_pick.calls k g s0_0 cE 4 bS dA w0 _ ?side1 ?side2 fH.out).mono ?_
           (case side1 => exact oI72 aX)
           (case side2 => exact oH HB (IsS72.ge aX.out))
           rintro e dJ ⟨rfl, hi, hb, hk⟩
           refine ⟨_, rfl, ?_⟩
           have cJ := Aside0.mk (oJ hk aD bU)
           have cK := Aside0.mk (Kd.R_mono (Kd.R_keep (IsS72.apart (show IsS72 w0 _ g s0_0 cE from oI72 aX) aL.out oD) hk (fun _ h => h.2)) (fun _ h => h.1))
           have cV := Aside0.mk (KeepBut.trans (oE HK) hk (.inl rfl))
           have cL := Aside0.mk (hb)
           have cM := Aside0.mk (hi)
           have bL := fun (h0_ : b 4 = true) => (show Kd.R (Kd.int .i64) 3 dJ w.heap.size (fun k_ => some k_ ≠ (.slice (some bP) aT.length bY : Value).ownBlock) aZ bE from by first | exact (Kd.R_mono (Kd.R_keep (IsS72.apart (show IsS72 w0 _ g s0_0 cE from oI72 aX) (uR ((aI h0_))) oD) hk (fun _ h => h.2)) (fun _ h => h.1)) | exact Kd.R_mono (Kd.R_mono (Kd.R_keep (IsS72.apart (show IsS72 w0 _ g s0_0 cE from oI72 aX) (uR ((aI h0_))) oD) hk (fun _ h => h.2)) (fun _ h => h.1)) (fun _ h_ => by first | trivial | exact h_ | exact h_.1))
           have bT := fun (h0_ : b 12 = true) => (show Kd.R (Kd.int .i64) 3 dJ w.heap.size (fun k_ => some k_ ≠ (.slice (some bP) aT.length bY : Value).ownBlock) bC bF from by first | exact (Kd.R_mono (Kd.R_keep (IsS72.apart (show IsS72 w0 _ g s0_0 cE from oI72 aX) (uR ((aM h0_))) oD) hk (fun _ h => h.2)) (fun _ h => h.1)) | exact Kd.R_mono (Kd.R_mono (Kd.R_keep (IsS72.apart (show IsS72 w0 _ g s0_0 cE from oI72 aX) (uR ((aM h0_))) oD) hk (fun _ h => h.2)) (fun _ h => h.1)) (fun _ h_ => by first | trivial | exact h_ | exact h_.1))
           have cF := fun (h0_ : b 19 = true) => (show Kd.R (Kd.int .i64) 3 dJ w.heap.size (fun k_ => some k_ ≠ (.slice (some bP) aT.length bY : Value).ownBlock) bD bG from by first | exact (Kd.R_mono (Kd.R_keep (IsS72.apart (show IsS72 w0 _ g s0_0 cE from oI72 aX) (uR ((aO h0_))) oD) hk (fun _ h => h.2)) (fun _ h => h.1)) | exact Kd.R_mono (Kd.R_mono (Kd.R_keep (IsS72.apart (show IsS72 w0 _ g s0_0 cE from oI72 aX) (uR ((aO h0_))) oD) hk (fun _ h => h.2)) (fun _ h => h.1)) (fun _ h_ => by first | trivial | exact h_ | exact h_.1))
           clear aD
           clear aL
           clear HK
           clear HB
           clear aX
           have aD := cJ
           have aL := cK
           have HK := cV
           have HB := cL
           have aX := cM
           clear cJ cK cV cL cM
           (try clear hb)
           (try clear hb2)
           (try clear hk)
           (try clear hi)
           refine hK.out _ _ ⟨aZ, aE, bC, aF, bD, aG, bZ, bH, bI, (by rw [ha.out]; exact putSel_upk 12 hb_ rfl rfl rfl), aL.out, fun _ => aD.out, fun h0_ => absurd ((hon 3 oK).symm.trans h0_) oD, (oE HK), (oH HB (IsS72.ge aX.out)), fun _ h1_ => absurd ((hon 6 oK).symm.trans h1_) oD, bL, aA, fun _ h1_ => absurd ((hon 11 oK).symm.trans h1_) oD, fun _ h1_ => absurd ((hon 14 oK).symm.trans h1_) oD, bT, aB, fun _ h1_ => absurd ((hon 18 oK).symm.trans h1_) oD, fun _ h1_ => absurd ((up_self b 21).symm.trans h1_) oD, cF, aC, fun _ => (oI72 aX), oF (hoff 25 oK), aY, aV, oF (hoff 22 oK)⟩
          refine steps_cons ?_ ?_
          ·rintro b a w' ⟨aZ, aE, bC, aF, bD, aG, bZ, bH, bI, ha, aJ, aK, bO, Q_HK, Q_HB, aU, aI, aA, aS, aR, aM, aB, aP, aN, aO, aC, aH, aQ, aY, aV, aW⟩ hb_ hon hoff
           refine ⟨_, rfl, fun K hK => ?_⟩
           have fX : a.tmps[30]? = some (bD) := by rw [ha]; exact putSel_on (e := (19, 30, bD)) 11 rfl rfl (hon 19 oK) rfl
           have gM : a.tmps[32]? = some (.int .i64 bS) := by rw [ha]; exact putSel_on (e := (21, 32, .int .i64 bS)) 12 rfl rfl (hon 21 oK) rfl
           replace ha := Aside0.mk ha
           have aL := Aside0.mk aJ
           have aD := Aside0.mk (aK (hoff 25 oK))
           obtain ⟨HK, HB, cD, HA_HO136, aX⟩ := o2_ Q_HK (o2_ Q_HB (o2_ (aO (hon 19 oK)) (o2_ (aC (hon 19 oK)) (o1_ (aH (hon 21 oK))))))
           obtain ⟨c_, hv_⟩ := HA_HO136.out
           rw [hv_] at fX
           refine value_ (w1 := w') (v := .pointer (some (aG.add (bS).toNat))) (by rfl) rfl ?_ ?_
           ·go_simp
            (try simp only [i64_w])
            try rfl
           refine hK.out _ _ ⟨aZ, aE, bC, aF, bD, aG, bZ, bH, (.pointer (some (aG.add (bS).toNat))), (by rw [ha.out]; exact putSel_upk 13 hb_ rfl rfl rfl), aJ, aK, fun h0_ => absurd ((hon 3 oK).symm.trans h0_) oD, Q_HK, Q_HB, fun _ h1_ => absurd ((hon 6 oK).symm.trans h1_) oD, aI, aA, fun _ h1_ => absurd ((hon 11 oK).symm.trans h1_) oD, fun _ h1_ => absurd ((hon 14 oK).symm.trans h1_) oD, aM, aB, fun _ h1_ => absurd ((hon 18 oK).symm.trans h1_) oD, fun _ h1_ => absurd ((hon 21 oK).symm.trans h1_) oD, aO, aC, aH, oF (hoff 25 oK), aY, aV, fun _ => rfl⟩
          refine steps_cons ?_ ?_
          ·rintro b a w' ⟨aZ, aE, bC, aF, bD, aG, bZ, bH, bI, ha, aJ, aK, bO, Q_HK, Q_HB, aU, aI, aA, aS, aR, aM, aB, aP, aN, aO, aC, aH, aQ, aY, aV, aW⟩ hb_ hon hoff
           refine ⟨_, rfl, fun K hK => ?_⟩
           have fY : a.tmps[33]? = some (bI) := by rw [ha]; exact putSel_on (e := (22, 33, bI)) 13 rfl rfl (hon 22 oK) rfl
           rw [aW (hon 22 oK)] at fY
           replace ha := Aside0.mk ha
           have aL := Aside0.mk aJ
           have aD := Aside0.mk (aK (hoff 25 oK))
           obtain ⟨HK, HB, cD, HA_HO136, aX⟩ := o2_ Q_HK (o2_ Q_HB (o2_ (aO (hon 19 oK)) (o2_ (aC (hon 19 oK)) (o1_ (aH (hon 21 oK))))))
           obtain ⟨c_, hv_⟩ := HA_HO136.out
           have hF_ := cD.out
           rw [hv_] at hF_
           obtain ⟨ad_, ea_, hx_⟩ := Kd.at_int (Kd.R_reads' hF_).2.2 bS (of_eq_true pi139) (of_eq_true qi139)
           cases ea_
           refine value_ (w1 := w') (v := .int .i64 (rd bG bS)) (by rfl) rfl ?_ ?_
           ·go_simp
            (try simp only [i64_w])
            try rfl
           refine hK.out _ _ ⟨aZ, aE, bC, aF, bD, aG, bZ, bH, bI, (by rw [ha.out]; exact putSel_upk 14 hb_ rfl rfl rfl), aJ, aK, fun h0_ => absurd ((hon 3 oK).symm.trans h0_) oD, Q_HK, Q_HB, fun _ h1_ => absurd ((hon 6 oK).symm.trans h1_) oD, aI, aA, fun _ h1_ => absurd ((hon 11 oK).symm.trans h1_) oD, fun _ h1_ => absurd ((hon 14 oK).symm.trans h1_) oD, aM, aB, fun _ h1_ => absurd ((hon 18 oK).symm.trans h1_) oD, fun _ h1_ => absurd ((hon 21 oK).symm.trans h1_) oD, aO, aC, aH, oF (hoff 25 oK), aY, aV, aW⟩
          refine steps_cons ?_ ?_
          ·rintro b a w' ⟨aZ, aE, bC, aF, bD, aG, bZ, bH, bI, ha, aJ, aK, bO, Q_HK, Q_HB, aU, aI, aA, aS, aR, aM, aB, aP, aN, aO, aC, aH, aQ, aY, aV, aW⟩ hb_ hon hoff
           refine ⟨_, rfl, fun K hK => ?_⟩
           have gC : a.tmps[11]? = some (.int .i64 (rd aT bK)) := by rw [ha]; exact (putSel_off rfl).trans rfl
           have gG : a.tmps[19]? = some (.int .i64 (rd bE bN)) := by rw [ha]; exact putSel_on (e := (8, 19, .int .i64 (rd bE bN))) 4 rfl rfl (hon 8 oK) rfl
           have gK : a.tmps[27]? = some (.int .i64 (rd bF bR)) := by rw [ha]; exact putSel_on (e := (16, 27, .int .i64 (rd bF bR))) 9 rfl rfl (hon 16 oK) rfl
           have gN : a.tmps[34]? = some (.int .i64 (rd bG bS)) := by rw [ha]; exact putSel_on (e := (23, 34, .int .i64 (rd bG bS))) 14 rfl rfl (hon 23 oK) rfl
           replace ha := Aside0.mk ha
           have aL := Aside0.mk aJ
           have aD := Aside0.mk (aK (hoff 25 oK))
           obtain ⟨HK, HB, cB, HA_HO120, cC, HA_HO128, cD, HA_HO136, aX⟩ := o2_ Q_HK (o2_ Q_HB (o2_ (aI (hon 4 oK)) (o2_ (aA (hon 4 oK)) (o2_ (aM (hon 12 oK)) (o2_ (aB (hon 12 oK)) (o2_ (aO (hon 19 oK)) (o2_ (aC (hon 19 oK)) (o1_ (aH (hon 21 oK))))))))))
           refine value_ (w1 := w') (v := .agg #[.int .i64 (rd aT bK), .int .i64 (rd bE bN), .int .i64 (rd bF bR), .int .i64 (rd bG bS)]) (by rfl) rfl ?_ ?_
           ·go_simp
            (try simp only [i64_w])
            try rfl
           refine hK.out _ _ ⟨aZ, aE, bC, aF, bD, aG, bZ, bH, bI, (by rw [ha.out]; exact putSel_upk 15 hb_ rfl rfl rfl), aJ, aK, fun h0_ => absurd ((hon 3 oK).symm.trans h0_) oD, Q_HK, Q_HB, fun _ h1_ => absurd ((hon 6 oK).symm.trans h1_) oD, aI, aA, fun _ h1_ => absurd ((hon 11 oK).symm.trans h1_) oD, fun _ h1_ => absurd ((hon 14 oK).symm.trans h1_) oD, aM, aB, fun _ h1_ => absurd ((hon 18 oK).symm.trans h1_) oD, fun _ h1_ => absurd ((hon 21 oK).symm.trans h1_) oD, aO, aC, aH, oF (hoff 25 oK), aY, aV, aW⟩
          refine steps_cons ?_ ?_
          ·rintro b a w' ⟨aZ, aE, bC, aF, bD, aG, bZ, bH, bI, ha, aJ, aK, bO, Q_HK, Q_HB, aU, aI, aA, aS, aR, aM, aB, aP, aN, aO, aC, aH, aQ, aY, aV, aW⟩ hb_ hon hoff
           refine ⟨_, rfl, fun K hK => ?_⟩
           have e2 : a.tmps[2]? = some (.pointer (some ⟨bB, 0, none⟩)) := by rw [ha]; exact (putSel_off rfl).trans rfl
           have gO : a.tmps[35]? = some (.agg #[.int .i64 (rd aT bK), .int .i64 (rd bE bN), .int .i64 (rd bF bR), .int .i64 (rd bG bS)]) := by rw [ha]; exact putSel_on (e := (24, 35, .agg #[.int .i64 (rd aT bK), .int .i64 (rd bE bN), .int .i64 (rd bF bR), .int .i64 (rd bG bS)])) 15 rfl rfl (hon 24 oK) rfl
           replace ha := Aside0.mk ha
           have aL := Aside0.mk aJ
           have aD := Aside0.mk (aK hb_)
           obtain ⟨HK, HB, cB, HA_HO120, cC, HA_HO128, cD, HA_HO136, aX⟩ := o2_ Q_HK (o2_ Q_HB (o2_ (aI (hon 4 oK)) (o2_ (aA (hon 4 oK)) (o2_ (aM (hon 12 oK)) (o2_ (aB (hon 12 oK)) (o2_ (aO (hon 19 oK)) (o2_ (aC (hon 19 oK)) (o1_ (aH (hon 21 oK))))))))))
           obtain ⟨dZ, eH⟩ := HA_HO120.out
           clear HA_HO120
           subst eH
           obtain ⟨eA, eI⟩ := HA_HO128.out
           clear HA_HO128
           subst eI
           obtain ⟨eB, eJ⟩ := HA_HO136.out
           clear HA_HO136
           subst eJ
           have hs44 : w'.cell? ⟨bB, 0, none⟩ = some (.int .i64 0) := (blk_cell aD.out 0).trans rfl
           have hfs44 := blk_frozen aD.out 0
           have hs45 : w'.cell? ⟨bB, 1, none⟩ = some (.int .i64 0) := (blk_cell aD.out 1).trans rfl
           have hfs45 := blk_frozen aD.out 1
           have hs46 : w'.cell? ⟨bB, 2, none⟩ = some (.int .i64 0) := (blk_cell aD.out 2).trans rfl
           have hfs46 := blk_frozen aD.out 2
           have hs47 : w'.cell? ⟨bB, 3, none⟩ = some (.int .i64 0) := (blk_cell aD.out 3).trans rfl
           have hfs47 := blk_frozen aD.out 3
           refine skip_ (w1 := ?_) (by rfl) rfl ?_ ?_
           rotate_left
           ·go_simp
            rfl
           refine hK.out _ _ ⟨.slice (some aE) bE.length dZ, aE, .slice (some aF) bF.length eA, aF, .slice (some aG) bG.length eB, aG, bZ, bH, bI, (by rw [ha.out]; exact putSel_none (v := undef) rfl), (by (with_reducible repeat (first | apply Kd.R_alloc | apply Kd.R_drewN | apply Kd.R_drew)); exact Kd.R_mono (Kd.R_far (p := ⟨bB, 3, none⟩) (Kd.R_far (p := ⟨bB, 2, none⟩) (Kd.R_far (p := ⟨bB, 1, none⟩) (Kd.R_far (p := ⟨bB, 0, none⟩) (Kd.R_types aL.out aD.out oD) oX2 (.int .i64 (rd aT bK))) oX2 (.int .i64 (rd bE bN))) oX2 (.int .i64 (rd bF bR))) oX2 (.int .i64 (rd bG bS))) (fun _ hk => by first | exact ⟨hk.1.1, ⟨hk.1.2.1, hk.1.2.2⟩⟩ | exact trivial | (revert hk; simp; done) | (simp_all; done))), fun h0_ => absurd ((up_self b 25).symm.trans h0_) oD, fun h0_ => absurd ((hon 3 oK).symm.trans h0_) oD, (oE HK), (oH HB (IsS72.ge aX.out)), fun _ h1_ => absurd ((hon 6 oK).symm.trans h1_) oD, fun _ => (by (with_reducible repeat (first | apply Kd.R_alloc | apply Kd.R_drewN | apply Kd.R_drew)); exact Kd.R_mono (Kd.R_far (p := ⟨bB, 3, none⟩) (Kd.R_far (p := ⟨bB, 2, none⟩) (Kd.R_far (p := ⟨bB, 1, none⟩) (Kd.R_far (p := ⟨bB, 0, none⟩) (Kd.R_types cB.out aD.out oD) oX2 (.int .i64 (rd aT bK))) oX2 (.int .i64 (rd bE bN))) oX2 (.int .i64 (rd bF bR))) oX2 (.int .i64 (rd bG bS))) (fun _ hk => by first | exact ⟨hk.1.1, ⟨hk.1.2.1, hk.1.2.2⟩⟩ | exact trivial | (revert hk; simp; done) | (simp_all; done))), fun _ => ⟨_, rfl⟩, fun _ h1_ => absurd ((hon 11 oK).symm.trans h1_) oD, fun _ h1_ => absurd ((hon 14 oK).symm.trans h1_) oD, fun _ => (by (with_reducible repeat (first | apply Kd.R_alloc | apply Kd.R_drewN | apply Kd.R_drew)); exact Kd.R_mono (Kd.R_far (p := ⟨bB, 3, none⟩) (Kd.R_far (p := ⟨bB, 2, none⟩) (Kd.R_far (p := ⟨bB, 1, none⟩) (Kd.R_far (p := ⟨bB, 0, none⟩) (Kd.R_types cC.out aD.out oD) oX2 (.int .i64 (rd aT bK))) oX2 (.int .i64 (rd bE bN))) oX2 (.int .i64 (rd bF bR))) oX2 (.int .i64 (rd bG bS))) (fun _ hk => by first | exact ⟨hk.1.1, ⟨hk.1.2.1, hk.1.2.2⟩⟩ | exact trivial | (revert hk; simp; done) | (simp_all; done))), fun _ => ⟨_, rfl⟩, fun _ h1_ => absurd ((hon 18 oK).symm.trans h1_) oD, fun _ h1_ => absurd ((hon 21 oK).symm.trans h1_) oD, fun _ => (by (with_reducible repeat (first | apply Kd.R_alloc | apply Kd.R_drewN | apply Kd.R_drew)); exact Kd.R_mono (Kd.R_far (p := ⟨bB, 3, none⟩) (Kd.R_far (p := ⟨bB, 2, none⟩) (Kd.R_far (p := ⟨bB, 1, none⟩) (Kd.R_far (p := ⟨bB, 0, none⟩) (Kd.R_types cD.out aD.out oD) oX2 (.int .i64 (rd aT bK))) oX2 (.int .i64 (rd bE bN))) oX2 (.int .i64 (rd bF bR))) oX2 (.int .i64 (rd bG bS))) (fun _ hk => by first | exact ⟨hk.1.1, ⟨hk.1.2.1, hk.1.2.2⟩⟩ | exact trivial | (revert hk; simp; done) | (simp_all; done))), fun _ => ⟨_, rfl⟩, fun _ => (oI72 aX), fun _ => (blk_put (blk_put (blk_put (blk_put aD.out 0 _ rfl) 1 _ rfl) 2 _ rfl) 3 _ rfl), aY, aV, aW⟩
          exact steps_nil
         rintro b a gU hall ⟨aZ, aE, bC, aF, bD, aG, bZ, bH, bI, ha, aJ, aK, bO, Q_HK, Q_HB, aU, aI, aA, aS, aR, aM, aB, aP, aN, aO, aC, aH, aQ, aY, aV, aW⟩
         clear aD HB aX HK aL
         have hb3_ := hall 3 oK
         have hb4_ := hall 4 oK
         have hb6_ := hall 6 oK
         have hb7_ := hall 7 oK
         have hb8_ := hall 8 oK
         have hb11_ := hall 11 oK
         have hb12_ := hall 12 oK
         have hb14_ := hall 14 oK
         have hb15_ := hall 15 oK
         have hb16_ := hall 16 oK
         have hb18_ := hall 18 oK
         have hb19_ := hall 19 oK
         have hb21_ := hall 21 oK
         have hb22_ := hall 22 oK
         have hb23_ := hall 23 oK
         have hb24_ := hall 24 oK
         have hb25_ := hall 25 oK
         subst ha
         obtain rfl := aY hb7_
         obtain rfl := aV hb15_
         obtain rfl := aW hb22_
         simp only [putSel, hb3_, hb4_, hb6_, hb7_, hb8_, hb11_, hb12_, hb14_, hb15_, hb16_, hb18_, hb19_, hb21_, hb22_, hb23_, hb24_, hb25_, if_true, Act.put, List.setIfInBounds_toArray, List.set_cons_zero, List.set_cons_succ]
         have aL := Aside0.mk aJ
         clear aJ
         clear aK
         clear bO
         have HK := Aside0.mk Q_HK
         clear Q_HK
         have HB := Aside0.mk Q_HB
         clear Q_HB
         clear aU
         have cB := Aside0.mk (aI hb4_)
         clear aI
         have HA_HO120 := Aside0.mk (aA hb4_)
         clear aA
         clear aS
         clear aR
         have cC := Aside0.mk (aM hb12_)
         clear aM
         have HA_HO128 := Aside0.mk (aB hb12_)
         clear aB
         clear aP
         clear aN
         have cD := Aside0.mk (aO hb19_)
         clear aO
         have HA_HO136 := Aside0.mk (aC hb19_)
         clear aC
         have aX := Aside0.mk (aH hb21_)
         clear aH
         have aD := Aside0.mk (aQ hb25_)
         clear aQ
         clear hall hb3_ hb4_ hb6_ hb7_ hb8_ hb11_ hb12_ hb14_ hb15_ hb16_ hb18_ hb19_ hb21_ hb22_ hb23_ hb24_ hb25_
         obtain ⟨fQ, eK⟩ := HA_HO120.out
         clear HA_HO120
         subst eK
         obtain ⟨fR, eL⟩ := HA_HO128.out
         clear HA_HO128
         subst eL
         obtain ⟨fS, eM⟩ := HA_HO136.out
         clear HA_HO136
         subst eM
         try go_wp2
         refine bodyPost_ret (results_cell_row rfl _ _ bB 38 #[.int .i64 (rd aT bK), .int .i64 (rd bE bN), .int .i64 (rd bF bR), .int .i64 (rd bG bS)] (0, 0) _ rfl (oP aD) Try.underlying38 rfl oK) rfl ?_
         exact ⟨by first | rfl | (simp [errW_none, errW_some] <;> rfl) | (simp [*, errW_none, errW_some] <;> rfl), oI72 aX, oH HB (IsS72.ge aX.out), oE HK⟩
        ·rw [if_neg dU] at H
         exact absurd H (by simp)
       ·rw [if_neg dT] at H
        exact absurd H (by simp)
      ·rw [if_neg dS] at H
       exact absurd H (by simp)
     ·rw [if_neg dR] at H
      exact absurd H (by simp)
    ·rw [if_neg c9] at H
     exact absurd H (by simp)
   ·rw [if_neg c8] at H
    exact absurd H (by simp)
  ·rw [if_neg c5] at H
   exact absurd H (by simp)
 ·rw [if_neg c4] at H
  exact absurd H (by simp)

end Go.Proofs.Ythnmeogafklhnaa.X
