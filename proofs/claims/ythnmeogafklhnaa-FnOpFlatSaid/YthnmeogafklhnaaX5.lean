/- Functions of the given program as plain Lean functions, and for each the proof that the machine's call comes to what its function says. No condition but what each theorem states. Written by a program of this session. -/
import Derived.Test.YthnmeogafklhnaaX0
import Derived.Test.YthnmeogafklhnaaX3
import Derived.Test.YthnmeogafklhnaaX4
namespace Go.Proofs.Ythnmeogafklhnaa.X
open Go.RowKit Go.Proofs.YthnmeogafklhnaaW.PrintWords Go.Proofs.YthnmeogafklhnaaW.PrintLast Go.Proofs.YthnmeogafklhnaaW.PrintMore Go.Proofs.Ythnmeogafklhnaa.Hyb
attribute [local go_sem] max2_int min2_int max_two min_two max_three min_three max_four min_four   -- for this text's walks alone
set_option linter.unusedVariables false
set_option linter.unusedSimpArgs false

/-! ### spec_l20Pix: function 55 -/
def spec_l20Pix.f (k : Nat) (s0_0 : List Int) (s0_1 : Int) : Option (Int × Int × Int × Int × Int) := (spec_l20Rd_pick.f k s0_0 s0_1 256).bind fun bt108 => ((some (([0, 255, bt108.1] : List Int) : List Int)).bind fun y110 => ((spec_l20Rd_pick.f k s0_0 bt108.2 3).bind fun bt113 => (if 0 ≤ bt113.1 then (if bt113.1 < (y110.length : Int) then ((spec_l20Rd_pick.f k s0_0 bt113.2 256).bind fun bt116 => ((some (([rd y110 bt113.1, bt116.1] : List Int) : List Int)).bind fun y118 => ((spec_l20Rd_pick.f k s0_0 bt116.2 2).bind fun bt121 => (if 0 ≤ bt121.1 then (if bt121.1 < (y118.length : Int) then ((spec_l20Rd_pick.f k s0_0 bt121.2 256).bind fun bt124 => ((some (([rd y110 bt113.1, bt124.1] : List Int) : List Int)).bind fun y126 => ((spec_l20Rd_pick.f k s0_0 bt124.2 2).bind fun bt129 => (if 0 ≤ bt129.1 then (if bt129.1 < (y126.length : Int) then ((spec_l20Rd_pick.f k s0_0 bt129.2 256).bind fun bt132 => ((some (([255, 255, 0, bt132.1] : List Int) : List Int)).bind fun y134 => ((spec_l20Rd_pick.f k s0_0 bt132.2 4).bind fun bt137 => (if 0 ≤ bt137.1 then (if bt137.1 < (y134.length : Int) then (some (rd y110 bt113.1, rd y118 bt121.1, rd y126 bt129.1, rd y134 bt137.1, bt137.2)) else (none)) else (none))))) else (none)) else (none))))) else (none)) else (none))))) else (none)) else (none))))
theorem spec_l20Pix.mono : ∀ a0 a1 k, LeO (spec_l20Pix.f k a0 a1) (spec_l20Pix.f (k + 1) a0 a1) := by
 intro a0 a1 k
 unfold spec_l20Pix.f
 repeat' first
   | (with_reducible exact spec_l20Rd_pick.mono _ _ _ _)
   | (with_reducible exact LeO.refl _)
   | (with_reducible exact LeO.none _)
   | (with_reducible refine LeO.ite ?_ ?_)
   | (with_reducible refine LeO.bind ?_ (fun _ => ?_))
   | exact spec_l20Rd_pick.mono _ _ _ _
   | exact LeO.none _
   | refine LeO.ite ?_ ?_
   | refine LeO.bind ?_ (fun _ => ?_)
def spec_l20Pix.T2 : Bool × List (List Nat × List Nat) := (true, [([], []), ([], []), ([], []), ([2], [2]), ([1, 3], [1, 3]), ([], []), ([5, 3], [5]), ([4, 6], [4, 6]), ([7], [7]), ([], []), ([], []), ([10, 6], [10]), ([9, 11], [9, 11]), ([], []), ([13, 11], [13]), ([12, 14], [12, 14]), ([15], [15]), ([], []), ([17, 14], [17]), ([18], [18]), ([], []), ([20, 18], [20]), ([19, 21], [19, 21]), ([22], [22]), ([0, 8, 16, 23], [0, 8, 16, 23]), ([24, 21, 0, 1, 2, 3, 4, 5, 6, 7, 8, 9, 10, 11, 12, 13, 14, 15, 16, 17, 18, 19, 20, 21, 22, 23, 24], [24])])
def spec_l20Pix.B2 : List Nat := [0, 0, 0, 4, 14, 0, 44, 126, 254, 0, 0, 1132, 3692, 0, 11372, 32364, 65132, 0, 158828, 420972, 0, 1469548, 4090988, 8285292, 16777215, 33554431]
theorem spec_l20Pix.tab2 : rtab .any (opsOf Try.f55 2) = spec_l20Pix.T2 := by kernel_rfl
theorem spec_l20Pix.bits2 : waitsOk spec_l20Pix.T2.2 spec_l20Pix.B2 = true := by kernel_rfl
set_option maxHeartbeats 8000000 in
set_option maxRecDepth 100000 in
theorem spec_l20Pix.calls (k : Nat) (g : Nat) (s0_0 : List Int) (s0_1 : Int) (r1 : Int) (r2 : Int) (r3 : Int) (r4 : Int) (r5 : Int) (w0 w : World) (hI : IsS72 w0 w g s0_0 s0_1) (hB : Below w0.heap.size w0 w) (h : spec_l20Pix.f k s0_0 s0_1 = some (r1, r2, r3, r4, r5)) :
  Calls Try.prog 55 #[.pointer (some ⟨g, 0, none⟩)] w fun e w' => e = .returned (.agg #[.int .i64 r1, .int .i64 r2, .int .i64 r3, .int .i64 r4]) ∧ IsS72 w0 w' g s0_0 r5 ∧ Below w0.heap.size w0 w' ∧ KeepBut w w' g none := by
 have hu38 := Try.underlying38
 have HI0 := Aside0.mk hI
 have HK := Aside0.mk (KeepBut.refl w g none)
 have HL := Aside0.mk hB.size
 clear hI
 have HW0 := Aside0.mk hB.size
 have HB := Aside0.mk hB
 clear hB
 have H : ((spec_l20Rd_pick.f k s0_0 s0_1 256).bind fun bt108 => ((some (([0, 255, bt108.1] : List Int) : List Int)).bind fun y110 => ((spec_l20Rd_pick.f k s0_0 bt108.2 3).bind fun bt113 => (if 0 ≤ bt113.1 then (if bt113.1 < (y110.length : Int) then ((spec_l20Rd_pick.f k s0_0 bt113.2 256).bind fun bt116 => ((some (([rd y110 bt113.1, bt116.1] : List Int) : List Int)).bind fun y118 => ((spec_l20Rd_pick.f k s0_0 bt116.2 2).bind fun bt121 => (if 0 ≤ bt121.1 then (if bt121.1 < (y118.length : Int) then ((spec_l20Rd_pick.f k s0_0 bt121.2 256).bind fun bt124 => ((some (([rd y110 bt113.1, bt124.1] : List Int) : List Int)).bind fun y126 => ((spec_l20Rd_pick.f k s0_0 bt124.2 2).bind fun bt129 => (if 0 ≤ bt129.1 then (if bt129.1 < (y126.length : Int) then ((spec_l20Rd_pick.f k s0_0 bt129.2 256).bind fun bt132 => ((some (([255, 255, 0, bt132.1] : List Int) : List Int)).bind fun y134 => ((spec_l20Rd_pick.f k s0_0 bt132.2 4).bind fun bt137 => (if 0 ≤ bt137.1 then (if bt137.1 < (y134.length : Int) then (some (rd y110 bt113.1, rd y118 bt121.1, rd y126 bt129.1, rd y134 bt137.1, bt137.2)) else (none)) else (none))))) else (none)) else (none))))) else (none)) else (none))))) else (none)) else (none))))) = some (r1, r2, r3, r4, r5) := h
 clear h
 replace H := Option.bind_eq_some_iff.mp H
 obtain ⟨⟨t108, t109⟩, A20, H⟩ := H
 (try dsimp only at H)
 have A2 := Aside0.mk A20
 clear A20
 obtain ⟨y110, hy110⟩ : ∃ y_ : List Int, y_ = (([0, 255, t108] : List Int)) := ⟨_, rfl⟩
 replace H : ((spec_l20Rd_pick.f k s0_0 t109 3).bind fun bt113 => (if 0 ≤ bt113.1 then (if bt113.1 < (y110.length : Int) then ((spec_l20Rd_pick.f k s0_0 bt113.2 256).bind fun bt116 => ((some (([rd y110 bt113.1, bt116.1] : List Int) : List Int)).bind fun y118 => ((spec_l20Rd_pick.f k s0_0 bt116.2 2).bind fun bt121 => (if 0 ≤ bt121.1 then (if bt121.1 < (y118.length : Int) then ((spec_l20Rd_pick.f k s0_0 bt121.2 256).bind fun bt124 => ((some (([rd y110 bt113.1, bt124.1] : List Int) : List Int)).bind fun y126 => ((spec_l20Rd_pick.f k s0_0 bt124.2 2).bind fun bt129 => (if 0 ≤ bt129.1 then (if bt129.1 < (y126.length : Int) then ((spec_l20Rd_pick.f k s0_0 bt129.2 256).bind fun bt132 => ((some (([255, 255, 0, bt132.1] : List Int) : List Int)).bind fun y134 => ((spec_l20Rd_pick.f k s0_0 bt132.2 4).bind fun bt137 => (if 0 ≤ bt137.1 then (if bt137.1 < (y134.length : Int) then (some (rd y110 bt113.1, rd y118 bt121.1, rd y126 bt129.1, rd y134 bt137.1, bt137.2)) else (none)) else (none))))) else (none)) else (none))))) else (none)) else (none))))) else (none)) else (none))) = some (r1, r2, r3, r4, r5) := by first | (rw [hy110]; with_reducible exact H) | (have H2_ := (Option.bind_some _ _).symm.trans H; rw [hy110]; with_reducible exact H2_) | (have H2_ := (Option.bind_some _ _).symm.trans H; with_reducible exact H2_) | with_reducible exact H | (rw [hy110]; exact H) | exact H
 have Ny110 := Aside0.mk hy110
 clear hy110
 replace H := Option.bind_eq_some_iff.mp H
 obtain ⟨⟨t113, t114⟩, A30, H⟩ := H
 (try dsimp only at H)
 have A3 := Aside0.mk A30
 clear A30
 by_cases c4 : 0 ≤ t113
 ·rw [if_pos c4] at H
  have c4b0 : decide (0 ≤ t113) = true := decide_eq_true c4
  clear c4
  by_cases c5 : t113 < (y110.length : Int)
  ·rw [if_pos c5] at H
   have c5b0 : decide (t113 < (y110.length : Int)) = true := decide_eq_true c5
   clear c5
   replace H := Option.bind_eq_some_iff.mp H
   obtain ⟨⟨t116, t117⟩, A60, H⟩ := H
   (try dsimp only at H)
   have A6 := Aside0.mk A60
   clear A60
   obtain ⟨y118, hy118⟩ : ∃ y_ : List Int, y_ = (([rd y110 t113, t116] : List Int)) := ⟨_, rfl⟩
   replace H : ((spec_l20Rd_pick.f k s0_0 t117 2).bind fun bt121 => (if 0 ≤ bt121.1 then (if bt121.1 < (y118.length : Int) then ((spec_l20Rd_pick.f k s0_0 bt121.2 256).bind fun bt124 => ((some (([rd y110 t113, bt124.1] : List Int) : List Int)).bind fun y126 => ((spec_l20Rd_pick.f k s0_0 bt124.2 2).bind fun bt129 => (if 0 ≤ bt129.1 then (if bt129.1 < (y126.length : Int) then ((spec_l20Rd_pick.f k s0_0 bt129.2 256).bind fun bt132 => ((some (([255, 255, 0, bt132.1] : List Int) : List Int)).bind fun y134 => ((spec_l20Rd_pick.f k s0_0 bt132.2 4).bind fun bt137 => (if 0 ≤ bt137.1 then (if bt137.1 < (y134.length : Int) then (some (rd y110 t113, rd y118 bt121.1, rd y126 bt129.1, rd y134 bt137.1, bt137.2)) else (none)) else (none))))) else (none)) else (none))))) else (none)) else (none))) = some (r1, r2, r3, r4, r5) := by first | (rw [hy118]; with_reducible exact H) | (have H2_ := (Option.bind_some _ _).symm.trans H; rw [hy118]; with_reducible exact H2_) | (have H2_ := (Option.bind_some _ _).symm.trans H; with_reducible exact H2_) | with_reducible exact H | (rw [hy118]; exact H) | exact H
   have Ny118 := Aside0.mk hy118
   clear hy118
   replace H := Option.bind_eq_some_iff.mp H
   obtain ⟨⟨t121, t122⟩, A70, H⟩ := H
   (try dsimp only at H)
   have A7 := Aside0.mk A70
   clear A70
   by_cases c8 : 0 ≤ t121
   ·rw [if_pos c8] at H
    have c8b0 : decide (0 ≤ t121) = true := decide_eq_true c8
    clear c8
    by_cases c9 : t121 < (y118.length : Int)
    ·rw [if_pos c9] at H
     have c9b0 : decide (t121 < (y118.length : Int)) = true := decide_eq_true c9
     clear c9
     replace H := Option.bind_eq_some_iff.mp H
     obtain ⟨⟨t124, t125⟩, A100, H⟩ := H
     (try dsimp only at H)
     have A10 := Aside0.mk A100
     clear A100
     obtain ⟨y126, hy126⟩ : ∃ y_ : List Int, y_ = (([rd y110 t113, t124] : List Int)) := ⟨_, rfl⟩
     replace H : ((spec_l20Rd_pick.f k s0_0 t125 2).bind fun bt129 => (if 0 ≤ bt129.1 then (if bt129.1 < (y126.length : Int) then ((spec_l20Rd_pick.f k s0_0 bt129.2 256).bind fun bt132 => ((some (([255, 255, 0, bt132.1] : List Int) : List Int)).bind fun y134 => ((spec_l20Rd_pick.f k s0_0 bt132.2 4).bind fun bt137 => (if 0 ≤ bt137.1 then (if bt137.1 < (y134.length : Int) then (some (rd y110 t113, rd y118 t121, rd y126 bt129.1, rd y134 bt137.1, bt137.2)) else (none)) else (none))))) else (none)) else (none))) = some (r1, r2, r3, r4, r5) := by first | (rw [hy126]; with_reducible exact H) | (have H2_ := (Option.bind_some _ _).symm.trans H; rw [hy126]; with_reducible exact H2_) | (have H2_ := (Option.bind_some _ _).symm.trans H; with_reducible exact H2_) | with_reducible exact H | (rw [hy126]; exact H) | exact H
     have Ny126 := Aside0.mk hy126
     clear hy126
     replace H := Option.bind_eq_some_iff.mp H
     obtain ⟨⟨t129, t130⟩, A110, H⟩ := H
     (try dsimp only at H)
     have A11 := Aside0.mk A110
     clear A110
     by_cases c12 : 0 ≤ t129
     ·rw [if_pos c12] at H
      have c12b0 : decide (0 ≤ t129) = true := decide_eq_true c12
      clear c12
      by_cases c13 : t129 < (y126.length : Int)
      ·rw [if_pos c13] at H
       have c13b0 : decide (t129 < (y126.length : Int)) = true := decide_eq_true c13
       clear c13
       replace H := Option.bind_eq_some_iff.mp H
       obtain ⟨⟨t132, t133⟩, A140, H⟩ := H
       (try dsimp only at H)
       have A14 := Aside0.mk A140
       clear A140
       obtain ⟨y134, hy134⟩ : ∃ y_ : List Int, y_ = (([255, 255, 0, t132] : List Int)) := ⟨_, rfl⟩
       replace H : ((spec_l20Rd_pick.f k s0_0 t133 4).bind fun bt137 => (if 0 ≤ bt137.1 then (if bt137.1 < (y134.length : Int) then (some (rd y110 t113, rd y118 t121, rd y126 t129, rd y134 bt137.1, bt137.2)) else (none)) else (none))) = some (r1, r2, r3, r4, r5) := by first | (rw [hy134]; with_reducible exact H) | (have H2_ := (Option.bind_some _ _).symm.trans H; rw [hy134]; with_reducible exact H2_) | (have H2_ := (Option.bind_some _ _).symm.trans H; with_reducible exact H2_) | with_reducible exact H | (rw [hy134]; exact H) | exact H
       have Ny134 := Aside0.mk hy134
       clear hy134
       replace H := Option.bind_eq_some_iff.mp H
       obtain ⟨⟨t137, t138⟩, A150, H⟩ := H
       (try dsimp only at H)
       have A15 := Aside0.mk A150
       clear A150
       by_cases c16 : 0 ≤ t137
       ·rw [if_pos c16] at H
        have c16b0 : decide (0 ≤ t137) = true := decide_eq_true c16
        clear c16
        by_cases c17 : t137 < (y134.length : Int)
        ·rw [if_pos c17] at H
         have c17b0 : decide (t137 < (y134.length : Int)) = true := decide_eq_true c17
         clear c17
         simp only [Option.some.injEq, Prod.mk.injEq] at H
         obtain ⟨rfl, rfl, rfl, rfl, rfl⟩ := H
         go_enter Try.func55, Try.ntmps55
         try go_wp2_with (first | ((with_reducible refine gate_dst (N := 2) rfl ?_); refine box_event ?hg (N := 2) ?hd (cs := #[.int .i64 0, .int .i64 0, .int .i64 0, .int .i64 0]) (t := 38) ?hr ?_; (case hd => rfl); (case hg => rfl); (case hr => first | (go_simp; done) | (go_simp; rfl)); intro gb107 hg w18 hbox hb; have n_ := o2_ (IsS72.below (oI72 HI0) hb) (o2_ (KeepBut.trans (oE HK) (KeepBut.of_below hb g none) (.inl rfl)) (o2_ (below_step (oH HB (IsS72.ge HI0.out)) hb) (o2_ (hbox) (o2_ ((by rw [hg]; exact (keep_size (w := w) (g := g) (row := none) (oE HK)) : w.heap.size ≤ gb107)) (o2_ ((Nat.le_trans HW0.out (by rw [hg]; exact (keep_size (w := w) (g := g) (row := none) (oE HK)) : w.heap.size ≤ gb107) : w0.heap.size ≤ gb107)) (o2_ ((by rw [hg]; exact Nat.ne_of_lt (IsS72.lt (show IsS72 w0 _ g s0_0 s0_1 from oI72 HI0)) : g ≠ gb107)) (o1_ ((by rw [hg]; exact Nat.ne_of_gt (IsS72.lt (show IsS72 w0 _ g s0_0 s0_1 from oI72 HI0)) : gb107 ≠ g))))))))); clear HI0 HK HB; obtain ⟨HI0, HK, HB, BK107, GW107, GE107, NB0_107, NB107_0⟩ := n_; clear hb hbox hg) | ((with_reducible refine gate_callee (f := 56) rfl ?_); refine goesL_ (some 5) rfl rfl Try.func56 oK rfl #[.pointer (some ⟨g, 0, none⟩), .int .i64 256] rfl oA ?_; (with_reducible refine (spec_l20Rd_pick.calls k g s0_0 s0_1 256 t108 t109 w0 _ ?side1 ?side2 A2.out).mono ?_); (case side1 => exact oI72 HI0); (case side2 => exact oH HB (IsS72.ge HI0.out)); rintro e w19 ⟨rfl, hi, hb, hk⟩; refine ⟨_, rfl, ?_⟩; have n_ := o2_ (oJ hk BK107 NB107_0) (o2_ (KeepBut.trans (oE HK) hk (.inl rfl)) (o2_ (hb) (o1_ (hi)))); clear BK107 HK HB HI0; obtain ⟨BK107, HK, HB, HI0⟩ := n_; (try clear hb); (try clear hb2); (try clear hk); (try clear hi)) | ((with_reducible refine gate_dst (N := 6) rfl ?_); refine Kd.R_lit (Kd.int .i64) _ 3 ?hg (N := 6) ?hd (xs := ([0, 255, t108] : List Int)) (inner := [.int .i64 0, .int .i64 255, .int .i64 t108]) (ok := fun _ => True) (okp := fun _ => True) ?hr ?hp (fun _ hk => hk) trivial (Below.refl _ _) (Nat.le_refl _) (by simp) ?_; (case hd => rfl); (case hg => rfl); (case hr => first | (go_simp; done) | (go_simp; rfl)); (case hp => exact (Reps.one (show Kd.M (Kd.int .i64) _ _ _ 0 [.int .i64 0] from rfl) (Reps.one (show Kd.M (Kd.int .i64) _ _ _ 255 [.int .i64 255] from rfl) (Reps.one (show Kd.M (Kd.int .i64) _ _ _ t108 [.int .i64 t108] from rfl) (Reps.none _ _))))); intro v111 w20 ho21 hb hg_ hnew_; clear hg_ hnew_; (first | rw [← Ny110.out] at ho21 | (simp only [Int.reduceToNat] at ho21; rw [← Ny110.out] at ho21)); have n_ := o2_ (Kd.R_lower ho21 (keep_size (w := w) (g := g) (row := none) (oE HK))) (o2_ (IsS72.below (oI72 HI0) hb) (o2_ (blk_below (oP BK107) hb) (o2_ (KeepBut.trans (oE HK) (KeepBut.of_below hb g none) (.inl rfl)) (o1_ (below_step (oH HB (IsS72.ge HI0.out)) hb))))); clear HI0 BK107 HK HB; obtain ⟨HO112, HI0, BK107, HK, HB⟩ := n_; clear hb ho21) | ((with_reducible refine gate_callee (f := 56) rfl ?_); refine goesL_ (some 8) rfl rfl Try.func56 oK rfl #[.pointer (some ⟨g, 0, none⟩), .int .i64 3] rfl oA ?_; (with_reducible refine (spec_l20Rd_pick.calls k g s0_0 t109 3 t113 t114 w0 _ ?side1 ?side2 A3.out).mono ?_); (case side1 => exact oI72 HI0); (case side2 => exact oH HB (IsS72.ge HI0.out)); rintro e w22 ⟨rfl, hi, hb, hk⟩; refine ⟨_, rfl, ?_⟩; have n_ := o2_ (oJ hk BK107 NB107_0) (o2_ (Kd.R_mono (Kd.R_keep (IsS72.apart (show IsS72 w0 _ g s0_0 t109 from oI72 HI0) (oR HO112) oD) hk (fun _ h => h.2)) (fun _ h => h.1)) (o2_ (KeepBut.trans (oE HK) hk (.inl rfl)) (o2_ (hb) (o1_ (hi))))); clear BK107 HO112 HK HB HI0; obtain ⟨BK107, HO112, HK, HB, HI0⟩ := n_; (try clear hb); (try clear hb2); (try clear hk); (try clear hi); obtain ⟨Ao23, co23, eo23⟩ := Kd.R_slice HO112.out; subst eo23; have p115 : 0 ≤ (t113 : Int) := of_decide_eq_true oM; have q115 : t113 < (y110.length : Int) := of_decide_eq_true oM; obtain ⟨ad115, e115, hx115_0⟩ := Kd.at_int (Kd.R_reads' HO112.out).2.2 t113 p115 q115; cases e115; replace p115 := eq_true p115; replace q115 := eq_true q115))
         have pi123 : (0 ≤ (t121 : Int)) = True := eq_true (of_decide_eq_true oM)
         have qi123 : (t121 < (y118.length : Int)) = True := eq_true (of_decide_eq_true oM)
         have pi131 : (0 ≤ (t129 : Int)) = True := eq_true (of_decide_eq_true oM)
         have qi131 : (t129 < (y126.length : Int)) = True := eq_true (of_decide_eq_true oM)
         have pi139 : (0 ≤ (t137 : Int)) = True := eq_true (of_decide_eq_true oM)
         have qi139 : (t137 < (y134.length : Int)) = True := eq_true (of_decide_eq_true oM)
         have n_ := o2_ (Kd.R_drew HO112.out) (o2_ (blk_drew BK107.out) (o2_ (IsS72.drew HI0.out) (o2_ (keep_drew HK.out) (o1_ (below_drew1 HB.out)))))
         clear HO112 BK107 HI0 HK HB
         obtain ⟨HO112, BK107, HI0, HK, HB⟩ := n_
         refine start_ (n := 26) (S := fun w' => True) (ds := []) #[false, false, false, false, false, false, false, false, false, false, false, false, false, false, false, false, false, false, false, false, false, false, false, false, false, false] oK rfl rfl trivial (fun hHeld => ?_); refine with_tabW spec_l20Pix.tab2 spec_l20Pix.bits2 (fun HT_ HW_ => ?_)
         generalize w22.drew = w24 at HO112 BK107 HI0 HK HB hHeld ⊢
         refine pure_ (i := 0) (N := some 11) (v := ?_) (a' := ?_) #[true, false, false, false, false, false, false, false, false, false, false, false, false, false, false, false, false, false, false, false, false, false, false, false, false, false] rfl rfl (any_of HT_.out oK) (fun _ _ _ h => h) (Or.inl ⟨by rfl, ?_⟩) ?_ ?_
         rotate_left
         ·intro w'
          go_simp
          with_reducible rfl
         rotate_left
         ·simp only [Act.put, List.setIfInBounds_toArray, List.set_cons_zero, List.set_cons_succ, i64_w, i32_w]
          rfl
         refine pure_ (i := 1) (N := some 12) (v := ?_) (a' := ?_) #[true, true, false, false, false, false, false, false, false, false, false, false, false, false, false, false, false, false, false, false, false, false, false, false, false, false] rfl rfl (any_of HT_.out oK) (fun _ _ _ h => h) (Or.inl ⟨by rfl, ?_⟩) ?_ ?_
         rotate_left
         ·intro w'
          go_simp
          with_reducible rfl
         rotate_left
         ·simp only [Act.put, List.setIfInBounds_toArray, List.set_cons_zero, List.set_cons_succ, i64_w, i32_w]
          rfl
         refine pure_ (i := 2) (N := some 13) (v := ?_) (a' := ?_) #[true, true, true, false, false, false, false, false, false, false, false, false, false, false, false, false, false, false, false, false, false, false, false, false, false, false] rfl rfl (any_of HT_.out oK) (fun _ _ _ h => h) (Or.inl ⟨by rfl, ?_⟩) ?_ ?_
         rotate_left
         ·intro w'
          go_simp
          with_reducible rfl
         rotate_left
         ·simp only [Act.put, List.setIfInBounds_toArray, List.set_cons_zero, List.set_cons_succ, i64_w, i32_w]
          rfl
         refine pure_ (i := 5) (N := some 16) (v := ?_) (a' := ?_) #[true, true, true, false, false, true, false, false, false, false, false, false, false, false, false, false, false, false, false, false, false, false, false, false, false, false] rfl rfl (any_of HT_.out oK) (fun _ _ _ h => h) (Or.inl ⟨by rfl, ?_⟩) ?_ ?_
         rotate_left
         ·intro w'
          go_simp
          with_reducible rfl
         rotate_left
         ·simp only [Act.put, List.setIfInBounds_toArray, List.set_cons_zero, List.set_cons_succ, i64_w, i32_w]
          rfl
         refine pure_ (i := 9) (N := some 20) (v := ?_) (a' := ?_) #[true, true, true, false, false, true, false, false, false, true, false, false, false, false, false, false, false, false, false, false, false, false, false, false, false, false] rfl rfl (any_of HT_.out oK) (fun _ _ _ h => h) (Or.inl ⟨by rfl, ?_⟩) ?_ ?_
         rotate_left
         ·intro w'
          go_simp
          with_reducible rfl
         rotate_left
         ·simp only [Act.put, List.setIfInBounds_toArray, List.set_cons_zero, List.set_cons_succ, i64_w, i32_w]
          rfl
         refine pure_ (i := 10) (N := some 21) (v := ?_) (a' := ?_) #[true, true, true, false, false, true, false, false, false, true, true, false, false, false, false, false, false, false, false, false, false, false, false, false, false, false] rfl rfl (any_of HT_.out oK) (fun _ _ _ h => h) (Or.inl ⟨by rfl, ?_⟩) ?_ ?_
         rotate_left
         ·intro w'
          go_simp
          with_reducible rfl
         rotate_left
         ·simp only [Act.put, List.setIfInBounds_toArray, List.set_cons_zero, List.set_cons_succ, i64_w, i32_w]
          rfl
         refine pure_ (i := 13) (N := some 24) (v := ?_) (a' := ?_) #[true, true, true, false, false, true, false, false, false, true, true, false, false, true, false, false, false, false, false, false, false, false, false, false, false, false] rfl rfl (any_of HT_.out oK) (fun _ _ _ h => h) (Or.inl ⟨by rfl, ?_⟩) ?_ ?_
         rotate_left
         ·intro w'
          go_simp
          with_reducible rfl
         rotate_left
         ·simp only [Act.put, List.setIfInBounds_toArray, List.set_cons_zero, List.set_cons_succ, i64_w, i32_w]
          rfl
         refine pure_ (i := 17) (N := some 28) (v := ?_) (a' := ?_) #[true, true, true, false, false, true, false, false, false, true, true, false, false, true, false, false, false, true, false, false, false, false, false, false, false, false] rfl rfl (any_of HT_.out oK) (fun _ _ _ h => h) (Or.inl ⟨by rfl, ?_⟩) ?_ ?_
         rotate_left
         ·intro w'
          go_simp
          with_reducible rfl
         rotate_left
         ·simp only [Act.put, List.setIfInBounds_toArray, List.set_cons_zero, List.set_cons_succ, i64_w, i32_w]
          rfl
         refine pure_ (i := 20) (N := some 31) (v := ?_) (a' := ?_) #[true, true, true, false, false, true, false, false, false, true, true, false, false, true, false, false, false, true, false, false, true, false, false, false, false, false] rfl rfl (any_of HT_.out oK) (fun _ _ _ h => h) (Or.inl ⟨by rfl, ?_⟩) ?_ ?_
         rotate_left
         ·intro w'
          go_simp
          with_reducible rfl
         rotate_left
         ·simp only [Act.put, List.setIfInBounds_toArray, List.set_cons_zero, List.set_cons_succ, i64_w, i32_w]
          rfl
         refine inv_at [3, 4, 6, 7, 8, 11, 12, 14, 15, 16, 18, 19, 21, 22, 23, 24, 25] (fun a0_ b a w' => ∃ (v119 : Value) (adz_v119 : Addr) (v127 : Value) (adz_v127 : Addr) (v135 : Value) (adz_v135 : Addr) (m7_ : Value) (m15_ : Value) (m22_ : Value), a = putSel a0_ b [(3, 14, .int .i64 t116), (4, 15, v119), (6, 17, .int .i64 t121), (7, 18, m7_), (8, 19, .int .i64 (rd y118 t121)), (11, 22, .int .i64 t124), (12, 23, v127), (14, 25, .int .i64 t129), (15, 26, m15_), (16, 27, .int .i64 (rd y126 t129)), (18, 29, .int .i64 t132), (19, 30, v135), (21, 32, .int .i64 t137), (22, 33, m22_), (23, 34, .int .i64 (rd y134 t137)), (24, 35, .agg #[.int .i64 (rd y110 t113), .int .i64 (rd y118 t121), .int .i64 (rd y126 t129), .int .i64 (rd y134 t137)])] ∧ (Kd.R (Kd.int .i64) 3 w' w.heap.size (fun _ => True) (.slice (some ad115) y110.length co23) y110) ∧ (b 25 = false → w'.heap[gb107]? = some (.cells #[.int .i64 0, .int .i64 0, .int .i64 0, .int .i64 0] 38 (0, 0))) ∧ (b 3 = false → IsS72 w0 w' g s0_0 t114) ∧ (KeepBut w w' g none) ∧ (Below w0.heap.size w0 w') ∧ (b 3 = true → b 6 = false → IsS72 w0 w' g s0_0 t117) ∧ (b 4 = true → Kd.R (Kd.int .i64) 3 w' w.heap.size (fun k_ => some k_ ≠ (.slice (some ad115) y110.length co23 : Value).ownBlock) v119 y118) ∧ (b 4 = true → ∃ c_, (v119 : Value) = .slice (some adz_v119) y118.length c_) ∧ (b 6 = true → b 11 = false → IsS72 w0 w' g s0_0 t122) ∧ (b 11 = true → b 14 = false → IsS72 w0 w' g s0_0 t125) ∧ (b 12 = true → Kd.R (Kd.int .i64) 3 w' w.heap.size (fun k_ => some k_ ≠ (.slice (some ad115) y110.length co23 : Value).ownBlock) v127 y126) ∧ (b 12 = true → ∃ c_, (v127 : Value) = .slice (some adz_v127) y126.length c_) ∧ (b 14 = true → b 18 = false → IsS72 w0 w' g s0_0 t130) ∧ (b 18 = true → b 21 = false → IsS72 w0 w' g s0_0 t133) ∧ (b 19 = true → Kd.R (Kd.int .i64) 3 w' w.heap.size (fun k_ => some k_ ≠ (.slice (some ad115) y110.length co23 : Value).ownBlock) v135 y134) ∧ (b 19 = true → ∃ c_, (v135 : Value) = .slice (some adz_v135) y134.length c_) ∧ (b 21 = true → IsS72 w0 w' g s0_0 t138) ∧ (b 25 = true → w'.heap[gb107]? = some (.cells #[.int .i64 (rd y110 t113), .int .i64 (rd y118 t121), .int .i64 (rd y126 t129), .int .i64 (rd y134 t137)] 38 (0, 0))) ∧ (b 7 = true → (m7_ : Value) = .pointer (some (adz_v119.add (t121).toNat))) ∧ (b 15 = true → (m15_ : Value) = .pointer (some (adz_v127.add (t129).toNat))) ∧ (b 22 = true → (m22_ : Value) = .pointer (some (adz_v135.add (t137).toNat)))) HT_.out HW_.out oK oK ?_ ?_ ?_
         ·exact ⟨.bool false, ⟨0, 0, none⟩, .bool false, ⟨0, 0, none⟩, .bool false, ⟨0, 0, none⟩, .bool false, .bool false, .bool false, by simp only [putSel, Bool.false_eq_true, if_false], HO112.out, fun _ => BK107.out, fun _ => HI0.out, HK.out, HB.out, fun h_ => absurd h_ oD, fun h_ => absurd h_ oD, fun h_ => absurd h_ oD, fun h_ => absurd h_ oD, fun h_ => absurd h_ oD, fun h_ => absurd h_ oD, fun h_ => absurd h_ oD, fun h_ => absurd h_ oD, fun h_ => absurd h_ oD, fun h_ => absurd h_ oD, fun h_ => absurd h_ oD, fun h_ => absurd h_ oD, fun h_ => absurd h_ oD, fun h_ => absurd h_ oD, fun h_ => absurd h_ oD, fun h_ => absurd h_ oD⟩
         ·skip
          clear BK107 HB HI0 HK HO112
          refine steps_cons ?_ ?_
          ·rintro b a w' ⟨v119, adz_v119, v127, adz_v127, v135, adz_v135, m7_, m15_, m22_, ha, Q_HO112, Q_BK107, Q_HI0, Q_HK, Q_HB, Q_HI0_e3, Q_HO120, Q_HA_HO120, Q_HI0_e6, Q_HI0_e11, Q_HO128, Q_HA_HO128, Q_HI0_e14, Q_HI0_e18, Q_HO136, Q_HA_HO136, Q_HI0_e21, Q_BK107_e25, Q_X7_, Q_X15_, Q_X22_⟩ hb_ hon hoff
           refine ⟨_, rfl, fun K hK => ?_⟩
           have e13 : a.tmps[13]? = some (.pointer (some ⟨g, 0, none⟩)) := by rw [ha]; exact (putSel_off rfl).trans rfl
           replace ha := Aside0.mk ha
           have HO112 := Aside0.mk Q_HO112
           have BK107 := Aside0.mk (Q_BK107 (hoff 25 oK))
           have HI0 := Aside0.mk (Q_HI0 hb_)
           obtain ⟨HK, HB⟩ := o2_ Q_HK (o1_ Q_HB)
           refine goes_ Try.func56 oK rfl #[.pointer (some ⟨g, 0, none⟩), .int .i64 256] (by rfl) rfl rfl (by first | (simp only [List.map_toArray, List.map_cons, List.map_nil, Act.eval, Array.getD_eq_getD_getElem?, Option.getD_some, e13]; done) | (simp only [List.map_toArray, List.map_cons, List.map_nil, Act.eval, Array.getD_eq_getD_getElem?, Option.getD_some, e13]; rfl)) ?_
           with_reducible refine (spec_l20Rd_pick.calls k g s0_0 t114 256 t116 t117 w0 _ ?side1 ?side2 A6.out).mono ?_
           (case side1 => exact oI72 HI0)
           (case side2 => exact oH HB (IsS72.ge HI0.out))
           rintro e w25 ⟨rfl, hi, hb, hk⟩
           refine ⟨_, rfl, ?_⟩
           have n_ := o2_ (oJ hk BK107 NB107_0) (o2_ (Kd.R_mono (Kd.R_keep (IsS72.apart (show IsS72 w0 _ g s0_0 t114 from oI72 HI0) HO112.out oD) hk (fun _ h => h.2)) (fun _ h => h.1)) (o2_ (KeepBut.trans (oE HK) hk (.inl rfl)) (o2_ (hb) (o1_ (hi)))))
           clear BK107 HO112 HK HB HI0
           obtain ⟨BK107, HO112, HK, HB, HI0⟩ := n_
           (try clear hb)
           (try clear hb2)
           (try clear hk)
           (try clear hi)
           refine hK.out _ _ ⟨v119, adz_v119, v127, adz_v127, v135, adz_v135, m7_, m15_, m22_, (by rw [ha.out]; exact putSel_upk 0 hb_ rfl rfl rfl), HO112.out, fun _ => BK107.out, fun h0_ => absurd ((up_self b 3).symm.trans h0_) oD, (oE HK), (oH HB (IsS72.ge HI0.out)), fun _ _ => (oI72 HI0), oF (hoff 4 oK), oF (hoff 4 oK), fun h0_ _ => absurd ((hoff 6 oK).symm.trans h0_) oD, fun h0_ _ => absurd ((hoff 11 oK).symm.trans h0_) oD, oF (hoff 12 oK), oF (hoff 12 oK), fun h0_ _ => absurd ((hoff 14 oK).symm.trans h0_) oD, fun h0_ _ => absurd ((hoff 18 oK).symm.trans h0_) oD, oF (hoff 19 oK), oF (hoff 19 oK), oF (hoff 21 oK), oF (hoff 25 oK), oF (hoff 7 oK), oF (hoff 15 oK), oF (hoff 22 oK)⟩
          refine steps_cons ?_ ?_
          ·rintro b a w' ⟨v119, adz_v119, v127, adz_v127, v135, adz_v135, m7_, m15_, m22_, ha, Q_HO112, Q_BK107, Q_HI0, Q_HK, Q_HB, Q_HI0_e3, Q_HO120, Q_HA_HO120, Q_HI0_e6, Q_HI0_e11, Q_HO128, Q_HA_HO128, Q_HI0_e14, Q_HI0_e18, Q_HO136, Q_HA_HO136, Q_HI0_e21, Q_BK107_e25, Q_X7_, Q_X15_, Q_X22_⟩ hb_ hon hoff
           refine ⟨_, rfl, fun K hK => ?_⟩
           have e12 : a.tmps[12]? = some (.int .i64 (rd y110 t113)) := by rw [ha]; exact (putSel_off rfl).trans rfl
           have e14 : a.tmps[14]? = some (.int .i64 t116) := by rw [ha]; exact putSel_on (e := (3, 14, .int .i64 t116)) 0 rfl rfl (hon 3 oK) rfl
           replace ha := Aside0.mk ha
           have HO112 := Aside0.mk Q_HO112
           have BK107 := Aside0.mk (Q_BK107 (hoff 25 oK))
           obtain ⟨HK, HB⟩ := o2_ Q_HK (o1_ Q_HB)
           refine Kd.R_lit_step (Kd.int .i64) _ 3 ?hg (N := 15) ?hd (xs := ([rd y110 t113, t116] : List Int)) (inner := [.int .i64 (rd y110 t113), .int .i64 t116]) (ok := fun _ => True) (okp := fun _ => True) ?hr ?hp (fun _ hk => hk) trivial (Below.refl _ _) (Nat.le_refl _) (by simp) ?_; (case hd => rfl); (case hg => rfl); (case hr => first | (go_simp; done) | (go_simp; rfl)); (case hp => exact (Reps.one (show Kd.M (Kd.int .i64) _ _ _ (rd y110 t113) [.int .i64 (rd y110 t113)] from rfl) (Reps.one (show Kd.M (Kd.int .i64) _ _ _ t116 [.int .i64 t116] from rfl) (Reps.none _ _))))
           intro v119 w27 ho28 hb hg_ hnew_
           clear hg_ hnew_
           (first | rw [← Ny118.out] at ho28 | (simp only [Int.reduceToNat] at ho28; rw [← Ny118.out] at ho28))
           have n0_ := Aside0.mk (Kd.R_elder' HO112.out (Kd.R_base ho28) hb)
           have n1_ := Aside0.mk (Kd.R_lower (Kd.R_new' ho28 (Kd.R_lt HO112.out)) (keep_size (w := w) (g := g) (row := none) (oE HK)))
           have n3_ := Aside0.mk (blk_below BK107.out hb)
           have n4_ := Aside0.mk (KeepBut.trans (oE HK) (KeepBut.of_below hb g none) (.inl rfl))
           have n5_ := Aside0.mk (below_step (oB HB) hb)
           have z_HI0_e3 := fun (h0_ : b 3 = true) (h1_ : b 6 = false) => (show IsS72 w0 w27 g s0_0 t117 from by first | exact (IsS72.below (oI72 (o1_ (Q_HI0_e3 h0_ h1_))) hb))
           have z_HI0_e6 := fun (h0_ : b 6 = true) (h1_ : b 11 = false) => (show IsS72 w0 w27 g s0_0 t122 from by first | exact (IsS72.below (oI72 (o1_ (Q_HI0_e6 h0_ h1_))) hb))
           have z_HI0_e11 := fun (h0_ : b 11 = true) (h1_ : b 14 = false) => (show IsS72 w0 w27 g s0_0 t125 from by first | exact (IsS72.below (oI72 (o1_ (Q_HI0_e11 h0_ h1_))) hb))
           have z_HO128 := fun (h0_ : b 12 = true) => (show Kd.R (Kd.int .i64) 3 w27 w.heap.size (fun k_ => some k_ ≠ (.slice (some ad115) y110.length co23 : Value).ownBlock) v127 y126 from by first | exact (Kd.R_elder' (uR ((Q_HO128 h0_))) (Kd.R_base ho28) hb) | exact Kd.R_mono (Kd.R_elder' (uR ((Q_HO128 h0_))) (Kd.R_base ho28) hb) (fun _ h_ => by first | trivial | exact h_ | exact h_.1))
           have z_HI0_e14 := fun (h0_ : b 14 = true) (h1_ : b 18 = false) => (show IsS72 w0 w27 g s0_0 t130 from by first | exact (IsS72.below (oI72 (o1_ (Q_HI0_e14 h0_ h1_))) hb))
           have z_HI0_e18 := fun (h0_ : b 18 = true) (h1_ : b 21 = false) => (show IsS72 w0 w27 g s0_0 t133 from by first | exact (IsS72.below (oI72 (o1_ (Q_HI0_e18 h0_ h1_))) hb))
           have z_HO136 := fun (h0_ : b 19 = true) => (show Kd.R (Kd.int .i64) 3 w27 w.heap.size (fun k_ => some k_ ≠ (.slice (some ad115) y110.length co23 : Value).ownBlock) v135 y134 from by first | exact (Kd.R_elder' (uR ((Q_HO136 h0_))) (Kd.R_base ho28) hb) | exact Kd.R_mono (Kd.R_elder' (uR ((Q_HO136 h0_))) (Kd.R_base ho28) hb) (fun _ h_ => by first | trivial | exact h_ | exact h_.1))
           have z_HI0_e21 := fun (h0_ : b 21 = true) => (show IsS72 w0 w27 g s0_0 t138 from by first | exact (IsS72.below (oI72 (o1_ (Q_HI0_e21 h0_))) hb))
           clear HO112
           clear BK107
           clear HK
           clear HB
           have HO112 := n0_
           have HO120 := n1_
           have BK107 := n3_
           have HK := n4_
           have HB := n5_
           clear n0_ n1_ n3_ n4_ n5_
           clear hb ho28
           obtain ⟨Ao29, co29, eo29⟩ := Kd.R_slice HO120.out
           subst eo29
           obtain ⟨ado29, fo29, _⟩ := Kd.at_int (Kd.R_reads' HO120.out).2.2 0 oD (by rw [Ny118.out]; simp)
           cases fo29
           refine hK.out _ _ ⟨.slice (some ado29) y118.length co29, ado29, v127, adz_v127, v135, adz_v135, m7_, m15_, m22_, (by rw [ha.out]; exact putSel_upk 1 hb_ rfl rfl rfl), (by (with_reducible repeat (first | apply Kd.R_alloc | apply Kd.R_drewN | apply Kd.R_drew)); exact Kd.R_mono HO112.out oX2), fun _ => BK107.out, fun h0_ => absurd ((hon 3 oK).symm.trans h0_) oD, (oE HK), (oB HB), z_HI0_e3, fun _ => (by (with_reducible repeat (first | apply Kd.R_alloc | apply Kd.R_drewN | apply Kd.R_drew)); exact Kd.R_mono HO120.out oX2), fun _ => ⟨_, rfl⟩, z_HI0_e6, z_HI0_e11, z_HO128, Q_HA_HO128, z_HI0_e14, z_HI0_e18, z_HO136, Q_HA_HO136, z_HI0_e21, oF (hoff 25 oK), oF (hoff 7 oK), Q_X15_, Q_X22_⟩
          refine steps_cons ?_ ?_
          ·rintro b a w' ⟨v119, adz_v119, v127, adz_v127, v135, adz_v135, m7_, m15_, m22_, ha, Q_HO112, Q_BK107, Q_HI0, Q_HK, Q_HB, Q_HI0_e3, Q_HO120, Q_HA_HO120, Q_HI0_e6, Q_HI0_e11, Q_HO128, Q_HA_HO128, Q_HI0_e14, Q_HI0_e18, Q_HO136, Q_HA_HO136, Q_HI0_e21, Q_BK107_e25, Q_X7_, Q_X15_, Q_X22_⟩ hb_ hon hoff
           refine ⟨_, rfl, fun K hK => ?_⟩
           have e16 : a.tmps[16]? = some (.pointer (some ⟨g, 0, none⟩)) := by rw [ha]; exact (putSel_off rfl).trans rfl
           replace ha := Aside0.mk ha
           have HO112 := Aside0.mk Q_HO112
           have BK107 := Aside0.mk (Q_BK107 (hoff 25 oK))
           obtain ⟨HK, HB⟩ := o2_ Q_HK (o1_ Q_HB)
           have HI0 := Aside0.mk (Q_HI0_e3 (hon 3 oK) hb_)
           refine goes_ Try.func56 oK rfl #[.pointer (some ⟨g, 0, none⟩), .int .i64 2] (by rfl) rfl rfl (by first | (simp only [List.map_toArray, List.map_cons, List.map_nil, Act.eval, Array.getD_eq_getD_getElem?, Option.getD_some, e16]; done) | (simp only [List.map_toArray, List.map_cons, List.map_nil, Act.eval, Array.getD_eq_getD_getElem?, Option.getD_some, e16]; rfl)) ?_
           with_reducible refine (spec_l20Rd_pick.calls k g s0_0 t117 2 t121 t122 w0 _ ?side1 ?side2 A7.out).mono ?_
           (case side1 => exact oI72 HI0)
           (case side2 => exact oH HB (IsS72.ge HI0.out))
           rintro e w27 ⟨rfl, hi, hb, hk⟩
           refine ⟨_, rfl, ?_⟩
           have n0_ := Aside0.mk (oJ hk BK107 NB107_0)
           have n1_ := Aside0.mk (Kd.R_mono (Kd.R_keep (IsS72.apart (show IsS72 w0 _ g s0_0 t117 from oI72 HI0) HO112.out oD) hk (fun _ h => h.2)) (fun _ h => h.1))
           have n2_ := Aside0.mk (KeepBut.trans (oE HK) hk (.inl rfl))
           have n3_ := Aside0.mk (hb)
           have n4_ := Aside0.mk (hi)
           have z_HO120 := fun (h0_ : b 4 = true) => (show Kd.R (Kd.int .i64) 3 w27 w.heap.size (fun k_ => some k_ ≠ (.slice (some ad115) y110.length co23 : Value).ownBlock) v119 y118 from by first | exact (Kd.R_mono (Kd.R_keep (IsS72.apart (show IsS72 w0 _ g s0_0 t117 from oI72 HI0) (uR ((Q_HO120 h0_))) oD) hk (fun _ h => h.2)) (fun _ h => h.1)) | exact Kd.R_mono (Kd.R_mono (Kd.R_keep (IsS72.apart (show IsS72 w0 _ g s0_0 t117 from oI72 HI0) (uR ((Q_HO120 h0_))) oD) hk (fun _ h => h.2)) (fun _ h => h.1)) (fun _ h_ => by first | trivial | exact h_ | exact h_.1))
           clear BK107
           clear HO112
           clear HK
           clear HB
           clear HI0
           have BK107 := n0_
           have HO112 := n1_
           have HK := n2_
           have HB := n3_
           have HI0 := n4_
           clear n0_ n1_ n2_ n3_ n4_
           (try clear hb)
           (try clear hb2)
           (try clear hk)
           (try clear hi)
           refine hK.out _ _ ⟨v119, adz_v119, v127, adz_v127, v135, adz_v135, m7_, m15_, m22_, (by rw [ha.out]; exact putSel_upk 2 hb_ rfl rfl rfl), HO112.out, fun _ => BK107.out, fun h0_ => absurd ((hon 3 oK).symm.trans h0_) oD, (oE HK), (oH HB (IsS72.ge HI0.out)), fun _ h1_ => absurd ((up_self b 6).symm.trans h1_) oD, z_HO120, Q_HA_HO120, fun _ _ => (oI72 HI0), fun h0_ _ => absurd ((hoff 11 oK).symm.trans h0_) oD, oF (hoff 12 oK), oF (hoff 12 oK), fun h0_ _ => absurd ((hoff 14 oK).symm.trans h0_) oD, fun h0_ _ => absurd ((hoff 18 oK).symm.trans h0_) oD, oF (hoff 19 oK), oF (hoff 19 oK), oF (hoff 21 oK), oF (hoff 25 oK), oF (hoff 7 oK), oF (hoff 15 oK), oF (hoff 22 oK)⟩
          refine steps_cons ?_ ?_
          ·rintro b a w' ⟨v119, adz_v119, v127, adz_v127, v135, adz_v135, m7_, m15_, m22_, ha, Q_HO112, Q_BK107, Q_HI0, Q_HK, Q_HB, Q_HI0_e3, Q_HO120, Q_HA_HO120, Q_HI0_e6, Q_HI0_e11, Q_HO128, Q_HA_HO128, Q_HI0_e14, Q_HI0_e18, Q_HO136, Q_HA_HO136, Q_HI0_e21, Q_BK107_e25, Q_X7_, Q_X15_, Q_X22_⟩ hb_ hon hoff
           refine ⟨_, rfl, fun K hK => ?_⟩
           have e15 : a.tmps[15]? = some (v119) := by rw [ha]; exact putSel_on (e := (4, 15, v119)) 1 rfl rfl (hon 4 oK) rfl
           have e17 : a.tmps[17]? = some (.int .i64 t121) := by rw [ha]; exact putSel_on (e := (6, 17, .int .i64 t121)) 2 rfl rfl (hon 6 oK) rfl
           replace ha := Aside0.mk ha
           have HO112 := Aside0.mk Q_HO112
           have BK107 := Aside0.mk (Q_BK107 (hoff 25 oK))
           obtain ⟨HK, HB, HO120, HA_HO120⟩ := o2_ Q_HK (o2_ Q_HB (o2_ (Q_HO120 (hon 4 oK)) (o1_ (Q_HA_HO120 (hon 4 oK)))))
           obtain ⟨c_, hv_⟩ := HA_HO120.out
           rw [hv_] at e15
           refine value_ (w1 := w') (v := .pointer (some (adz_v119.add (t121).toNat))) (by rfl) rfl ?_ ?_
           ·go_simp
            (try simp only [i64_w])
            try rfl
           refine hK.out _ _ ⟨v119, adz_v119, v127, adz_v127, v135, adz_v135, (.pointer (some (adz_v119.add (t121).toNat))), m15_, m22_, (by rw [ha.out]; exact putSel_upk 3 hb_ rfl rfl rfl), Q_HO112, Q_BK107, fun h0_ => absurd ((hon 3 oK).symm.trans h0_) oD, Q_HK, Q_HB, fun _ h1_ => absurd ((hon 6 oK).symm.trans h1_) oD, Q_HO120, Q_HA_HO120, Q_HI0_e6, Q_HI0_e11, Q_HO128, Q_HA_HO128, Q_HI0_e14, Q_HI0_e18, Q_HO136, Q_HA_HO136, Q_HI0_e21, oF (hoff 25 oK), fun _ => rfl, Q_X15_, Q_X22_⟩
          refine steps_cons ?_ ?_
          ·rintro b a w' ⟨v119, adz_v119, v127, adz_v127, v135, adz_v135, m7_, m15_, m22_, ha, Q_HO112, Q_BK107, Q_HI0, Q_HK, Q_HB, Q_HI0_e3, Q_HO120, Q_HA_HO120, Q_HI0_e6, Q_HI0_e11, Q_HO128, Q_HA_HO128, Q_HI0_e14, Q_HI0_e18, Q_HO136, Q_HA_HO136, Q_HI0_e21, Q_BK107_e25, Q_X7_, Q_X15_, Q_X22_⟩ hb_ hon hoff
           refine ⟨_, rfl, fun K hK => ?_⟩
           have e18 : a.tmps[18]? = some (m7_) := by rw [ha]; exact putSel_on (e := (7, 18, m7_)) 3 rfl rfl (hon 7 oK) rfl
           rw [Q_X7_ (hon 7 oK)] at e18
           replace ha := Aside0.mk ha
           have HO112 := Aside0.mk Q_HO112
           have BK107 := Aside0.mk (Q_BK107 (hoff 25 oK))
           obtain ⟨HK, HB, HO120, HA_HO120⟩ := o2_ Q_HK (o2_ Q_HB (o2_ (Q_HO120 (hon 4 oK)) (o1_ (Q_HA_HO120 (hon 4 oK)))))
           obtain ⟨c_, hv_⟩ := HA_HO120.out
           have hF_ := HO120.out
           rw [hv_] at hF_
           obtain ⟨ad_, ea_, hx_⟩ := Kd.at_int (Kd.R_reads' hF_).2.2 t121 (of_eq_true pi123) (of_eq_true qi123)
           cases ea_
           refine value_ (w1 := w') (v := .int .i64 (rd y118 t121)) (by rfl) rfl ?_ ?_
           ·go_simp
            (try simp only [i64_w])
            try rfl
           refine hK.out _ _ ⟨v119, adz_v119, v127, adz_v127, v135, adz_v135, m7_, m15_, m22_, (by rw [ha.out]; exact putSel_upk 4 hb_ rfl rfl rfl), Q_HO112, Q_BK107, fun h0_ => absurd ((hon 3 oK).symm.trans h0_) oD, Q_HK, Q_HB, fun _ h1_ => absurd ((hon 6 oK).symm.trans h1_) oD, Q_HO120, Q_HA_HO120, Q_HI0_e6, Q_HI0_e11, Q_HO128, Q_HA_HO128, Q_HI0_e14, Q_HI0_e18, Q_HO136, Q_HA_HO136, Q_HI0_e21, oF (hoff 25 oK), Q_X7_, Q_X15_, Q_X22_⟩
          refine steps_cons ?_ ?_
          ·rintro b a w' ⟨v119, adz_v119, v127, adz_v127, v135, adz_v135, m7_, m15_, m22_, ha, Q_HO112, Q_BK107, Q_HI0, Q_HK, Q_HB, Q_HI0_e3, Q_HO120, Q_HA_HO120, Q_HI0_e6, Q_HI0_e11, Q_HO128, Q_HA_HO128, Q_HI0_e14, Q_HI0_e18, Q_HO136, Q_HA_HO136, Q_HI0_e21, Q_BK107_e25, Q_X7_, Q_X15_, Q_X22_⟩ hb_ hon hoff
           refine ⟨_, rfl, fun K hK => ?_⟩
           have e21 : a.tmps[21]? = some (.pointer (some ⟨g, 0, none⟩)) := by rw [ha]; exact (putSel_off rfl).trans rfl
           replace ha := Aside0.mk ha
           have HO112 := Aside0.mk Q_HO112
           have BK107 := Aside0.mk (Q_BK107 (hoff 25 oK))
           obtain ⟨HK, HB⟩ := o2_ Q_HK (o1_ Q_HB)
           have HI0 := Aside0.mk (Q_HI0_e6 (hon 6 oK) hb_)
           refine goes_ Try.func56 oK rfl #[.pointer (some ⟨g, 0, none⟩), .int .i64 256] (by rfl) rfl rfl (by first | (simp only [List.map_toArray, List.map_cons, List.map_nil, Act.eval, Array.getD_eq_getD_getElem?, Option.getD_some, e21]; done) | (simp only [List.map_toArray, List.map_cons, List.map_nil, Act.eval, Array.getD_eq_getD_getElem?, Option.getD_some, e21]; rfl)) ?_
           with_reducible refine (spec_l20Rd_pick.calls k g s0_0 t122 256 t124 t125 w0 _ ?side1 ?side2 A10.out).mono ?_
           (case side1 => exact oI72 HI0)
           (case side2 => exact oH HB (IsS72.ge HI0.out))
           rintro e w28 ⟨rfl, hi, hb, hk⟩
           refine ⟨_, rfl, ?_⟩
           have n0_ := Aside0.mk (oJ hk BK107 NB107_0)
           have n1_ := Aside0.mk (Kd.R_mono (Kd.R_keep (IsS72.apart (show IsS72 w0 _ g s0_0 t122 from oI72 HI0) HO112.out oD) hk (fun _ h => h.2)) (fun _ h => h.1))
           have n2_ := Aside0.mk (KeepBut.trans (oE HK) hk (.inl rfl))
           have n3_ := Aside0.mk (hb)
           have n4_ := Aside0.mk (hi)
           have z_HO120 := fun (h0_ : b 4 = true) => (show Kd.R (Kd.int .i64) 3 w28 w.heap.size (fun k_ => some k_ ≠ (.slice (some ad115) y110.length co23 : Value).ownBlock) v119 y118 from by first | exact (Kd.R_mono (Kd.R_keep (IsS72.apart (show IsS72 w0 _ g s0_0 t122 from oI72 HI0) (uR ((Q_HO120 h0_))) oD) hk (fun _ h => h.2)) (fun _ h => h.1)) | exact Kd.R_mono (Kd.R_mono (Kd.R_keep (IsS72.apart (show IsS72 w0 _ g s0_0 t122 from oI72 HI0) (uR ((Q_HO120 h0_))) oD) hk (fun _ h => h.2)) (fun _ h => h.1)) (fun _ h_ => by first | trivial | exact h_ | exact h_.1))
           clear BK107
           clear HO112
           clear HK
           clear HB
           clear HI0
           have BK107 := n0_
           have HO112 := n1_
           have HK := n2_
           have HB := n3_
           have HI0 := n4_
           clear n0_ n1_ n2_ n3_ n4_
           (try clear hb)
           (try clear hb2)
           (try clear hk)
           (try clear hi)
           refine hK.out _ _ ⟨v119, adz_v119, v127, adz_v127, v135, adz_v135, m7_, m15_, m22_, (by rw [ha.out]; exact putSel_upk 5 hb_ rfl rfl rfl), HO112.out, fun _ => BK107.out, fun h0_ => absurd ((hon 3 oK).symm.trans h0_) oD, (oE HK), (oH HB (IsS72.ge HI0.out)), fun _ h1_ => absurd ((hon 6 oK).symm.trans h1_) oD, z_HO120, Q_HA_HO120, fun _ h1_ => absurd ((up_self b 11).symm.trans h1_) oD, fun _ _ => (oI72 HI0), oF (hoff 12 oK), oF (hoff 12 oK), fun h0_ _ => absurd ((hoff 14 oK).symm.trans h0_) oD, fun h0_ _ => absurd ((hoff 18 oK).symm.trans h0_) oD, oF (hoff 19 oK), oF (hoff 19 oK), oF (hoff 21 oK), oF (hoff 25 oK), Q_X7_, oF (hoff 15 oK), oF (hoff 22 oK)⟩
          refine steps_cons ?_ ?_
          ·rintro b a w' ⟨v119, adz_v119, v127, adz_v127, v135, adz_v135, m7_, m15_, m22_, ha, Q_HO112, Q_BK107, Q_HI0, Q_HK, Q_HB, Q_HI0_e3, Q_HO120, Q_HA_HO120, Q_HI0_e6, Q_HI0_e11, Q_HO128, Q_HA_HO128, Q_HI0_e14, Q_HI0_e18, Q_HO136, Q_HA_HO136, Q_HI0_e21, Q_BK107_e25, Q_X7_, Q_X15_, Q_X22_⟩ hb_ hon hoff
           refine ⟨_, rfl, fun K hK => ?_⟩
           have e20 : a.tmps[20]? = some (.int .i64 (rd y110 t113)) := by rw [ha]; exact (putSel_off rfl).trans rfl
           have e22 : a.tmps[22]? = some (.int .i64 t124) := by rw [ha]; exact putSel_on (e := (11, 22, .int .i64 t124)) 5 rfl rfl (hon 11 oK) rfl
           replace ha := Aside0.mk ha
           have HO112 := Aside0.mk Q_HO112
           have BK107 := Aside0.mk (Q_BK107 (hoff 25 oK))
           obtain ⟨HK, HB⟩ := o2_ Q_HK (o1_ Q_HB)
           refine Kd.R_lit_step (Kd.int .i64) _ 3 ?hg (N := 23) ?hd (xs := ([rd y110 t113, t124] : List Int)) (inner := [.int .i64 (rd y110 t113), .int .i64 t124]) (ok := fun _ => True) (okp := fun _ => True) ?hr ?hp (fun _ hk => hk) trivial (Below.refl _ _) (Nat.le_refl _) (by simp) ?_; (case hd => rfl); (case hg => rfl); (case hr => first | (go_simp; done) | (go_simp; rfl)); (case hp => exact (Reps.one (show Kd.M (Kd.int .i64) _ _ _ (rd y110 t113) [.int .i64 (rd y110 t113)] from rfl) (Reps.one (show Kd.M (Kd.int .i64) _ _ _ t124 [.int .i64 t124] from rfl) (Reps.none _ _))))
           intro v127 w29 ho30 hb hg_ hnew_
           clear hg_ hnew_
           (first | rw [← Ny126.out] at ho30 | (simp only [Int.reduceToNat] at ho30; rw [← Ny126.out] at ho30))
           have n0_ := Aside0.mk (Kd.R_elder' HO112.out (Kd.R_base ho30) hb)
           have n1_ := Aside0.mk (Kd.R_lower (Kd.R_new' ho30 (Kd.R_lt HO112.out)) (keep_size (w := w) (g := g) (row := none) (oE HK)))
           have n3_ := Aside0.mk (blk_below BK107.out hb)
           have n4_ := Aside0.mk (KeepBut.trans (oE HK) (KeepBut.of_below hb g none) (.inl rfl))
           have n5_ := Aside0.mk (below_step (oB HB) hb)
           have z_HO120 := fun (h0_ : b 4 = true) => (show Kd.R (Kd.int .i64) 3 w29 w.heap.size (fun k_ => some k_ ≠ (.slice (some ad115) y110.length co23 : Value).ownBlock) v119 y118 from by first | exact (Kd.R_elder' (uR ((Q_HO120 h0_))) (Kd.R_base ho30) hb) | exact Kd.R_mono (Kd.R_elder' (uR ((Q_HO120 h0_))) (Kd.R_base ho30) hb) (fun _ h_ => by first | trivial | exact h_ | exact h_.1))
           have z_HI0_e11 := fun (h0_ : b 11 = true) (h1_ : b 14 = false) => (show IsS72 w0 w29 g s0_0 t125 from by first | exact (IsS72.below (oI72 (o1_ (Q_HI0_e11 h0_ h1_))) hb))
           have z_HI0_e14 := fun (h0_ : b 14 = true) (h1_ : b 18 = false) => (show IsS72 w0 w29 g s0_0 t130 from by first | exact (IsS72.below (oI72 (o1_ (Q_HI0_e14 h0_ h1_))) hb))
           have z_HI0_e18 := fun (h0_ : b 18 = true) (h1_ : b 21 = false) => (show IsS72 w0 w29 g s0_0 t133 from by first | exact (IsS72.below (oI72 (o1_ (Q_HI0_e18 h0_ h1_))) hb))
           have z_HO136 := fun (h0_ : b 19 = true) => (show Kd.R (Kd.int .i64) 3 w29 w.heap.size (fun k_ => some k_ ≠ (.slice (some ad115) y110.length co23 : Value).ownBlock) v135 y134 from by first | exact (Kd.R_elder' (uR ((Q_HO136 h0_))) (Kd.R_base ho30) hb) | exact Kd.R_mono (Kd.R_elder' (uR ((Q_HO136 h0_))) (Kd.R_base ho30) hb) (fun _ h_ => by first | trivial | exact h_ | exact h_.1))
           have z_HI0_e21 := fun (h0_ : b 21 = true) => (show IsS72 w0 w29 g s0_0 t138 from by first | exact (IsS72.below (oI72 (o1_ (Q_HI0_e21 h0_))) hb))
           clear HO112
           clear BK107
           clear HK
           clear HB
           have HO112 := n0_
           have HO128 := n1_
           have BK107 := n3_
           have HK := n4_
           have HB := n5_
           clear n0_ n1_ n3_ n4_ n5_
           clear hb ho30
           obtain ⟨Ao31, co31, eo31⟩ := Kd.R_slice HO128.out
           subst eo31
           obtain ⟨ado31, fo31, _⟩ := Kd.at_int (Kd.R_reads' HO128.out).2.2 0 oD (by rw [Ny126.out]; simp)
           cases fo31
           refine hK.out _ _ ⟨v119, adz_v119, .slice (some ado31) y126.length co31, ado31, v135, adz_v135, m7_, m15_, m22_, (by rw [ha.out]; exact putSel_upk 6 hb_ rfl rfl rfl), (by (with_reducible repeat (first | apply Kd.R_alloc | apply Kd.R_drewN | apply Kd.R_drew)); exact Kd.R_mono HO112.out oX2), fun _ => BK107.out, fun h0_ => absurd ((hon 3 oK).symm.trans h0_) oD, (oE HK), (oB HB), fun _ h1_ => absurd ((hon 6 oK).symm.trans h1_) oD, z_HO120, Q_HA_HO120, fun _ h1_ => absurd ((hon 11 oK).symm.trans h1_) oD, z_HI0_e11, fun _ => (by (with_reducible repeat (first | apply Kd.R_alloc | apply Kd.R_drewN | apply Kd.R_drew)); exact Kd.R_mono HO128.out oX2), fun _ => ⟨_, rfl⟩, z_HI0_e14, z_HI0_e18, z_HO136, Q_HA_HO136, z_HI0_e21, oF (hoff 25 oK), Q_X7_, oF (hoff 15 oK), Q_X22_⟩
          refine steps_cons ?_ ?_
          ·rintro b a w' ⟨v119, adz_v119, v127, adz_v127, v135, adz_v135, m7_, m15_, m22_, ha, Q_HO112, Q_BK107, Q_HI0, Q_HK, Q_HB, Q_HI0_e3, Q_HO120, Q_HA_HO120, Q_HI0_e6, Q_HI0_e11, Q_HO128, Q_HA_HO128, Q_HI0_e14, Q_HI0_e18, Q_HO136, Q_HA_HO136, Q_HI0_e21, Q_BK107_e25, Q_X7_, Q_X15_, Q_X22_⟩ hb_ hon hoff
           refine ⟨_, rfl, fun K hK => ?_⟩
           have e24 : a.tmps[24]? = some (.pointer (some ⟨g, 0, none⟩)) := by rw [ha]; exact (putSel_off rfl).trans rfl
           replace ha := Aside0.mk ha
           have HO112 := Aside0.mk Q_HO112
           have BK107 := Aside0.mk (Q_BK107 (hoff 25 oK))
           obtain ⟨HK, HB⟩ := o2_ Q_HK (o1_ Q_HB)
           have HI0 := Aside0.mk (Q_HI0_e11 (hon 11 oK) hb_)
           refine goes_ Try.func56 oK rfl #[.pointer (some ⟨g, 0, none⟩), .int .i64 2] (by rfl) rfl rfl (by first | (simp only [List.map_toArray, List.map_cons, List.map_nil, Act.eval, Array.getD_eq_getD_getElem?, Option.getD_some, e24]; done) | (simp only [List.map_toArray, List.map_cons, List.map_nil, Act.eval, Array.getD_eq_getD_getElem?, Option.getD_some, e24]; rfl)) ?_
           with_reducible refine (spec_l20Rd_pick.calls k g s0_0 t125 2 t129 t130 w0 _ ?side1 ?side2 A11.out).mono ?_
           (case side1 => exact oI72 HI0)
           (case side2 => exact oH HB (IsS72.ge HI0.out))
           rintro e w29 ⟨rfl, hi, hb, hk⟩
           refine ⟨_, rfl, ?_⟩
           have n0_ := Aside0.mk (oJ hk BK107 NB107_0)
           have n1_ := Aside0.mk (Kd.R_mono (Kd.R_keep (IsS72.apart (show IsS72 w0 _ g s0_0 t125 from oI72 HI0) HO112.out oD) hk (fun _ h => h.2)) (fun _ h => h.1))
           have n2_ := Aside0.mk (KeepBut.trans (oE HK) hk (.inl rfl))
           have n3_ := Aside0.mk (hb)
           have n4_ := Aside0.mk (hi)
           have z_HO120 := fun (h0_ : b 4 = true) => (show Kd.R (Kd.int .i64) 3 w29 w.heap.size (fun k_ => some k_ ≠ (.slice (some ad115) y110.length co23 : Value).ownBlock) v119 y118 from by first | exact (Kd.R_mono (Kd.R_keep (IsS72.apart (show IsS72 w0 _ g s0_0 t125 from oI72 HI0) (uR ((Q_HO120 h0_))) oD) hk (fun _ h => h.2)) (fun _ h => h.1)) | exact Kd.R_mono (Kd.R_mono (Kd.R_keep (IsS72.apart (show IsS72 w0 _ g s0_0 t125 from oI72 HI0) (uR ((Q_HO120 h0_))) oD) hk (fun _ h => h.2)) (fun _ h => h.1)) (fun _ h_ => by first | trivial | exact h_ | exact h_.1))
           have z_HO128 := fun (h0_ : b 12 = true) => (show Kd.R (Kd.int .i64) 3 w29 w.heap.size (fun k_ => some k_ ≠ (.slice (some ad115) y110.length co23 : Value).ownBlock) v127 y126 from by first | exact (Kd.R_mono (Kd.R_keep (IsS72.apart (show IsS72 w0 _ g s0_0 t125 from oI72 HI0) (uR ((Q_HO128 h0_))) oD) hk (fun _ h => h.2)) (fun _ h => h.1)) | exact Kd.R_mono (Kd.R_mono (Kd.R_keep (IsS72.apart (show IsS72 w0 _ g s0_0 t125 from oI72 HI0) (uR ((Q_HO128 h0_))) oD) hk (fun _ h => h.2)) (fun _ h => h.1)) (fun _ h_ => by first | trivial | exact h_ | exact h_.1))
           clear BK107
           clear HO112
           clear HK
           clear HB
           clear HI0
           have BK107 := n0_
           have HO112 := n1_
           have HK := n2_
           have HB := n3_
           have HI0 := n4_
           clear n0_ n1_ n2_ n3_ n4_
           (try clear hb)
           (try clear hb2)
           (try clear hk)
           (try clear hi)
           refine hK.out _ _ ⟨v119, adz_v119, v127, adz_v127, v135, adz_v135, m7_, m15_, m22_, (by rw [ha.out]; exact putSel_upk 7 hb_ rfl rfl rfl), HO112.out, fun _ => BK107.out, fun h0_ => absurd ((hon 3 oK).symm.trans h0_) oD, (oE HK), (oH HB (IsS72.ge HI0.out)), fun _ h1_ => absurd ((hon 6 oK).symm.trans h1_) oD, z_HO120, Q_HA_HO120, fun _ h1_ => absurd ((hon 11 oK).symm.trans h1_) oD, fun _ h1_ => absurd ((up_self b 14).symm.trans h1_) oD, z_HO128, Q_HA_HO128, fun _ _ => (oI72 HI0), fun h0_ _ => absurd ((hoff 18 oK).symm.trans h0_) oD, oF (hoff 19 oK), oF (hoff 19 oK), oF (hoff 21 oK), oF (hoff 25 oK), Q_X7_, oF (hoff 15 oK), oF (hoff 22 oK)⟩
          refine steps_cons ?_ ?_
          ·rintro b a w' ⟨v119, adz_v119, v127, adz_v127, v135, adz_v135, m7_, m15_, m22_, ha, Q_HO112, Q_BK107, Q_HI0, Q_HK, Q_HB, Q_HI0_e3, Q_HO120, Q_HA_HO120, Q_HI0_e6, Q_HI0_e11, Q_HO128, Q_HA_HO128, Q_HI0_e14, Q_HI0_e18, Q_HO136, Q_HA_HO136, Q_HI0_e21, Q_BK107_e25, Q_X7_, Q_X15_, Q_X22_⟩ hb_ hon hoff
           refine ⟨_, rfl, fun K hK => ?_⟩
           have e23 : a.tmps[23]? = some (v127) := by rw [ha]; exact putSel_on (e := (12, 23, v127)) 6 rfl rfl (hon 12 oK) rfl
           have e25 : a.tmps[25]? = some (.int .i64 t129) := by rw [ha]; exact putSel_on (e := (14, 25, .int .i64 t129)) 7 rfl rfl (hon 14 oK) rfl
           replace ha := Aside0.mk ha
           have HO112 := Aside0.mk Q_HO112
           have BK107 := Aside0.mk (Q_BK107 (hoff 25 oK))
           obtain ⟨HK, HB, HO128, HA_HO128⟩ := o2_ Q_HK (o2_ Q_HB (o2_ (Q_HO128 (hon 12 oK)) (o1_ (Q_HA_HO128 (hon 12 oK)))))
           obtain ⟨c_, hv_⟩ := HA_HO128.out
           rw [hv_] at e23
           refine value_ (w1 := w') (v := .pointer (some (adz_v127.add (t129).toNat))) (by rfl) rfl ?_ ?_
           ·go_simp
            (try simp only [i64_w])
            try rfl
           refine hK.out _ _ ⟨v119, adz_v119, v127, adz_v127, v135, adz_v135, m7_, (.pointer (some (adz_v127.add (t129).toNat))), m22_, (by rw [ha.out]; exact putSel_upk 8 hb_ rfl rfl rfl), Q_HO112, Q_BK107, fun h0_ => absurd ((hon 3 oK).symm.trans h0_) oD, Q_HK, Q_HB, fun _ h1_ => absurd ((hon 6 oK).symm.trans h1_) oD, Q_HO120, Q_HA_HO120, fun _ h1_ => absurd ((hon 11 oK).symm.trans h1_) oD, fun _ h1_ => absurd ((hon 14 oK).symm.trans h1_) oD, Q_HO128, Q_HA_HO128, Q_HI0_e14, Q_HI0_e18, Q_HO136, Q_HA_HO136, Q_HI0_e21, oF (hoff 25 oK), Q_X7_, fun _ => rfl, Q_X22_⟩
          refine steps_cons ?_ ?_
          ·rintro b a w' ⟨v119, adz_v119, v127, adz_v127, v135, adz_v135, m7_, m15_, m22_, ha, Q_HO112, Q_BK107, Q_HI0, Q_HK, Q_HB, Q_HI0_e3, Q_HO120, Q_HA_HO120, Q_HI0_e6, Q_HI0_e11, Q_HO128, Q_HA_HO128, Q_HI0_e14, Q_HI0_e18, Q_HO136, Q_HA_HO136, Q_HI0_e21, Q_BK107_e25, Q_X7_, Q_X15_, Q_X22_⟩ hb_ hon hoff
           refine ⟨_, rfl, fun K hK => ?_⟩
           have e26 : a.tmps[26]? = some (m15_) := by rw [ha]; exact putSel_on (e := (15, 26, m15_)) 8 rfl rfl (hon 15 oK) rfl
           rw [Q_X15_ (hon 15 oK)] at e26
           replace ha := Aside0.mk ha
           have HO112 := Aside0.mk Q_HO112
           have BK107 := Aside0.mk (Q_BK107 (hoff 25 oK))
           obtain ⟨HK, HB, HO128, HA_HO128⟩ := o2_ Q_HK (o2_ Q_HB (o2_ (Q_HO128 (hon 12 oK)) (o1_ (Q_HA_HO128 (hon 12 oK)))))
           obtain ⟨c_, hv_⟩ := HA_HO128.out
           have hF_ := HO128.out
           rw [hv_] at hF_
           obtain ⟨ad_, ea_, hx_⟩ := Kd.at_int (Kd.R_reads' hF_).2.2 t129 (of_eq_true pi131) (of_eq_true qi131)
           cases ea_
           refine value_ (w1 := w') (v := .int .i64 (rd y126 t129)) (by rfl) rfl ?_ ?_
           ·go_simp
            (try simp only [i64_w])
            try rfl
           refine hK.out _ _ ⟨v119, adz_v119, v127, adz_v127, v135, adz_v135, m7_, m15_, m22_, (by rw [ha.out]; exact putSel_upk 9 hb_ rfl rfl rfl), Q_HO112, Q_BK107, fun h0_ => absurd ((hon 3 oK).symm.trans h0_) oD, Q_HK, Q_HB, fun _ h1_ => absurd ((hon 6 oK).symm.trans h1_) oD, Q_HO120, Q_HA_HO120, fun _ h1_ => absurd ((hon 11 oK).symm.trans h1_) oD, fun _ h1_ => absurd ((hon 14 oK).symm.trans h1_) oD, Q_HO128, Q_HA_HO128, Q_HI0_e14, Q_HI0_e18, Q_HO136, Q_HA_HO136, Q_HI0_e21, oF (hoff 25 oK), Q_X7_, Q_X15_, Q_X22_⟩
          refine steps_cons ?_ ?_
          ·rintro b a w' ⟨v119, adz_v119, v127, adz_v127, v135, adz_v135, m7_, m15_, m22_, ha, Q_HO112, Q_BK107, Q_HI0, Q_HK, Q_HB, Q_HI0_e3, Q_HO120, Q_HA_HO120, Q_HI0_e6, Q_HI0_e11, Q_HO128, Q_HA_HO128, Q_HI0_e14, Q_HI0_e18, Q_HO136, Q_HA_HO136, Q_HI0_e21, Q_BK107_e25, Q_X7_, Q_X15_, Q_X22_⟩ hb_ hon hoff
           refine ⟨_, rfl, fun K hK => ?_⟩
           have e28 : a.tmps[28]? = some (.pointer (some ⟨g, 0, none⟩)) := by rw [ha]; exact (putSel_off rfl).trans rfl
           replace ha := Aside0.mk ha
           have HO112 := Aside0.mk Q_HO112
           have BK107 := Aside0.mk (Q_BK107 (hoff 25 oK))
           obtain ⟨HK, HB⟩ := o2_ Q_HK (o1_ Q_HB)
           have HI0 := Aside0.mk (Q_HI0_e14 (hon 14 oK) hb_)
           refine goes_ Try.func56 oK rfl #[.pointer (some ⟨g, 0, none⟩), .int .i64 256] (by rfl) rfl rfl (by first | (simp only [List.map_toArray, List.map_cons, List.map_nil, Act.eval, Array.getD_eq_getD_getElem?, Option.getD_some, e28]; done) | (simp only [List.map_toArray, List.map_cons, List.map_nil, Act.eval, Array.getD_eq_getD_getElem?, Option.getD_some, e28]; rfl)) ?_
           with_reducible refine (spec_l20Rd_pick.calls k g s0_0 t130 256 t132 t133 w0 _ ?side1 ?side2 A14.out).mono ?_
           (case side1 => exact oI72 HI0)
           (case side2 => exact oH HB (IsS72.ge HI0.out))
           rintro e w30 ⟨rfl, hi, hb, hk⟩
           refine ⟨_, rfl, ?_⟩
           have n0_ := Aside0.mk (oJ hk BK107 NB107_0)
           have n1_ := Aside0.mk (Kd.R_mono (Kd.R_keep (IsS72.apart (show IsS72 w0 _ g s0_0 t130 from oI72 HI0) HO112.out oD) hk (fun _ h => h.2)) (fun _ h => h.1))
           have n2_ := Aside0.mk (KeepBut.trans (oE HK) hk (.inl rfl))
           have n3_ := Aside0.mk (hb)
           have n4_ := Aside0.mk (hi)
           have z_HO120 := fun (h0_ : b 4 = true) => (show Kd.R (Kd.int .i64) 3 w30 w.heap.size (fun k_ => some k_ ≠ (.slice (some ad115) y110.length co23 : Value).ownBlock) v119 y118 from by first | exact (Kd.R_mono (Kd.R_keep (IsS72.apart (show IsS72 w0 _ g s0_0 t130 from oI72 HI0) (uR ((Q_HO120 h0_))) oD) hk (fun _ h => h.2)) (fun _ h => h.1)) | exact Kd.R_mono (Kd.R_mono (Kd.R_keep (IsS72.apart (show IsS72 w0 _ g s0_0 t130 from oI72 HI0) (uR ((Q_HO120 h0_))) oD) hk (fun _ h => h.2)) (fun _ h => h.1)) (fun _ h_ => by first | trivial | exact h_ | exact h_.1))
           have z_HO128 := fun (h0_ : b 12 = true) => (show Kd.R (Kd.int .i64) 3 w30 w.heap.size (fun k_ => some k_ ≠ (.slice (some ad115) y110.length co23 : Value).ownBlock) v127 y126 from by first | exact (Kd.R_mono (Kd.R_keep (IsS72.apart (show IsS72 w0 _ g s0_0 t130 from oI72 HI0) (uR ((Q_HO128 h0_))) oD) hk (fun _ h => h.2)) (fun _ h => h.1)) | exact Kd.R_mono (Kd.R_mono (Kd.R_keep (IsS72.apart (show IsS72 w0 _ g s0_0 t130 from oI72 HI0) (uR ((Q_HO128 h0_))) oD) hk (fun _ h => h.2)) (fun _ h => h.1)) (fun _ h_ => by first | trivial | exact h_ | exact h_.1))
           clear BK107
           clear HO112
           clear HK
           clear HB
           clear HI0
           have BK107 := n0_
           have HO112 := n1_
           have HK := n2_
           have HB := n3_
           have HI0 := n4_
           clear n0_ n1_ n2_ n3_ n4_
           (try clear hb)
           (try clear hb2)
           (try clear hk)
           (try clear hi)
           refine hK.out _ _ ⟨v119, adz_v119, v127, adz_v127, v135, adz_v135, m7_, m15_, m22_, (by rw [ha.out]; exact putSel_upk 10 hb_ rfl rfl rfl), HO112.out, fun _ => BK107.out, fun h0_ => absurd ((hon 3 oK).symm.trans h0_) oD, (oE HK), (oH HB (IsS72.ge HI0.out)), fun _ h1_ => absurd ((hon 6 oK).symm.trans h1_) oD, z_HO120, Q_HA_HO120, fun _ h1_ => absurd ((hon 11 oK).symm.trans h1_) oD, fun _ h1_ => absurd ((hon 14 oK).symm.trans h1_) oD, z_HO128, Q_HA_HO128, fun _ h1_ => absurd ((up_self b 18).symm.trans h1_) oD, fun _ _ => (oI72 HI0), oF (hoff 19 oK), oF (hoff 19 oK), oF (hoff 21 oK), oF (hoff 25 oK), Q_X7_, Q_X15_, oF (hoff 22 oK)⟩
          refine steps_cons ?_ ?_
          ·rintro b a w' ⟨v119, adz_v119, v127, adz_v127, v135, adz_v135, m7_, m15_, m22_, ha, Q_HO112, Q_BK107, Q_HI0, Q_HK, Q_HB, Q_HI0_e3, Q_HO120, Q_HA_HO120, Q_HI0_e6, Q_HI0_e11, Q_HO128, Q_HA_HO128, Q_HI0_e14, Q_HI0_e18, Q_HO136, Q_HA_HO136, Q_HI0_e21, Q_BK107_e25, Q_X7_, Q_X15_, Q_X22_⟩ hb_ hon hoff
           refine ⟨_, rfl, fun K hK => ?_⟩
           have e29 : a.tmps[29]? = some (.int .i64 t132) := by rw [ha]; exact putSel_on (e := (18, 29, .int .i64 t132)) 10 rfl rfl (hon 18 oK) rfl
           replace ha := Aside0.mk ha
           have HO112 := Aside0.mk Q_HO112
           have BK107 := Aside0.mk (Q_BK107 (hoff 25 oK))
           obtain ⟨HK, HB⟩ := o2_ Q_HK (o1_ Q_HB)
           refine Kd.R_lit_step (Kd.int .i64) _ 3 ?hg (N := 30) ?hd (xs := ([255, 255, 0, t132] : List Int)) (inner := [.int .i64 255, .int .i64 255, .int .i64 0, .int .i64 t132]) (ok := fun _ => True) (okp := fun _ => True) ?hr ?hp (fun _ hk => hk) trivial (Below.refl _ _) (Nat.le_refl _) (by simp) ?_; (case hd => rfl); (case hg => rfl); (case hr => first | (go_simp; done) | (go_simp; rfl)); (case hp => exact (Reps.one (show Kd.M (Kd.int .i64) _ _ _ 255 [.int .i64 255] from rfl) (Reps.one (show Kd.M (Kd.int .i64) _ _ _ 255 [.int .i64 255] from rfl) (Reps.one (show Kd.M (Kd.int .i64) _ _ _ 0 [.int .i64 0] from rfl) (Reps.one (show Kd.M (Kd.int .i64) _ _ _ t132 [.int .i64 t132] from rfl) (Reps.none _ _))))))
           intro v135 w31 ho32 hb hg_ hnew_
           clear hg_ hnew_
           (first | rw [← Ny134.out] at ho32 | (simp only [Int.reduceToNat] at ho32; rw [← Ny134.out] at ho32))
           have n0_ := Aside0.mk (Kd.R_elder' HO112.out (Kd.R_base ho32) hb)
           have n1_ := Aside0.mk (Kd.R_lower (Kd.R_new' ho32 (Kd.R_lt HO112.out)) (keep_size (w := w) (g := g) (row := none) (oE HK)))
           have n3_ := Aside0.mk (blk_below BK107.out hb)
           have n4_ := Aside0.mk (KeepBut.trans (oE HK) (KeepBut.of_below hb g none) (.inl rfl))
           have n5_ := Aside0.mk (below_step (oB HB) hb)
           have z_HO120 := fun (h0_ : b 4 = true) => (show Kd.R (Kd.int .i64) 3 w31 w.heap.size (fun k_ => some k_ ≠ (.slice (some ad115) y110.length co23 : Value).ownBlock) v119 y118 from by first | exact (Kd.R_elder' (uR ((Q_HO120 h0_))) (Kd.R_base ho32) hb) | exact Kd.R_mono (Kd.R_elder' (uR ((Q_HO120 h0_))) (Kd.R_base ho32) hb) (fun _ h_ => by first | trivial | exact h_ | exact h_.1))
           have z_HO128 := fun (h0_ : b 12 = true) => (show Kd.R (Kd.int .i64) 3 w31 w.heap.size (fun k_ => some k_ ≠ (.slice (some ad115) y110.length co23 : Value).ownBlock) v127 y126 from by first | exact (Kd.R_elder' (uR ((Q_HO128 h0_))) (Kd.R_base ho32) hb) | exact Kd.R_mono (Kd.R_elder' (uR ((Q_HO128 h0_))) (Kd.R_base ho32) hb) (fun _ h_ => by first | trivial | exact h_ | exact h_.1))
           have z_HI0_e18 := fun (h0_ : b 18 = true) (h1_ : b 21 = false) => (show IsS72 w0 w31 g s0_0 t133 from by first | exact (IsS72.below (oI72 (o1_ (Q_HI0_e18 h0_ h1_))) hb))
           have z_HI0_e21 := fun (h0_ : b 21 = true) => (show IsS72 w0 w31 g s0_0 t138 from by first | exact (IsS72.below (oI72 (o1_ (Q_HI0_e21 h0_))) hb))
           clear HO112
           clear BK107
           clear HK
           clear HB
           have HO112 := n0_
           have HO136 := n1_
           have BK107 := n3_
           have HK := n4_
           have HB := n5_
           clear n0_ n1_ n3_ n4_ n5_
           clear hb ho32
           obtain ⟨Ao33, co33, eo33⟩ := Kd.R_slice HO136.out
           subst eo33
           obtain ⟨ado33, fo33, _⟩ := Kd.at_int (Kd.R_reads' HO136.out).2.2 0 oD (by rw [Ny134.out]; simp)
           cases fo33
           refine hK.out _ _ ⟨v119, adz_v119, v127, adz_v127, .slice (some ado33) y134.length co33, ado33, m7_, m15_, m22_, (by rw [ha.out]; exact putSel_upk 11 hb_ rfl rfl rfl), (by (with_reducible repeat (first | apply Kd.R_alloc | apply Kd.R_drewN | apply Kd.R_drew)); exact Kd.R_mono HO112.out oX2), fun _ => BK107.out, fun h0_ => absurd ((hon 3 oK).symm.trans h0_) oD, (oE HK), (oB HB), fun _ h1_ => absurd ((hon 6 oK).symm.trans h1_) oD, z_HO120, Q_HA_HO120, fun _ h1_ => absurd ((hon 11 oK).symm.trans h1_) oD, fun _ h1_ => absurd ((hon 14 oK).symm.trans h1_) oD, z_HO128, Q_HA_HO128, fun _ h1_ => absurd ((hon 18 oK).symm.trans h1_) oD, z_HI0_e18, fun _ => (by (with_reducible repeat (first | apply Kd.R_alloc | apply Kd.R_drewN | apply Kd.R_drew)); exact Kd.R_mono HO136.out oX2), fun _ => ⟨_, rfl⟩, z_HI0_e21, oF (hoff 25 oK), Q_X7_, Q_X15_, oF (hoff 22 oK)⟩
          refine steps_cons ?_ ?_
          ·rintro b a w' ⟨v119, adz_v119, v127, adz_v127, v135, adz_v135, m7_, m15_, m22_, ha, Q_HO112, Q_BK107, Q_HI0, Q_HK, Q_HB, Q_HI0_e3, Q_HO120, Q_HA_HO120, Q_HI0_e6, Q_HI0_e11, Q_HO128, Q_HA_HO128, Q_HI0_e14, Q_HI0_e18, Q_HO136, Q_HA_HO136, Q_HI0_e21, Q_BK107_e25, Q_X7_, Q_X15_, Q_X22_⟩ hb_ hon hoff
           refine ⟨_, rfl, fun K hK => ?_⟩
           have e31 : a.tmps[31]? = some (.pointer (some ⟨g, 0, none⟩)) := by rw [ha]; exact (putSel_off rfl).trans rfl
           replace ha := Aside0.mk ha
           have HO112 := Aside0.mk Q_HO112
           have BK107 := Aside0.mk (Q_BK107 (hoff 25 oK))
           obtain ⟨HK, HB⟩ := o2_ Q_HK (o1_ Q_HB)
           have HI0 := Aside0.mk (Q_HI0_e18 (hon 18 oK) hb_)
           refine goes_ Try.func56 oK rfl #[.pointer (some ⟨g, 0, none⟩), .int .i64 4] (by rfl) rfl rfl (by first | (simp only [List.map_toArray, List.map_cons, List.map_nil, Act.eval, Array.getD_eq_getD_getElem?, Option.getD_some, e31]; done) | (simp only [List.map_toArray, List.map_cons, List.map_nil, Act.eval, Array.getD_eq_getD_getElem?, Option.getD_some, e31]; rfl)) ?_
           with_reducible refine (spec_l20Rd_pick.calls k g s0_0 t133 4 t137 t138 w0 _ ?side1 ?side2 A15.out).mono ?_
           (case side1 => exact oI72 HI0)
           (case side2 => exact oH HB (IsS72.ge HI0.out))
           rintro e w31 ⟨rfl, hi, hb, hk⟩
           refine ⟨_, rfl, ?_⟩
           have n0_ := Aside0.mk (oJ hk BK107 NB107_0)
           have n1_ := Aside0.mk (Kd.R_mono (Kd.R_keep (IsS72.apart (show IsS72 w0 _ g s0_0 t133 from oI72 HI0) HO112.out oD) hk (fun _ h => h.2)) (fun _ h => h.1))
           have n2_ := Aside0.mk (KeepBut.trans (oE HK) hk (.inl rfl))
           have n3_ := Aside0.mk (hb)
           have n4_ := Aside0.mk (hi)
           have z_HO120 := fun (h0_ : b 4 = true) => (show Kd.R (Kd.int .i64) 3 w31 w.heap.size (fun k_ => some k_ ≠ (.slice (some ad115) y110.length co23 : Value).ownBlock) v119 y118 from by first | exact (Kd.R_mono (Kd.R_keep (IsS72.apart (show IsS72 w0 _ g s0_0 t133 from oI72 HI0) (uR ((Q_HO120 h0_))) oD) hk (fun _ h => h.2)) (fun _ h => h.1)) | exact Kd.R_mono (Kd.R_mono (Kd.R_keep (IsS72.apart (show IsS72 w0 _ g s0_0 t133 from oI72 HI0) (uR ((Q_HO120 h0_))) oD) hk (fun _ h => h.2)) (fun _ h => h.1)) (fun _ h_ => by first | trivial | exact h_ | exact h_.1))
           have z_HO128 := fun (h0_ : b 12 = true) => (show Kd.R (Kd.int .i64) 3 w31 w.heap.size (fun k_ => some k_ ≠ (.slice (some ad115) y110.length co23 : Value).ownBlock) v127 y126 from by first | exact (Kd.R_mono (Kd.R_keep (IsS72.apart (show IsS72 w0 _ g s0_0 t133 from oI72 HI0) (uR ((Q_HO128 h0_))) oD) hk (fun _ h => h.2)) (fun _ h => h.1)) | exact Kd.R_mono (Kd.R_mono (Kd.R_keep (IsS72.apart (show IsS72 w0 _ g s0_0 t133 from oI72 HI0) (uR ((Q_HO128 h0_))) oD) hk (fun _ h => h.2)) (fun _ h => h.1)) (fun _ h_ => by first | trivial | exact h_ | exact h_.1))
           have z_HO136 := fun (h0_ : b 19 = true) => (show Kd.R (Kd.int .i64) 3 w31 w.heap.size (fun k_ => some k_ ≠ (.slice (some ad115) y110.length co23 : Value).ownBlock) v135 y134 from by first | exact (Kd.R_mono (Kd.R_keep (IsS72.apart (show IsS72 w0 _ g s0_0 t133 from oI72 HI0) (uR ((Q_HO136 h0_))) oD) hk (fun _ h => h.2)) (fun _ h => h.1)) | exact Kd.R_mono (Kd.R_mono (Kd.R_keep (IsS72.apart (show IsS72 w0 _ g s0_0 t133 from oI72 HI0) (uR ((Q_HO136 h0_))) oD) hk (fun _ h => h.2)) (fun _ h => h.1)) (fun _ h_ => by first | trivial | exact h_ | exact h_.1))
           clear BK107
           clear HO112
           clear HK
           clear HB
           clear HI0
           have BK107 := n0_
           have HO112 := n1_
           have HK := n2_
           have HB := n3_
           have HI0 := n4_
           clear n0_ n1_ n2_ n3_ n4_
           (try clear hb)
           (try clear hb2)
           (try clear hk)
           (try clear hi)
           refine hK.out _ _ ⟨v119, adz_v119, v127, adz_v127, v135, adz_v135, m7_, m15_, m22_, (by rw [ha.out]; exact putSel_upk 12 hb_ rfl rfl rfl), HO112.out, fun _ => BK107.out, fun h0_ => absurd ((hon 3 oK).symm.trans h0_) oD, (oE HK), (oH HB (IsS72.ge HI0.out)), fun _ h1_ => absurd ((hon 6 oK).symm.trans h1_) oD, z_HO120, Q_HA_HO120, fun _ h1_ => absurd ((hon 11 oK).symm.trans h1_) oD, fun _ h1_ => absurd ((hon 14 oK).symm.trans h1_) oD, z_HO128, Q_HA_HO128, fun _ h1_ => absurd ((hon 18 oK).symm.trans h1_) oD, fun _ h1_ => absurd ((up_self b 21).symm.trans h1_) oD, z_HO136, Q_HA_HO136, fun _ => (oI72 HI0), oF (hoff 25 oK), Q_X7_, Q_X15_, oF (hoff 22 oK)⟩
          refine steps_cons ?_ ?_
          ·rintro b a w' ⟨v119, adz_v119, v127, adz_v127, v135, adz_v135, m7_, m15_, m22_, ha, Q_HO112, Q_BK107, Q_HI0, Q_HK, Q_HB, Q_HI0_e3, Q_HO120, Q_HA_HO120, Q_HI0_e6, Q_HI0_e11, Q_HO128, Q_HA_HO128, Q_HI0_e14, Q_HI0_e18, Q_HO136, Q_HA_HO136, Q_HI0_e21, Q_BK107_e25, Q_X7_, Q_X15_, Q_X22_⟩ hb_ hon hoff
           refine ⟨_, rfl, fun K hK => ?_⟩
           have e30 : a.tmps[30]? = some (v135) := by rw [ha]; exact putSel_on (e := (19, 30, v135)) 11 rfl rfl (hon 19 oK) rfl
           have e32 : a.tmps[32]? = some (.int .i64 t137) := by rw [ha]; exact putSel_on (e := (21, 32, .int .i64 t137)) 12 rfl rfl (hon 21 oK) rfl
           replace ha := Aside0.mk ha
           have HO112 := Aside0.mk Q_HO112
           have BK107 := Aside0.mk (Q_BK107 (hoff 25 oK))
           obtain ⟨HK, HB, HO136, HA_HO136, HI0⟩ := o2_ Q_HK (o2_ Q_HB (o2_ (Q_HO136 (hon 19 oK)) (o2_ (Q_HA_HO136 (hon 19 oK)) (o1_ (Q_HI0_e21 (hon 21 oK))))))
           obtain ⟨c_, hv_⟩ := HA_HO136.out
           rw [hv_] at e30
           refine value_ (w1 := w') (v := .pointer (some (adz_v135.add (t137).toNat))) (by rfl) rfl ?_ ?_
           ·go_simp
            (try simp only [i64_w])
            try rfl
           refine hK.out _ _ ⟨v119, adz_v119, v127, adz_v127, v135, adz_v135, m7_, m15_, (.pointer (some (adz_v135.add (t137).toNat))), (by rw [ha.out]; exact putSel_upk 13 hb_ rfl rfl rfl), Q_HO112, Q_BK107, fun h0_ => absurd ((hon 3 oK).symm.trans h0_) oD, Q_HK, Q_HB, fun _ h1_ => absurd ((hon 6 oK).symm.trans h1_) oD, Q_HO120, Q_HA_HO120, fun _ h1_ => absurd ((hon 11 oK).symm.trans h1_) oD, fun _ h1_ => absurd ((hon 14 oK).symm.trans h1_) oD, Q_HO128, Q_HA_HO128, fun _ h1_ => absurd ((hon 18 oK).symm.trans h1_) oD, fun _ h1_ => absurd ((hon 21 oK).symm.trans h1_) oD, Q_HO136, Q_HA_HO136, Q_HI0_e21, oF (hoff 25 oK), Q_X7_, Q_X15_, fun _ => rfl⟩
          refine steps_cons ?_ ?_
          ·rintro b a w' ⟨v119, adz_v119, v127, adz_v127, v135, adz_v135, m7_, m15_, m22_, ha, Q_HO112, Q_BK107, Q_HI0, Q_HK, Q_HB, Q_HI0_e3, Q_HO120, Q_HA_HO120, Q_HI0_e6, Q_HI0_e11, Q_HO128, Q_HA_HO128, Q_HI0_e14, Q_HI0_e18, Q_HO136, Q_HA_HO136, Q_HI0_e21, Q_BK107_e25, Q_X7_, Q_X15_, Q_X22_⟩ hb_ hon hoff
           refine ⟨_, rfl, fun K hK => ?_⟩
           have e33 : a.tmps[33]? = some (m22_) := by rw [ha]; exact putSel_on (e := (22, 33, m22_)) 13 rfl rfl (hon 22 oK) rfl
           rw [Q_X22_ (hon 22 oK)] at e33
           replace ha := Aside0.mk ha
           have HO112 := Aside0.mk Q_HO112
           have BK107 := Aside0.mk (Q_BK107 (hoff 25 oK))
           obtain ⟨HK, HB, HO136, HA_HO136, HI0⟩ := o2_ Q_HK (o2_ Q_HB (o2_ (Q_HO136 (hon 19 oK)) (o2_ (Q_HA_HO136 (hon 19 oK)) (o1_ (Q_HI0_e21 (hon 21 oK))))))
           obtain ⟨c_, hv_⟩ := HA_HO136.out
           have hF_ := HO136.out
           rw [hv_] at hF_
           obtain ⟨ad_, ea_, hx_⟩ := Kd.at_int (Kd.R_reads' hF_).2.2 t137 (of_eq_true pi139) (of_eq_true qi139)
           cases ea_
           refine value_ (w1 := w') (v := .int .i64 (rd y134 t137)) (by rfl) rfl ?_ ?_
           ·go_simp
            (try simp only [i64_w])
            try rfl
           refine hK.out _ _ ⟨v119, adz_v119, v127, adz_v127, v135, adz_v135, m7_, m15_, m22_, (by rw [ha.out]; exact putSel_upk 14 hb_ rfl rfl rfl), Q_HO112, Q_BK107, fun h0_ => absurd ((hon 3 oK).symm.trans h0_) oD, Q_HK, Q_HB, fun _ h1_ => absurd ((hon 6 oK).symm.trans h1_) oD, Q_HO120, Q_HA_HO120, fun _ h1_ => absurd ((hon 11 oK).symm.trans h1_) oD, fun _ h1_ => absurd ((hon 14 oK).symm.trans h1_) oD, Q_HO128, Q_HA_HO128, fun _ h1_ => absurd ((hon 18 oK).symm.trans h1_) oD, fun _ h1_ => absurd ((hon 21 oK).symm.trans h1_) oD, Q_HO136, Q_HA_HO136, Q_HI0_e21, oF (hoff 25 oK), Q_X7_, Q_X15_, Q_X22_⟩
          refine steps_cons ?_ ?_
          ·rintro b a w' ⟨v119, adz_v119, v127, adz_v127, v135, adz_v135, m7_, m15_, m22_, ha, Q_HO112, Q_BK107, Q_HI0, Q_HK, Q_HB, Q_HI0_e3, Q_HO120, Q_HA_HO120, Q_HI0_e6, Q_HI0_e11, Q_HO128, Q_HA_HO128, Q_HI0_e14, Q_HI0_e18, Q_HO136, Q_HA_HO136, Q_HI0_e21, Q_BK107_e25, Q_X7_, Q_X15_, Q_X22_⟩ hb_ hon hoff
           refine ⟨_, rfl, fun K hK => ?_⟩
           have e11 : a.tmps[11]? = some (.int .i64 (rd y110 t113)) := by rw [ha]; exact (putSel_off rfl).trans rfl
           have e19 : a.tmps[19]? = some (.int .i64 (rd y118 t121)) := by rw [ha]; exact putSel_on (e := (8, 19, .int .i64 (rd y118 t121))) 4 rfl rfl (hon 8 oK) rfl
           have e27 : a.tmps[27]? = some (.int .i64 (rd y126 t129)) := by rw [ha]; exact putSel_on (e := (16, 27, .int .i64 (rd y126 t129))) 9 rfl rfl (hon 16 oK) rfl
           have e34 : a.tmps[34]? = some (.int .i64 (rd y134 t137)) := by rw [ha]; exact putSel_on (e := (23, 34, .int .i64 (rd y134 t137))) 14 rfl rfl (hon 23 oK) rfl
           replace ha := Aside0.mk ha
           have HO112 := Aside0.mk Q_HO112
           have BK107 := Aside0.mk (Q_BK107 (hoff 25 oK))
           obtain ⟨HK, HB, HO120, HA_HO120, HO128, HA_HO128, HO136, HA_HO136, HI0⟩ := o2_ Q_HK (o2_ Q_HB (o2_ (Q_HO120 (hon 4 oK)) (o2_ (Q_HA_HO120 (hon 4 oK)) (o2_ (Q_HO128 (hon 12 oK)) (o2_ (Q_HA_HO128 (hon 12 oK)) (o2_ (Q_HO136 (hon 19 oK)) (o2_ (Q_HA_HO136 (hon 19 oK)) (o1_ (Q_HI0_e21 (hon 21 oK))))))))))
           refine value_ (w1 := w') (v := .agg #[.int .i64 (rd y110 t113), .int .i64 (rd y118 t121), .int .i64 (rd y126 t129), .int .i64 (rd y134 t137)]) (by rfl) rfl ?_ ?_
           ·go_simp
            (try simp only [i64_w])
            try rfl
           refine hK.out _ _ ⟨v119, adz_v119, v127, adz_v127, v135, adz_v135, m7_, m15_, m22_, (by rw [ha.out]; exact putSel_upk 15 hb_ rfl rfl rfl), Q_HO112, Q_BK107, fun h0_ => absurd ((hon 3 oK).symm.trans h0_) oD, Q_HK, Q_HB, fun _ h1_ => absurd ((hon 6 oK).symm.trans h1_) oD, Q_HO120, Q_HA_HO120, fun _ h1_ => absurd ((hon 11 oK).symm.trans h1_) oD, fun _ h1_ => absurd ((hon 14 oK).symm.trans h1_) oD, Q_HO128, Q_HA_HO128, fun _ h1_ => absurd ((hon 18 oK).symm.trans h1_) oD, fun _ h1_ => absurd ((hon 21 oK).symm.trans h1_) oD, Q_HO136, Q_HA_HO136, Q_HI0_e21, oF (hoff 25 oK), Q_X7_, Q_X15_, Q_X22_⟩
          refine steps_cons ?_ ?_
          ·rintro b a w' ⟨v119, adz_v119, v127, adz_v127, v135, adz_v135, m7_, m15_, m22_, ha, Q_HO112, Q_BK107, Q_HI0, Q_HK, Q_HB, Q_HI0_e3, Q_HO120, Q_HA_HO120, Q_HI0_e6, Q_HI0_e11, Q_HO128, Q_HA_HO128, Q_HI0_e14, Q_HI0_e18, Q_HO136, Q_HA_HO136, Q_HI0_e21, Q_BK107_e25, Q_X7_, Q_X15_, Q_X22_⟩ hb_ hon hoff
           refine ⟨_, rfl, fun K hK => ?_⟩
           have e2 : a.tmps[2]? = some (.pointer (some ⟨gb107, 0, none⟩)) := by rw [ha]; exact (putSel_off rfl).trans rfl
           have e35 : a.tmps[35]? = some (.agg #[.int .i64 (rd y110 t113), .int .i64 (rd y118 t121), .int .i64 (rd y126 t129), .int .i64 (rd y134 t137)]) := by rw [ha]; exact putSel_on (e := (24, 35, .agg #[.int .i64 (rd y110 t113), .int .i64 (rd y118 t121), .int .i64 (rd y126 t129), .int .i64 (rd y134 t137)])) 15 rfl rfl (hon 24 oK) rfl
           replace ha := Aside0.mk ha
           have HO112 := Aside0.mk Q_HO112
           have BK107 := Aside0.mk (Q_BK107 hb_)
           obtain ⟨HK, HB, HO120, HA_HO120, HO128, HA_HO128, HO136, HA_HO136, HI0⟩ := o2_ Q_HK (o2_ Q_HB (o2_ (Q_HO120 (hon 4 oK)) (o2_ (Q_HA_HO120 (hon 4 oK)) (o2_ (Q_HO128 (hon 12 oK)) (o2_ (Q_HA_HO128 (hon 12 oK)) (o2_ (Q_HO136 (hon 19 oK)) (o2_ (Q_HA_HO136 (hon 19 oK)) (o1_ (Q_HI0_e21 (hon 21 oK))))))))))
           obtain ⟨co41, eo41⟩ := HA_HO120.out
           clear HA_HO120
           subst eo41
           obtain ⟨co42, eo42⟩ := HA_HO128.out
           clear HA_HO128
           subst eo42
           obtain ⟨co43, eo43⟩ := HA_HO136.out
           clear HA_HO136
           subst eo43
           have hs44 : w'.cell? ⟨gb107, 0, none⟩ = some (.int .i64 0) := (blk_cell BK107.out 0).trans rfl
           have hfs44 := blk_frozen BK107.out 0
           have hs45 : w'.cell? ⟨gb107, 1, none⟩ = some (.int .i64 0) := (blk_cell BK107.out 1).trans rfl
           have hfs45 := blk_frozen BK107.out 1
           have hs46 : w'.cell? ⟨gb107, 2, none⟩ = some (.int .i64 0) := (blk_cell BK107.out 2).trans rfl
           have hfs46 := blk_frozen BK107.out 2
           have hs47 : w'.cell? ⟨gb107, 3, none⟩ = some (.int .i64 0) := (blk_cell BK107.out 3).trans rfl
           have hfs47 := blk_frozen BK107.out 3
           refine skip_ (w1 := ?_) (by rfl) rfl ?_ ?_
           rotate_left
           ·go_simp
            rfl
           refine hK.out _ _ ⟨.slice (some adz_v119) y118.length co41, adz_v119, .slice (some adz_v127) y126.length co42, adz_v127, .slice (some adz_v135) y134.length co43, adz_v135, m7_, m15_, m22_, (by rw [ha.out]; exact putSel_none (v := undef) rfl), (by (with_reducible repeat (first | apply Kd.R_alloc | apply Kd.R_drewN | apply Kd.R_drew)); exact Kd.R_mono (Kd.R_far (p := ⟨gb107, 3, none⟩) (Kd.R_far (p := ⟨gb107, 2, none⟩) (Kd.R_far (p := ⟨gb107, 1, none⟩) (Kd.R_far (p := ⟨gb107, 0, none⟩) (Kd.R_types HO112.out BK107.out oD) oX2 (.int .i64 (rd y110 t113))) oX2 (.int .i64 (rd y118 t121))) oX2 (.int .i64 (rd y126 t129))) oX2 (.int .i64 (rd y134 t137))) (fun _ hk => by first | exact ⟨hk.1.1, ⟨hk.1.2.1, hk.1.2.2⟩⟩ | exact trivial | (revert hk; simp; done) | (simp_all; done))), fun h0_ => absurd ((up_self b 25).symm.trans h0_) oD, fun h0_ => absurd ((hon 3 oK).symm.trans h0_) oD, (oE HK), (oH HB (IsS72.ge HI0.out)), fun _ h1_ => absurd ((hon 6 oK).symm.trans h1_) oD, fun _ => (by (with_reducible repeat (first | apply Kd.R_alloc | apply Kd.R_drewN | apply Kd.R_drew)); exact Kd.R_mono (Kd.R_far (p := ⟨gb107, 3, none⟩) (Kd.R_far (p := ⟨gb107, 2, none⟩) (Kd.R_far (p := ⟨gb107, 1, none⟩) (Kd.R_far (p := ⟨gb107, 0, none⟩) (Kd.R_types HO120.out BK107.out oD) oX2 (.int .i64 (rd y110 t113))) oX2 (.int .i64 (rd y118 t121))) oX2 (.int .i64 (rd y126 t129))) oX2 (.int .i64 (rd y134 t137))) (fun _ hk => by first | exact ⟨hk.1.1, ⟨hk.1.2.1, hk.1.2.2⟩⟩ | exact trivial | (revert hk; simp; done) | (simp_all; done))), fun _ => ⟨_, rfl⟩, fun _ h1_ => absurd ((hon 11 oK).symm.trans h1_) oD, fun _ h1_ => absurd ((hon 14 oK).symm.trans h1_) oD, fun _ => (by (with_reducible repeat (first | apply Kd.R_alloc | apply Kd.R_drewN | apply Kd.R_drew)); exact Kd.R_mono (Kd.R_far (p := ⟨gb107, 3, none⟩) (Kd.R_far (p := ⟨gb107, 2, none⟩) (Kd.R_far (p := ⟨gb107, 1, none⟩) (Kd.R_far (p := ⟨gb107, 0, none⟩) (Kd.R_types HO128.out BK107.out oD) oX2 (.int .i64 (rd y110 t113))) oX2 (.int .i64 (rd y118 t121))) oX2 (.int .i64 (rd y126 t129))) oX2 (.int .i64 (rd y134 t137))) (fun _ hk => by first | exact ⟨hk.1.1, ⟨hk.1.2.1, hk.1.2.2⟩⟩ | exact trivial | (revert hk; simp; done) | (simp_all; done))), fun _ => ⟨_, rfl⟩, fun _ h1_ => absurd ((hon 18 oK).symm.trans h1_) oD, fun _ h1_ => absurd ((hon 21 oK).symm.trans h1_) oD, fun _ => (by (with_reducible repeat (first | apply Kd.R_alloc | apply Kd.R_drewN | apply Kd.R_drew)); exact Kd.R_mono (Kd.R_far (p := ⟨gb107, 3, none⟩) (Kd.R_far (p := ⟨gb107, 2, none⟩) (Kd.R_far (p := ⟨gb107, 1, none⟩) (Kd.R_far (p := ⟨gb107, 0, none⟩) (Kd.R_types HO136.out BK107.out oD) oX2 (.int .i64 (rd y110 t113))) oX2 (.int .i64 (rd y118 t121))) oX2 (.int .i64 (rd y126 t129))) oX2 (.int .i64 (rd y134 t137))) (fun _ hk => by first | exact ⟨hk.1.1, ⟨hk.1.2.1, hk.1.2.2⟩⟩ | exact trivial | (revert hk; simp; done) | (simp_all; done))), fun _ => ⟨_, rfl⟩, fun _ => (oI72 HI0), fun _ => (blk_put (blk_put (blk_put (blk_put BK107.out 0 _ rfl) 1 _ rfl) 2 _ rfl) 3 _ rfl), Q_X7_, Q_X15_, Q_X22_⟩
          exact steps_nil
         rintro b a w44 hall ⟨v119, adz_v119, v127, adz_v127, v135, adz_v135, m7_, m15_, m22_, ha, Q_HO112, Q_BK107, Q_HI0, Q_HK, Q_HB, Q_HI0_e3, Q_HO120, Q_HA_HO120, Q_HI0_e6, Q_HI0_e11, Q_HO128, Q_HA_HO128, Q_HI0_e14, Q_HI0_e18, Q_HO136, Q_HA_HO136, Q_HI0_e21, Q_BK107_e25, Q_X7_, Q_X15_, Q_X22_⟩
         clear BK107 HB HI0 HK HO112
         have hb3_ := hall 3 oK
         have hb4_ := hall 4 oK
         have hb6_ := hall 6 oK
         have hb7_ := hall 7 oK
         have hb8_ := hall 8 oK
         have hb11_ := hall 11 oK
         have hb12_ := hall 12 oK
         have hb14_ := hall 14 oK
         have hb15_ := hall 15 oK
         have hb16_ := hall 16 oK
         have hb18_ := hall 18 oK
         have hb19_ := hall 19 oK
         have hb21_ := hall 21 oK
         have hb22_ := hall 22 oK
         have hb23_ := hall 23 oK
         have hb24_ := hall 24 oK
         have hb25_ := hall 25 oK
         subst ha
         obtain rfl := Q_X7_ hb7_
         obtain rfl := Q_X15_ hb15_
         obtain rfl := Q_X22_ hb22_
         simp only [putSel, hb3_, hb4_, hb6_, hb7_, hb8_, hb11_, hb12_, hb14_, hb15_, hb16_, hb18_, hb19_, hb21_, hb22_, hb23_, hb24_, hb25_, if_true, Act.put, List.setIfInBounds_toArray, List.set_cons_zero, List.set_cons_succ]
         have HO112 := Aside0.mk Q_HO112
         clear Q_HO112
         clear Q_BK107
         clear Q_HI0
         have HK := Aside0.mk Q_HK
         clear Q_HK
         have HB := Aside0.mk Q_HB
         clear Q_HB
         clear Q_HI0_e3
         have HO120 := Aside0.mk (Q_HO120 hb4_)
         clear Q_HO120
         have HA_HO120 := Aside0.mk (Q_HA_HO120 hb4_)
         clear Q_HA_HO120
         clear Q_HI0_e6
         clear Q_HI0_e11
         have HO128 := Aside0.mk (Q_HO128 hb12_)
         clear Q_HO128
         have HA_HO128 := Aside0.mk (Q_HA_HO128 hb12_)
         clear Q_HA_HO128
         clear Q_HI0_e14
         clear Q_HI0_e18
         have HO136 := Aside0.mk (Q_HO136 hb19_)
         clear Q_HO136
         have HA_HO136 := Aside0.mk (Q_HA_HO136 hb19_)
         clear Q_HA_HO136
         have HI0 := Aside0.mk (Q_HI0_e21 hb21_)
         clear Q_HI0_e21
         have BK107 := Aside0.mk (Q_BK107_e25 hb25_)
         clear Q_BK107_e25
         clear hall hb3_ hb4_ hb6_ hb7_ hb8_ hb11_ hb12_ hb14_ hb15_ hb16_ hb18_ hb19_ hb21_ hb22_ hb23_ hb24_ hb25_
         obtain ⟨co45, eo45⟩ := HA_HO120.out
         clear HA_HO120
         subst eo45
         obtain ⟨co46, eo46⟩ := HA_HO128.out
         clear HA_HO128
         subst eo46
         obtain ⟨co47, eo47⟩ := HA_HO136.out
         clear HA_HO136
         subst eo47
         try go_wp2
         refine bodyPost_ret (results_cell_row rfl _ _ gb107 38 #[.int .i64 (rd y110 t113), .int .i64 (rd y118 t121), .int .i64 (rd y126 t129), .int .i64 (rd y134 t137)] (0, 0) _ rfl (oP BK107) Try.underlying38 rfl oK) rfl ?_
         exact ⟨by first | rfl | (simp [errW_none, errW_some] <;> rfl) | (simp [*, errW_none, errW_some] <;> rfl), oI72 HI0, oH HB (IsS72.ge HI0.out), oE HK⟩
        ·rw [if_neg c17] at H
         exact absurd H (by simp)
       ·rw [if_neg c16] at H
        exact absurd H (by simp)
      ·rw [if_neg c13] at H
       exact absurd H (by simp)
     ·rw [if_neg c12] at H
      exact absurd H (by simp)
    ·rw [if_neg c9] at H
     exact absurd H (by simp)
   ·rw [if_neg c8] at H
    exact absurd H (by simp)
  ·rw [if_neg c5] at H
   exact absurd H (by simp)
 ·rw [if_neg c4] at H
  exact absurd H (by simp)

end Go.Proofs.Ythnmeogafklhnaa.X
