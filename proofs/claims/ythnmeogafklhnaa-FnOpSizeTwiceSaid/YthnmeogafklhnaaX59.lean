/- Functions of the given program as plain Lean functions, and for each the proof that the machine's call comes to what its function says. No condition but what each theorem states. Written by a program of this session. -/
import Derived.Test.YthnmeogafklhnaaX0
import Derived.Test.YthnmeogafklhnaaX2
import Derived.Test.YthnmeogafklhnaaX9
import Derived.Test.YthnmeogafklhnaaX15
import Derived.Test.YthnmeogafklhnaaX32
import Derived.Test.YthnmeogafklhnaaX44
import Derived.Test.YthnmeogafklhnaaX45
import Derived.Test.YthnmeogafklhnaaX48
import Derived.Test.YthnmeogafklhnaaX51
namespace Go.Proofs.Ythnmeogafklhnaa.X
open Go.RowKit Go.Proofs.YthnmeogafklhnaaW.PrintWords Go.Proofs.YthnmeogafklhnaaW.PrintLast Go.Proofs.YthnmeogafklhnaaW.PrintMore Go.Proofs.Ythnmeogafklhnaa.Hyb
attribute [local go_sem] max2_int min2_int max_two min_two max_three min_three max_four min_four   -- for this text's walks alone
set_option linter.unusedVariables false
set_option linter.unusedSimpArgs false

attribute [local go_sem high] eqA38
/-! ### laws_FnOpSizeTwice: function 13 -/
def laws_FnOpSizeTwice.j0 : Nat → List Int → List Int → Bool → Option (Bool)
 | 0, _, _, _ => none
 | k + 1, x0, x1, x17 => if x17 = true then (some true) else ((spec_DrawOpDo.f k x0).bind fun bt1059 => ((spec_RasOk.f k bt1059.1 bt1059.2.1 bt1059.2.2.1).bind fun t1071 => (if t1071 = true then ((laws_eaDo.f k bt1059.1 bt1059.2.1 bt1059.2.2.1 (([(⟨7, 1 + ((x1.length : Int) % 6), wrap64 (1 + (Int.tmod (wrap64 ((x1.length : Int) / 7)) 6)), 0, 0⟩ : S27)] : List (S27)))).bind fun bt1078 => ((laws_eaDo.f k bt1059.1 bt1059.2.1 bt1059.2.2.1 (([(⟨7, 1, 1, 0, 0⟩ : S27)] : List (S27)))).bind fun bt1087 => ((laws_eaDo.f k bt1078.1 bt1078.2.1 bt1078.2.2 (([(⟨7, 1 + ((x1.length : Int) % 6), wrap64 (1 + (Int.tmod (wrap64 ((x1.length : Int) / 7)) 6)), 0, 0⟩ : S27)] : List (S27)))).bind fun bt1096 => ((laws_eaRas.f k bt1096.1 bt1096.2.1 bt1096.2.2 bt1078.1 bt1078.2.1 bt1078.2.2).bind fun t1101 => (if t1101 = true then ((impl_RasOk.f k bt1078.1 bt1078.2.1 bt1078.2.2).bind fun t1102 => (if t1102 = true then (if (bt1087.2.2.length : Int) = 1 then (if 0 < (bt1087.2.2.length : Int) then ((impl_RasAt.f k bt1059.1 bt1059.2.1 bt1059.2.2.1 (wrap64 (Int.tdiv bt1059.1 2)) (wrap64 (Int.tdiv bt1059.2.1 2))).bind fun bt1104 => (some (((rd_T38 bt1087.2.2 0).f0) == bt1104.1 && (((rd_T38 bt1087.2.2 0).f1) == bt1104.2.1 && (((rd_T38 bt1087.2.2 0).f2) == bt1104.2.2.1 && (((rd_T38 bt1087.2.2 0).f3) == bt1104.2.2.2)))))) else (none)) else (none)) else (none))) else (none)))))) else ((impl_RasOk.f k bt1059.1 bt1059.2.1 bt1059.2.2.1).bind fun t1072 => (if t1072 = true then (none) else ((laws_eaOk.f).bind fun t1073 => (some t1073)))))))
def laws_FnOpSizeTwice.f (k : Nat) (l0 : List Int) (l1 : List Int) : Option (Bool) := if (l0.length : Int) > 1048576 then (laws_FnOpSizeTwice.j0 k l0 l1 true) else (laws_FnOpSizeTwice.j0 k l0 l1 (decide ((l1.length : Int) > 1048576)))
theorem laws_FnOpSizeTwice.mono_l : ∀ k, (∀ y0 y1 y2, LeO (laws_FnOpSizeTwice.j0 k y0 y1 y2) (laws_FnOpSizeTwice.j0 (k + 1) y0 y1 y2))
 | 0 => (fun _ _ _ r h => nomatch (show none = some r from h))
 | k + 1 => by
  have ih0 := laws_FnOpSizeTwice.mono_l k
  ·intro y0 y1 y2
   unfold laws_FnOpSizeTwice.j0
   repeat' first
   | (with_reducible exact ih0 _ _ _)
   | (with_reducible exact impl_RasAt.mono _ _ _ _ _ _)
   | (with_reducible exact impl_RasOk.mono _ _ _ _)
   | (with_reducible exact laws_eaDo.mono _ _ _ _ _)
   | (with_reducible exact laws_eaRas.mono _ _ _ _ _ _ _)
   | (with_reducible exact spec_DrawOpDo.mono _ _)
   | (with_reducible exact spec_RasOk.mono _ _ _ _)
   | (with_reducible exact LeO.refl _)
   | (with_reducible exact LeO.none _)
   | (with_reducible refine LeO.ite ?_ ?_)
   | (with_reducible refine LeO.bind ?_ (fun _ => ?_))
   | exact ih0 _ _ _
   | exact impl_RasAt.mono _ _ _ _ _ _
   | exact impl_RasOk.mono _ _ _ _
   | exact laws_eaDo.mono _ _ _ _ _
   | exact laws_eaRas.mono _ _ _ _ _ _ _
   | exact spec_DrawOpDo.mono _ _
   | exact spec_RasOk.mono _ _ _ _
   | exact LeO.none _
   | refine LeO.ite ?_ ?_
   | refine LeO.bind ?_ (fun _ => ?_)
theorem laws_FnOpSizeTwice.mono : ∀ a0 a1 k, LeO (laws_FnOpSizeTwice.f k a0 a1) (laws_FnOpSizeTwice.f (k + 1) a0 a1) := by
 intro a0 a1 k
 have ih0 := laws_FnOpSizeTwice.mono_l k
 unfold laws_FnOpSizeTwice.f
 repeat' first
   | (with_reducible exact ih0 _ _ _)
   | (with_reducible exact impl_RasAt.mono _ _ _ _ _ _)
   | (with_reducible exact impl_RasOk.mono _ _ _ _)
   | (with_reducible exact laws_eaDo.mono _ _ _ _ _)
   | (with_reducible exact laws_eaRas.mono _ _ _ _ _ _ _)
   | (with_reducible exact spec_DrawOpDo.mono _ _)
   | (with_reducible exact spec_RasOk.mono _ _ _ _)
   | (with_reducible exact LeO.refl _)
   | (with_reducible exact LeO.none _)
   | (with_reducible refine LeO.ite ?_ ?_)
   | (with_reducible refine LeO.bind ?_ (fun _ => ?_))
   | exact ih0 _ _ _
   | exact impl_RasAt.mono _ _ _ _ _ _
   | exact impl_RasOk.mono _ _ _ _
   | exact laws_eaDo.mono _ _ _ _ _
   | exact laws_eaRas.mono _ _ _ _ _ _ _
   | exact spec_DrawOpDo.mono _ _
   | exact spec_RasOk.mono _ _ _ _
   | exact LeO.none _
   | refine LeO.ite ?_ ?_
   | refine LeO.bind ?_ (fun _ => ?_)
def laws_FnOpSizeTwice.T9 : Bool × List (List Nat × List Nat) := (true, [([], []), ([], []), ([1], [1]), ([0, 2], [0, 2]), ([], []), ([3, 4, 3], [3, 4]), ([5, 5], [5]), ([6], [6]), ([7, 6, 6], [6, 7]), ([6, 8], [6, 8]), ([9, 8], [9]), ([10], [10]), ([11, 10], [10, 11]), ([12, 10], [10, 12]), ([13, 10], [10, 13]), ([10, 14], [10, 14]), ([15, 10], [15]), ([16], [16]), ([17, 16], [16, 17]), ([18, 16], [16, 18]), ([19, 16], [16, 19]), ([16], [16]), ([16], [16]), ([22, 16], [16, 22]), ([23, 16], [16, 23]), ([16], [16]), ([25, 16], [16, 25]), ([26, 16], [16, 26]), ([21, 24, 27, 16, 16], [16, 21, 24, 27]), ([20, 28, 16], [16, 20, 28]), ([16, 29], [16, 29]), ([30, 28, 0, 1, 2, 3, 4, 5, 6, 7, 8, 9, 10, 11, 12, 13, 14, 15, 16, 17, 18, 19, 20, 21, 22, 23, 24, 25, 26, 27, 28, 29, 30], [30])])
def laws_FnOpSizeTwice.B9 : List Nat := [0, 0, 2, 7, 0, 31, 63, 127, 255, 511, 1023, 2047, 4095, 8191, 16383, 32767, 65535, 131071, 262143, 524287, 1048575, 131071, 131071, 4325375, 12713983, 131071, 33685503, 100794367, 266469375, 536870911, 1073741823, 2147483647]
theorem laws_FnOpSizeTwice.tab9 : rtab .any (opsOf Try.f13 9) = laws_FnOpSizeTwice.T9 := by kernel_rfl
theorem laws_FnOpSizeTwice.bits9 : waitsOk laws_FnOpSizeTwice.T9.2 laws_FnOpSizeTwice.B9 = true := by kernel_rfl
set_option maxHeartbeats 8000000 in
set_option maxRecDepth 100000 in
theorem laws_FnOpSizeTwice.calls (k : Nat) (A0 : Option Addr) (c0 : Nat) (l0 : List Int) (A1 : Option Addr) (c1 : Nat) (l1 : List Int) (r : Bool) (w : World) (hr0 : Kd.C (Kd.int .u8) w A0 l0.length l0) (hc0 : l0.length ≤ c0) (hr1 : Kd.C (Kd.int .u8) w A1 l1.length l1) (hc1 : l1.length ≤ c1) (h : laws_FnOpSizeTwice.f k l0 l1 = some r) :
  Calls Try.prog 13 #[.slice A0 l0.length c0, .slice A1 l1.length c1] w fun e w' => e = .returned (.bool r) ∧ Below w.heap.size w w' := by
 have hu25 := Try.underlying25
 have hu27 := Try.underlying27
 have hu38 := Try.underlying38
 have HR0 := Aside0.mk hr0
 have HC0 := Aside0.mk hc0
 clear hr0 hc0
 have HR1 := Aside0.mk hr1
 have HC1 := Aside0.mk hc1
 clear hr1 hc1
 have HB := Aside0.mk (Below.refl w.heap.size w)
 have H : (if (l0.length : Int) > 1048576 then (laws_FnOpSizeTwice.j0 k l0 l1 true) else (laws_FnOpSizeTwice.j0 k l0 l1 (decide ((l1.length : Int) > 1048576)))) = some r := h
 clear h
 have HC3 := Aside0.mk H
 clear H
 go_enter Try.func13, Try.ntmps13
 go_upto_region 1 with (fail)
 go_cut [17] (fun v17 wc => ∃ (kq : Nat) (x17_2 : Bool), v17 = .bool x17_2 ∧ Aside0 (laws_FnOpSizeTwice.j0 kq l0 l1 x17_2 = some r) ∧ Aside0 (kq ≤ k) ∧ Aside0 (Below w.heap.size w wc))
 case first =>
  have H := HC3.out
  clear HC3
  by_cases c4 : (l0.length : Int) > 1048576
  ·rw [if_pos c4] at H
   have c4b0 : decide (1048576 < (l0.length : Int)) = true := decide_eq_true c4
   have c4b1 : decide (1048576 < l0.length) = true := decide_eq_true (by omega)
   clear c4
   (first | rw [c4b0] | (simp only [i64_w, i32_w]; rw [c4b0]) | skip)
   have H' := Aside0.mk H
   clear H
   go_wp2
   go_meet
   case rel => exact ⟨_, (true), (by first | rfl | (simp; done) | (simp [*]; done)), H', ⟨(by first | omega | exact Nat.le_refl _)⟩, ⟨(oB HB)⟩⟩
  ·rw [if_neg c4] at H
   have c4b0 : decide (1048576 < (l0.length : Int)) = false := decide_eq_false c4
   have c4b1 : decide (1048576 < l0.length) = false := decide_eq_false (by omega)
   clear c4
   (first | rw [c4b0] | (simp only [i64_w, i32_w]; rw [c4b0]) | skip)
   have H' := Aside0.mk H
   clear H
   go_wp2
   go_meet
   case rel => exact ⟨_, (decide ((l1.length : Int) > 1048576)), (by first | rfl | (simp; done) | (simp [*]; done)), H', ⟨(by first | omega | exact Nat.le_refl _)⟩, ⟨(oB HB)⟩⟩
 case rest =>
  clear HC3
  try clear c1
  try clear p2
  try clear c4
  try clear c4b0
  try clear c4b1
  obtain ⟨kq, x17_2, rfl, HA, HJ2, HB⟩ := hcut
  cases kq with
  | zero => exact nomatch (show none = some _ from HA.out)
  | succ kj2 =>
   have H := HA.out
   clear HA
   simp only [laws_FnOpSizeTwice.j0] at H
   by_cases c5 : x17_2 = true
   ·subst c5
    rw [if_pos rfl] at H
    obtain rfl := Option.some.inj H
    go_wp2
    go_ret
    exact ⟨by first | rfl | (simp [errW_none, errW_some] <;> rfl) | (simp [*, errW_none, errW_some] <;> rfl), oB HB⟩
   ·replace c5 := Bool.eq_false_iff.mpr c5
    subst c5
    rw [if_neg (show ¬ (false = true) by decide)] at H
    replace H := Option.bind_eq_some_iff.mp H
    obtain ⟨⟨t1059, t1060, t1061, t1064, t1065, t1066, t1067, t1068⟩, A60, H⟩ := H
    (try dsimp only at H)
    have A6 := Aside0.mk A60
    clear A60
    replace H := Option.bind_eq_some_iff.mp H
    obtain ⟨t1071, A70, H⟩ := H
    (try dsimp only at H)
    have A7 := Aside0.mk A70
    clear A70
    by_cases c8 : t1071 = true
    ·subst c8
     rw [if_pos rfl] at H
     obtain ⟨y1075, hy1075⟩ : ∃ y_ : List (S27), y_ = (([(⟨7, 1 + ((l1.length : Int) % 6), wrap64 (1 + (Int.tmod (wrap64 ((l1.length : Int) / 7)) 6)), 0, 0⟩ : S27)] : List (S27))) := ⟨_, rfl⟩
     replace H : ((laws_eaDo.f kj2 t1059 t1060 t1061 y1075).bind fun bt1078 => ((laws_eaDo.f kj2 t1059 t1060 t1061 (([(⟨7, 1, 1, 0, 0⟩ : S27)] : List (S27)))).bind fun bt1087 => ((laws_eaDo.f kj2 bt1078.1 bt1078.2.1 bt1078.2.2 (([(⟨7, 1 + ((l1.length : Int) % 6), wrap64 (1 + (Int.tmod (wrap64 ((l1.length : Int) / 7)) 6)), 0, 0⟩ : S27)] : List (S27)))).bind fun bt1096 => ((laws_eaRas.f kj2 bt1096.1 bt1096.2.1 bt1096.2.2 bt1078.1 bt1078.2.1 bt1078.2.2).bind fun t1101 => (if t1101 = true then ((impl_RasOk.f kj2 bt1078.1 bt1078.2.1 bt1078.2.2).bind fun t1102 => (if t1102 = true then (if (bt1087.2.2.length : Int) = 1 then (if 0 < (bt1087.2.2.length : Int) then ((impl_RasAt.f kj2 t1059 t1060 t1061 (wrap64 (Int.tdiv t1059 2)) (wrap64 (Int.tdiv t1060 2))).bind fun bt1104 => (some (((rd_T38 bt1087.2.2 0).f0) == bt1104.1 && (((rd_T38 bt1087.2.2 0).f1) == bt1104.2.1 && (((rd_T38 bt1087.2.2 0).f2) == bt1104.2.2.1 && (((rd_T38 bt1087.2.2 0).f3) == bt1104.2.2.2)))))) else (none)) else (none)) else (none))) else (none)))))) = some r := by first | (rw [hy1075]; with_reducible exact H) | (have H2_ := (Option.bind_some _ _).symm.trans H; rw [hy1075]; with_reducible exact H2_) | (have H2_ := (Option.bind_some _ _).symm.trans H; with_reducible exact H2_) | with_reducible exact H | (rw [hy1075]; exact H) | exact H
     have Ny1075 := Aside0.mk hy1075
     clear hy1075
     replace H := Option.bind_eq_some_iff.mp H
     obtain ⟨⟨t1078, t1079, t1080⟩, A90, H⟩ := H
     (try dsimp only at H)
     have A9 := Aside0.mk A90
     clear A90
     obtain ⟨y1084, hy1084⟩ : ∃ y_ : List (S27), y_ = (([(⟨7, 1, 1, 0, 0⟩ : S27)] : List (S27))) := ⟨_, rfl⟩
     replace H : ((laws_eaDo.f kj2 t1059 t1060 t1061 y1084).bind fun bt1087 => ((laws_eaDo.f kj2 t1078 t1079 t1080 (([(⟨7, 1 + ((l1.length : Int) % 6), wrap64 (1 + (Int.tmod (wrap64 ((l1.length : Int) / 7)) 6)), 0, 0⟩ : S27)] : List (S27)))).bind fun bt1096 => ((laws_eaRas.f kj2 bt1096.1 bt1096.2.1 bt1096.2.2 t1078 t1079 t1080).bind fun t1101 => (if t1101 = true then ((impl_RasOk.f kj2 t1078 t1079 t1080).bind fun t1102 => (if t1102 = true then (if (bt1087.2.2.length : Int) = 1 then (if 0 < (bt1087.2.2.length : Int) then ((impl_RasAt.f kj2 t1059 t1060 t1061 (wrap64 (Int.tdiv t1059 2)) (wrap64 (Int.tdiv t1060 2))).bind fun bt1104 => (some (((rd_T38 bt1087.2.2 0).f0) == bt1104.1 && (((rd_T38 bt1087.2.2 0).f1) == bt1104.2.1 && (((rd_T38 bt1087.2.2 0).f2) == bt1104.2.2.1 && (((rd_T38 bt1087.2.2 0).f3) == bt1104.2.2.2)))))) else (none)) else (none)) else (none))) else (none))))) = some r := by first | (rw [hy1084]; with_reducible exact H) | (have H2_ := (Option.bind_some _ _).symm.trans H; rw [hy1084]; with_reducible exact H2_) | (have H2_ := (Option.bind_some _ _).symm.trans H; with_reducible exact H2_) | with_reducible exact H | (rw [hy1084]; exact H) | exact H
     have Ny1084 := Aside0.mk hy1084
     clear hy1084
     replace H := Option.bind_eq_some_iff.mp H
     obtain ⟨⟨t1087, t1088, t1089⟩, A100, H⟩ := H
     (try dsimp only at H)
     have A10 := Aside0.mk A100
     clear A100
     obtain ⟨y1093, hy1093⟩ : ∃ y_ : List (S27), y_ = (([(⟨7, 1 + ((l1.length : Int) % 6), wrap64 (1 + (Int.tmod (wrap64 ((l1.length : Int) / 7)) 6)), 0, 0⟩ : S27)] : List (S27))) := ⟨_, rfl⟩
     replace H : ((laws_eaDo.f kj2 t1078 t1079 t1080 y1093).bind fun bt1096 => ((laws_eaRas.f kj2 bt1096.1 bt1096.2.1 bt1096.2.2 t1078 t1079 t1080).bind fun t1101 => (if t1101 = true then ((impl_RasOk.f kj2 t1078 t1079 t1080).bind fun t1102 => (if t1102 = true then (if (t1089.length : Int) = 1 then (if 0 < (t1089.length : Int) then ((impl_RasAt.f kj2 t1059 t1060 t1061 (wrap64 (Int.tdiv t1059 2)) (wrap64 (Int.tdiv t1060 2))).bind fun bt1104 => (some (((rd_T38 t1089 0).f0) == bt1104.1 && (((rd_T38 t1089 0).f1) == bt1104.2.1 && (((rd_T38 t1089 0).f2) == bt1104.2.2.1 && (((rd_T38 t1089 0).f3) == bt1104.2.2.2)))))) else (none)) else (none)) else (none))) else (none)))) = some r := by first | (rw [hy1093]; with_reducible exact H) | (have H2_ := (Option.bind_some _ _).symm.trans H; rw [hy1093]; with_reducible exact H2_) | (have H2_ := (Option.bind_some _ _).symm.trans H; with_reducible exact H2_) | with_reducible exact H | (rw [hy1093]; exact H) | exact H
     have Ny1093 := Aside0.mk hy1093
     clear hy1093
     replace H := Option.bind_eq_some_iff.mp H
     obtain ⟨⟨t1096, t1097, t1098⟩, A110, H⟩ := H
     (try dsimp only at H)
     have A11 := Aside0.mk A110
     clear A110
     replace H := Option.bind_eq_some_iff.mp H
     obtain ⟨t1101, A120, H⟩ := H
     (try dsimp only at H)
     have A12 := Aside0.mk A120
     clear A120
     by_cases c13 : t1101 = true
     ·subst c13
      rw [if_pos rfl] at H
      replace H := Option.bind_eq_some_iff.mp H
      obtain ⟨t1102, A140, H⟩ := H
      (try dsimp only at H)
      have A14 := Aside0.mk A140
      clear A140
      by_cases c15 : t1102 = true
      ·subst c15
       rw [if_pos rfl] at H
       by_cases c16 : (t1089.length : Int) = 1
       ·rw [if_pos c16] at H
        have c16b0 : ((t1089.length : Int) == 1) = true := beq_iff_eq.mpr c16
        have c16b1 : ((t1089.length : Int) != 1) = false := bne_eq_false_iff_eq.mpr c16
        clear c16
        by_cases c17 : 0 < (t1089.length : Int)
        ·rw [if_pos c17] at H
         have c17b0 : decide (0 < (t1089.length : Int)) = true := decide_eq_true c17
         have c17b1 : decide (0 < t1089.length) = true := decide_eq_true (by omega)
         clear c17
         replace H := Option.bind_eq_some_iff.mp H
         obtain ⟨⟨t1104, t1105, t1106, t1107⟩, A180, H⟩ := H
         (try dsimp only at H)
         have A18 := Aside0.mk A180
         clear A180
         obtain rfl := Option.some.inj H
         try go_wp2_with (first | ((with_reducible refine gate_callee (f := 18) rfl ?_); refine goesL_ (some 20) rfl rfl Try.func18 oK rfl #[.slice A0 l0.length c0] rfl oA ?_; (with_reducible refine (spec_DrawOpDo.calls kj2 _ _ l0 t1059 t1060 t1061 t1064 t1065 t1066 t1067 t1068 _ ?side1 ?side2 A6.out).mono ?_); (case side1 => repeat (first | exact (Kd.C_below HR0.out HB.out) | (with_reducible refine Kd.C_alloc ?_ _) | (with_reducible refine Kd.C_drewN ?_ _) | (with_reducible refine Kd.C_drew ?_))); (case side2 => exact HC0.out); rintro e w19 ⟨v1062, rfl, ho0, hb⟩; refine ⟨_, rfl, ?_⟩; have n_ := o2_ (Kd.Q_lower ho0 (below_size (oB HB))) (o1_ (below_step (oB HB) hb)); clear HB; obtain ⟨HO1063, HB⟩ := n_; (try clear hb); (try clear hb2); (try clear hk); (try clear hi); (try clear ho0)) | ((with_reducible refine gate_dst (N := 5) rfl ?_); (try (refine gate_guard (by rfl) ?_; dsimp only)); refine box_event ?hg (N := 5) ?hd (cs := #[.int .i64 0, .int .i64 0, .slice none 0 0]) (t := 25) ?hr ?_; (case hd => rfl); (case hg => rfl); (case hr => first | (go_simp; done) | (go_simp; rfl)); intro gb1069 hg w20 hbox hb; have n_ := o2_ (Kd.Q_below (oQ HO1063) hb) (o2_ (below_step (oB HB) hb) (o2_ (hbox) (o2_ ((oG hg (below_size (oB HB)) : w.heap.size ≤ gb1069)) (o1_ ((oG hg (below_size (oB HB)) : w.heap.size ≤ gb1069)))))); clear HO1063 HB; obtain ⟨HO1063, HB, BK1069, GW1069, GE1069⟩ := n_; clear hb hbox hg) | ((with_reducible refine gate_dst (N := 6) rfl ?_); (try (refine gate_guard (by rfl) ?_; dsimp only)); refine box_event ?hg (N := 6) ?hd (cs := #[.int .i64 0, .int .i64 0, .int .i64 0, .int .i64 0, .int .i64 0]) (t := 27) ?hr ?_; (case hd => rfl); (case hg => rfl); (case hr => first | (go_simp; done) | (go_simp; rfl)); intro gb1070 hg w21 hbox hb; have n_ := o2_ (Kd.Q_below (oQ HO1063) hb) (o2_ (blk_below (oP BK1069) hb) (o2_ (below_step (oB HB) hb) (o2_ (hbox) (o2_ ((oG hg (below_size (oB HB)) : w.heap.size ≤ gb1070)) (o2_ ((oG hg (below_size (oB HB)) : w.heap.size ≤ gb1070)) (o2_ ((oL hg (blk_lt (oP BK1069)))) (o1_ ((oN hg (blk_lt (oP BK1069))))))))))); clear HO1063 BK1069 HB; obtain ⟨HO1063, BK1069, HB, BK1070, GW1070, GE1070, NB1069_1070, NB1070_1069⟩ := n_; clear hb hbox hg; have hnb22 := NB1069_1070.out; have hnc22 := NB1070_1069.out; have hcz23_0 : w21.cell? ⟨gb1069, 0, none⟩ = some (.int .i64 0) := (blk_cell BK1069.out 0).trans rfl; have hcz23_1 : w21.cell? ⟨gb1069, 1, none⟩ = some (.int .i64 0) := (blk_cell BK1069.out 1).trans rfl; have hcz23_2 : w21.cell? ⟨gb1069, 2, none⟩ = some (.slice none 0 0) := (blk_cell BK1069.out 2).trans rfl; have hfz23_0 := blk_frozen BK1069.out 0; have hfz23_1 := blk_frozen BK1069.out 1; have hfz23_2 := blk_frozen BK1069.out 2; obtain ⟨Ao24, co24, eo24, _⟩ := Kd.Q_slice HO1063.out; subst eo24; have hcz25_0 : w21.cell? ⟨gb1070, 0, none⟩ = some (.int .i64 0) := (blk_cell BK1070.out 0).trans rfl; have hcz25_1 : w21.cell? ⟨gb1070, 1, none⟩ = some (.int .i64 0) := (blk_cell BK1070.out 1).trans rfl; have hcz25_2 : w21.cell? ⟨gb1070, 2, none⟩ = some (.int .i64 0) := (blk_cell BK1070.out 2).trans rfl; have hcz25_3 : w21.cell? ⟨gb1070, 3, none⟩ = some (.int .i64 0) := (blk_cell BK1070.out 3).trans rfl; have hcz25_4 : w21.cell? ⟨gb1070, 4, none⟩ = some (.int .i64 0) := (blk_cell BK1070.out 4).trans rfl; have hfz25_0 := blk_frozen BK1070.out 0; have hfz25_1 := blk_frozen BK1070.out 1; have hfz25_2 := blk_frozen BK1070.out 2; have hfz25_3 := blk_frozen BK1070.out 3; have hfz25_4 := blk_frozen BK1070.out 4) | ((with_reducible refine gate_callee (f := 24) rfl ?_); refine goesL_ (some 24) rfl rfl Try.func24 oK rfl #[.agg #[.int .i64 t1059, .int .i64 t1060, .slice Ao24 t1061.length co24]] rfl oA ?_; (with_reducible refine (spec_RasOk.calls kj2 t1059 t1060 _ _ t1061 true _ ?side1 ?side2 A7.out).mono ?_); (case side1 => refine (Kd.Q_reads' (e := 38) (base := w.heap.size) (ok := fun k_ => True) (n := t1061.length) (c := co24) ?_).2.2; exact (by (with_reducible repeat (first | apply Kd.Q_alloc | apply Kd.Q_drewN | apply Kd.Q_drew)); exact (Kd.Q_mono (Kd.Q_mono (Kd.Q_far (p := ⟨gb1070, 4, none⟩) (Kd.Q_far (p := ⟨gb1070, 3, none⟩) (Kd.Q_far (p := ⟨gb1070, 2, none⟩) (Kd.Q_far (p := ⟨gb1070, 1, none⟩) (Kd.Q_far (p := ⟨gb1070, 0, none⟩) (Kd.Q_far (p := ⟨gb1069, 2, none⟩) (Kd.Q_far (p := ⟨gb1069, 1, none⟩) (Kd.Q_far (p := ⟨gb1069, 0, none⟩) (Kd.Q_types (Kd.Q_types HO1063.out BK1069.out oD) BK1070.out oD) (fun _ hk => by first | exact hk.1.2 | exact trivial | (revert hk; simp; done) | (simp_all; done)) (.int .i64 t1059)) (fun _ hk => by first | exact hk.1.2 | exact trivial | (revert hk; simp; done) | (simp_all; done)) (.int .i64 t1060)) (fun _ hk => by first | exact hk.1.2 | exact trivial | (revert hk; simp; done) | (simp_all; done)) (.slice Ao24 t1061.length co24)) oX2 (.int .i64 t1064)) oX2 (.int .i64 t1065)) oX2 (.int .i64 t1066)) oX2 (.int .i64 t1067)) oX2 (.int .i64 t1068)) (fun _ h_ => h_.1)) (fun _ h_ => h_.1)))); (case side2 => exact (Kd.Q_reads' HO1063.out).2.1); rintro e w26 ⟨rfl, hb⟩; refine ⟨_, rfl, ?_⟩; have n_ := o2_ (Kd.Q_below (by (with_reducible repeat (first | apply Kd.Q_alloc | apply Kd.Q_drewN | apply Kd.Q_drew)); exact (Kd.Q_mono (Kd.Q_mono (Kd.Q_far (p := ⟨gb1070, 4, none⟩) (Kd.Q_far (p := ⟨gb1070, 3, none⟩) (Kd.Q_far (p := ⟨gb1070, 2, none⟩) (Kd.Q_far (p := ⟨gb1070, 1, none⟩) (Kd.Q_far (p := ⟨gb1070, 0, none⟩) (Kd.Q_far (p := ⟨gb1069, 2, none⟩) (Kd.Q_far (p := ⟨gb1069, 1, none⟩) (Kd.Q_far (p := ⟨gb1069, 0, none⟩) (Kd.Q_types (Kd.Q_types HO1063.out BK1069.out oD) BK1070.out oD) (fun _ hk => by first | exact hk.1.2 | exact trivial | (revert hk; simp; done) | (simp_all; done)) (.int .i64 t1059)) (fun _ hk => by first | exact hk.1.2 | exact trivial | (revert hk; simp; done) | (simp_all; done)) (.int .i64 t1060)) (fun _ hk => by first | exact hk.1.2 | exact trivial | (revert hk; simp; done) | (simp_all; done)) (.slice Ao24 t1061.length co24)) oX2 (.int .i64 t1064)) oX2 (.int .i64 t1065)) oX2 (.int .i64 t1066)) oX2 (.int .i64 t1067)) oX2 (.int .i64 t1068)) (fun _ h_ => h_.1)) (fun _ h_ => h_.1))) hb) (o2_ (blk_below (g := gb1069) (o := .cells #[.int .i64 t1059, .int .i64 t1060, .slice Ao24 t1061.length co24] 25 (0, 0)) (by (with_reducible repeat (first | refine blk_drewN ?_ _ | refine blk_drew ?_ | refine blk_alloc ?_ _)); refine blk_far ?_ NB1069_1070.out _; (with_reducible repeat (first | refine blk_drewN ?_ _ | refine blk_drew ?_ | refine blk_alloc ?_ _)); refine blk_far ?_ NB1069_1070.out _; (with_reducible repeat (first | refine blk_drewN ?_ _ | refine blk_drew ?_ | refine blk_alloc ?_ _)); refine blk_far ?_ NB1069_1070.out _; (with_reducible repeat (first | refine blk_drewN ?_ _ | refine blk_drew ?_ | refine blk_alloc ?_ _)); refine blk_far ?_ NB1069_1070.out _; (with_reducible repeat (first | refine blk_drewN ?_ _ | refine blk_drew ?_ | refine blk_alloc ?_ _)); refine blk_far ?_ NB1069_1070.out _; (with_reducible repeat (first | refine blk_drewN ?_ _ | refine blk_drew ?_ | refine blk_alloc ?_ _)); refine blk_put (cs := #[.int .i64 t1059, .int .i64 t1060, .slice none 0 0]) ?_ 2 _ rfl; (with_reducible repeat (first | refine blk_drewN ?_ _ | refine blk_drew ?_ | refine blk_alloc ?_ _)); refine blk_put (cs := #[.int .i64 t1059, .int .i64 0, .slice none 0 0]) ?_ 1 _ rfl; (with_reducible repeat (first | refine blk_drewN ?_ _ | refine blk_drew ?_ | refine blk_alloc ?_ _)); refine blk_put (cs := #[.int .i64 0, .int .i64 0, .slice none 0 0]) ?_ 0 _ rfl; (with_reducible repeat (first | refine blk_drewN ?_ _ | refine blk_drew ?_ | refine blk_alloc ?_ _)); exact BK1069.out) hb) (o2_ (blk_below (g := gb1070) (o := .cells #[.int .i64 t1064, .int .i64 t1065, .int .i64 t1066, .int .i64 t1067, .int .i64 t1068] 27 (0, 0)) (by (with_reducible repeat (first | refine blk_drewN ?_ _ | refine blk_drew ?_ | refine blk_alloc ?_ _)); refine blk_put (cs := #[.int .i64 t1064, .int .i64 t1065, .int .i64 t1066, .int .i64 t1067, .int .i64 0]) ?_ 4 _ rfl; (with_reducible repeat (first | refine blk_drewN ?_ _ | refine blk_drew ?_ | refine blk_alloc ?_ _)); refine blk_put (cs := #[.int .i64 t1064, .int .i64 t1065, .int .i64 t1066, .int .i64 0, .int .i64 0]) ?_ 3 _ rfl; (with_reducible repeat (first | refine blk_drewN ?_ _ | refine blk_drew ?_ | refine blk_alloc ?_ _)); refine blk_put (cs := #[.int .i64 t1064, .int .i64 t1065, .int .i64 0, .int .i64 0, .int .i64 0]) ?_ 2 _ rfl; (with_reducible repeat (first | refine blk_drewN ?_ _ | refine blk_drew ?_ | refine blk_alloc ?_ _)); refine blk_put (cs := #[.int .i64 t1064, .int .i64 0, .int .i64 0, .int .i64 0, .int .i64 0]) ?_ 1 _ rfl; (with_reducible repeat (first | refine blk_drewN ?_ _ | refine blk_drew ?_ | refine blk_alloc ?_ _)); refine blk_put (cs := #[.int .i64 0, .int .i64 0, .int .i64 0, .int .i64 0, .int .i64 0]) ?_ 0 _ rfl; (with_reducible repeat (first | refine blk_drewN ?_ _ | refine blk_drew ?_ | refine blk_alloc ?_ _)); refine blk_far ?_ NB1070_1069.out _; (with_reducible repeat (first | refine blk_drewN ?_ _ | refine blk_drew ?_ | refine blk_alloc ?_ _)); refine blk_far ?_ NB1070_1069.out _; (with_reducible repeat (first | refine blk_drewN ?_ _ | refine blk_drew ?_ | refine blk_alloc ?_ _)); refine blk_far ?_ NB1070_1069.out _; (with_reducible repeat (first | refine blk_drewN ?_ _ | refine blk_drew ?_ | refine blk_alloc ?_ _)); exact BK1070.out) hb) (o1_ (below_step (oB HB) hb)))); clear HO1063 BK1069 BK1070 HB; obtain ⟨HO1063, BK1069, BK1070, HB⟩ := n_; (try clear hb); (try clear hb2); (try clear hk); (try clear hi)) | ((with_reducible refine gate_dst (N := 7) rfl ?_); (try (refine gate_guard (by rfl) ?_; dsimp only)); refine box_event ?hg (N := 7) ?hd (cs := #[.int .i64 0, .int .i64 0, .int .i64 0, .int .i64 0, .int .i64 0]) (t := 27) ?hr ?_; (case hd => rfl); (case hg => rfl); (case hr => first | (go_simp; done) | (go_simp; rfl)); intro gb1074 hg w27 hbox hb; have n_ := o2_ (Kd.Q_below (oQ HO1063) hb) (o2_ (blk_below (oP BK1069) hb) (o2_ (blk_below (oP BK1070) hb) (o2_ (below_step (oB HB) hb) (o2_ (hbox) (o2_ ((oG hg (below_size (oB HB)) : w.heap.size ≤ gb1074)) (o2_ ((oG hg (below_size (oB HB)) : w.heap.size ≤ gb1074)) (o2_ ((oL hg (blk_lt (oP BK1069)))) (o2_ ((oN hg (blk_lt (oP BK1069)))) (o2_ ((oL hg (blk_lt (oP BK1070)))) (o1_ ((oN hg (blk_lt (oP BK1070)))))))))))))); clear HO1063 BK1069 BK1070 HB; obtain ⟨HO1063, BK1069, BK1070, HB, BK1074, GW1074, GE1074, NB1069_1074, NB1074_1069, NB1070_1074, NB1074_1070⟩ := n_; clear hb hbox hg; have hnb28 := NB1074_1069.out; have hnc28 := NB1069_1074.out; have hnb29 := NB1074_1070.out; have hnc29 := NB1070_1074.out; have hcz30_0 : w27.cell? ⟨gb1074, 0, none⟩ = some (.int .i64 0) := (blk_cell BK1074.out 0).trans rfl; have hcz30_1 : w27.cell? ⟨gb1074, 1, none⟩ = some (.int .i64 0) := (blk_cell BK1074.out 1).trans rfl; have hcz30_2 : w27.cell? ⟨gb1074, 2, none⟩ = some (.int .i64 0) := (blk_cell BK1074.out 2).trans rfl; have hcz30_3 : w27.cell? ⟨gb1074, 3, none⟩ = some (.int .i64 0) := (blk_cell BK1074.out 3).trans rfl; have hcz30_4 : w27.cell? ⟨gb1074, 4, none⟩ = some (.int .i64 0) := (blk_cell BK1074.out 4).trans rfl; have hfz30_0 := blk_frozen BK1074.out 0; have hfz30_1 := blk_frozen BK1074.out 1; have hfz30_2 := blk_frozen BK1074.out 2; have hfz30_3 := blk_frozen BK1074.out 3; have hfz30_4 := blk_frozen BK1074.out 4; have hcz31_0 : w27.cell? ⟨gb1069, 0, none⟩ = some (.int .i64 t1059) := (blk_cell BK1069.out 0).trans rfl; have hcz31_1 : w27.cell? ⟨gb1069, 1, none⟩ = some (.int .i64 t1060) := (blk_cell BK1069.out 1).trans rfl; have hcz31_2 : w27.cell? ⟨gb1069, 2, none⟩ = some (.slice Ao24 t1061.length co24) := (blk_cell BK1069.out 2).trans rfl; have hfz31_0 := blk_frozen BK1069.out 0; have hfz31_1 := blk_frozen BK1069.out 1; have hfz31_2 := blk_frozen BK1069.out 2) | ((with_reducible refine gate_dst (N := 44) rfl ?_); (try (refine gate_guard (by rfl) ?_; dsimp only)); refine Kd.R_lit k27 _ 27 ?hg (N := 44) ?hd (xs := ([(⟨7, 1 + ((l1.length : Int) % 6), wrap64 (1 + (Int.tmod (wrap64 ((l1.length : Int) / 7)) 6)), 0, 0⟩ : S27)] : List (S27))) (inner := [.int .i64 7, .int .i64 (1 + ((l1.length : Int) % 6)), .int .i64 (wrap64 (1 + (Int.tmod (wrap64 ((l1.length : Int) / 7)) 6))), .int .i64 0, .int .i64 0]) (ok := fun _ => True) (okp := fun _ => True) ?hr ?hp (fun _ hk => hk) trivial (Below.refl _ _) (Nat.le_refl _) (by simp) ?_; (case hd => rfl); (case hg => rfl); (case hr => first | (go_simp; done) | (go_simp; rfl)); (case hp => exact (Reps.c5 (show Kd.M k27 _ _ _ (⟨7, 1 + ((l1.length : Int) % 6), wrap64 (1 + (Int.tmod (wrap64 ((l1.length : Int) / 7)) 6)), 0, 0⟩ : S27) [.int .i64 7, .int .i64 (1 + ((l1.length : Int) % 6)), .int .i64 (wrap64 (1 + (Int.tmod (wrap64 ((l1.length : Int) / 7)) 6))), .int .i64 0, .int .i64 0] from (k27_mkM _ _ _ (⟨7, 1 + ((l1.length : Int) % 6), wrap64 (1 + (Int.tmod (wrap64 ((l1.length : Int) / 7)) 6)), 0, 0⟩ : S27) )) (Reps.none _ _))); intro v1076 w32 ho33 hb hg_ hnew_; clear hg_ hnew_; (first | rw [← Ny1075.out] at ho33 | (simp only [Int.reduceToNat] at ho33; rw [← Ny1075.out] at ho33)); have n_ := o2_ (Kd.Q_below (by (with_reducible repeat (first | apply Kd.Q_alloc | apply Kd.Q_drewN | apply Kd.Q_drew)); exact (Kd.Q_mono (Kd.Q_far (p := ⟨gb1074, 4, none⟩) (Kd.Q_far (p := ⟨gb1074, 3, none⟩) (Kd.Q_far (p := ⟨gb1074, 2, none⟩) (Kd.Q_far (p := ⟨gb1074, 1, none⟩) (Kd.Q_far (p := ⟨gb1074, 0, none⟩) (Kd.Q_types HO1063.out BK1074.out oD) oX2 (.int .i64 7)) oX2 (.int .i64 (1 + ((l1.length : Int) % 6)))) oX2 (.int .i64 (wrap64 (1 + (Int.tmod (wrap64 ((l1.length : Int) / 7)) 6))))) oX2 (.int .i64 0)) oX2 (.int .i64 0)) (fun _ h_ => h_.1))) hb) (o2_ (Kd.R_lower (Kd.R_newB (Kd.R_newB ho33 (oP BK1070)) (g := gb1074) (o := .cells #[.int .i64 7, .int .i64 (1 + ((l1.length : Int) % 6)), .int .i64 (wrap64 (1 + (Int.tmod (wrap64 ((l1.length : Int) / 7)) 6))), .int .i64 0, .int .i64 0] 27 (0, 0)) (blk_put (blk_put (blk_put (blk_put (blk_put BK1074.out 0 _ rfl) 1 _ rfl) 2 _ rfl) 3 _ rfl) 4 _ rfl)) (below_size (oB HB))) (o2_ (blk_below (oP BK1069) hb) (o2_ (blk_below (oP BK1070) hb) (o2_ (blk_below (g := gb1074) (o := .cells #[.int .i64 7, .int .i64 (1 + ((l1.length : Int) % 6)), .int .i64 (wrap64 (1 + (Int.tmod (wrap64 ((l1.length : Int) / 7)) 6))), .int .i64 0, .int .i64 0] 27 (0, 0)) (blk_put (blk_put (blk_put (blk_put (blk_put BK1074.out 0 _ rfl) 1 _ rfl) 2 _ rfl) 3 _ rfl) 4 _ rfl) hb) (o1_ (below_step (oB HB) hb)))))); clear HO1063 BK1069 BK1070 BK1074 HB; obtain ⟨HO1063, HO1077, BK1069, BK1070, BK1074, HB⟩ := n_; clear hb ho33; obtain ⟨Ao34, co34, eo34⟩ := Kd.R_slice HO1077.out; subst eo34) | ((with_reducible refine gate_callee (f := 27) rfl ?_); refine goesL_ (some 45) rfl rfl Try.func27 oK rfl #[.agg #[.int .i64 t1059, .int .i64 t1060, .slice Ao24 t1061.length co24], .slice Ao34 y1075.length co34] rfl oA ?_; (with_reducible refine (laws_eaDo.calls kj2 t1059 t1060 (fun k_ => some k_ = (.slice Ao24 t1061.length co24 : Value).ownBlock) _ _ t1061 _ _ y1075 t1078 t1079 t1080 _ ?side1 ?side2 ?side3 A9.out).mono ?_); (case side1 => exact Kd.Q_V (Kd.Q_tight rfl (Kd.Q_types (Kd.Q_types (Kd.Q_types (Kd.Q_apart' (HO1063.out) (Kd.R_typed HO1077.out) oD) BK1069.out oD) BK1070.out oD) BK1074.out oD))); (case side2 => repeat (first | exact (Kd.R_reads' HO1077.out).2.2 | (with_reducible refine Kd.C_alloc ?_ _) | (with_reducible refine Kd.C_drewN ?_ _) | (with_reducible refine Kd.C_drew ?_))); (case side3 => exact (Kd.R_reads' HO1077.out).2.1); rintro e w35 ⟨v1081, rfl, ho0, hb⟩; refine ⟨_, rfl, ?_⟩; have hq_ := (Kd.Q_types (Kd.Q_types (Kd.Q_types (Kd.Q_apart' (HO1063.out) (Kd.R_typed HO1077.out) oD) BK1069.out oD) BK1070.out oD) BK1074.out oD); have n_ := o2_ (Kd.Q_below (oQ HO1063) hb) (o2_ (Kd.R_below (oR HO1077) hb) (o2_ (Kd.V_lower (Kd.V_mono (ok' := fun k_ => some k_ ≠ (.slice Ao34 y1075.length co34 : Value).ownBlock ∧ k_ ≠ gb1069 ∧ k_ ≠ gb1070 ∧ k_ ≠ gb1074) ho0 (fun k_ hk_ => ⟨Or.elim hk_ (fun hs_ => (hq_.1 k_ hs_.symm).1.1.1.2) (fun hn_ => (Kd.fresh' (Kd.R_lt (oR HO1077)) k_ hn_)), Or.elim hk_ (fun hs_ => (hq_.1 k_ hs_.symm).1.1.2) (fun hn_ => (Kd.freshB (oP BK1069) k_ hn_)), Or.elim hk_ (fun hs_ => (hq_.1 k_ hs_.symm).1.2) (fun hn_ => (Kd.freshB (oP BK1070) k_ hn_)), Or.elim hk_ (fun hs_ => (hq_.1 k_ hs_.symm).2) (fun hn_ => (Kd.freshB (oP BK1074) k_ hn_))⟩)) (below_size (oB HB))) (o2_ (blk_below (oP BK1069) hb) (o2_ (blk_below (oP BK1070) hb) (o2_ (blk_below (oP BK1074) hb) (o1_ (below_step (oB HB) hb))))))); clear HO1063 HO1077 BK1069 BK1070 BK1074 HB; obtain ⟨HO1063, HO1077, HO1082, BK1069, BK1070, BK1074, HB⟩ := n_; clear hq_; (try clear hb); (try clear hb2); (try clear hk); (try clear hi); (try clear ho0)) | ((with_reducible refine gate_dst (N := 8) rfl ?_); (try (refine gate_guard (by rfl) ?_; dsimp only)); refine box_event ?hg (N := 8) ?hd (cs := #[.int .i64 0, .int .i64 0, .slice none 0 0]) (t := 25) ?hr ?_; (case hd => rfl); (case hg => rfl); (case hr => first | (go_simp; done) | (go_simp; rfl)); intro gb1083 hg w36 hbox hb; have n_ := o2_ (Kd.Q_below (oQ HO1063) hb) (o2_ (Kd.R_below (oR HO1077) hb) (o2_ (Kd.V_below (Kd.V_elderB (oV HO1082) gb1083 (Nat.le_of_eq hg.symm)) hb) (o2_ (blk_below (oP BK1069) hb) (o2_ (blk_below (oP BK1070) hb) (o2_ (blk_below (oP BK1074) hb) (o2_ (below_step (oB HB) hb) (o2_ (hbox) (o2_ ((oG hg (below_size (oB HB)) : w.heap.size ≤ gb1083)) (o2_ ((oG hg (below_size (oB HB)) : w.heap.size ≤ gb1083)) (o2_ ((oL hg (blk_lt (oP BK1069)))) (o2_ ((oN hg (blk_lt (oP BK1069)))) (o2_ ((oL hg (blk_lt (oP BK1070)))) (o2_ ((oN hg (blk_lt (oP BK1070)))) (o2_ ((oL hg (blk_lt (oP BK1074)))) (o1_ ((oN hg (blk_lt (oP BK1074))))))))))))))))))); clear HO1063 HO1077 HO1082 BK1069 BK1070 BK1074 HB; obtain ⟨HO1063, HO1077, HO1082, BK1069, BK1070, BK1074, HB, BK1083, GW1083, GE1083, NB1069_1083, NB1083_1069, NB1070_1083, NB1083_1070, NB1074_1083, NB1083_1074⟩ := n_; clear hb hbox hg; have hnb37 := NB1083_1069.out; have hnc37 := NB1069_1083.out; have hnb38 := NB1083_1070.out; have hnc38 := NB1070_1083.out; have hnb39 := NB1083_1074.out; have hnc39 := NB1074_1083.out; have hcz40_0 : w36.cell? ⟨gb1083, 0, none⟩ = some (.int .i64 0) := (blk_cell BK1083.out 0).trans rfl; have hcz40_1 : w36.cell? ⟨gb1083, 1, none⟩ = some (.int .i64 0) := (blk_cell BK1083.out 1).trans rfl; have hcz40_2 : w36.cell? ⟨gb1083, 2, none⟩ = some (.slice none 0 0) := (blk_cell BK1083.out 2).trans rfl; have hfz40_0 := blk_frozen BK1083.out 0; have hfz40_1 := blk_frozen BK1083.out 1; have hfz40_2 := blk_frozen BK1083.out 2; obtain ⟨Ao41, co41, eo41⟩ := Kd.V_slice HO1082.out; subst eo41; have hcz42_0 : w36.cell? ⟨gb1069, 0, none⟩ = some (.int .i64 t1059) := (blk_cell BK1069.out 0).trans rfl; have hcz42_1 : w36.cell? ⟨gb1069, 1, none⟩ = some (.int .i64 t1060) := (blk_cell BK1069.out 1).trans rfl; have hcz42_2 : w36.cell? ⟨gb1069, 2, none⟩ = some (.slice Ao24 t1061.length co24) := (blk_cell BK1069.out 2).trans rfl; have hfz42_0 := blk_frozen BK1069.out 0; have hfz42_1 := blk_frozen BK1069.out 1; have hfz42_2 := blk_frozen BK1069.out 2) | ((with_reducible refine gate_dst (N := 48) rfl ?_); (try (refine gate_guard (by rfl) ?_; dsimp only)); refine Kd.R_lit k27 _ 27 ?hg (N := 48) ?hd (xs := ([(⟨7, 1, 1, 0, 0⟩ : S27)] : List (S27))) (inner := [.int .i64 7, .int .i64 1, .int .i64 1, .int .i64 0, .int .i64 0]) (ok := fun _ => True) (okp := fun _ => True) ?hr ?hp (fun _ hk => hk) trivial (Below.refl _ _) (Nat.le_refl _) (by simp) ?_; (case hd => rfl); (case hg => rfl); (case hr => first | (go_simp; done) | (go_simp; rfl)); (case hp => exact (Reps.c5 (show Kd.M k27 _ _ _ (⟨7, 1, 1, 0, 0⟩ : S27) [.int .i64 7, .int .i64 1, .int .i64 1, .int .i64 0, .int .i64 0] from (k27_mkM _ _ _ (⟨7, 1, 1, 0, 0⟩ : S27) )) (Reps.none _ _))); intro v1085 w43 ho44 hb hg_ hnew_; clear hg_ hnew_; (first | rw [← Ny1084.out] at ho44 | (simp only [Int.reduceToNat] at ho44; rw [← Ny1084.out] at ho44)); have n_ := o2_ (Kd.Q_below (by (with_reducible repeat (first | apply Kd.Q_alloc | apply Kd.Q_drewN | apply Kd.Q_drew)); exact (Kd.Q_mono (Kd.Q_far (p := ⟨gb1083, 2, none⟩) (Kd.Q_far (p := ⟨gb1083, 1, none⟩) (Kd.Q_far (p := ⟨gb1083, 0, none⟩) (Kd.Q_types HO1063.out BK1083.out oD) oX2 (.int .i64 t1078)) oX2 (.int .i64 t1079)) oX2 (.slice Ao41 t1080.length co41)) (fun _ h_ => h_.1))) hb) (o2_ (Kd.R_elder' (by (with_reducible repeat (first | apply Kd.R_alloc | apply Kd.R_drewN | apply Kd.R_drew)); exact (Kd.R_mono (Kd.R_far (p := ⟨gb1083, 2, none⟩) (Kd.R_far (p := ⟨gb1083, 1, none⟩) (Kd.R_far (p := ⟨gb1083, 0, none⟩) (Kd.R_types HO1077.out BK1083.out oD) oX2 (.int .i64 t1078)) oX2 (.int .i64 t1079)) oX2 (.slice Ao41 t1080.length co41)) (fun _ h_ => h_.1))) (Kd.R_base ho44) hb) (o2_ (Kd.V_elder' (by (with_reducible repeat (first | apply Kd.V_alloc | apply Kd.V_drewN | apply Kd.V_drew)); exact (Kd.V_mono (Kd.V_far (p := ⟨gb1083, 2, none⟩) (Kd.V_far (p := ⟨gb1083, 1, none⟩) (Kd.V_far (p := ⟨gb1083, 0, none⟩) (Kd.V_mono HO1082.out (fun k_ hk => (⟨hk, hk.2⟩ : _ ∧ k_ ≠ gb1083))) oX2 (.int .i64 t1078)) oX2 (.int .i64 t1079)) oX2 (.slice Ao41 t1080.length co41)) (fun _ h_ => h_.1))) (Kd.R_base ho44) hb) (o2_ (Kd.R_lower (Kd.R_newB (Kd.R_newB (Kd.R_new' ho44 (Kd.R_lt (by (with_reducible repeat (first | apply Kd.R_alloc | apply Kd.R_drewN | apply Kd.R_drew)); exact (Kd.R_mono (Kd.R_far (p := ⟨gb1083, 2, none⟩) (Kd.R_far (p := ⟨gb1083, 1, none⟩) (Kd.R_far (p := ⟨gb1083, 0, none⟩) (Kd.R_types HO1077.out BK1083.out oD) oX2 (.int .i64 t1078)) oX2 (.int .i64 t1079)) oX2 (.slice Ao41 t1080.length co41)) (fun _ h_ => h_.1))))) (oP BK1070)) (oP BK1074)) (below_size (oB HB))) (o2_ (blk_below (oP BK1069) hb) (o2_ (blk_below (oP BK1070) hb) (o2_ (blk_below (oP BK1074) hb) (o2_ (blk_below (g := gb1083) (o := .cells #[.int .i64 t1078, .int .i64 t1079, .slice Ao41 t1080.length co41] 25 (0, 0)) (blk_put (blk_put (blk_put BK1083.out 0 _ rfl) 1 _ rfl) 2 _ rfl) hb) (o1_ (below_step (oB HB) hb))))))))); clear HO1063 HO1077 HO1082 BK1069 BK1070 BK1074 BK1083 HB; obtain ⟨HO1063, HO1077, HO1082, HO1086, BK1069, BK1070, BK1074, BK1083, HB⟩ := n_; clear hb ho44; obtain ⟨Ao45, co45, eo45⟩ := Kd.R_slice HO1086.out; subst eo45) | ((with_reducible refine gate_callee (f := 27) rfl ?_); refine goesL_ (some 49) rfl rfl Try.func27 oK rfl #[.agg #[.int .i64 t1059, .int .i64 t1060, .slice Ao24 t1061.length co24], .slice Ao45 y1084.length co45] rfl oA ?_; (with_reducible refine (laws_eaDo.calls kj2 t1059 t1060 (fun k_ => some k_ = (.slice Ao24 t1061.length co24 : Value).ownBlock) _ _ t1061 _ _ y1084 t1087 t1088 t1089 _ ?side1 ?side2 ?side3 A10.out).mono ?_); (case side1 => exact Kd.Q_V (Kd.Q_tight rfl (Kd.Q_types (Kd.Q_types (Kd.Q_types (Kd.Q_types (Kd.Q_apart' (Kd.Q_apart' (HO1063.out) (Kd.R_typed HO1077.out) oD) (Kd.R_typed HO1086.out) oD) BK1069.out oD) BK1070.out oD) BK1074.out oD) BK1083.out oD))); (case side2 => repeat (first | exact (Kd.R_reads' HO1086.out).2.2 | (with_reducible refine Kd.C_alloc ?_ _) | (with_reducible refine Kd.C_drewN ?_ _) | (with_reducible refine Kd.C_drew ?_))); (case side3 => exact (Kd.R_reads' HO1086.out).2.1); rintro e w46 ⟨v1090, rfl, ho0, hb⟩; refine ⟨_, rfl, ?_⟩; have hq_ := (Kd.Q_types (Kd.Q_types (Kd.Q_types (Kd.Q_types (Kd.Q_apart' (Kd.Q_apart' (HO1063.out) (Kd.R_typed HO1077.out) oD) (Kd.R_typed HO1086.out) oD) BK1069.out oD) BK1070.out oD) BK1074.out oD) BK1083.out oD); have n_ := o2_ (Kd.Q_below (oQ HO1063) hb) (o2_ (Kd.R_below (oR HO1077) hb) (o2_ (Kd.V_below (oV HO1082) hb) (o2_ (Kd.R_below (oR HO1086) hb) (o2_ (Kd.V_lower (Kd.V_mono (ok' := fun k_ => some k_ ≠ (.slice Ao34 y1075.length co34 : Value).ownBlock ∧ some k_ ≠ (.slice Ao45 y1084.length co45 : Value).ownBlock ∧ k_ ≠ gb1069 ∧ k_ ≠ gb1070 ∧ k_ ≠ gb1074 ∧ k_ ≠ gb1083) ho0 (fun k_ hk_ => ⟨Or.elim hk_ (fun hs_ => (hq_.1 k_ hs_.symm).1.1.1.1.1.2) (fun hn_ => (Kd.fresh' (Kd.R_lt (oR HO1077)) k_ hn_)), Or.elim hk_ (fun hs_ => (hq_.1 k_ hs_.symm).1.1.1.1.2) (fun hn_ => (Kd.fresh' (Kd.R_lt (oR HO1086)) k_ hn_)), Or.elim hk_ (fun hs_ => (hq_.1 k_ hs_.symm).1.1.1.2) (fun hn_ => (Kd.freshB (oP BK1069) k_ hn_)), Or.elim hk_ (fun hs_ => (hq_.1 k_ hs_.symm).1.1.2) (fun hn_ => (Kd.freshB (oP BK1070) k_ hn_)), Or.elim hk_ (fun hs_ => (hq_.1 k_ hs_.symm).1.2) (fun hn_ => (Kd.freshB (oP BK1074) k_ hn_)), Or.elim hk_ (fun hs_ => (hq_.1 k_ hs_.symm).2) (fun hn_ => (Kd.freshB (oP BK1083) k_ hn_))⟩)) (below_size (oB HB))) (o2_ (blk_below (oP BK1069) hb) (o2_ (blk_below (oP BK1070) hb) (o2_ (blk_below (oP BK1074) hb) (o2_ (blk_below (oP BK1083) hb) (o1_ (below_step (oB HB) hb)))))))))); clear HO1063 HO1077 HO1082 HO1086 BK1069 BK1070 BK1074 BK1083 HB; obtain ⟨HO1063, HO1077, HO1082, HO1086, HO1091, BK1069, BK1070, BK1074, BK1083, HB⟩ := n_; clear hq_; (try clear hb); (try clear hb2); (try clear hk); (try clear hi); (try clear ho0)) | ((with_reducible refine gate_dst (N := 9) rfl ?_); (try (refine gate_guard (by rfl) ?_; dsimp only)); refine box_event ?hg (N := 9) ?hd (cs := #[.int .i64 0, .int .i64 0, .slice none 0 0]) (t := 25) ?hr ?_; (case hd => rfl); (case hg => rfl); (case hr => first | (go_simp; done) | (go_simp; rfl)); intro gb1092 hg w47 hbox hb; have n_ := o2_ (Kd.Q_below (oQ HO1063) hb) (o2_ (Kd.R_below (oR HO1077) hb) (o2_ (Kd.V_below (Kd.V_elderB (oV HO1082) gb1092 (Nat.le_of_eq hg.symm)) hb) (o2_ (Kd.R_below (oR HO1086) hb) (o2_ (Kd.V_below (Kd.V_elderB (oV HO1091) gb1092 (Nat.le_of_eq hg.symm)) hb) (o2_ (blk_below (oP BK1069) hb) (o2_ (blk_below (oP BK1070) hb) (o2_ (blk_below (oP BK1074) hb) (o2_ (blk_below (oP BK1083) hb) (o2_ (below_step (oB HB) hb) (o2_ (hbox) (o2_ ((oG hg (below_size (oB HB)) : w.heap.size ≤ gb1092)) (o2_ ((oG hg (below_size (oB HB)) : w.heap.size ≤ gb1092)) (o2_ ((oL hg (blk_lt (oP BK1069)))) (o2_ ((oN hg (blk_lt (oP BK1069)))) (o2_ ((oL hg (blk_lt (oP BK1070)))) (o2_ ((oN hg (blk_lt (oP BK1070)))) (o2_ ((oL hg (blk_lt (oP BK1074)))) (o2_ ((oN hg (blk_lt (oP BK1074)))) (o2_ ((oL hg (blk_lt (oP BK1083)))) (o1_ ((oN hg (blk_lt (oP BK1083)))))))))))))))))))))))); clear HO1063 HO1077 HO1082 HO1086 HO1091 BK1069 BK1070 BK1074 BK1083 HB; obtain ⟨HO1063, HO1077, HO1082, HO1086, HO1091, BK1069, BK1070, BK1074, BK1083, HB, BK1092, GW1092, GE1092, NB1069_1092, NB1092_1069, NB1070_1092, NB1092_1070, NB1074_1092, NB1092_1074, NB1083_1092, NB1092_1083⟩ := n_; clear hb hbox hg; have hnb48 := NB1092_1069.out; have hnc48 := NB1069_1092.out; have hnb49 := NB1092_1070.out; have hnc49 := NB1070_1092.out; have hnb50 := NB1092_1074.out; have hnc50 := NB1074_1092.out; have hnb51 := NB1092_1083.out; have hnc51 := NB1083_1092.out; have hcz52_0 : w47.cell? ⟨gb1092, 0, none⟩ = some (.int .i64 0) := (blk_cell BK1092.out 0).trans rfl; have hcz52_1 : w47.cell? ⟨gb1092, 1, none⟩ = some (.int .i64 0) := (blk_cell BK1092.out 1).trans rfl; have hcz52_2 : w47.cell? ⟨gb1092, 2, none⟩ = some (.slice none 0 0) := (blk_cell BK1092.out 2).trans rfl; have hfz52_0 := blk_frozen BK1092.out 0; have hfz52_1 := blk_frozen BK1092.out 1; have hfz52_2 := blk_frozen BK1092.out 2; obtain ⟨Ao53, co53, eo53⟩ := Kd.V_slice HO1091.out; subst eo53))
         have n0_ : Aside0 (Kd.Q k38 38 (((w47.setCell ⟨gb1092, 0, none⟩ (.int .i64 t1087)).setCell ⟨gb1092, 1, none⟩ (.int .i64 t1088)).setCell ⟨gb1092, 2, none⟩ (.slice Ao53 t1089.length co53)) w.heap.size (fun _ => True) (.slice Ao24 t1061.length co24) t1061) := ⟨(by (with_reducible repeat (first | apply Kd.Q_alloc | apply Kd.Q_drewN | apply Kd.Q_drew)); exact Kd.Q_mono (Kd.Q_far (p := ⟨gb1092, 2, none⟩) (Kd.Q_far (p := ⟨gb1092, 1, none⟩) (Kd.Q_far (p := ⟨gb1092, 0, none⟩) (Kd.Q_types HO1063.out BK1092.out oD) oX2 (.int .i64 t1087)) oX2 (.int .i64 t1088)) oX2 (.slice Ao53 t1089.length co53)) (fun _ hk => trivial))⟩
         have n1_ : Aside0 (Kd.R k27 27 (((w47.setCell ⟨gb1092, 0, none⟩ (.int .i64 t1087)).setCell ⟨gb1092, 1, none⟩ (.int .i64 t1088)).setCell ⟨gb1092, 2, none⟩ (.slice Ao53 t1089.length co53)) w.heap.size (fun k_ => some k_ ≠ (.slice Ao45 y1084.length co45 : Value).ownBlock ∧ k_ ≠ gb1070 ∧ k_ ≠ gb1074) (.slice Ao34 y1075.length co34) y1075) := ⟨(by (with_reducible repeat (first | apply Kd.R_alloc | apply Kd.R_drewN | apply Kd.R_drew)); exact Kd.R_mono (Kd.R_far (p := ⟨gb1092, 2, none⟩) (Kd.R_far (p := ⟨gb1092, 1, none⟩) (Kd.R_far (p := ⟨gb1092, 0, none⟩) (Kd.R_types HO1077.out BK1092.out oD) oX2 (.int .i64 t1087)) oX2 (.int .i64 t1088)) oX2 (.slice Ao53 t1089.length co53)) (fun _ hk => by first | exact ⟨hk.1.2, ⟨hk.1.1.1.2, hk.1.1.2⟩⟩ | exact trivial | (revert hk; simp; done) | (simp_all; done)))⟩
         have n2_ : Aside0 (Kd.V k38 38 (((w47.setCell ⟨gb1092, 0, none⟩ (.int .i64 t1087)).setCell ⟨gb1092, 1, none⟩ (.int .i64 t1088)).setCell ⟨gb1092, 2, none⟩ (.slice Ao53 t1089.length co53)) w.heap.size (fun k_ => some k_ ≠ (.slice Ao34 y1075.length co34 : Value).ownBlock ∧ some k_ ≠ (.slice Ao45 y1084.length co45 : Value).ownBlock ∧ k_ ≠ gb1069 ∧ k_ ≠ gb1070 ∧ k_ ≠ gb1074 ∧ k_ ≠ gb1083 ∧ k_ ≠ gb1092) (.slice Ao41 t1080.length co41) t1080) := ⟨(by (with_reducible repeat (first | apply Kd.V_alloc | apply Kd.V_drewN | apply Kd.V_drew)); exact Kd.V_mono (Kd.V_far (p := ⟨gb1092, 2, none⟩) (Kd.V_far (p := ⟨gb1092, 1, none⟩) (Kd.V_far (p := ⟨gb1092, 0, none⟩) (Kd.V_mono HO1082.out (fun k_ hk => (⟨hk, hk.2⟩ : _ ∧ k_ ≠ gb1092))) oX2 (.int .i64 t1087)) oX2 (.int .i64 t1088)) oX2 (.slice Ao53 t1089.length co53)) (fun _ hk => by first | exact ⟨hk.1.1.1.1.1, ⟨hk.1.1.2, ⟨hk.1.1.1.1.2.1, ⟨hk.1.1.1.1.2.2.1, ⟨hk.1.1.1.1.2.2.2, ⟨hk.1.1.1.2, hk.1.2⟩⟩⟩⟩⟩⟩ | exact trivial | (revert hk; simp; done) | (simp_all; done)))⟩
         have n3_ : Aside0 (Kd.R k27 27 (((w47.setCell ⟨gb1092, 0, none⟩ (.int .i64 t1087)).setCell ⟨gb1092, 1, none⟩ (.int .i64 t1088)).setCell ⟨gb1092, 2, none⟩ (.slice Ao53 t1089.length co53)) w.heap.size (fun k_ => some k_ ≠ (.slice Ao34 y1075.length co34 : Value).ownBlock ∧ k_ ≠ gb1070 ∧ k_ ≠ gb1074) (.slice Ao45 y1084.length co45) y1084) := ⟨(by (with_reducible repeat (first | apply Kd.R_alloc | apply Kd.R_drewN | apply Kd.R_drew)); exact Kd.R_mono (Kd.R_far (p := ⟨gb1092, 2, none⟩) (Kd.R_far (p := ⟨gb1092, 1, none⟩) (Kd.R_far (p := ⟨gb1092, 0, none⟩) (Kd.R_types HO1086.out BK1092.out oD) oX2 (.int .i64 t1087)) oX2 (.int .i64 t1088)) oX2 (.slice Ao53 t1089.length co53)) (fun _ hk => by first | exact ⟨hk.1.1.1.2, ⟨hk.1.1.2, hk.1.2⟩⟩ | exact trivial | (revert hk; simp; done) | (simp_all; done)))⟩
         have n4_ : Aside0 (Kd.V k38 38 (((w47.setCell ⟨gb1092, 0, none⟩ (.int .i64 t1087)).setCell ⟨gb1092, 1, none⟩ (.int .i64 t1088)).setCell ⟨gb1092, 2, none⟩ (.slice Ao53 t1089.length co53)) w.heap.size (fun k_ => some k_ ≠ (.slice Ao34 y1075.length co34 : Value).ownBlock ∧ some k_ ≠ (.slice Ao45 y1084.length co45 : Value).ownBlock ∧ k_ ≠ gb1069 ∧ k_ ≠ gb1070 ∧ k_ ≠ gb1074 ∧ k_ ≠ gb1083 ∧ k_ ≠ gb1092) (.slice Ao53 t1089.length co53) t1089) := ⟨(by (with_reducible repeat (first | apply Kd.V_alloc | apply Kd.V_drewN | apply Kd.V_drew)); exact Kd.V_mono (Kd.V_far (p := ⟨gb1092, 2, none⟩) (Kd.V_far (p := ⟨gb1092, 1, none⟩) (Kd.V_far (p := ⟨gb1092, 0, none⟩) (Kd.V_mono HO1091.out (fun k_ hk => (⟨hk, hk.2⟩ : _ ∧ k_ ≠ gb1092))) oX2 (.int .i64 t1087)) oX2 (.int .i64 t1088)) oX2 (.slice Ao53 t1089.length co53)) (fun _ hk => by first | exact ⟨hk.1.1.1, ⟨hk.1.1.2.1, ⟨hk.1.1.2.2.1, ⟨hk.1.1.2.2.2.1, ⟨hk.1.1.2.2.2.2.1, ⟨hk.1.1.2.2.2.2.2, hk.1.2⟩⟩⟩⟩⟩⟩ | exact trivial | (revert hk; simp; done) | (simp_all; done)))⟩
         have n5_ : Aside0 ((((w47.setCell ⟨gb1092, 0, none⟩ (.int .i64 t1087)).setCell ⟨gb1092, 1, none⟩ (.int .i64 t1088)).setCell ⟨gb1092, 2, none⟩ (.slice Ao53 t1089.length co53)).heap[gb1069]? = some (.cells #[.int .i64 t1059, .int .i64 t1060, .slice Ao24 t1061.length co24] 25 (0, 0))) := ⟨(oP BK1069)⟩
         have n6_ : Aside0 ((((w47.setCell ⟨gb1092, 0, none⟩ (.int .i64 t1087)).setCell ⟨gb1092, 1, none⟩ (.int .i64 t1088)).setCell ⟨gb1092, 2, none⟩ (.slice Ao53 t1089.length co53)).heap[gb1070]? = some (.cells #[.int .i64 t1064, .int .i64 t1065, .int .i64 t1066, .int .i64 t1067, .int .i64 t1068] 27 (0, 0))) := ⟨(oP BK1070)⟩
         have n7_ : Aside0 ((((w47.setCell ⟨gb1092, 0, none⟩ (.int .i64 t1087)).setCell ⟨gb1092, 1, none⟩ (.int .i64 t1088)).setCell ⟨gb1092, 2, none⟩ (.slice Ao53 t1089.length co53)).heap[gb1074]? = some (.cells #[.int .i64 7, .int .i64 (1 + ((l1.length : Int) % 6)), .int .i64 (wrap64 (1 + (Int.tmod (wrap64 ((l1.length : Int) / 7)) 6))), .int .i64 0, .int .i64 0] 27 (0, 0))) := ⟨(oP BK1074)⟩
         have n8_ : Aside0 ((((w47.setCell ⟨gb1092, 0, none⟩ (.int .i64 t1087)).setCell ⟨gb1092, 1, none⟩ (.int .i64 t1088)).setCell ⟨gb1092, 2, none⟩ (.slice Ao53 t1089.length co53)).heap[gb1083]? = some (.cells #[.int .i64 t1078, .int .i64 t1079, .slice Ao41 t1080.length co41] 25 (0, 0))) := ⟨(oP BK1083)⟩
         have n9_ : Aside0 ((((w47.setCell ⟨gb1092, 0, none⟩ (.int .i64 t1087)).setCell ⟨gb1092, 1, none⟩ (.int .i64 t1088)).setCell ⟨gb1092, 2, none⟩ (.slice Ao53 t1089.length co53)).heap[gb1092]? = some (.cells #[.int .i64 t1087, .int .i64 t1088, .slice Ao53 t1089.length co53] 25 (0, 0))) := ⟨(blk_put (blk_put (blk_put BK1092.out 0 _ rfl) 1 _ rfl) 2 _ rfl)⟩
         have n10_ : Aside0 (Below w.heap.size w (((w47.setCell ⟨gb1092, 0, none⟩ (.int .i64 t1087)).setCell ⟨gb1092, 1, none⟩ (.int .i64 t1088)).setCell ⟨gb1092, 2, none⟩ (.slice Ao53 t1089.length co53))) := ⟨(oB HB)⟩
         (try clear HO1063)
         (try clear HO1077)
         (try clear HO1082)
         (try clear HO1086)
         (try clear HO1091)
         (try clear BK1069)
         (try clear BK1070)
         (try clear BK1074)
         (try clear BK1083)
         (try clear BK1092)
         (try clear HB)
         generalize (((w47.setCell ⟨gb1092, 0, none⟩ (.int .i64 t1087)).setCell ⟨gb1092, 1, none⟩ (.int .i64 t1088)).setCell ⟨gb1092, 2, none⟩ (.slice Ao53 t1089.length co53)) = w54 at n0_ n1_ n2_ n3_ n4_ n5_ n6_ n7_ n8_ n9_ n10_ ⊢
         have HO1063 := n0_
         have HO1077 := n1_
         have HO1082 := n2_
         have HO1086 := n3_
         have HO1091 := n4_
         have BK1069 := n5_
         have BK1070 := n6_
         have BK1074 := n7_
         have BK1083 := n8_
         have BK1092 := n9_
         have HB := n10_
         clear n0_ n1_ n2_ n3_ n4_ n5_ n6_ n7_ n8_ n9_ n10_
         have n_ := o2_ (Kd.Q_drew HO1063.out) (o2_ (Kd.R_drew HO1077.out) (o2_ (Kd.V_drew HO1082.out) (o2_ (Kd.R_drew HO1086.out) (o2_ (Kd.V_drew HO1091.out) (o2_ (blk_drew BK1069.out) (o2_ (blk_drew BK1070.out) (o2_ (blk_drew BK1074.out) (o2_ (blk_drew BK1083.out) (o2_ (blk_drew BK1092.out) (o1_ (below_drew1 HB.out)))))))))))
         clear HO1063 HO1077 HO1082 HO1086 HO1091 BK1069 BK1070 BK1074 BK1083 BK1092 HB
         obtain ⟨HO1063, HO1077, HO1082, HO1086, HO1091, BK1069, BK1070, BK1074, BK1083, BK1092, HB⟩ := n_
         have p1103 : 0 ≤ (0 : Int) := (by omega)
         have q1103 : 0 < (t1089.length : Int) := of_decide_eq_true oM
         obtain ⟨ad1103, e1103, hx1103_0, hx1103_1, hx1103_2, hx1103_3⟩ := at_T38 (Kd.V_reads' HO1091.out).2.2 0 p1103 q1103
         cases  e1103
         have qi1103 : (0 < t1089.length) = True := eq_true (by omega)
         (try rw [show ((0 : Int)).toNat = 0 from rfl] at hx1103_0)
         (try rw [show 0 * 4 = 0 from rfl] at hx1103_0)
         (try rw [Addr.add_zero'] at hx1103_0)
         (try rw [show ((0 : Int)).toNat = 0 from rfl] at hx1103_1)
         (try rw [show 0 * 4 = 0 from rfl] at hx1103_1)
         (try rw [Addr.add_zero'] at hx1103_1)
         (try rw [show ((0 : Int)).toNat = 0 from rfl] at hx1103_2)
         (try rw [show 0 * 4 = 0 from rfl] at hx1103_2)
         (try rw [Addr.add_zero'] at hx1103_2)
         (try rw [show ((0 : Int)).toNat = 0 from rfl] at hx1103_3)
         (try rw [show 0 * 4 = 0 from rfl] at hx1103_3)
         (try rw [Addr.add_zero'] at hx1103_3)
         replace p1103 := eq_true p1103
         replace q1103 := eq_true q1103
         refine start_ (n := 32) (S := fun w' => w'.cell? ⟨gb1083, 0, none⟩ = some (.int .i64 t1078) ∧ w'.cell? ⟨gb1083, 1, none⟩ = some (.int .i64 t1079) ∧ w'.cell? ⟨gb1083, 2, none⟩ = some (.slice Ao41 t1080.length co41) ∧ w'.cell? ⟨gb1074, 0, none⟩ = some (.int .i64 7) ∧ w'.cell? ⟨gb1074, 1, none⟩ = some (.int .i64 (1 + ((l1.length : Int) % 6))) ∧ w'.cell? ⟨gb1074, 2, none⟩ = some (.int .i64 (wrap64 (1 + (Int.tmod (wrap64 ((l1.length : Int) / 7)) 6)))) ∧ w'.cell? ⟨gb1074, 3, none⟩ = some (.int .i64 0) ∧ w'.cell? ⟨gb1074, 4, none⟩ = some (.int .i64 0) ∧ w'.cell? ⟨gb1092, 0, none⟩ = some (.int .i64 t1087) ∧ w'.cell? ⟨gb1092, 1, none⟩ = some (.int .i64 t1088) ∧ w'.cell? ⟨gb1092, 2, none⟩ = some (.slice (some ad1103) t1089.length co53) ∧ w'.cell? ⟨gb1069, 0, none⟩ = some (.int .i64 t1059) ∧ w'.cell? ⟨gb1069, 1, none⟩ = some (.int .i64 t1060) ∧ w'.cell? ⟨gb1069, 2, none⟩ = some (.slice Ao24 t1061.length co24) ∧ w'.cell? ad1103 = some (.int .i64 ((rd_T38 t1089 0).f0)) ∧ w'.cell? ⟨ad1103.block, ad1103.off + 1, none⟩ = some (.int .i64 ((rd_T38 t1089 0).f1)) ∧ w'.cell? ⟨ad1103.block, ad1103.off + 2, none⟩ = some (.int .i64 ((rd_T38 t1089 0).f2)) ∧ w'.cell? ⟨ad1103.block, ad1103.off + 3, none⟩ = some (.int .i64 ((rd_T38 t1089 0).f3))) (ds := []) #[false, false, false, false, false, false, false, false, false, false, false, false, false, false, false, false, false, false, false, false, false, false, false, false, false, false, false, false, false, false, false, false] oK rfl rfl ⟨(blk_cell BK1083.out 0).trans rfl, (blk_cell BK1083.out 1).trans rfl, (blk_cell BK1083.out 2).trans rfl, (blk_cell BK1074.out 0).trans rfl, (blk_cell BK1074.out 1).trans rfl, (blk_cell BK1074.out 2).trans rfl, (blk_cell BK1074.out 3).trans rfl, (blk_cell BK1074.out 4).trans rfl, (blk_cell BK1092.out 0).trans rfl, (blk_cell BK1092.out 1).trans rfl, (blk_cell BK1092.out 2).trans rfl, (blk_cell BK1069.out 0).trans rfl, (blk_cell BK1069.out 1).trans rfl, (blk_cell BK1069.out 2).trans rfl, hx1103_0, hx1103_1, hx1103_2, hx1103_3⟩ (fun hHeld => ?_); refine with_tabW laws_FnOpSizeTwice.tab9 laws_FnOpSizeTwice.bits9 (fun HT_ HW_ => ?_)
         generalize w54.drew = w55 at HO1063 HO1077 HO1082 HO1086 HO1091 BK1069 BK1070 BK1074 BK1083 BK1092 HB hx1103_0 hx1103_1 hx1103_2 hx1103_3 hHeld ⊢
         refine take_ (i := 0) (N := some 50) (v := ?_) (a' := ?_) #[true, false, false, false, false, false, false, false, false, false, false, false, false, false, false, false, false, false, false, false, false, false, false, false, false, false, false, false, false, false, false, false] rfl rfl (take_ofW HT_.out HW_.out oK) (fun _ _ _ h => h) (Or.inl ⟨by rfl, ?_⟩) hHeld ?_ ?_
         rotate_left
         ·rintro w' ⟨s0, s1, s2, s3, s4, s5, s6, s7, s8, s9, s10, s11, s12, s13, s14, s15, s16, s17⟩
          go_simp
          with_reducible rfl
         rotate_left
         ·simp only [Act.put, List.setIfInBounds_toArray, List.set_cons_zero, List.set_cons_succ, i64_w, i32_w]
          rfl
         refine take_ (i := 1) (N := some 51) (v := ?_) (a' := ?_) #[true, true, false, false, false, false, false, false, false, false, false, false, false, false, false, false, false, false, false, false, false, false, false, false, false, false, false, false, false, false, false, false] rfl rfl (take_ofW HT_.out HW_.out oK) (fun _ _ _ h => h) (Or.inl ⟨by rfl, ?_⟩) hHeld ?_ ?_
         rotate_left
         ·rintro w' ⟨s0, s1, s2, s3, s4, s5, s6, s7, s8, s9, s10, s11, s12, s13, s14, s15, s16, s17⟩
          go_simp
          with_reducible rfl
         rotate_left
         ·simp only [Act.put, List.setIfInBounds_toArray, List.set_cons_zero, List.set_cons_succ, i64_w, i32_w]
          rfl
         refine take_ (i := 4) (N := some 54) (v := ?_) (a' := ?_) #[true, true, false, false, true, false, false, false, false, false, false, false, false, false, false, false, false, false, false, false, false, false, false, false, false, false, false, false, false, false, false, false] rfl rfl (take_ofW HT_.out HW_.out oK) (fun _ _ _ h => h) (Or.inl ⟨by rfl, ?_⟩) hHeld ?_ ?_
         rotate_left
         ·rintro w' ⟨s0, s1, s2, s3, s4, s5, s6, s7, s8, s9, s10, s11, s12, s13, s14, s15, s16, s17⟩
          go_simp
          with_reducible rfl
         rotate_left
         ·simp only [Act.put, List.setIfInBounds_toArray, List.set_cons_zero, List.set_cons_succ, i64_w, i32_w]
          rfl
         refine one_ (i := 2) (N := some 52) #[true, true, true, false, true, false, false, false, false, false, false, false, false, false, false, false, false, false, false, false, false, false, false, false, false, false, false, false, false, false, false, false] rfl rfl (one_of HT_.out oK) oD (fun K hK => ?_)
         refine Kd.R_lit_step k27 _ 27 ?hg (N := 52) ?hd (xs := ([(⟨7, 1 + ((l1.length : Int) % 6), wrap64 (1 + (Int.tmod (wrap64 ((l1.length : Int) / 7)) 6)), 0, 0⟩ : S27)] : List (S27))) (inner := [.int .i64 7, .int .i64 (1 + ((l1.length : Int) % 6)), .int .i64 (wrap64 (1 + (Int.tmod (wrap64 ((l1.length : Int) / 7)) 6))), .int .i64 0, .int .i64 0]) (ok := fun _ => True) (okp := fun _ => True) ?hr ?hp (fun _ hk => hk) trivial (Below.refl _ _) (Nat.le_refl _) (by simp) ?_; (case hd => rfl); (case hg => rfl); (case hr => first | (go_simp; done) | (go_simp; rfl)); (case hp => exact (Reps.c5 (show Kd.M k27 _ _ _ (⟨7, 1 + ((l1.length : Int) % 6), wrap64 (1 + (Int.tmod (wrap64 ((l1.length : Int) / 7)) 6)), 0, 0⟩ : S27) [.int .i64 7, .int .i64 (1 + ((l1.length : Int) % 6)), .int .i64 (wrap64 (1 + (Int.tmod (wrap64 ((l1.length : Int) / 7)) 6))), .int .i64 0, .int .i64 0] from (k27_mkM _ _ _ (⟨7, 1 + ((l1.length : Int) % 6), wrap64 (1 + (Int.tmod (wrap64 ((l1.length : Int) / 7)) 6)), 0, 0⟩ : S27) )) (Reps.none _ _)))
         intro v1094 w56 ho57 hb hg_ hnew_
         have HS14_ := (hb.cell (World.block_lt_of_cell? _ _ (hHeld.2.2.2.2.2.2.2.2.2.2.2.2.2.2.1))).trans (hHeld.2.2.2.2.2.2.2.2.2.2.2.2.2.2.1)
         have HS15_ := (hb.cell (World.block_lt_of_cell? _ _ (hHeld.2.2.2.2.2.2.2.2.2.2.2.2.2.2.2.1))).trans (hHeld.2.2.2.2.2.2.2.2.2.2.2.2.2.2.2.1)
         have HS16_ := (hb.cell (World.block_lt_of_cell? _ _ (hHeld.2.2.2.2.2.2.2.2.2.2.2.2.2.2.2.2.1))).trans (hHeld.2.2.2.2.2.2.2.2.2.2.2.2.2.2.2.2.1)
         have HS17_ := (hb.cell (World.block_lt_of_cell? _ _ (hHeld.2.2.2.2.2.2.2.2.2.2.2.2.2.2.2.2.2))).trans (hHeld.2.2.2.2.2.2.2.2.2.2.2.2.2.2.2.2.2)
         clear hg_ hnew_
         (first | rw [← Ny1093.out] at ho57 | (simp only [Int.reduceToNat] at ho57; rw [← Ny1093.out] at ho57))
         have n_ := o2_ (Kd.Q_below (oQ HO1063) hb) (o2_ (Kd.R_elder' (oR HO1077) (Kd.R_base ho57) hb) (o2_ (Kd.V_elder' (oV HO1082) (Kd.R_base ho57) hb) (o2_ (Kd.R_elder' (oR HO1086) (Kd.R_base ho57) hb) (o2_ (Kd.R_lower (Kd.R_newB (Kd.R_newB (Kd.R_new' (Kd.R_new' ho57 (Kd.R_lt (oR HO1077))) (Kd.R_lt (oR HO1086))) (oP BK1070)) (oP BK1074)) (below_size (oB HB))) (o2_ (blk_below (oP BK1069) hb) (o2_ (blk_below (oP BK1070) hb) (o2_ (blk_below (oP BK1074) hb) (o2_ (blk_below (oP BK1083) hb) (o2_ (blk_below (oP BK1092) hb) (o1_ (below_step (oB HB) hb)))))))))))
         clear HO1063 HO1077 HO1082 HO1086 BK1069 BK1070 BK1074 BK1083 BK1092 HB
         obtain ⟨HO1063, HO1077, HO1082, HO1086, HO1095, BK1069, BK1070, BK1074, BK1083, BK1092, HB⟩ := n_
         clear hb ho57
         obtain ⟨Ao58, co58, eo58⟩ := Kd.R_slice HO1095.out
         (first | subst eo58 | (injection eo58 with f1_ f2_ f3_; have f4_ := f1_.symm; have f5_ := f3_.symm; clear f1_ f2_ f3_; subst f4_; subst f5_))
         refine hK.out _ _ ⟨(blk_cell BK1083.out 0).trans rfl, (blk_cell BK1083.out 1).trans rfl, (blk_cell BK1083.out 2).trans rfl, (blk_cell BK1074.out 0).trans rfl, (blk_cell BK1074.out 1).trans rfl, (blk_cell BK1074.out 2).trans rfl, (blk_cell BK1074.out 3).trans rfl, (blk_cell BK1074.out 4).trans rfl, (blk_cell BK1092.out 0).trans rfl, (blk_cell BK1092.out 1).trans rfl, (blk_cell BK1092.out 2).trans rfl, (blk_cell BK1069.out 0).trans rfl, (blk_cell BK1069.out 1).trans rfl, (blk_cell BK1069.out 2).trans rfl, HS14_, HS15_, HS16_, HS17_⟩ (fun hHeld => ?_)
         clear hK K
         refine norm_ (a' := ?_) ?_ ?_
         rotate_left
         ·show Act.put _ (some 52) _ = _
          simp only [Act.put, List.setIfInBounds_toArray, List.set_cons_zero, List.set_cons_succ, i64_w, i32_w]
          rfl
         refine one_ (i := 3) (N := some 53) #[true, true, true, true, true, false, false, false, false, false, false, false, false, false, false, false, false, false, false, false, false, false, false, false, false, false, false, false, false, false, false, false] rfl rfl (one_of HT_.out oK) oD (fun K hK => ?_)
         refine goes_ Try.func27 oK rfl #[.agg #[.int .i64 t1078, .int .i64 t1079, .slice Ao41 t1080.length co41], .slice Ao58 y1093.length co58] (by rfl) rfl rfl oA ?_
         with_reducible refine (laws_eaDo.calls kj2 t1078 t1079 (fun k_ => ((some k_ ≠ (.slice Ao34 y1075.length co34 : Value).ownBlock ∧ (some k_ ≠ (.slice Ao45 y1084.length co45 : Value).ownBlock ∧ (k_ ≠ gb1069 ∧ (k_ ≠ gb1070 ∧ (k_ ≠ gb1074 ∧ (k_ ≠ gb1083 ∧ k_ ≠ gb1092)))))) ∧ some k_ ≠ (.slice Ao58 y1093.length co58 : Value).ownBlock)) _ _ t1080 _ _ y1093 t1096 t1097 t1098 _ ?side1 ?side2 ?side3 A11.out).mono ?_
         (case side1 => exact HO1082.out)
         (case side2 => repeat (first | exact (Kd.R_reads' HO1095.out).2.2 | (with_reducible refine Kd.C_alloc ?_ _) | (with_reducible refine Kd.C_drewN ?_ _) | (with_reducible refine Kd.C_drew ?_)))
         (case side3 => exact (Kd.R_reads' HO1095.out).2.1)
         rintro e w59 ⟨v1099, rfl, ho0, hb⟩
         have HS14_ := (hb.cell (World.block_lt_of_cell? _ _ (hHeld.2.2.2.2.2.2.2.2.2.2.2.2.2.2.1))).trans (hHeld.2.2.2.2.2.2.2.2.2.2.2.2.2.2.1)
         have HS15_ := (hb.cell (World.block_lt_of_cell? _ _ (hHeld.2.2.2.2.2.2.2.2.2.2.2.2.2.2.2.1))).trans (hHeld.2.2.2.2.2.2.2.2.2.2.2.2.2.2.2.1)
         have HS16_ := (hb.cell (World.block_lt_of_cell? _ _ (hHeld.2.2.2.2.2.2.2.2.2.2.2.2.2.2.2.2.1))).trans (hHeld.2.2.2.2.2.2.2.2.2.2.2.2.2.2.2.2.1)
         have HS17_ := (hb.cell (World.block_lt_of_cell? _ _ (hHeld.2.2.2.2.2.2.2.2.2.2.2.2.2.2.2.2.2))).trans (hHeld.2.2.2.2.2.2.2.2.2.2.2.2.2.2.2.2.2)
         refine ⟨_, rfl, ?_⟩
         have n_ := o2_ (Kd.Q_below (oQ HO1063) hb) (o2_ (Kd.V_below (oV HO1082) hb) (o2_ (Kd.V_lower (Kd.V_mono (ok' := fun k_ => some k_ ≠ (.slice Ao34 y1075.length co34 : Value).ownBlock ∧ some k_ ≠ (.slice Ao45 y1084.length co45 : Value).ownBlock ∧ some k_ ≠ (.slice Ao58 y1093.length co58 : Value).ownBlock ∧ k_ ≠ gb1069 ∧ k_ ≠ gb1070 ∧ k_ ≠ gb1074 ∧ k_ ≠ gb1083 ∧ k_ ≠ gb1092) ho0 (fun k_ hk_ => ⟨Or.elim hk_ (fun hs_ => hs_.1.1) (fun hn_ => (Kd.fresh' (Kd.R_lt (oR HO1077)) k_ hn_)), Or.elim hk_ (fun hs_ => hs_.1.2.1) (fun hn_ => (Kd.fresh' (Kd.R_lt (oR HO1086)) k_ hn_)), Or.elim hk_ (fun hs_ => hs_.2) (fun hn_ => (Kd.fresh' (Kd.R_lt (oR HO1095)) k_ hn_)), Or.elim hk_ (fun hs_ => hs_.1.2.2.1) (fun hn_ => (Kd.freshB (oP BK1069) k_ hn_)), Or.elim hk_ (fun hs_ => hs_.1.2.2.2.1) (fun hn_ => (Kd.freshB (oP BK1070) k_ hn_)), Or.elim hk_ (fun hs_ => hs_.1.2.2.2.2.1) (fun hn_ => (Kd.freshB (oP BK1074) k_ hn_)), Or.elim hk_ (fun hs_ => hs_.1.2.2.2.2.2.1) (fun hn_ => (Kd.freshB (oP BK1083) k_ hn_)), Or.elim hk_ (fun hs_ => hs_.1.2.2.2.2.2.2) (fun hn_ => (Kd.freshB (oP BK1092) k_ hn_))⟩)) (below_size (oB HB))) (o2_ (blk_below (oP BK1069) hb) (o2_ (blk_below (oP BK1070) hb) (o2_ (blk_below (oP BK1074) hb) (o2_ (blk_below (oP BK1083) hb) (o2_ (blk_below (oP BK1092) hb) (o1_ (below_step (oB HB) hb)))))))))
         clear HO1063 HO1082 BK1069 BK1070 BK1074 BK1083 BK1092 HB
         obtain ⟨HO1063, HO1082, HO1100, BK1069, BK1070, BK1074, BK1083, BK1092, HB⟩ := n_
         (try clear hb)
         (try clear hb2)
         (try clear hk)
         (try clear hi)
         (try clear ho0)
         obtain ⟨Ao60, co60, eo60⟩ := Kd.V_slice HO1100.out
         (first | subst eo60 | (injection eo60 with f1_ f2_ f3_; have f4_ := f1_.symm; have f5_ := f3_.symm; clear f1_ f2_ f3_; subst f4_; subst f5_))
         refine hK.out _ _ ⟨(blk_cell BK1083.out 0).trans rfl, (blk_cell BK1083.out 1).trans rfl, (blk_cell BK1083.out 2).trans rfl, (blk_cell BK1074.out 0).trans rfl, (blk_cell BK1074.out 1).trans rfl, (blk_cell BK1074.out 2).trans rfl, (blk_cell BK1074.out 3).trans rfl, (blk_cell BK1074.out 4).trans rfl, (blk_cell BK1092.out 0).trans rfl, (blk_cell BK1092.out 1).trans rfl, (blk_cell BK1092.out 2).trans rfl, (blk_cell BK1069.out 0).trans rfl, (blk_cell BK1069.out 1).trans rfl, (blk_cell BK1069.out 2).trans rfl, HS14_, HS15_, HS16_, HS17_⟩ (fun hHeld => ?_)
         clear hK K
         refine norm_ (a' := ?_) ?_ ?_
         rotate_left
         ·show Act.put _ (some 53) _ = _
          simp only [Act.put, List.setIfInBounds_toArray, List.set_cons_zero, List.set_cons_succ, i64_w, i32_w]
          rfl
         refine one_ (i := 5) (N := some 55) #[true, true, true, true, true, true, false, false, false, false, false, false, false, false, false, false, false, false, false, false, false, false, false, false, false, false, false, false, false, false, false, false] rfl rfl (one_of HT_.out oK) oD (fun K hK => ?_)
         refine goes_ Try.func21 oK rfl #[.agg #[.int .i64 t1096, .int .i64 t1097, .slice Ao60 t1098.length co60], .agg #[.int .i64 t1078, .int .i64 t1079, .slice Ao41 t1080.length co41]] (by rfl) rfl rfl oA ?_
         with_reducible refine (laws_eaRas.calls kj2 t1096 t1097 _ _ t1098 t1078 t1079 _ _ t1080 true _ ?side1 ?side2 ?side3 ?side4 A12.out).mono ?_
         (case side1 => repeat (first | exact (Kd.V_reads' HO1100.out).2.2 | (with_reducible refine Kd.C_alloc ?_ _) | (with_reducible refine Kd.C_drewN ?_ _) | (with_reducible refine Kd.C_drew ?_)))
         (case side2 => exact (Kd.V_reads' HO1100.out).2.1)
         (case side3 => repeat (first | exact (Kd.V_reads' HO1082.out).2.2 | (with_reducible refine Kd.C_alloc ?_ _) | (with_reducible refine Kd.C_drewN ?_ _) | (with_reducible refine Kd.C_drew ?_)))
         (case side4 => exact (Kd.V_reads' HO1082.out).2.1)
         rintro e w61 ⟨rfl, hb⟩
         have HS14_ := (hb.cell (World.block_lt_of_cell? _ _ (hHeld.2.2.2.2.2.2.2.2.2.2.2.2.2.2.1))).trans (hHeld.2.2.2.2.2.2.2.2.2.2.2.2.2.2.1)
         have HS15_ := (hb.cell (World.block_lt_of_cell? _ _ (hHeld.2.2.2.2.2.2.2.2.2.2.2.2.2.2.2.1))).trans (hHeld.2.2.2.2.2.2.2.2.2.2.2.2.2.2.2.1)
         have HS16_ := (hb.cell (World.block_lt_of_cell? _ _ (hHeld.2.2.2.2.2.2.2.2.2.2.2.2.2.2.2.2.1))).trans (hHeld.2.2.2.2.2.2.2.2.2.2.2.2.2.2.2.2.1)
         have HS17_ := (hb.cell (World.block_lt_of_cell? _ _ (hHeld.2.2.2.2.2.2.2.2.2.2.2.2.2.2.2.2.2))).trans (hHeld.2.2.2.2.2.2.2.2.2.2.2.2.2.2.2.2.2)
         refine ⟨_, rfl, ?_⟩
         have n_ := o2_ (Kd.Q_below (oQ HO1063) hb) (o2_ (Kd.V_below (oV HO1082) hb) (o2_ (blk_below (oP BK1069) hb) (o2_ (blk_below (oP BK1070) hb) (o2_ (blk_below (oP BK1074) hb) (o2_ (blk_below (oP BK1083) hb) (o2_ (blk_below (oP BK1092) hb) (o1_ (below_step (oB HB) hb))))))))
         clear HO1063 HO1082 BK1069 BK1070 BK1074 BK1083 BK1092 HB
         obtain ⟨HO1063, HO1082, BK1069, BK1070, BK1074, BK1083, BK1092, HB⟩ := n_
         (try clear hb)
         (try clear hb2)
         (try clear hk)
         (try clear hi)
         refine hK.out _ _ ⟨(blk_cell BK1083.out 0).trans rfl, (blk_cell BK1083.out 1).trans rfl, (blk_cell BK1083.out 2).trans rfl, (blk_cell BK1074.out 0).trans rfl, (blk_cell BK1074.out 1).trans rfl, (blk_cell BK1074.out 2).trans rfl, (blk_cell BK1074.out 3).trans rfl, (blk_cell BK1074.out 4).trans rfl, (blk_cell BK1092.out 0).trans rfl, (blk_cell BK1092.out 1).trans rfl, (blk_cell BK1092.out 2).trans rfl, (blk_cell BK1069.out 0).trans rfl, (blk_cell BK1069.out 1).trans rfl, (blk_cell BK1069.out 2).trans rfl, HS14_, HS15_, HS16_, HS17_⟩ (fun hHeld => ?_)
         clear hK K
         refine norm_ (a' := ?_) ?_ ?_
         rotate_left
         ·show Act.put _ (some 55) _ = _
          simp only [Act.put, List.setIfInBounds_toArray, List.set_cons_zero, List.set_cons_succ, i64_w, i32_w]
          rfl
         refine pure_ (i := 6) (N := some 56) (v := ?_) (a' := ?_) #[true, true, true, true, true, true, true, false, false, false, false, false, false, false, false, false, false, false, false, false, false, false, false, false, false, false, false, false, false, false, false, false] rfl rfl (any_of HT_.out oK) (fun _ _ _ h => h) (Or.inl ⟨by rfl, ?_⟩) ?_ ?_
         rotate_left
         ·intro w'
          go_simp
          with_reducible rfl
         rotate_left
         ·simp only [Act.put, List.setIfInBounds_toArray, List.set_cons_zero, List.set_cons_succ, i64_w, i32_w]
          rfl
         refine take_ (i := 7) (N := some 57) (v := ?_) (a' := ?_) #[true, true, true, true, true, true, true, true, false, false, false, false, false, false, false, false, false, false, false, false, false, false, false, false, false, false, false, false, false, false, false, false] rfl rfl (take_ofW HT_.out HW_.out oK) (fun _ _ _ h => h) (Or.inl ⟨by rfl, ?_⟩) hHeld ?_ ?_
         rotate_left
         ·rintro w' ⟨s0, s1, s2, s3, s4, s5, s6, s7, s8, s9, s10, s11, s12, s13, s14, s15, s16, s17⟩
          go_simp
          with_reducible rfl
         rotate_left
         ·simp only [Act.put, List.setIfInBounds_toArray, List.set_cons_zero, List.set_cons_succ, i64_w, i32_w]
          rfl
         refine one_ (i := 8) (N := some 58) #[true, true, true, true, true, true, true, true, true, false, false, false, false, false, false, false, false, false, false, false, false, false, false, false, false, false, false, false, false, false, false, false] rfl rfl (one_of HT_.out oK) oD (fun K hK => ?_)
         refine goes_ Try.func26 oK rfl #[.agg #[.int .i64 t1078, .int .i64 t1079, .slice Ao41 t1080.length co41]] (by rfl) rfl rfl oA ?_
         with_reducible refine (impl_RasOk.calls kj2 t1078 t1079 _ _ t1080 true _ ?side1 ?side2 A14.out).mono ?_
         (case side1 => repeat (first | exact (Kd.V_reads' HO1082.out).2.2 | (with_reducible refine Kd.C_alloc ?_ _) | (with_reducible refine Kd.C_drewN ?_ _) | (with_reducible refine Kd.C_drew ?_)))
         (case side2 => exact (Kd.V_reads' HO1082.out).2.1)
         rintro e w62 ⟨rfl, hb⟩
         have HS14_ := (hb.cell (World.block_lt_of_cell? _ _ (hHeld.2.2.2.2.2.2.2.2.2.2.2.2.2.2.1))).trans (hHeld.2.2.2.2.2.2.2.2.2.2.2.2.2.2.1)
         have HS15_ := (hb.cell (World.block_lt_of_cell? _ _ (hHeld.2.2.2.2.2.2.2.2.2.2.2.2.2.2.2.1))).trans (hHeld.2.2.2.2.2.2.2.2.2.2.2.2.2.2.2.1)
         have HS16_ := (hb.cell (World.block_lt_of_cell? _ _ (hHeld.2.2.2.2.2.2.2.2.2.2.2.2.2.2.2.2.1))).trans (hHeld.2.2.2.2.2.2.2.2.2.2.2.2.2.2.2.2.1)
         have HS17_ := (hb.cell (World.block_lt_of_cell? _ _ (hHeld.2.2.2.2.2.2.2.2.2.2.2.2.2.2.2.2.2))).trans (hHeld.2.2.2.2.2.2.2.2.2.2.2.2.2.2.2.2.2)
         refine ⟨_, rfl, ?_⟩
         have n_ := o2_ (Kd.Q_below (oQ HO1063) hb) (o2_ (blk_below (oP BK1069) hb) (o2_ (blk_below (oP BK1070) hb) (o2_ (blk_below (oP BK1074) hb) (o2_ (blk_below (oP BK1083) hb) (o2_ (blk_below (oP BK1092) hb) (o1_ (below_step (oB HB) hb)))))))
         clear HO1063 BK1069 BK1070 BK1074 BK1083 BK1092 HB
         obtain ⟨HO1063, BK1069, BK1070, BK1074, BK1083, BK1092, HB⟩ := n_
         (try clear hb)
         (try clear hb2)
         (try clear hk)
         (try clear hi)
         refine hK.out _ _ ⟨(blk_cell BK1083.out 0).trans rfl, (blk_cell BK1083.out 1).trans rfl, (blk_cell BK1083.out 2).trans rfl, (blk_cell BK1074.out 0).trans rfl, (blk_cell BK1074.out 1).trans rfl, (blk_cell BK1074.out 2).trans rfl, (blk_cell BK1074.out 3).trans rfl, (blk_cell BK1074.out 4).trans rfl, (blk_cell BK1092.out 0).trans rfl, (blk_cell BK1092.out 1).trans rfl, (blk_cell BK1092.out 2).trans rfl, (blk_cell BK1069.out 0).trans rfl, (blk_cell BK1069.out 1).trans rfl, (blk_cell BK1069.out 2).trans rfl, HS14_, HS15_, HS16_, HS17_⟩ (fun hHeld => ?_)
         clear hK K
         refine norm_ (a' := ?_) ?_ ?_
         rotate_left
         ·show Act.put _ (some 58) _ = _
          simp only [Act.put, List.setIfInBounds_toArray, List.set_cons_zero, List.set_cons_succ, i64_w, i32_w]
          rfl
         refine pure_ (i := 9) (N := some 59) (v := ?_) (a' := ?_) #[true, true, true, true, true, true, true, true, true, true, false, false, false, false, false, false, false, false, false, false, false, false, false, false, false, false, false, false, false, false, false, false] rfl rfl (any_of HT_.out oK) (fun _ _ _ h => h) (Or.inl ⟨by rfl, ?_⟩) ?_ ?_
         rotate_left
         ·intro w'
          go_simp
          with_reducible rfl
         rotate_left
         ·simp only [Act.put, List.setIfInBounds_toArray, List.set_cons_zero, List.set_cons_succ, i64_w, i32_w]
          rfl
         refine pure_ (i := 10) (N := some 60) (v := ?_) (a' := ?_) #[true, true, true, true, true, true, true, true, true, true, true, false, false, false, false, false, false, false, false, false, false, false, false, false, false, false, false, false, false, false, false, false] rfl rfl (any_of HT_.out oK) (fun _ _ _ h => h) (Or.inl ⟨by rfl, ?_⟩) ?_ ?_
         rotate_left
         ·intro w'
          go_simp
          with_reducible rfl
         rotate_left
         ·simp only [Act.put, List.setIfInBounds_toArray, List.set_cons_zero, List.set_cons_succ, i64_w, i32_w]
          rfl
         refine pure_ (i := 11) (N := some 61) (v := ?_) (a' := ?_) #[true, true, true, true, true, true, true, true, true, true, true, true, false, false, false, false, false, false, false, false, false, false, false, false, false, false, false, false, false, false, false, false] rfl rfl (any_of HT_.out oK) (fun _ _ _ h => h) (Or.inl ⟨by rfl, ?_⟩) ?_ ?_
         rotate_left
         ·intro w'
          go_simp
          with_reducible rfl
         rotate_left
         ·simp only [Act.put, List.setIfInBounds_toArray, List.set_cons_zero, List.set_cons_succ, i64_w, i32_w]
          rfl
         refine take_ (i := 12) (N := some 62) (v := ?_) (a' := ?_) #[true, true, true, true, true, true, true, true, true, true, true, true, true, false, false, false, false, false, false, false, false, false, false, false, false, false, false, false, false, false, false, false] rfl rfl (take_ofW HT_.out HW_.out oK) (fun _ _ _ h => h) (Or.inl ⟨by rfl, ?_⟩) hHeld ?_ ?_
         rotate_left
         ·rintro w' ⟨s0, s1, s2, s3, s4, s5, s6, s7, s8, s9, s10, s11, s12, s13, s14, s15, s16, s17⟩
          go_simp
          with_reducible rfl
         rotate_left
         ·simp only [Act.put, List.setIfInBounds_toArray, List.set_cons_zero, List.set_cons_succ, i64_w, i32_w]
          rfl
         refine pure_ (i := 13) (N := some 63) (v := ?_) (a' := ?_) #[true, true, true, true, true, true, true, true, true, true, true, true, true, true, false, false, false, false, false, false, false, false, false, false, false, false, false, false, false, false, false, false] rfl rfl (any_of HT_.out oK) (fun _ _ _ h => h) (Or.inl ⟨by rfl, ?_⟩) ?_ ?_
         rotate_left
         ·intro w'
          go_simp
          with_reducible rfl
         rotate_left
         ·simp only [Act.put, List.setIfInBounds_toArray, List.set_cons_zero, List.set_cons_succ, i64_w, i32_w]
          rfl
         refine pure_ (i := 14) (N := some 64) (v := ?_) (a' := ?_) #[true, true, true, true, true, true, true, true, true, true, true, true, true, true, true, false, false, false, false, false, false, false, false, false, false, false, false, false, false, false, false, false] rfl rfl (any_of HT_.out oK) (fun _ _ _ h => h) (Or.inl ⟨by rfl, ?_⟩) ?_ ?_
         rotate_left
         ·intro w'
          go_simp
          with_reducible rfl
         rotate_left
         ·simp only [Act.put, List.setIfInBounds_toArray, List.set_cons_zero, List.set_cons_succ, i64_w, i32_w]
          rfl
         refine pure_ (i := 15) (N := some 65) (v := ?_) (a' := ?_) #[true, true, true, true, true, true, true, true, true, true, true, true, true, true, true, true, false, false, false, false, false, false, false, false, false, false, false, false, false, false, false, false] rfl rfl (any_of HT_.out oK) (fun _ _ _ h => h) (Or.inl ⟨by rfl, ?_⟩) ?_ ?_
         rotate_left
         ·intro w'
          go_simp
          with_reducible rfl
         rotate_left
         ·simp only [Act.put, List.setIfInBounds_toArray, List.set_cons_zero, List.set_cons_succ, i64_w, i32_w]
          rfl
         refine pure_ (i := 16) (N := some 66) (v := ?_) (a' := ?_) #[true, true, true, true, true, true, true, true, true, true, true, true, true, true, true, true, true, false, false, false, false, false, false, false, false, false, false, false, false, false, false, false] rfl rfl (any_of HT_.out oK) (fun _ _ _ h => h) (Or.inl ⟨by rfl, ?_⟩) ?_ ?_
         rotate_left
         ·intro w'
          go_simp
          with_reducible rfl
         rotate_left
         ·simp only [Act.put, List.setIfInBounds_toArray, List.set_cons_zero, List.set_cons_succ, i64_w, i32_w]
          rfl
         refine pure_ (i := 17) (N := some 67) (v := ?_) (a' := ?_) #[true, true, true, true, true, true, true, true, true, true, true, true, true, true, true, true, true, true, false, false, false, false, false, false, false, false, false, false, false, false, false, false] rfl rfl (any_of HT_.out oK) (fun _ _ _ h => h) (Or.inl ⟨by rfl, ?_⟩) ?_ ?_
         rotate_left
         ·intro w'
          go_simp
          with_reducible rfl
         rotate_left
         ·simp only [Act.put, List.setIfInBounds_toArray, List.set_cons_zero, List.set_cons_succ, i64_w, i32_w]
          rfl
         refine pure_ (i := 22) (N := some 72) (v := ?_) (a' := ?_) #[true, true, true, true, true, true, true, true, true, true, true, true, true, true, true, true, true, true, false, false, false, false, true, false, false, false, false, false, false, false, false, false] rfl rfl (any_of HT_.out oK) (fun _ _ _ h => h) (Or.inl ⟨by rfl, ?_⟩) ?_ ?_
         rotate_left
         ·intro w'
          go_simp
          with_reducible rfl
         rotate_left
         ·simp only [Act.put, List.setIfInBounds_toArray, List.set_cons_zero, List.set_cons_succ, i64_w, i32_w]
          rfl
         refine pure_ (i := 25) (N := some 75) (v := ?_) (a' := ?_) #[true, true, true, true, true, true, true, true, true, true, true, true, true, true, true, true, true, true, false, false, false, false, true, false, false, true, false, false, false, false, false, false] rfl rfl (any_of HT_.out oK) (fun _ _ _ h => h) (Or.inl ⟨by rfl, ?_⟩) ?_ ?_
         rotate_left
         ·intro w'
          go_simp
          with_reducible rfl
         rotate_left
         ·simp only [Act.put, List.setIfInBounds_toArray, List.set_cons_zero, List.set_cons_succ, i64_w, i32_w]
          rfl
         refine take_ (i := 18) (N := some 68) (v := ?_) (a' := ?_) #[true, true, true, true, true, true, true, true, true, true, true, true, true, true, true, true, true, true, true, false, false, false, true, false, false, true, false, false, false, false, false, false] rfl rfl (take_ofW HT_.out HW_.out oK) (fun _ _ _ h => h) (Or.inl ⟨by rfl, ?_⟩) hHeld ?_ ?_
         rotate_left
         ·rintro w' ⟨s0, s1, s2, s3, s4, s5, s6, s7, s8, s9, s10, s11, s12, s13, s14, s15, s16, s17⟩
          go_simp
          with_reducible rfl
         rotate_left
         ·simp only [Act.put, List.setIfInBounds_toArray, List.set_cons_zero, List.set_cons_succ, i64_w, i32_w]
          rfl
         refine pure_ (i := 19) (N := some 69) (v := ?_) (a' := ?_) #[true, true, true, true, true, true, true, true, true, true, true, true, true, true, true, true, true, true, true, true, false, false, true, false, false, true, false, false, false, false, false, false] rfl rfl (any_of HT_.out oK) (fun _ _ _ h => h) (Or.inl ⟨by rfl, ?_⟩) ?_ ?_
         rotate_left
         ·intro w'
          go_simp
          with_reducible rfl
         rotate_left
         ·simp only [Act.put, List.setIfInBounds_toArray, List.set_cons_zero, List.set_cons_succ, i64_w, i32_w]
          rfl
         refine take_ (i := 20) (N := some 70) (v := ?_) (a' := ?_) #[true, true, true, true, true, true, true, true, true, true, true, true, true, true, true, true, true, true, true, true, true, false, true, false, false, true, false, false, false, false, false, false] rfl rfl (take_ofW HT_.out HW_.out oK) (fun _ _ _ h => h) (Or.inl ⟨by rfl, ?_⟩) hHeld ?_ ?_
         rotate_left
         ·rintro w' ⟨s0, s1, s2, s3, s4, s5, s6, s7, s8, s9, s10, s11, s12, s13, s14, s15, s16, s17⟩
          go_simp
          with_reducible rfl
         rotate_left
         ·simp only [Act.put, List.setIfInBounds_toArray, List.set_cons_zero, List.set_cons_succ, i64_w, i32_w]
          rfl
         refine take_ (i := 21) (N := some 71) (v := ?_) (a' := ?_) #[true, true, true, true, true, true, true, true, true, true, true, true, true, true, true, true, true, true, true, true, true, true, true, false, false, true, false, false, false, false, false, false] rfl rfl (take_ofW HT_.out HW_.out oK) (fun _ _ _ h => h) (Or.inl ⟨by rfl, ?_⟩) hHeld ?_ ?_
         rotate_left
         ·rintro w' ⟨s0, s1, s2, s3, s4, s5, s6, s7, s8, s9, s10, s11, s12, s13, s14, s15, s16, s17⟩
          go_simp
          with_reducible rfl
         rotate_left
         ·simp only [Act.put, List.setIfInBounds_toArray, List.set_cons_zero, List.set_cons_succ, i64_w, i32_w]
          rfl
         refine take_ (i := 23) (N := some 73) (v := ?_) (a' := ?_) #[true, true, true, true, true, true, true, true, true, true, true, true, true, true, true, true, true, true, true, true, true, true, true, true, false, true, false, false, false, false, false, false] rfl rfl (take_ofW HT_.out HW_.out oK) (fun _ _ _ h => h) (Or.inl ⟨by rfl, ?_⟩) hHeld ?_ ?_
         rotate_left
         ·rintro w' ⟨s0, s1, s2, s3, s4, s5, s6, s7, s8, s9, s10, s11, s12, s13, s14, s15, s16, s17⟩
          go_simp
          with_reducible rfl
         rotate_left
         ·simp only [Act.put, List.setIfInBounds_toArray, List.set_cons_zero, List.set_cons_succ, i64_w, i32_w]
          rfl
         refine pure_ (i := 24) (N := some 74) (v := ?_) (a' := ?_) #[true, true, true, true, true, true, true, true, true, true, true, true, true, true, true, true, true, true, true, true, true, true, true, true, true, true, false, false, false, false, false, false] rfl rfl (any_of HT_.out oK) (fun _ _ _ h => h) (Or.inl ⟨by rfl, ?_⟩) ?_ ?_
         rotate_left
         ·intro w'
          go_simp
          with_reducible rfl
         rotate_left
         ·simp only [Act.put, List.setIfInBounds_toArray, List.set_cons_zero, List.set_cons_succ, i64_w, i32_w]
          rfl
         refine take_ (i := 26) (N := some 76) (v := ?_) (a' := ?_) #[true, true, true, true, true, true, true, true, true, true, true, true, true, true, true, true, true, true, true, true, true, true, true, true, true, true, true, false, false, false, false, false] rfl rfl (take_ofW HT_.out HW_.out oK) (fun _ _ _ h => h) (Or.inl ⟨by rfl, ?_⟩) hHeld ?_ ?_
         rotate_left
         ·rintro w' ⟨s0, s1, s2, s3, s4, s5, s6, s7, s8, s9, s10, s11, s12, s13, s14, s15, s16, s17⟩
          go_simp
          with_reducible rfl
         rotate_left
         ·simp only [Act.put, List.setIfInBounds_toArray, List.set_cons_zero, List.set_cons_succ, i64_w, i32_w]
          rfl
         refine pure_ (i := 27) (N := some 77) (v := ?_) (a' := ?_) #[true, true, true, true, true, true, true, true, true, true, true, true, true, true, true, true, true, true, true, true, true, true, true, true, true, true, true, true, false, false, false, false] rfl rfl (any_of HT_.out oK) (fun _ _ _ h => h) (Or.inl ⟨by rfl, ?_⟩) ?_ ?_
         rotate_left
         ·intro w'
          go_simp
          with_reducible rfl
         rotate_left
         ·simp only [Act.put, List.setIfInBounds_toArray, List.set_cons_zero, List.set_cons_succ, i64_w, i32_w]
          rfl
         refine one_ (i := 28) (N := some 78) #[true, true, true, true, true, true, true, true, true, true, true, true, true, true, true, true, true, true, true, true, true, true, true, true, true, true, true, true, true, false, false, false] rfl rfl (one_of HT_.out oK) oD (fun K hK => ?_)
         refine goes_ Try.func28 oK rfl #[.agg #[.int .i64 t1059, .int .i64 t1060, .slice Ao24 t1061.length co24], .int .i64 (wrap64 (Int.tdiv t1059 2)), .int .i64 (wrap64 (Int.tdiv t1060 2))] (by rfl) rfl rfl oA ?_
         with_reducible refine (impl_RasAt.calls kj2 t1059 t1060 _ _ t1061 (wrap64 (Int.tdiv t1059 2)) (wrap64 (Int.tdiv t1060 2)) t1104 t1105 t1106 t1107 _ ?side1 ?side2 A18.out).mono ?_
         (case side1 => repeat (first | exact (Kd.Q_reads' HO1063.out).2.2 | (with_reducible refine Kd.C_alloc ?_ _) | (with_reducible refine Kd.C_drewN ?_ _) | (with_reducible refine Kd.C_drew ?_)))
         (case side2 => exact (Kd.Q_reads' HO1063.out).2.1)
         rintro e w63 ⟨rfl, hb⟩
         have HS14_ := (hb.cell (World.block_lt_of_cell? _ _ (hHeld.2.2.2.2.2.2.2.2.2.2.2.2.2.2.1))).trans (hHeld.2.2.2.2.2.2.2.2.2.2.2.2.2.2.1)
         have HS15_ := (hb.cell (World.block_lt_of_cell? _ _ (hHeld.2.2.2.2.2.2.2.2.2.2.2.2.2.2.2.1))).trans (hHeld.2.2.2.2.2.2.2.2.2.2.2.2.2.2.2.1)
         have HS16_ := (hb.cell (World.block_lt_of_cell? _ _ (hHeld.2.2.2.2.2.2.2.2.2.2.2.2.2.2.2.2.1))).trans (hHeld.2.2.2.2.2.2.2.2.2.2.2.2.2.2.2.2.1)
         have HS17_ := (hb.cell (World.block_lt_of_cell? _ _ (hHeld.2.2.2.2.2.2.2.2.2.2.2.2.2.2.2.2.2))).trans (hHeld.2.2.2.2.2.2.2.2.2.2.2.2.2.2.2.2.2)
         refine ⟨_, rfl, ?_⟩
         have n_ := o2_ (Kd.Q_below (oQ HO1063) hb) (o2_ (blk_below (oP BK1069) hb) (o2_ (blk_below (oP BK1070) hb) (o2_ (blk_below (oP BK1074) hb) (o2_ (blk_below (oP BK1083) hb) (o2_ (blk_below (oP BK1092) hb) (o1_ (below_step (oB HB) hb)))))))
         clear HO1063 BK1069 BK1070 BK1074 BK1083 BK1092 HB
         obtain ⟨HO1063, BK1069, BK1070, BK1074, BK1083, BK1092, HB⟩ := n_
         (try clear hb)
         (try clear hb2)
         (try clear hk)
         (try clear hi)
         refine hK.out _ _ ⟨(blk_cell BK1083.out 0).trans rfl, (blk_cell BK1083.out 1).trans rfl, (blk_cell BK1083.out 2).trans rfl, (blk_cell BK1074.out 0).trans rfl, (blk_cell BK1074.out 1).trans rfl, (blk_cell BK1074.out 2).trans rfl, (blk_cell BK1074.out 3).trans rfl, (blk_cell BK1074.out 4).trans rfl, (blk_cell BK1092.out 0).trans rfl, (blk_cell BK1092.out 1).trans rfl, (blk_cell BK1092.out 2).trans rfl, (blk_cell BK1069.out 0).trans rfl, (blk_cell BK1069.out 1).trans rfl, (blk_cell BK1069.out 2).trans rfl, HS14_, HS15_, HS16_, HS17_⟩ (fun hHeld => ?_)
         clear hK K
         refine norm_ (a' := ?_) ?_ ?_
         rotate_left
         ·show Act.put _ (some 78) _ = _
          simp only [Act.put, List.setIfInBounds_toArray, List.set_cons_zero, List.set_cons_succ, i64_w, i32_w]
          rfl
         refine pure_ (i := 29) (N := some 79) (v := ?_) (a' := ?_) #[true, true, true, true, true, true, true, true, true, true, true, true, true, true, true, true, true, true, true, true, true, true, true, true, true, true, true, true, true, true, false, false] rfl rfl (any_of HT_.out oK) (fun _ _ _ h => h) (Or.inl ⟨by rfl, ?_⟩) ?_ ?_
         rotate_left
         ·intro w'
          go_simp
          with_reducible rfl
         rotate_left
         ·simp only [Act.put, List.setIfInBounds_toArray, List.set_cons_zero, List.set_cons_succ, i64_w, i32_w]
          rfl
         refine pure_ (i := 30) (N := some 80) (v := ?_) (a' := ?_) #[true, true, true, true, true, true, true, true, true, true, true, true, true, true, true, true, true, true, true, true, true, true, true, true, true, true, true, true, true, true, true, false] rfl rfl (any_of HT_.out oK) (fun _ _ _ h => h) (Or.inl ⟨by rfl, ?_⟩) ?_ ?_
         rotate_left
         ·intro w'
          go_simp
          with_reducible rfl
         rotate_left
         ·simp only [Act.put, List.setIfInBounds_toArray, List.set_cons_zero, List.set_cons_succ, i64_w, i32_w]
          rfl
         refine pure_ (i := 31) (N := some 4) (v := ?_) (a' := ?_) #[true, true, true, true, true, true, true, true, true, true, true, true, true, true, true, true, true, true, true, true, true, true, true, true, true, true, true, true, true, true, true, true] rfl rfl (any_of HT_.out oK) (fun _ _ _ h => h) (Or.inl ⟨by rfl, ?_⟩) ?_ ?_
         rotate_left
         ·intro w'
          go_simp
          with_reducible rfl
         rotate_left
         ·simp only [Act.put, List.setIfInBounds_toArray, List.set_cons_zero, List.set_cons_succ, i64_w, i32_w]
          rfl
         refine done_ (done_of HT_.out oK) ?_
         try go_wp2
         go_ret
         exact ⟨by first | rfl | (simp [errW_none, errW_some] <;> rfl) | (simp [*, errW_none, errW_some] <;> rfl), oB HB⟩
        ·rw [if_neg c17] at H
         exact absurd H (by simp)
       ·rw [if_neg c16] at H
        have c16b0 : ((t1089.length : Int) == 1) = false := beq_eq_false_iff_ne.mpr c16
        have c16b1 : ((t1089.length : Int) != 1) = true := bne_iff_ne.mpr c16
        exact absurd H (by simp)
      ·replace c15 := Bool.eq_false_iff.mpr c15
       subst c15
       rw [if_neg (show ¬ (false = true) by decide)] at H
       exact absurd H (by simp)
     ·replace c13 := Bool.eq_false_iff.mpr c13
      subst c13
      rw [if_neg (show ¬ (false = true) by decide)] at H
      exact absurd H (by simp)
    ·replace c8 := Bool.eq_false_iff.mpr c8
     subst c8
     rw [if_neg (show ¬ (false = true) by decide)] at H
     replace H := Option.bind_eq_some_iff.mp H
     obtain ⟨t1072, A640, H⟩ := H
     (try dsimp only at H)
     have A64 := Aside0.mk A640
     clear A640
     by_cases c65 : t1072 = true
     ·subst c65
      rw [if_pos rfl] at H
      exact absurd H (by simp)
     ·replace c65 := Bool.eq_false_iff.mpr c65
      subst c65
      rw [if_neg (show ¬ (false = true) by decide)] at H
      replace H := Option.bind_eq_some_iff.mp H
      obtain ⟨t1073, A660, H⟩ := H
      (try dsimp only at H)
      have A66 := Aside0.mk A660
      clear A660
      obtain rfl := Option.some.inj H
      go_wp2_with (first | ((with_reducible refine gate_callee (f := 18) rfl ?_); refine goesL_ (some 20) rfl rfl Try.func18 oK rfl #[.slice A0 l0.length c0] rfl oA ?_; (with_reducible refine (spec_DrawOpDo.calls kj2 _ _ l0 t1059 t1060 t1061 t1064 t1065 t1066 t1067 t1068 _ ?side1 ?side2 A6.out).mono ?_); (case side1 => repeat (first | exact (Kd.C_below HR0.out HB.out) | (with_reducible refine Kd.C_alloc ?_ _) | (with_reducible refine Kd.C_drewN ?_ _) | (with_reducible refine Kd.C_drew ?_))); (case side2 => exact HC0.out); rintro e w67 ⟨v1062, rfl, ho0, hb⟩; refine ⟨_, rfl, ?_⟩; have n_ := o2_ (Kd.Q_lower ho0 (below_size (oB HB))) (o1_ (below_step (oB HB) hb)); clear HB; obtain ⟨HO1063, HB⟩ := n_; (try clear hb); (try clear hb2); (try clear hk); (try clear hi); (try clear ho0)) | ((with_reducible refine gate_dst (N := 5) rfl ?_); (try (refine gate_guard (by rfl) ?_; dsimp only)); refine box_event ?hg (N := 5) ?hd (cs := #[.int .i64 0, .int .i64 0, .slice none 0 0]) (t := 25) ?hr ?_; (case hd => rfl); (case hg => rfl); (case hr => first | (go_simp; done) | (go_simp; rfl)); intro gb1069 hg w68 hbox hb; have n_ := o2_ (Kd.Q_below (oQ HO1063) hb) (o2_ (below_step (oB HB) hb) (o2_ (hbox) (o2_ ((oG hg (below_size (oB HB)) : w.heap.size ≤ gb1069)) (o1_ ((oG hg (below_size (oB HB)) : w.heap.size ≤ gb1069)))))); clear HO1063 HB; obtain ⟨HO1063, HB, BK1069, GW1069, GE1069⟩ := n_; clear hb hbox hg) | ((with_reducible refine gate_dst (N := 6) rfl ?_); (try (refine gate_guard (by rfl) ?_; dsimp only)); refine box_event ?hg (N := 6) ?hd (cs := #[.int .i64 0, .int .i64 0, .int .i64 0, .int .i64 0, .int .i64 0]) (t := 27) ?hr ?_; (case hd => rfl); (case hg => rfl); (case hr => first | (go_simp; done) | (go_simp; rfl)); intro gb1070 hg w69 hbox hb; have n_ := o2_ (Kd.Q_below (oQ HO1063) hb) (o2_ (blk_below (oP BK1069) hb) (o2_ (below_step (oB HB) hb) (o2_ (hbox) (o2_ ((oG hg (below_size (oB HB)) : w.heap.size ≤ gb1070)) (o2_ ((oG hg (below_size (oB HB)) : w.heap.size ≤ gb1070)) (o2_ ((oL hg (blk_lt (oP BK1069)))) (o1_ ((oN hg (blk_lt (oP BK1069))))))))))); clear HO1063 BK1069 HB; obtain ⟨HO1063, BK1069, HB, BK1070, GW1070, GE1070, NB1069_1070, NB1070_1069⟩ := n_; clear hb hbox hg; have hnb70 := NB1069_1070.out; have hnc70 := NB1070_1069.out; have hcz71_0 : w69.cell? ⟨gb1069, 0, none⟩ = some (.int .i64 0) := (blk_cell BK1069.out 0).trans rfl; have hcz71_1 : w69.cell? ⟨gb1069, 1, none⟩ = some (.int .i64 0) := (blk_cell BK1069.out 1).trans rfl; have hcz71_2 : w69.cell? ⟨gb1069, 2, none⟩ = some (.slice none 0 0) := (blk_cell BK1069.out 2).trans rfl; have hfz71_0 := blk_frozen BK1069.out 0; have hfz71_1 := blk_frozen BK1069.out 1; have hfz71_2 := blk_frozen BK1069.out 2; obtain ⟨Ao72, co72, eo72, _⟩ := Kd.Q_slice HO1063.out; subst eo72; have hcz73_0 : w69.cell? ⟨gb1070, 0, none⟩ = some (.int .i64 0) := (blk_cell BK1070.out 0).trans rfl; have hcz73_1 : w69.cell? ⟨gb1070, 1, none⟩ = some (.int .i64 0) := (blk_cell BK1070.out 1).trans rfl; have hcz73_2 : w69.cell? ⟨gb1070, 2, none⟩ = some (.int .i64 0) := (blk_cell BK1070.out 2).trans rfl; have hcz73_3 : w69.cell? ⟨gb1070, 3, none⟩ = some (.int .i64 0) := (blk_cell BK1070.out 3).trans rfl; have hcz73_4 : w69.cell? ⟨gb1070, 4, none⟩ = some (.int .i64 0) := (blk_cell BK1070.out 4).trans rfl; have hfz73_0 := blk_frozen BK1070.out 0; have hfz73_1 := blk_frozen BK1070.out 1; have hfz73_2 := blk_frozen BK1070.out 2; have hfz73_3 := blk_frozen BK1070.out 3; have hfz73_4 := blk_frozen BK1070.out 4) | ((with_reducible refine gate_callee (f := 24) rfl ?_); refine goesL_ (some 24) rfl rfl Try.func24 oK rfl #[.agg #[.int .i64 t1059, .int .i64 t1060, .slice Ao72 t1061.length co72]] rfl oA ?_; (with_reducible refine (spec_RasOk.calls kj2 t1059 t1060 _ _ t1061 false _ ?side1 ?side2 A7.out).mono ?_); (case side1 => refine (Kd.Q_reads' (e := 38) (base := w.heap.size) (ok := fun k_ => True) (n := t1061.length) (c := co72) ?_).2.2; exact (by (with_reducible repeat (first | apply Kd.Q_alloc | apply Kd.Q_drewN | apply Kd.Q_drew)); exact (Kd.Q_mono (Kd.Q_mono (Kd.Q_far (p := ⟨gb1070, 4, none⟩) (Kd.Q_far (p := ⟨gb1070, 3, none⟩) (Kd.Q_far (p := ⟨gb1070, 2, none⟩) (Kd.Q_far (p := ⟨gb1070, 1, none⟩) (Kd.Q_far (p := ⟨gb1070, 0, none⟩) (Kd.Q_far (p := ⟨gb1069, 2, none⟩) (Kd.Q_far (p := ⟨gb1069, 1, none⟩) (Kd.Q_far (p := ⟨gb1069, 0, none⟩) (Kd.Q_types (Kd.Q_types HO1063.out BK1069.out oD) BK1070.out oD) (fun _ hk => by first | exact hk.1.2 | exact trivial | (revert hk; simp; done) | (simp_all; done)) (.int .i64 t1059)) (fun _ hk => by first | exact hk.1.2 | exact trivial | (revert hk; simp; done) | (simp_all; done)) (.int .i64 t1060)) (fun _ hk => by first | exact hk.1.2 | exact trivial | (revert hk; simp; done) | (simp_all; done)) (.slice Ao72 t1061.length co72)) oX2 (.int .i64 t1064)) oX2 (.int .i64 t1065)) oX2 (.int .i64 t1066)) oX2 (.int .i64 t1067)) oX2 (.int .i64 t1068)) (fun _ h_ => h_.1)) (fun _ h_ => h_.1)))); (case side2 => exact (Kd.Q_reads' HO1063.out).2.1); rintro e w74 ⟨rfl, hb⟩; refine ⟨_, rfl, ?_⟩; have n_ := o2_ (Kd.Q_below (by (with_reducible repeat (first | apply Kd.Q_alloc | apply Kd.Q_drewN | apply Kd.Q_drew)); exact (Kd.Q_mono (Kd.Q_mono (Kd.Q_far (p := ⟨gb1070, 4, none⟩) (Kd.Q_far (p := ⟨gb1070, 3, none⟩) (Kd.Q_far (p := ⟨gb1070, 2, none⟩) (Kd.Q_far (p := ⟨gb1070, 1, none⟩) (Kd.Q_far (p := ⟨gb1070, 0, none⟩) (Kd.Q_far (p := ⟨gb1069, 2, none⟩) (Kd.Q_far (p := ⟨gb1069, 1, none⟩) (Kd.Q_far (p := ⟨gb1069, 0, none⟩) (Kd.Q_types (Kd.Q_types HO1063.out BK1069.out oD) BK1070.out oD) (fun _ hk => by first | exact hk.1.2 | exact trivial | (revert hk; simp; done) | (simp_all; done)) (.int .i64 t1059)) (fun _ hk => by first | exact hk.1.2 | exact trivial | (revert hk; simp; done) | (simp_all; done)) (.int .i64 t1060)) (fun _ hk => by first | exact hk.1.2 | exact trivial | (revert hk; simp; done) | (simp_all; done)) (.slice Ao72 t1061.length co72)) oX2 (.int .i64 t1064)) oX2 (.int .i64 t1065)) oX2 (.int .i64 t1066)) oX2 (.int .i64 t1067)) oX2 (.int .i64 t1068)) (fun _ h_ => h_.1)) (fun _ h_ => h_.1))) hb) (o2_ (blk_below (g := gb1069) (o := .cells #[.int .i64 t1059, .int .i64 t1060, .slice Ao72 t1061.length co72] 25 (0, 0)) (by (with_reducible repeat (first | refine blk_drewN ?_ _ | refine blk_drew ?_ | refine blk_alloc ?_ _)); refine blk_far ?_ NB1069_1070.out _; (with_reducible repeat (first | refine blk_drewN ?_ _ | refine blk_drew ?_ | refine blk_alloc ?_ _)); refine blk_far ?_ NB1069_1070.out _; (with_reducible repeat (first | refine blk_drewN ?_ _ | refine blk_drew ?_ | refine blk_alloc ?_ _)); refine blk_far ?_ NB1069_1070.out _; (with_reducible repeat (first | refine blk_drewN ?_ _ | refine blk_drew ?_ | refine blk_alloc ?_ _)); refine blk_far ?_ NB1069_1070.out _; (with_reducible repeat (first | refine blk_drewN ?_ _ | refine blk_drew ?_ | refine blk_alloc ?_ _)); refine blk_far ?_ NB1069_1070.out _; (with_reducible repeat (first | refine blk_drewN ?_ _ | refine blk_drew ?_ | refine blk_alloc ?_ _)); refine blk_put (cs := #[.int .i64 t1059, .int .i64 t1060, .slice none 0 0]) ?_ 2 _ rfl; (with_reducible repeat (first | refine blk_drewN ?_ _ | refine blk_drew ?_ | refine blk_alloc ?_ _)); refine blk_put (cs := #[.int .i64 t1059, .int .i64 0, .slice none 0 0]) ?_ 1 _ rfl; (with_reducible repeat (first | refine blk_drewN ?_ _ | refine blk_drew ?_ | refine blk_alloc ?_ _)); refine blk_put (cs := #[.int .i64 0, .int .i64 0, .slice none 0 0]) ?_ 0 _ rfl; (with_reducible repeat (first | refine blk_drewN ?_ _ | refine blk_drew ?_ | refine blk_alloc ?_ _)); exact BK1069.out) hb) (o1_ (below_step (oB HB) hb))); clear HO1063 BK1069 HB; obtain ⟨HO1063, BK1069, HB⟩ := n_; (try clear hb); (try clear hb2); (try clear hk); (try clear hi); have hcz75_0 : w74.cell? ⟨gb1069, 0, none⟩ = some (.int .i64 t1059) := (blk_cell BK1069.out 0).trans rfl; have hcz75_1 : w74.cell? ⟨gb1069, 1, none⟩ = some (.int .i64 t1060) := (blk_cell BK1069.out 1).trans rfl; have hcz75_2 : w74.cell? ⟨gb1069, 2, none⟩ = some (.slice Ao72 t1061.length co72) := (blk_cell BK1069.out 2).trans rfl; have hfz75_0 := blk_frozen BK1069.out 0; have hfz75_1 := blk_frozen BK1069.out 1; have hfz75_2 := blk_frozen BK1069.out 2) | ((with_reducible refine gate_callee (f := 26) rfl ?_); refine goesL_ (some 27) rfl rfl Try.func26 oK rfl #[.agg #[.int .i64 t1059, .int .i64 t1060, .slice Ao72 t1061.length co72]] rfl oA ?_; (with_reducible refine (impl_RasOk.calls kj2 t1059 t1060 _ _ t1061 false _ ?side1 ?side2 A64.out).mono ?_); (case side1 => repeat (first | exact (Kd.Q_reads' HO1063.out).2.2 | (with_reducible refine Kd.C_alloc ?_ _) | (with_reducible refine Kd.C_drewN ?_ _) | (with_reducible refine Kd.C_drew ?_))); (case side2 => exact (Kd.Q_reads' HO1063.out).2.1); rintro e w76 ⟨rfl, hb⟩; refine ⟨_, rfl, ?_⟩; replace HB := o1_ (below_step (oB HB) hb); (try clear hb); (try clear hb2); (try clear hk); (try clear hi)) | (go_at_call 25; (with_reducible refine (laws_eaOk.calls  t1073 _ A66.out).mono ?_); rintro e w77 ⟨rfl, hb⟩; replace HB := o1_ (below_step (oB HB) hb); (try clear hb); (try clear hb2); (try clear hk); (try clear hi)))
      go_ret
      exact ⟨by first | rfl | (simp [errW_none, errW_some] <;> rfl) | (simp [*, errW_none, errW_some] <;> rfl), oB HB⟩

/-- THE ONE PURE STATEMENT of laws_FnOpSizeTwice: yours. -/
def laws_FnOpSizeTwice.Pure : Prop := ∀ (l0 : List Int) (l1 : List Int), l0.length ≤ maxLen → l0.length * 1 ≤ 140737488351232 → (∀ x ∈ l0, (Lit.int .u8 x).wf = true) → l1.length ≤ maxLen → l1.length * 1 ≤ 140737488351232 → (∀ x ∈ l1, (Lit.int .u8 x).wf = true) → ∃ k, laws_FnOpSizeTwice.f k l0 l1 = some true
theorem laws_FnOpSizeTwice.walk (P : laws_FnOpSizeTwice.Pure) (a0 : Option Addr) (len0 cap0 : Nat) (z0 : List Int) (a1 : Option Addr) (len1 cap1 : Nat) (z1 : List Int) (w : World) (w0 : (a0 = none ∧ len0 = 0 ∧ cap0 = 0 ∧ z0 = []) ∨ ∃ x, a0 = some x ∧ len0 ≤ cap0 ∧ cap0 ≤ maxLen ∧ z0.length = cap0 ∧ (∀ i, i < z0.length → w.cell? (x.add i) = some (.int .u8 (z0.getD i 0))) ∧ ∀ n ∈ z0, (Lit.int .u8 n).wf = true) (y0 : len0 * 1 ≤ 140737488351232) (w1 : (a1 = none ∧ len1 = 0 ∧ cap1 = 0 ∧ z1 = []) ∨ ∃ x, a1 = some x ∧ len1 ≤ cap1 ∧ cap1 ≤ maxLen ∧ z1.length = cap1 ∧ (∀ i, i < z1.length → w.cell? (x.add i) = some (.int .u8 (z1.getD i 0))) ∧ ∀ n ∈ z1, (Lit.int .u8 n).wf = true) (y1 : len1 * 1 ≤ 140737488351232) :
  Calls Try.prog 13 #[.slice a0 len0 cap0, .slice a1 len1 cap1] w fun e w' => e = .returned (.bool true) ∧ Below w.heap.size w w' := by
 obtain ⟨l0, rfl, hr0, hm0, hw0, hc0⟩ := ReadsInt.ofRowC w0
 obtain ⟨l1, rfl, hr1, hm1, hw1, hc1⟩ := ReadsInt.ofRowC w1
 obtain ⟨k, h⟩ := P l0 l1 hm0 y0 hw0 hm1 y1 hw1
 refine (laws_FnOpSizeTwice.calls k _ _ l0 _ _ l1 true w (Kd.C_of_reads (d := (0 : Int)) (h1 := fun _ => rfl) hr0) hc0 (Kd.C_of_reads (d := (0 : Int)) (h1 := fun _ => rfl) hr1) hc1 h).mono ?_
 rintro e w' ⟨rfl, hd⟩
 exact ⟨rfl, hd⟩

end Go.Proofs.Ythnmeogafklhnaa.X
