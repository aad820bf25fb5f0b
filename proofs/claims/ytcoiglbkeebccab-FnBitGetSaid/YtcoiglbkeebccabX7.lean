/- Functions of the given program as plain Lean functions, and for each the proof that the machine's call comes to what its function says. No condition but what each theorem states. Written by a program of this session. -/
import Derived.Test.YtcoiglbkeebccabX0
import Derived.Test.YtcoiglbkeebccabX2
namespace Go.Proofs.Ytcoiglbkeebccab.X
open Go.RowKit Go.Proofs.YtcoiglbkeebccabW.PrintWords Go.Proofs.YtcoiglbkeebccabW.PrintLast Go.Proofs.YtcoiglbkeebccabW.PrintMore
attribute [local go_sem] max2_int min2_int max_two min_two max_three min_three max_four min_four   -- for this text's walks alone
set_option linter.unusedVariables false
set_option linter.unusedSimpArgs false

/-! ### spec_DrawBitGet: function 24 -/
def spec_DrawBitGet.f (k : Nat) (l0 : List Int) : Option (List Int × Int × Int) := (spec_l20Open.f l0).bind fun bt291 => ((spec_l20Bytes.f k bt291.1 bt291.2 12).bind fun bt294 => ((spec_l20Rd_pick.f k bt291.1 bt294.2 (wrap64 ((wrap64 (8 * (bt294.1.length : Int))) + 1))).bind fun bt298 => ((some (([bt298.1, (-1), 9223372036854775807, wrap64 (8 * (bt294.1.length : Int))] : List Int) : List Int)).bind fun y300 => ((some (([0, 0, 0, 0, 1, 2, 3] : List Int) : List Int)).bind fun y303 => ((spec_l20Rd_pick.f k bt291.1 bt298.2 7).bind fun bt306 => (if 0 ≤ bt306.1 then (if bt306.1 < (y303.length : Int) then (if 0 ≤ (rd y303 bt306.1) then (if (rd y303 bt306.1) < (y300.length : Int) then ((spec_l20Rd_pick.f k bt291.1 bt306.2 12).bind fun bt310 => ((some (([wrap64 (1 + bt310.1), 0, 13, (-1)] : List Int) : List Int)).bind fun y312 => ((some (([0, 0, 0, 0, 0, 1, 2, 3] : List Int) : List Int)).bind fun y315 => ((spec_l20Rd_pick.f k bt291.1 bt310.2 8).bind fun bt318 => (if 0 ≤ bt318.1 then (if bt318.1 < (y315.length : Int) then (if 0 ≤ (rd y315 bt318.1) then (if (rd y315 bt318.1) < (y312.length : Int) then (some (bt294.1, rd y300 (rd y303 bt306.1), rd y312 (rd y315 bt318.1))) else (none)) else (none)) else (none)) else (none)))))) else (none)) else (none)) else (none)) else (none)))))))
theorem spec_DrawBitGet.mono : ∀ a0 k, LeO (spec_DrawBitGet.f k a0) (spec_DrawBitGet.f (k + 1) a0) := by
  intro a0 k
  unfold spec_DrawBitGet.f
  repeat' first
      | (with_reducible exact spec_l20Bytes.mono _ _ _ _)
      | (with_reducible exact spec_l20Rd_pick.mono _ _ _ _)
      | (with_reducible exact LeO.refl _)
      | (with_reducible exact LeO.none _)
      | (with_reducible refine LeO.ite ?_ ?_)
      | (with_reducible refine LeO.bind ?_ (fun _ => ?_))
      | exact spec_l20Bytes.mono _ _ _ _
      | exact spec_l20Rd_pick.mono _ _ _ _
      | exact LeO.none _
      | refine LeO.ite ?_ ?_
      | refine LeO.bind ?_ (fun _ => ?_)
def spec_DrawBitGet.T3 : Bool × List (List Nat × List Nat) := (true, [([], []), ([], []), ([], []), ([2], [2]), ([3], [3]), ([4], [4]), ([1, 5], [1, 5]), ([], []), ([7], [7]), ([8], [8]), ([6, 9], [6, 9]), ([], []), ([], []), ([12, 6], [12]), ([11, 13], [11, 13]), ([14], [14]), ([10, 15], [10, 15]), ([16], [16]), ([], []), ([18, 13], [18]), ([19], [19]), ([20], [20]), ([], []), ([], []), ([23, 19], [23]), ([22, 24], [22, 24]), ([25], [25]), ([21, 26], [21, 26]), ([27], [27]), ([0, 24, 0], [0]), ([17, 29, 0, 1, 2, 3, 4, 5, 6, 7, 8, 9, 10, 11, 12, 13, 14, 15, 16, 17, 29], [17]), ([28, 30, 0, 1, 2, 3, 4, 5, 6, 7, 8, 9, 10, 11, 12, 13, 14, 15, 16, 17, 18, 19, 20, 21, 22, 23, 24, 25, 26, 27, 28, 29, 30], [28])])
def spec_DrawBitGet.B3 : List Nat := [0, 0, 0, 4, 12, 28, 62, 0, 128, 384, 1022, 0, 0, 4222, 14462, 30846, 65534, 131070, 0, 274558, 798846, 1847422, 0, 0, 9187454, 30158974, 63713406, 133967998, 268185726, 25964671, 563085311, 2147483647]
theorem spec_DrawBitGet.tab3 : rtab .any (opsOf Try.f24 3) = spec_DrawBitGet.T3 := by kernel_rfl
theorem spec_DrawBitGet.bits3 : waitsOk spec_DrawBitGet.T3.2 spec_DrawBitGet.B3 = true := by kernel_rfl
set_option maxHeartbeats 8000000 in
set_option maxRecDepth 100000 in
theorem spec_DrawBitGet.calls (k : Nat) (A0 : Option Addr) (c0 : Nat) (l0 : List Int) (r1 : List Int) (r2 : Int) (r3 : Int) (w : World) (hr0 : Kd.C (Kd.int .u8) w A0 l0.length l0) (hc0 : l0.length ≤ c0) (h : spec_DrawBitGet.f k l0 = some (r1, r2, r3)) :
    Calls Try.prog 24 #[.slice A0 l0.length c0] w fun e w' => ∃ v0_ : Value, e = .returned (.tuple #[v0_, .int .i64 r2, .int .i64 r3]) ∧ Kd.R (Kd.int .u8) 5 w' w.heap.size (fun _ => True) v0_ r1 ∧ Below w.heap.size w w' := by
  have HR0 := Aside0.mk hr0
  have HC0 := Aside0.mk hc0
  clear hr0 hc0
  have HB := Aside0.mk (Below.refl w.heap.size w)
  have H : ((spec_l20Open.f l0).bind fun bt291 => ((spec_l20Bytes.f k bt291.1 bt291.2 12).bind fun bt294 => ((spec_l20Rd_pick.f k bt291.1 bt294.2 (wrap64 ((wrap64 (8 * (bt294.1.length : Int))) + 1))).bind fun bt298 => ((some (([bt298.1, (-1), 9223372036854775807, wrap64 (8 * (bt294.1.length : Int))] : List Int) : List Int)).bind fun y300 => ((some (([0, 0, 0, 0, 1, 2, 3] : List Int) : List Int)).bind fun y303 => ((spec_l20Rd_pick.f k bt291.1 bt298.2 7).bind fun bt306 => (if 0 ≤ bt306.1 then (if bt306.1 < (y303.length : Int) then (if 0 ≤ (rd y303 bt306.1) then (if (rd y303 bt306.1) < (y300.length : Int) then ((spec_l20Rd_pick.f k bt291.1 bt306.2 12).bind fun bt310 => ((some (([wrap64 (1 + bt310.1), 0, 13, (-1)] : List Int) : List Int)).bind fun y312 => ((some (([0, 0, 0, 0, 0, 1, 2, 3] : List Int) : List Int)).bind fun y315 => ((spec_l20Rd_pick.f k bt291.1 bt310.2 8).bind fun bt318 => (if 0 ≤ bt318.1 then (if bt318.1 < (y315.length : Int) then (if 0 ≤ (rd y315 bt318.1) then (if (rd y315 bt318.1) < (y312.length : Int) then (some (bt294.1, rd y300 (rd y303 bt306.1), rd y312 (rd y315 bt318.1))) else (none)) else (none)) else (none)) else (none)))))) else (none)) else (none)) else (none)) else (none)))))))) = some (r1, r2, r3) := h
  clear h
  replace H := Option.bind_eq_some_iff.mp H
  obtain ⟨⟨t291, t292⟩, A20, H⟩ := H
  replace H : ((spec_l20Bytes.f k t291 t292 12).bind fun bt294 => ((spec_l20Rd_pick.f k t291 bt294.2 (wrap64 ((wrap64 (8 * (bt294.1.length : Int))) + 1))).bind fun bt298 => ((some (([bt298.1, (-1), 9223372036854775807, wrap64 (8 * (bt294.1.length : Int))] : List Int) : List Int)).bind fun y300 => ((some (([0, 0, 0, 0, 1, 2, 3] : List Int) : List Int)).bind fun y303 => ((spec_l20Rd_pick.f k t291 bt298.2 7).bind fun bt306 => (if 0 ≤ bt306.1 then (if bt306.1 < (y303.length : Int) then (if 0 ≤ (rd y303 bt306.1) then (if (rd y303 bt306.1) < (y300.length : Int) then ((spec_l20Rd_pick.f k t291 bt306.2 12).bind fun bt310 => ((some (([wrap64 (1 + bt310.1), 0, 13, (-1)] : List Int) : List Int)).bind fun y312 => ((some (([0, 0, 0, 0, 0, 1, 2, 3] : List Int) : List Int)).bind fun y315 => ((spec_l20Rd_pick.f k t291 bt310.2 8).bind fun bt318 => (if 0 ≤ bt318.1 then (if bt318.1 < (y315.length : Int) then (if 0 ≤ (rd y315 bt318.1) then (if (rd y315 bt318.1) < (y312.length : Int) then (some (bt294.1, rd y300 (rd y303 bt306.1), rd y312 (rd y315 bt318.1))) else (none)) else (none)) else (none)) else (none)))))) else (none)) else (none)) else (none)) else (none))))))) = some (r1, r2, r3) := H
  have A2 := Aside0.mk A20
  clear A20
  replace H := Option.bind_eq_some_iff.mp H
  obtain ⟨⟨t294, t297⟩, A30, H⟩ := H
  replace H : ((spec_l20Rd_pick.f k t291 t297 (wrap64 ((wrap64 (8 * (t294.length : Int))) + 1))).bind fun bt298 => ((some (([bt298.1, (-1), 9223372036854775807, wrap64 (8 * (t294.length : Int))] : List Int) : List Int)).bind fun y300 => ((some (([0, 0, 0, 0, 1, 2, 3] : List Int) : List Int)).bind fun y303 => ((spec_l20Rd_pick.f k t291 bt298.2 7).bind fun bt306 => (if 0 ≤ bt306.1 then (if bt306.1 < (y303.length : Int) then (if 0 ≤ (rd y303 bt306.1) then (if (rd y303 bt306.1) < (y300.length : Int) then ((spec_l20Rd_pick.f k t291 bt306.2 12).bind fun bt310 => ((some (([wrap64 (1 + bt310.1), 0, 13, (-1)] : List Int) : List Int)).bind fun y312 => ((some (([0, 0, 0, 0, 0, 1, 2, 3] : List Int) : List Int)).bind fun y315 => ((spec_l20Rd_pick.f k t291 bt310.2 8).bind fun bt318 => (if 0 ≤ bt318.1 then (if bt318.1 < (y315.length : Int) then (if 0 ≤ (rd y315 bt318.1) then (if (rd y315 bt318.1) < (y312.length : Int) then (some (t294, rd y300 (rd y303 bt306.1), rd y312 (rd y315 bt318.1))) else (none)) else (none)) else (none)) else (none)))))) else (none)) else (none)) else (none)) else (none)))))) = some (r1, r2, r3) := H
  have A3 := Aside0.mk A30
  clear A30
  replace H := Option.bind_eq_some_iff.mp H
  obtain ⟨⟨t298, t299⟩, A40, H⟩ := H
  replace H : ((some (([t298, (-1), 9223372036854775807, wrap64 (8 * (t294.length : Int))] : List Int) : List Int)).bind fun y300 => ((some (([0, 0, 0, 0, 1, 2, 3] : List Int) : List Int)).bind fun y303 => ((spec_l20Rd_pick.f k t291 t299 7).bind fun bt306 => (if 0 ≤ bt306.1 then (if bt306.1 < (y303.length : Int) then (if 0 ≤ (rd y303 bt306.1) then (if (rd y303 bt306.1) < (y300.length : Int) then ((spec_l20Rd_pick.f k t291 bt306.2 12).bind fun bt310 => ((some (([wrap64 (1 + bt310.1), 0, 13, (-1)] : List Int) : List Int)).bind fun y312 => ((some (([0, 0, 0, 0, 0, 1, 2, 3] : List Int) : List Int)).bind fun y315 => ((spec_l20Rd_pick.f k t291 bt310.2 8).bind fun bt318 => (if 0 ≤ bt318.1 then (if bt318.1 < (y315.length : Int) then (if 0 ≤ (rd y315 bt318.1) then (if (rd y315 bt318.1) < (y312.length : Int) then (some (t294, rd y300 (rd y303 bt306.1), rd y312 (rd y315 bt318.1))) else (none)) else (none)) else (none)) else (none)))))) else (none)) else (none)) else (none)) else (none))))) = some (r1, r2, r3) := H
  have A4 := Aside0.mk A40
  clear A40
  obtain ⟨y300, hy300⟩ : ∃ y_ : List Int, y_ = (([t298, (-1), 9223372036854775807, wrap64 (8 * (t294.length : Int))] : List Int)) := ⟨_, rfl⟩
  replace H : ((some (([0, 0, 0, 0, 1, 2, 3] : List Int) : List Int)).bind fun y303 => ((spec_l20Rd_pick.f k t291 t299 7).bind fun bt306 => (if 0 ≤ bt306.1 then (if bt306.1 < (y303.length : Int) then (if 0 ≤ (rd y303 bt306.1) then (if (rd y303 bt306.1) < (y300.length : Int) then ((spec_l20Rd_pick.f k t291 bt306.2 12).bind fun bt310 => ((some (([wrap64 (1 + bt310.1), 0, 13, (-1)] : List Int) : List Int)).bind fun y312 => ((some (([0, 0, 0, 0, 0, 1, 2, 3] : List Int) : List Int)).bind fun y315 => ((spec_l20Rd_pick.f k t291 bt310.2 8).bind fun bt318 => (if 0 ≤ bt318.1 then (if bt318.1 < (y315.length : Int) then (if 0 ≤ (rd y315 bt318.1) then (if (rd y315 bt318.1) < (y312.length : Int) then (some (t294, rd y300 (rd y303 bt306.1), rd y312 (rd y315 bt318.1))) else (none)) else (none)) else (none)) else (none)))))) else (none)) else (none)) else (none)) else (none)))) = some (r1, r2, r3) := by first | (rw [hy300]; with_reducible exact H) | (have H2_ := (Option.bind_some _ _).symm.trans H; rw [hy300]; with_reducible exact H2_) | (have H2_ := (Option.bind_some _ _).symm.trans H; with_reducible exact H2_) | with_reducible exact H | (rw [hy300]; exact H) | exact H
  have Ny300 := Aside0.mk hy300
  clear hy300
  obtain ⟨y303, hy303⟩ : ∃ y_ : List Int, y_ = (([0, 0, 0, 0, 1, 2, 3] : List Int)) := ⟨_, rfl⟩
  replace H : ((spec_l20Rd_pick.f k t291 t299 7).bind fun bt306 => (if 0 ≤ bt306.1 then (if bt306.1 < (y303.length : Int) then (if 0 ≤ (rd y303 bt306.1) then (if (rd y303 bt306.1) < (y300.length : Int) then ((spec_l20Rd_pick.f k t291 bt306.2 12).bind fun bt310 => ((some (([wrap64 (1 + bt310.1), 0, 13, (-1)] : List Int) : List Int)).bind fun y312 => ((some (([0, 0, 0, 0, 0, 1, 2, 3] : List Int) : List Int)).bind fun y315 => ((spec_l20Rd_pick.f k t291 bt310.2 8).bind fun bt318 => (if 0 ≤ bt318.1 then (if bt318.1 < (y315.length : Int) then (if 0 ≤ (rd y315 bt318.1) then (if (rd y315 bt318.1) < (y312.length : Int) then (some (t294, rd y300 (rd y303 bt306.1), rd y312 (rd y315 bt318.1))) else (none)) else (none)) else (none)) else (none)))))) else (none)) else (none)) else (none)) else (none))) = some (r1, r2, r3) := by first | (rw [hy303]; with_reducible exact H) | (have H2_ := (Option.bind_some _ _).symm.trans H; rw [hy303]; with_reducible exact H2_) | (have H2_ := (Option.bind_some _ _).symm.trans H; with_reducible exact H2_) | with_reducible exact H | (rw [hy303]; exact H) | exact H
  have Ny303 := Aside0.mk hy303
  clear hy303
  replace H := Option.bind_eq_some_iff.mp H
  obtain ⟨⟨t306, t307⟩, A50, H⟩ := H
  replace H : (if 0 ≤ t306 then (if t306 < (y303.length : Int) then (if 0 ≤ (rd y303 t306) then (if (rd y303 t306) < (y300.length : Int) then ((spec_l20Rd_pick.f k t291 t307 12).bind fun bt310 => ((some (([wrap64 (1 + bt310.1), 0, 13, (-1)] : List Int) : List Int)).bind fun y312 => ((some (([0, 0, 0, 0, 0, 1, 2, 3] : List Int) : List Int)).bind fun y315 => ((spec_l20Rd_pick.f k t291 bt310.2 8).bind fun bt318 => (if 0 ≤ bt318.1 then (if bt318.1 < (y315.length : Int) then (if 0 ≤ (rd y315 bt318.1) then (if (rd y315 bt318.1) < (y312.length : Int) then (some (t294, rd y300 (rd y303 t306), rd y312 (rd y315 bt318.1))) else (none)) else (none)) else (none)) else (none)))))) else (none)) else (none)) else (none)) else (none)) = some (r1, r2, r3) := H
  have A5 := Aside0.mk A50
  clear A50
  by_cases c6 : 0 ≤ t306
  · rw [if_pos c6] at H
    have c6b0 : decide (0 ≤ t306) = true := decide_eq_true c6
    clear c6
    by_cases c7 : t306 < (y303.length : Int)
    · rw [if_pos c7] at H
      have c7b0 : decide (t306 < (y303.length : Int)) = true := decide_eq_true c7
      clear c7
      by_cases c8 : 0 ≤ (rd y303 t306)
      · rw [if_pos c8] at H
        have c8b0 : decide (0 ≤ (rd y303 t306)) = true := decide_eq_true c8
        clear c8
        by_cases c9 : (rd y303 t306) < (y300.length : Int)
        · rw [if_pos c9] at H
          have c9b0 : decide ((rd y303 t306) < (y300.length : Int)) = true := decide_eq_true c9
          clear c9
          replace H := Option.bind_eq_some_iff.mp H
          obtain ⟨⟨t310, t311⟩, A100, H⟩ := H
          replace H : ((some (([wrap64 (1 + t310), 0, 13, (-1)] : List Int) : List Int)).bind fun y312 => ((some (([0, 0, 0, 0, 0, 1, 2, 3] : List Int) : List Int)).bind fun y315 => ((spec_l20Rd_pick.f k t291 t311 8).bind fun bt318 => (if 0 ≤ bt318.1 then (if bt318.1 < (y315.length : Int) then (if 0 ≤ (rd y315 bt318.1) then (if (rd y315 bt318.1) < (y312.length : Int) then (some (t294, rd y300 (rd y303 t306), rd y312 (rd y315 bt318.1))) else (none)) else (none)) else (none)) else (none))))) = some (r1, r2, r3) := H
          have A10 := Aside0.mk A100
          clear A100
          obtain ⟨y312, hy312⟩ : ∃ y_ : List Int, y_ = (([wrap64 (1 + t310), 0, 13, (-1)] : List Int)) := ⟨_, rfl⟩
          replace H : ((some (([0, 0, 0, 0, 0, 1, 2, 3] : List Int) : List Int)).bind fun y315 => ((spec_l20Rd_pick.f k t291 t311 8).bind fun bt318 => (if 0 ≤ bt318.1 then (if bt318.1 < (y315.length : Int) then (if 0 ≤ (rd y315 bt318.1) then (if (rd y315 bt318.1) < (y312.length : Int) then (some (t294, rd y300 (rd y303 t306), rd y312 (rd y315 bt318.1))) else (none)) else (none)) else (none)) else (none)))) = some (r1, r2, r3) := by first | (rw [hy312]; with_reducible exact H) | (have H2_ := (Option.bind_some _ _).symm.trans H; rw [hy312]; with_reducible exact H2_) | (have H2_ := (Option.bind_some _ _).symm.trans H; with_reducible exact H2_) | with_reducible exact H | (rw [hy312]; exact H) | exact H
          have Ny312 := Aside0.mk hy312
          clear hy312
          obtain ⟨y315, hy315⟩ : ∃ y_ : List Int, y_ = (([0, 0, 0, 0, 0, 1, 2, 3] : List Int)) := ⟨_, rfl⟩
          replace H : ((spec_l20Rd_pick.f k t291 t311 8).bind fun bt318 => (if 0 ≤ bt318.1 then (if bt318.1 < (y315.length : Int) then (if 0 ≤ (rd y315 bt318.1) then (if (rd y315 bt318.1) < (y312.length : Int) then (some (t294, rd y300 (rd y303 t306), rd y312 (rd y315 bt318.1))) else (none)) else (none)) else (none)) else (none))) = some (r1, r2, r3) := by first | (rw [hy315]; with_reducible exact H) | (have H2_ := (Option.bind_some _ _).symm.trans H; rw [hy315]; with_reducible exact H2_) | (have H2_ := (Option.bind_some _ _).symm.trans H; with_reducible exact H2_) | with_reducible exact H | (rw [hy315]; exact H) | exact H
          have Ny315 := Aside0.mk hy315
          clear hy315
          replace H := Option.bind_eq_some_iff.mp H
          obtain ⟨⟨t318, t319⟩, A110, H⟩ := H
          replace H : (if 0 ≤ t318 then (if t318 < (y315.length : Int) then (if 0 ≤ (rd y315 t318) then (if (rd y315 t318) < (y312.length : Int) then (some (t294, rd y300 (rd y303 t306), rd y312 (rd y315 t318))) else (none)) else (none)) else (none)) else (none)) = some (r1, r2, r3) := H
          have A11 := Aside0.mk A110
          clear A110
          by_cases c12 : 0 ≤ t318
          · rw [if_pos c12] at H
            have c12b0 : decide (0 ≤ t318) = true := decide_eq_true c12
            clear c12
            by_cases c13 : t318 < (y315.length : Int)
            · rw [if_pos c13] at H
              have c13b0 : decide (t318 < (y315.length : Int)) = true := decide_eq_true c13
              clear c13
              by_cases c14 : 0 ≤ (rd y315 t318)
              · rw [if_pos c14] at H
                have c14b0 : decide (0 ≤ (rd y315 t318)) = true := decide_eq_true c14
                clear c14
                by_cases c15 : (rd y315 t318) < (y312.length : Int)
                · rw [if_pos c15] at H
                  have c15b0 : decide ((rd y315 t318) < (y312.length : Int)) = true := decide_eq_true c15
                  clear c15
                  simp only [Option.some.injEq, Prod.mk.injEq] at H
                  obtain ⟨rfl, rfl, rfl⟩ := H
                  go_enter Try.func24, Try.ntmps24
                  try go_wp2_with (first | ((with_reducible refine gate_callee (f := 28) rfl ?_); refine goesL_ (some 8) rfl rfl Try.func28 (by kernel_rfl) rfl #[.slice A0 l0.length c0] rfl (by (try simp only [List.map_toArray, List.map_cons, List.map_nil]); first | done | rfl | (simp only [List.length_drop, List.length_take]; rfl)) ?_; (with_reducible refine (spec_l20Open.calls _ _ l0 t291 t292 w _ ?side1 ?side2 ?side3 A2.out).mono ?_); (case side1 => repeat (first | (with_reducible first | exact HB.out | apply below_alloc | apply pw_below_drewN | apply below_drew1) | exact HB.out)); (case side2 => exact HR0.out); (case side3 => exact HC0.out); rintro e w16 ⟨g293, rfl, hi, hb, hb2⟩; refine ⟨_, rfl, ?_⟩; have n0_ := Aside0.mk (hb); have n1_ := Aside0.mk (hi); clear HB; have HB := n0_; have HI293 := n1_; clear n0_ n1_; (try clear hb); (try clear hb2); (try clear hk); (try clear hi)) | ((with_reducible refine gate_callee (f := 27) rfl ?_); refine goesL_ (some 10) rfl rfl Try.func27 (by kernel_rfl) rfl #[.pointer (some ⟨g293, 0, none⟩), .int .i64 12] rfl (by (try simp only [List.map_toArray, List.map_cons, List.map_nil]); first | done | rfl | (simp only [List.length_drop, List.length_take]; rfl)) ?_; (with_reducible refine (spec_l20Bytes.calls k g293 t291 t292 12 t294 t297 w _ ?side1 ?side2 A3.out).mono ?_); (case side1 => repeat (first | (with_reducible first | exact HI293.out | apply IsS54.alloc | apply IsS54.drewN | apply IsS54.drew | apply IsS54.set_1) | exact HI293.out)); (case side2 => repeat (first | (with_reducible first | exact HB.out | apply below_alloc | apply pw_below_drewN | apply below_drew1 | refine below_set ?_ (IsS54.ge HI293.out)) | exact HB.out)); rintro e w17 ⟨v295, rfl, ho0, hi, hb, hk⟩; refine ⟨_, rfl, ?_⟩; have n0_ := Aside0.mk (Kd.R_lower ho0 (below_size (by repeat (first | (with_reducible first | exact HB.out | apply below_alloc | apply pw_below_drewN | apply below_drew1 | refine below_set ?_ (IsS54.ge HI293.out)) | exact HB.out)))); have n1_ := Aside0.mk (hb); have n2_ := Aside0.mk (hi); clear HB; clear HI293; have HO296 := n0_; have HB := n1_; have HI293 := n2_; clear n0_ n1_ n2_; (try clear hb); (try clear hb2); (try clear hk); (try clear hi); (try clear ho0)))
                  have pi308 : (0 ≤ (t306 : Int)) = True := eq_true (of_decide_eq_true (by first | (with_reducible assumption) | assumption))
                  have qi308 : (t306 < (y303.length : Int)) = True := eq_true (of_decide_eq_true (by first | (with_reducible assumption) | assumption))
                  have pi309 : (0 ≤ ((rd y303 t306) : Int)) = True := eq_true (of_decide_eq_true (by first | (with_reducible assumption) | assumption))
                  have qi309 : ((rd y303 t306) < (y300.length : Int)) = True := eq_true (of_decide_eq_true (by first | (with_reducible assumption) | assumption))
                  have pi320 : (0 ≤ (t318 : Int)) = True := eq_true (of_decide_eq_true (by first | (with_reducible assumption) | assumption))
                  have qi320 : (t318 < (y315.length : Int)) = True := eq_true (of_decide_eq_true (by first | (with_reducible assumption) | assumption))
                  have pi321 : (0 ≤ ((rd y315 t318) : Int)) = True := eq_true (of_decide_eq_true (by first | (with_reducible assumption) | assumption))
                  have qi321 : ((rd y315 t318) < (y312.length : Int)) = True := eq_true (of_decide_eq_true (by first | (with_reducible assumption) | assumption))
                  have n0_ := Aside0.mk (Kd.R_drew HO296.out)
                  have n1_ := Aside0.mk (IsS54.drew HI293.out)
                  have n2_ := Aside0.mk (below_drew1 HB.out)
                  clear HO296
                  clear HI293
                  clear HB
                  have HO296 := n0_
                  have HI293 := n1_
                  have HB := n2_
                  clear n0_ n1_ n2_
                  obtain ⟨Ao19, co19, eo19⟩ := Kd.R_slice HO296.out
                  (first | subst eo19 | (injection eo19 with f1_ f2_ f3_; have f4_ := f1_.symm; have f5_ := f3_.symm; clear f1_ f2_ f3_; subst f4_; subst f5_))
                  refine start_ (n := 32) (S := fun w' => True) (ds := []) #[false, false, false, false, false, false, false, false, false, false, false, false, false, false, false, false, false, false, false, false, false, false, false, false, false, false, false, false, false, false, false, false] (by kernel_rfl) rfl rfl trivial (fun hHeld => ?_); refine with_tabW spec_DrawBitGet.tab3 spec_DrawBitGet.bits3 (fun HT_ HW_ => ?_)
                  generalize w17.drew = w18 at HO296 HI293 HB hHeld ⊢
                  refine pure_ (i := 0) (N := some 11) (v := ?_) (a' := ?_) #[true, false, false, false, false, false, false, false, false, false, false, false, false, false, false, false, false, false, false, false, false, false, false, false, false, false, false, false, false, false, false, false] rfl rfl (any_of HT_.out (by kernel_rfl)) (fun _ _ _ h => h) (Or.inl ⟨by rfl, ?_⟩) ?_ ?_
                  rotate_left
                  · intro w'
                    go_simp
                    with_reducible rfl
                  rotate_left
                  · simp only [Act.put, List.setIfInBounds_toArray, List.set_cons_zero, List.set_cons_succ, i64_w, i32_w]
                    rfl
                  refine pure_ (i := 1) (N := some 12) (v := ?_) (a' := ?_) #[true, true, false, false, false, false, false, false, false, false, false, false, false, false, false, false, false, false, false, false, false, false, false, false, false, false, false, false, false, false, false, false] rfl rfl (any_of HT_.out (by kernel_rfl)) (fun _ _ _ h => h) (Or.inl ⟨by rfl, ?_⟩) ?_ ?_
                  rotate_left
                  · intro w'
                    go_simp
                    with_reducible rfl
                  rotate_left
                  · simp only [Act.put, List.setIfInBounds_toArray, List.set_cons_zero, List.set_cons_succ, i64_w, i32_w]
                    rfl
                  refine pure_ (i := 2) (N := some 13) (v := ?_) (a' := ?_) #[true, true, true, false, false, false, false, false, false, false, false, false, false, false, false, false, false, false, false, false, false, false, false, false, false, false, false, false, false, false, false, false] rfl rfl (any_of HT_.out (by kernel_rfl)) (fun _ _ _ h => h) (Or.inl ⟨by rfl, ?_⟩) ?_ ?_
                  rotate_left
                  · intro w'
                    go_simp
                    with_reducible rfl
                  rotate_left
                  · simp only [Act.put, List.setIfInBounds_toArray, List.set_cons_zero, List.set_cons_succ, i64_w, i32_w]
                    rfl
                  refine pure_ (i := 7) (N := some 18) (v := ?_) (a' := ?_) #[true, true, true, false, false, false, false, true, false, false, false, false, false, false, false, false, false, false, false, false, false, false, false, false, false, false, false, false, false, false, false, false] rfl rfl (any_of HT_.out (by kernel_rfl)) (fun _ _ _ h => h) (Or.inl ⟨by rfl, ?_⟩) ?_ ?_
                  rotate_left
                  · intro w'
                    go_simp
                    with_reducible rfl
                  rotate_left
                  · simp only [Act.put, List.setIfInBounds_toArray, List.set_cons_zero, List.set_cons_succ, i64_w, i32_w]
                    rfl
                  refine pure_ (i := 12) (N := some 23) (v := ?_) (a' := ?_) #[true, true, true, false, false, false, false, true, false, false, false, false, true, false, false, false, false, false, false, false, false, false, false, false, false, false, false, false, false, false, false, false] rfl rfl (any_of HT_.out (by kernel_rfl)) (fun _ _ _ h => h) (Or.inl ⟨by rfl, ?_⟩) ?_ ?_
                  rotate_left
                  · intro w'
                    go_simp
                    with_reducible rfl
                  rotate_left
                  · simp only [Act.put, List.setIfInBounds_toArray, List.set_cons_zero, List.set_cons_succ, i64_w, i32_w]
                    rfl
                  refine pure_ (i := 18) (N := some 29) (v := ?_) (a' := ?_) #[true, true, true, false, false, false, false, true, false, false, false, false, true, false, false, false, false, false, true, false, false, false, false, false, false, false, false, false, false, false, false, false] rfl rfl (any_of HT_.out (by kernel_rfl)) (fun _ _ _ h => h) (Or.inl ⟨by rfl, ?_⟩) ?_ ?_
                  rotate_left
                  · intro w'
                    go_simp
                    with_reducible rfl
                  rotate_left
                  · simp only [Act.put, List.setIfInBounds_toArray, List.set_cons_zero, List.set_cons_succ, i64_w, i32_w]
                    rfl
                  refine pure_ (i := 23) (N := some 34) (v := ?_) (a' := ?_) #[true, true, true, false, false, false, false, true, false, false, false, false, true, false, false, false, false, false, true, false, false, false, false, true, false, false, false, false, false, false, false, false] rfl rfl (any_of HT_.out (by kernel_rfl)) (fun _ _ _ h => h) (Or.inl ⟨by rfl, ?_⟩) ?_ ?_
                  rotate_left
                  · intro w'
                    go_simp
                    with_reducible rfl
                  rotate_left
                  · simp only [Act.put, List.setIfInBounds_toArray, List.set_cons_zero, List.set_cons_succ, i64_w, i32_w]
                    rfl
                  refine inv_at [3, 4, 5, 6, 8, 9, 10, 11, 13, 14, 15, 16, 17, 19, 20, 21, 22, 24, 25, 26, 27, 28, 29, 30, 31] (fun a0_ b a w' => ∃ (v301 : Value) (adz_v301 : Addr) (v304 : Value) (adz_v304 : Addr) (v313 : Value) (adz_v313 : Addr) (v316 : Value) (adz_v316 : Addr) (m14_ : Value) (m16_ : Value) (m25_ : Value) (m27_ : Value), a = putSel a0_ b [(3, 14, .int .i64 (t294.length : Int)), (4, 15, .int .i64 (wrap64 (8 * (t294.length : Int)))), (5, 16, .int .i64 (wrap64 ((wrap64 (8 * (t294.length : Int))) + 1))), (6, 17, .int .i64 t298), (8, 19, .int .i64 (t294.length : Int)), (9, 20, .int .i64 (wrap64 (8 * (t294.length : Int)))), (10, 21, v301), (11, 22, v304), (13, 24, .int .i64 t306), (14, 25, m14_), (15, 26, .int .i64 (rd y303 t306)), (16, 27, m16_), (17, 28, .int .i64 (rd y300 (rd y303 t306))), (19, 30, .int .i64 t310), (20, 31, .int .i64 (wrap64 (1 + t310))), (21, 32, v313), (22, 33, v316), (24, 35, .int .i64 t318), (25, 36, m25_), (26, 37, .int .i64 (rd y315 t318)), (27, 38, m27_), (28, 39, .int .i64 (rd y312 (rd y315 t318))), (29, 2, .slice Ao19 t294.length co19), (30, 3, .int .i64 (rd y300 (rd y303 t306))), (31, 4, .int .i64 (rd y312 (rd y315 t318)))] ∧ (Kd.R (Kd.int .u8) 5 w' w.heap.size (fun _ => True) (.slice Ao19 t294.length co19) t294) ∧ (b 6 = false → IsS54 w w' g293 t291 t297) ∧ (Below w.heap.size w w') ∧ (b 6 = true → b 13 = false → IsS54 w w' g293 t291 t299) ∧ (b 10 = true → Kd.R (Kd.int .i64) 3 w' w.heap.size (fun _ => True) v301 y300) ∧ (b 10 = true → ∃ c_, (v301 : Value) = .slice (some adz_v301) y300.length c_) ∧ (b 11 = true → Kd.R (Kd.int .i64) 3 w' w.heap.size (fun _ => True) v304 y303) ∧ (b 11 = true → ∃ c_, (v304 : Value) = .slice (some adz_v304) y303.length c_) ∧ (b 13 = true → b 19 = false → IsS54 w w' g293 t291 t307) ∧ (b 19 = true → b 24 = false → IsS54 w w' g293 t291 t311) ∧ (b 21 = true → Kd.R (Kd.int .i64) 3 w' w.heap.size (fun _ => True) v313 y312) ∧ (b 21 = true → ∃ c_, (v313 : Value) = .slice (some adz_v313) y312.length c_) ∧ (b 22 = true → Kd.R (Kd.int .i64) 3 w' w.heap.size (fun _ => True) v316 y315) ∧ (b 22 = true → ∃ c_, (v316 : Value) = .slice (some adz_v316) y315.length c_) ∧ (b 24 = true → IsS54 w w' g293 t291 t319) ∧ (b 14 = true → (m14_ : Value) = .pointer (some (adz_v304.add (t306).toNat))) ∧ (b 16 = true → (m16_ : Value) = .pointer (some (adz_v301.add ((rd y303 t306)).toNat))) ∧ (b 25 = true → (m25_ : Value) = .pointer (some (adz_v316.add (t318).toNat))) ∧ (b 27 = true → (m27_ : Value) = .pointer (some (adz_v313.add ((rd y315 t318)).toNat)))) HT_.out HW_.out (by kernel_rfl) (by kernel_rfl) ?_ ?_ ?_
                  · exact ⟨.bool false, ⟨0, 0, none⟩, .bool false, ⟨0, 0, none⟩, .bool false, ⟨0, 0, none⟩, .bool false, ⟨0, 0, none⟩, .bool false, .bool false, .bool false, .bool false, by simp only [putSel, Bool.false_eq_true, if_false], HO296.out, fun _ => HI293.out, HB.out, fun h_ => absurd h_ (by decide), fun h_ => absurd h_ (by decide), fun h_ => absurd h_ (by decide), fun h_ => absurd h_ (by decide), fun h_ => absurd h_ (by decide), fun h_ => absurd h_ (by decide), fun h_ => absurd h_ (by decide), fun h_ => absurd h_ (by decide), fun h_ => absurd h_ (by decide), fun h_ => absurd h_ (by decide), fun h_ => absurd h_ (by decide), fun h_ => absurd h_ (by decide), fun h_ => absurd h_ (by decide), fun h_ => absurd h_ (by decide), fun h_ => absurd h_ (by decide), fun h_ => absurd h_ (by decide)⟩
                  · skip
                    clear HB HI293 HO296
                    refine steps_cons ?_ ?_
                    · rintro b a w' ⟨v301, adz_v301, v304, adz_v304, v313, adz_v313, v316, adz_v316, m14_, m16_, m25_, m27_, ha, Q_HO296, Q_HI293, Q_HB, Q_HI293_e6, Q_HO302, Q_HA_HO302, Q_HO305, Q_HA_HO305, Q_HI293_e13, Q_HI293_e19, Q_HO314, Q_HA_HO314, Q_HO317, Q_HA_HO317, Q_HI293_e24, Q_X14_, Q_X16_, Q_X25_, Q_X27_⟩ hb_ hon hoff
                      refine ⟨_, rfl, fun K hK => ?_⟩
                      have e13 : a.tmps[13]? = some (.slice Ao19 t294.length co19) := by rw [ha]; exact (putSel_off rfl).trans rfl
                      replace ha := Aside0.mk ha
                      have HO296 := Aside0.mk Q_HO296
                      have HI293 := Aside0.mk (Q_HI293 (hoff 6 (by kernel_rfl)))
                      have HB := Aside0.mk Q_HB
                      refine value_ (w1 := w') (v := .int .i64 (t294.length : Int)) (by rfl) rfl ?_ ?_
                      · go_simp
                        (try simp only [i64_w])
                        try rfl
                      refine hK.out _ _ ⟨v301, adz_v301, v304, adz_v304, v313, adz_v313, v316, adz_v316, m14_, m16_, m25_, m27_, (by rw [ha.out]; exact putSel_upk 0 hb_ rfl rfl rfl), Q_HO296, Q_HI293, Q_HB, fun h0_ _ => absurd ((hoff 6 (by kernel_rfl)).symm.trans h0_) (by decide), fun h0_ => absurd ((hoff 10 (by kernel_rfl)).symm.trans h0_) (by decide), fun h0_ => absurd ((hoff 10 (by kernel_rfl)).symm.trans h0_) (by decide), Q_HO305, Q_HA_HO305, fun h0_ _ => absurd ((hoff 13 (by kernel_rfl)).symm.trans h0_) (by decide), fun h0_ _ => absurd ((hoff 19 (by kernel_rfl)).symm.trans h0_) (by decide), fun h0_ => absurd ((hoff 21 (by kernel_rfl)).symm.trans h0_) (by decide), fun h0_ => absurd ((hoff 21 (by kernel_rfl)).symm.trans h0_) (by decide), Q_HO317, Q_HA_HO317, fun h0_ => absurd ((hoff 24 (by kernel_rfl)).symm.trans h0_) (by decide), fun h0_ => absurd ((hoff 14 (by kernel_rfl)).symm.trans h0_) (by decide), fun h0_ => absurd ((hoff 16 (by kernel_rfl)).symm.trans h0_) (by decide), fun h0_ => absurd ((hoff 25 (by kernel_rfl)).symm.trans h0_) (by decide), fun h0_ => absurd ((hoff 27 (by kernel_rfl)).symm.trans h0_) (by decide)⟩
                    refine steps_cons ?_ ?_
                    · rintro b a w' ⟨v301, adz_v301, v304, adz_v304, v313, adz_v313, v316, adz_v316, m14_, m16_, m25_, m27_, ha, Q_HO296, Q_HI293, Q_HB, Q_HI293_e6, Q_HO302, Q_HA_HO302, Q_HO305, Q_HA_HO305, Q_HI293_e13, Q_HI293_e19, Q_HO314, Q_HA_HO314, Q_HO317, Q_HA_HO317, Q_HI293_e24, Q_X14_, Q_X16_, Q_X25_, Q_X27_⟩ hb_ hon hoff
                      refine ⟨_, rfl, fun K hK => ?_⟩
                      have e14 : a.tmps[14]? = some (.int .i64 (t294.length : Int)) := by rw [ha]; exact putSel_on (e := (3, 14, .int .i64 (t294.length : Int))) 0 rfl rfl (hon 3 (by kernel_rfl)) rfl
                      replace ha := Aside0.mk ha
                      have HO296 := Aside0.mk Q_HO296
                      have HI293 := Aside0.mk (Q_HI293 (hoff 6 (by kernel_rfl)))
                      have HB := Aside0.mk Q_HB
                      refine value_ (w1 := w') (v := .int .i64 (wrap64 (8 * (t294.length : Int)))) (by rfl) rfl ?_ ?_
                      · go_simp
                        (try simp only [i64_w])
                        try rfl
                      refine hK.out _ _ ⟨v301, adz_v301, v304, adz_v304, v313, adz_v313, v316, adz_v316, m14_, m16_, m25_, m27_, (by rw [ha.out]; exact putSel_upk 1 hb_ rfl rfl rfl), Q_HO296, Q_HI293, Q_HB, fun h0_ _ => absurd ((hoff 6 (by kernel_rfl)).symm.trans h0_) (by decide), fun h0_ => absurd ((hoff 10 (by kernel_rfl)).symm.trans h0_) (by decide), fun h0_ => absurd ((hoff 10 (by kernel_rfl)).symm.trans h0_) (by decide), Q_HO305, Q_HA_HO305, fun h0_ _ => absurd ((hoff 13 (by kernel_rfl)).symm.trans h0_) (by decide), fun h0_ _ => absurd ((hoff 19 (by kernel_rfl)).symm.trans h0_) (by decide), fun h0_ => absurd ((hoff 21 (by kernel_rfl)).symm.trans h0_) (by decide), fun h0_ => absurd ((hoff 21 (by kernel_rfl)).symm.trans h0_) (by decide), Q_HO317, Q_HA_HO317, fun h0_ => absurd ((hoff 24 (by kernel_rfl)).symm.trans h0_) (by decide), fun h0_ => absurd ((hoff 14 (by kernel_rfl)).symm.trans h0_) (by decide), fun h0_ => absurd ((hoff 16 (by kernel_rfl)).symm.trans h0_) (by decide), fun h0_ => absurd ((hoff 25 (by kernel_rfl)).symm.trans h0_) (by decide), fun h0_ => absurd ((hoff 27 (by kernel_rfl)).symm.trans h0_) (by decide)⟩
                    refine steps_cons ?_ ?_
                    · rintro b a w' ⟨v301, adz_v301, v304, adz_v304, v313, adz_v313, v316, adz_v316, m14_, m16_, m25_, m27_, ha, Q_HO296, Q_HI293, Q_HB, Q_HI293_e6, Q_HO302, Q_HA_HO302, Q_HO305, Q_HA_HO305, Q_HI293_e13, Q_HI293_e19, Q_HO314, Q_HA_HO314, Q_HO317, Q_HA_HO317, Q_HI293_e24, Q_X14_, Q_X16_, Q_X25_, Q_X27_⟩ hb_ hon hoff
                      refine ⟨_, rfl, fun K hK => ?_⟩
                      have e15 : a.tmps[15]? = some (.int .i64 (wrap64 (8 * (t294.length : Int)))) := by rw [ha]; exact putSel_on (e := (4, 15, .int .i64 (wrap64 (8 * (t294.length : Int))))) 1 rfl rfl (hon 4 (by kernel_rfl)) rfl
                      replace ha := Aside0.mk ha
                      have HO296 := Aside0.mk Q_HO296
                      have HI293 := Aside0.mk (Q_HI293 (hoff 6 (by kernel_rfl)))
                      have HB := Aside0.mk Q_HB
                      refine value_ (w1 := w') (v := .int .i64 (wrap64 ((wrap64 (8 * (t294.length : Int))) + 1))) (by rfl) rfl ?_ ?_
                      · go_simp
                        (try simp only [i64_w])
                        try rfl
                      refine hK.out _ _ ⟨v301, adz_v301, v304, adz_v304, v313, adz_v313, v316, adz_v316, m14_, m16_, m25_, m27_, (by rw [ha.out]; exact putSel_upk 2 hb_ rfl rfl rfl), Q_HO296, Q_HI293, Q_HB, fun h0_ _ => absurd ((hoff 6 (by kernel_rfl)).symm.trans h0_) (by decide), fun h0_ => absurd ((hoff 10 (by kernel_rfl)).symm.trans h0_) (by decide), fun h0_ => absurd ((hoff 10 (by kernel_rfl)).symm.trans h0_) (by decide), Q_HO305, Q_HA_HO305, fun h0_ _ => absurd ((hoff 13 (by kernel_rfl)).symm.trans h0_) (by decide), fun h0_ _ => absurd ((hoff 19 (by kernel_rfl)).symm.trans h0_) (by decide), fun h0_ => absurd ((hoff 21 (by kernel_rfl)).symm.trans h0_) (by decide), fun h0_ => absurd ((hoff 21 (by kernel_rfl)).symm.trans h0_) (by decide), Q_HO317, Q_HA_HO317, fun h0_ => absurd ((hoff 24 (by kernel_rfl)).symm.trans h0_) (by decide), fun h0_ => absurd ((hoff 14 (by kernel_rfl)).symm.trans h0_) (by decide), fun h0_ => absurd ((hoff 16 (by kernel_rfl)).symm.trans h0_) (by decide), fun h0_ => absurd ((hoff 25 (by kernel_rfl)).symm.trans h0_) (by decide), fun h0_ => absurd ((hoff 27 (by kernel_rfl)).symm.trans h0_) (by decide)⟩
                    refine steps_cons ?_ ?_
                    · rintro b a w' ⟨v301, adz_v301, v304, adz_v304, v313, adz_v313, v316, adz_v316, m14_, m16_, m25_, m27_, ha, Q_HO296, Q_HI293, Q_HB, Q_HI293_e6, Q_HO302, Q_HA_HO302, Q_HO305, Q_HA_HO305, Q_HI293_e13, Q_HI293_e19, Q_HO314, Q_HA_HO314, Q_HO317, Q_HA_HO317, Q_HI293_e24, Q_X14_, Q_X16_, Q_X25_, Q_X27_⟩ hb_ hon hoff
                      refine ⟨_, rfl, fun K hK => ?_⟩
                      have e12 : a.tmps[12]? = some (.pointer (some ⟨g293, 0, none⟩)) := by rw [ha]; exact (putSel_off rfl).trans rfl
                      have e16 : a.tmps[16]? = some (.int .i64 (wrap64 ((wrap64 (8 * (t294.length : Int))) + 1))) := by rw [ha]; exact putSel_on (e := (5, 16, .int .i64 (wrap64 ((wrap64 (8 * (t294.length : Int))) + 1)))) 2 rfl rfl (hon 5 (by kernel_rfl)) rfl
                      replace ha := Aside0.mk ha
                      have HO296 := Aside0.mk Q_HO296
                      have HI293 := Aside0.mk (Q_HI293 hb_)
                      have HB := Aside0.mk Q_HB
                      refine goes_ Try.func32 (by kernel_rfl) rfl #[.pointer (some ⟨g293, 0, none⟩), .int .i64 (wrap64 ((wrap64 (8 * (t294.length : Int))) + 1))] (by rfl) rfl rfl (by first | (simp only [List.map_toArray, List.map_cons, List.map_nil, Act.eval, Array.getD_eq_getD_getElem?, Option.getD_some, e12, e16]; done) | (simp only [List.map_toArray, List.map_cons, List.map_nil, Act.eval, Array.getD_eq_getD_getElem?, Option.getD_some, e12, e16]; rfl)) ?_
                      with_reducible refine (spec_l20Rd_pick.calls k g293 t291 t297 (wrap64 ((wrap64 (8 * (t294.length : Int))) + 1)) t298 t299 w _ ?side1 ?side2 A4.out).mono ?_
                      (case side1 => repeat (first | (with_reducible first | exact HI293.out | apply IsS54.alloc | apply IsS54.drewN | apply IsS54.drew | apply IsS54.set_1) | exact HI293.out))
                      (case side2 => repeat (first | (with_reducible first | exact HB.out | apply below_alloc | apply pw_below_drewN | apply below_drew1 | refine below_set ?_ (IsS54.ge HI293.out)) | exact HB.out))
                      rintro e w20 ⟨rfl, hi, hb, hk⟩
                      refine ⟨_, rfl, ?_⟩
                      have n0_ := Aside0.mk (Kd.R_mono (Kd.R_keep (IsS54.apart (show IsS54 w _ g293 t291 t297 from by repeat (first | (with_reducible first | exact HI293.out | apply IsS54.alloc | apply IsS54.drewN | apply IsS54.drew | apply IsS54.set_1) | exact HI293.out)) (by (with_reducible repeat (first | apply Kd.R_alloc | apply Kd.R_drewN | apply Kd.R_drew)); exact HO296.out) (by decide)) hk (fun _ h => h.2)) (fun _ h => h.1))
                      have n1_ := Aside0.mk (hb)
                      have n2_ := Aside0.mk (hi)
                      have z_HO305 := fun (h0_ : b 11 = true) => (show Kd.R (Kd.int .i64) 3 w20 w.heap.size (fun _ => True) v304 y303 from by first | exact (Kd.R_mono (Kd.R_keep (IsS54.apart (show IsS54 w _ g293 t291 t297 from by repeat (first | (with_reducible first | exact HI293.out | apply IsS54.alloc | apply IsS54.drewN | apply IsS54.drew | apply IsS54.set_1) | exact HI293.out)) (by (with_reducible repeat (first | apply Kd.R_alloc | apply Kd.R_drewN | apply Kd.R_drew)); exact (Q_HO305 h0_)) (by decide)) hk (fun _ h => h.2)) (fun _ h => h.1)) | exact Kd.R_mono (Kd.R_mono (Kd.R_keep (IsS54.apart (show IsS54 w _ g293 t291 t297 from by repeat (first | (with_reducible first | exact HI293.out | apply IsS54.alloc | apply IsS54.drewN | apply IsS54.drew | apply IsS54.set_1) | exact HI293.out)) (by (with_reducible repeat (first | apply Kd.R_alloc | apply Kd.R_drewN | apply Kd.R_drew)); exact (Q_HO305 h0_)) (by decide)) hk (fun _ h => h.2)) (fun _ h => h.1)) (fun _ h_ => by first | trivial | exact h_ | exact h_.1))
                      have z_HO317 := fun (h0_ : b 22 = true) => (show Kd.R (Kd.int .i64) 3 w20 w.heap.size (fun _ => True) v316 y315 from by first | exact (Kd.R_mono (Kd.R_keep (IsS54.apart (show IsS54 w _ g293 t291 t297 from by repeat (first | (with_reducible first | exact HI293.out | apply IsS54.alloc | apply IsS54.drewN | apply IsS54.drew | apply IsS54.set_1) | exact HI293.out)) (by (with_reducible repeat (first | apply Kd.R_alloc | apply Kd.R_drewN | apply Kd.R_drew)); exact (Q_HO317 h0_)) (by decide)) hk (fun _ h => h.2)) (fun _ h => h.1)) | exact Kd.R_mono (Kd.R_mono (Kd.R_keep (IsS54.apart (show IsS54 w _ g293 t291 t297 from by repeat (first | (with_reducible first | exact HI293.out | apply IsS54.alloc | apply IsS54.drewN | apply IsS54.drew | apply IsS54.set_1) | exact HI293.out)) (by (with_reducible repeat (first | apply Kd.R_alloc | apply Kd.R_drewN | apply Kd.R_drew)); exact (Q_HO317 h0_)) (by decide)) hk (fun _ h => h.2)) (fun _ h => h.1)) (fun _ h_ => by first | trivial | exact h_ | exact h_.1))
                      clear HO296
                      clear HB
                      clear HI293
                      have HO296 := n0_
                      have HB := n1_
                      have HI293 := n2_
                      clear n0_ n1_ n2_
                      (try clear hb)
                      (try clear hb2)
                      (try clear hk)
                      (try clear hi)
                      refine hK.out _ _ ⟨v301, adz_v301, v304, adz_v304, v313, adz_v313, v316, adz_v316, m14_, m16_, m25_, m27_, (by rw [ha.out]; exact putSel_upk 3 hb_ rfl rfl rfl), (by (with_reducible repeat (first | apply Kd.R_alloc | apply Kd.R_drewN | apply Kd.R_drew)); exact HO296.out), fun h0_ => absurd ((up_self b 6).symm.trans h0_) (by decide), (by repeat (first | (with_reducible first | exact HB.out | apply below_alloc | apply pw_below_drewN | apply below_drew1 | refine below_set ?_ (IsS54.ge HI293.out)) | exact HB.out)), fun _ _ => (by repeat (first | (with_reducible first | exact HI293.out | apply IsS54.alloc | apply IsS54.drewN | apply IsS54.drew | apply IsS54.set_1) | exact HI293.out)), fun h0_ => absurd ((hoff 10 (by kernel_rfl)).symm.trans h0_) (by decide), fun h0_ => absurd ((hoff 10 (by kernel_rfl)).symm.trans h0_) (by decide), z_HO305, Q_HA_HO305, fun h0_ _ => absurd ((hoff 13 (by kernel_rfl)).symm.trans h0_) (by decide), fun h0_ _ => absurd ((hoff 19 (by kernel_rfl)).symm.trans h0_) (by decide), fun h0_ => absurd ((hoff 21 (by kernel_rfl)).symm.trans h0_) (by decide), fun h0_ => absurd ((hoff 21 (by kernel_rfl)).symm.trans h0_) (by decide), z_HO317, Q_HA_HO317, fun h0_ => absurd ((hoff 24 (by kernel_rfl)).symm.trans h0_) (by decide), fun h0_ => absurd ((hoff 14 (by kernel_rfl)).symm.trans h0_) (by decide), fun h0_ => absurd ((hoff 16 (by kernel_rfl)).symm.trans h0_) (by decide), fun h0_ => absurd ((hoff 25 (by kernel_rfl)).symm.trans h0_) (by decide), fun h0_ => absurd ((hoff 27 (by kernel_rfl)).symm.trans h0_) (by decide)⟩
                    refine steps_cons ?_ ?_
                    · rintro b a w' ⟨v301, adz_v301, v304, adz_v304, v313, adz_v313, v316, adz_v316, m14_, m16_, m25_, m27_, ha, Q_HO296, Q_HI293, Q_HB, Q_HI293_e6, Q_HO302, Q_HA_HO302, Q_HO305, Q_HA_HO305, Q_HI293_e13, Q_HI293_e19, Q_HO314, Q_HA_HO314, Q_HO317, Q_HA_HO317, Q_HI293_e24, Q_X14_, Q_X16_, Q_X25_, Q_X27_⟩ hb_ hon hoff
                      refine ⟨_, rfl, fun K hK => ?_⟩
                      have e18 : a.tmps[18]? = some (.slice Ao19 t294.length co19) := by rw [ha]; exact (putSel_off rfl).trans rfl
                      replace ha := Aside0.mk ha
                      have HO296 := Aside0.mk Q_HO296
                      have HB := Aside0.mk Q_HB
                      refine value_ (w1 := w') (v := .int .i64 (t294.length : Int)) (by rfl) rfl ?_ ?_
                      · go_simp
                        (try simp only [i64_w])
                        try rfl
                      refine hK.out _ _ ⟨v301, adz_v301, v304, adz_v304, v313, adz_v313, v316, adz_v316, m14_, m16_, m25_, m27_, (by rw [ha.out]; exact putSel_upk 4 hb_ rfl rfl rfl), Q_HO296, Q_HI293, Q_HB, Q_HI293_e6, fun h0_ => absurd ((hoff 10 (by kernel_rfl)).symm.trans h0_) (by decide), fun h0_ => absurd ((hoff 10 (by kernel_rfl)).symm.trans h0_) (by decide), Q_HO305, Q_HA_HO305, Q_HI293_e13, Q_HI293_e19, Q_HO314, Q_HA_HO314, Q_HO317, Q_HA_HO317, Q_HI293_e24, Q_X14_, fun h0_ => absurd ((hoff 16 (by kernel_rfl)).symm.trans h0_) (by decide), Q_X25_, Q_X27_⟩
                    refine steps_cons ?_ ?_
                    · rintro b a w' ⟨v301, adz_v301, v304, adz_v304, v313, adz_v313, v316, adz_v316, m14_, m16_, m25_, m27_, ha, Q_HO296, Q_HI293, Q_HB, Q_HI293_e6, Q_HO302, Q_HA_HO302, Q_HO305, Q_HA_HO305, Q_HI293_e13, Q_HI293_e19, Q_HO314, Q_HA_HO314, Q_HO317, Q_HA_HO317, Q_HI293_e24, Q_X14_, Q_X16_, Q_X25_, Q_X27_⟩ hb_ hon hoff
                      refine ⟨_, rfl, fun K hK => ?_⟩
                      have e19 : a.tmps[19]? = some (.int .i64 (t294.length : Int)) := by rw [ha]; exact putSel_on (e := (8, 19, .int .i64 (t294.length : Int))) 4 rfl rfl (hon 8 (by kernel_rfl)) rfl
                      replace ha := Aside0.mk ha
                      have HO296 := Aside0.mk Q_HO296
                      have HB := Aside0.mk Q_HB
                      refine value_ (w1 := w') (v := .int .i64 (wrap64 (8 * (t294.length : Int)))) (by rfl) rfl ?_ ?_
                      · go_simp
                        (try simp only [i64_w])
                        try rfl
                      refine hK.out _ _ ⟨v301, adz_v301, v304, adz_v304, v313, adz_v313, v316, adz_v316, m14_, m16_, m25_, m27_, (by rw [ha.out]; exact putSel_upk 5 hb_ rfl rfl rfl), Q_HO296, Q_HI293, Q_HB, Q_HI293_e6, fun h0_ => absurd ((hoff 10 (by kernel_rfl)).symm.trans h0_) (by decide), fun h0_ => absurd ((hoff 10 (by kernel_rfl)).symm.trans h0_) (by decide), Q_HO305, Q_HA_HO305, Q_HI293_e13, Q_HI293_e19, Q_HO314, Q_HA_HO314, Q_HO317, Q_HA_HO317, Q_HI293_e24, Q_X14_, fun h0_ => absurd ((hoff 16 (by kernel_rfl)).symm.trans h0_) (by decide), Q_X25_, Q_X27_⟩
                    refine steps_cons ?_ ?_
                    · rintro b a w' ⟨v301, adz_v301, v304, adz_v304, v313, adz_v313, v316, adz_v316, m14_, m16_, m25_, m27_, ha, Q_HO296, Q_HI293, Q_HB, Q_HI293_e6, Q_HO302, Q_HA_HO302, Q_HO305, Q_HA_HO305, Q_HI293_e13, Q_HI293_e19, Q_HO314, Q_HA_HO314, Q_HO317, Q_HA_HO317, Q_HI293_e24, Q_X14_, Q_X16_, Q_X25_, Q_X27_⟩ hb_ hon hoff
                      refine ⟨_, rfl, fun K hK => ?_⟩
                      have e17 : a.tmps[17]? = some (.int .i64 t298) := by rw [ha]; exact putSel_on (e := (6, 17, .int .i64 t298)) 3 rfl rfl (hon 6 (by kernel_rfl)) rfl
                      have e20 : a.tmps[20]? = some (.int .i64 (wrap64 (8 * (t294.length : Int)))) := by rw [ha]; exact putSel_on (e := (9, 20, .int .i64 (wrap64 (8 * (t294.length : Int))))) 5 rfl rfl (hon 9 (by kernel_rfl)) rfl
                      replace ha := Aside0.mk ha
                      have HO296 := Aside0.mk Q_HO296
                      have HB := Aside0.mk Q_HB
                      refine Kd.R_lit_step (Kd.int .i64) _ 3 ?hg (N := 21) ?hd (xs := ([t298, (-1), 9223372036854775807, wrap64 (8 * (t294.length : Int))] : List Int)) (inner := [.int .i64 t298, .int .i64 (-1), .int .i64 9223372036854775807, .int .i64 (wrap64 (8 * (t294.length : Int)))]) (ok := fun _ => True) (okp := fun _ => True) ?hr ?hp (fun _ hk => hk) trivial (Below.refl _ _) (Nat.le_refl _) (by simp) ?_; (case hd => rfl); (case hg => rfl); (case hr => first | (go_simp; done) | (go_simp; rfl)); (case hp => exact (Reps.one (show Kd.M (Kd.int .i64) _ _ _ t298 [.int .i64 t298] from rfl) (Reps.one (show Kd.M (Kd.int .i64) _ _ _ (-1) [.int .i64 (-1)] from rfl) (Reps.one (show Kd.M (Kd.int .i64) _ _ _ 9223372036854775807 [.int .i64 9223372036854775807] from rfl) (Reps.one (show Kd.M (Kd.int .i64) _ _ _ (wrap64 (8 * (t294.length : Int))) [.int .i64 (wrap64 (8 * (t294.length : Int)))] from rfl) (Reps.none _ _))))))
                      intro v301 w22 ho23 hb hg_ hnew_
                      clear hg_ hnew_
                      (first | rw [← Ny300.out] at ho23 | (simp only [Int.reduceToNat] at ho23; rw [← Ny300.out] at ho23))
                      have n0_ := Aside0.mk (Kd.R_below (by (with_reducible repeat (first | apply Kd.R_alloc | apply Kd.R_drewN | apply Kd.R_drew)); exact HO296.out) hb)
                      have n1_ := Aside0.mk (Kd.R_lower ho23 (below_size (by repeat (first | (with_reducible first | exact HB.out | apply below_alloc | apply pw_below_drewN | apply below_drew1) | exact HB.out))))
                      have n3_ := Aside0.mk (below_step (by repeat (first | (with_reducible first | exact HB.out | apply below_alloc | apply pw_below_drewN | apply below_drew1) | exact HB.out)) hb)
                      have z_HI293_e6 := fun (h0_ : b 6 = true) (h1_ : b 13 = false) => (show IsS54 w w22 g293 t291 t299 from by first | exact (IsS54.below (by repeat (first | (with_reducible first | exact (Q_HI293_e6 h0_ h1_) | apply IsS54.alloc | apply IsS54.drewN | apply IsS54.drew | apply IsS54.set_1) | exact (Q_HI293_e6 h0_ h1_))) hb))
                      have z_HO305 := fun (h0_ : b 11 = true) => (show Kd.R (Kd.int .i64) 3 w22 w.heap.size (fun _ => True) v304 y303 from by first | exact (Kd.R_elder' (by (with_reducible repeat (first | apply Kd.R_alloc | apply Kd.R_drewN | apply Kd.R_drew)); exact (Q_HO305 h0_)) (Kd.R_base ho23) hb) | exact Kd.R_mono (Kd.R_elder' (by (with_reducible repeat (first | apply Kd.R_alloc | apply Kd.R_drewN | apply Kd.R_drew)); exact (Q_HO305 h0_)) (Kd.R_base ho23) hb) (fun _ h_ => by first | trivial | exact h_ | exact h_.1))
                      have z_HI293_e13 := fun (h0_ : b 13 = true) (h1_ : b 19 = false) => (show IsS54 w w22 g293 t291 t307 from by first | exact (IsS54.below (by repeat (first | (with_reducible first | exact (Q_HI293_e13 h0_ h1_) | apply IsS54.alloc | apply IsS54.drewN | apply IsS54.drew | apply IsS54.set_1) | exact (Q_HI293_e13 h0_ h1_))) hb))
                      have z_HI293_e19 := fun (h0_ : b 19 = true) (h1_ : b 24 = false) => (show IsS54 w w22 g293 t291 t311 from by first | exact (IsS54.below (by repeat (first | (with_reducible first | exact (Q_HI293_e19 h0_ h1_) | apply IsS54.alloc | apply IsS54.drewN | apply IsS54.drew | apply IsS54.set_1) | exact (Q_HI293_e19 h0_ h1_))) hb))
                      have z_HO314 := fun (h0_ : b 21 = true) => (show Kd.R (Kd.int .i64) 3 w22 w.heap.size (fun _ => True) v313 y312 from by first | exact (Kd.R_elder' (by (with_reducible repeat (first | apply Kd.R_alloc | apply Kd.R_drewN | apply Kd.R_drew)); exact (Q_HO314 h0_)) (Kd.R_base ho23) hb) | exact Kd.R_mono (Kd.R_elder' (by (with_reducible repeat (first | apply Kd.R_alloc | apply Kd.R_drewN | apply Kd.R_drew)); exact (Q_HO314 h0_)) (Kd.R_base ho23) hb) (fun _ h_ => by first | trivial | exact h_ | exact h_.1))
                      have z_HO317 := fun (h0_ : b 22 = true) => (show Kd.R (Kd.int .i64) 3 w22 w.heap.size (fun _ => True) v316 y315 from by first | exact (Kd.R_elder' (by (with_reducible repeat (first | apply Kd.R_alloc | apply Kd.R_drewN | apply Kd.R_drew)); exact (Q_HO317 h0_)) (Kd.R_base ho23) hb) | exact Kd.R_mono (Kd.R_elder' (by (with_reducible repeat (first | apply Kd.R_alloc | apply Kd.R_drewN | apply Kd.R_drew)); exact (Q_HO317 h0_)) (Kd.R_base ho23) hb) (fun _ h_ => by first | trivial | exact h_ | exact h_.1))
                      have z_HI293_e24 := fun (h0_ : b 24 = true) => (show IsS54 w w22 g293 t291 t319 from by first | exact (IsS54.below (by repeat (first | (with_reducible first | exact (Q_HI293_e24 h0_) | apply IsS54.alloc | apply IsS54.drewN | apply IsS54.drew | apply IsS54.set_1) | exact (Q_HI293_e24 h0_))) hb))
                      clear HO296
                      clear HB
                      have HO296 := n0_
                      have HO302 := n1_
                      have HB := n3_
                      clear n0_ n1_ n3_
                      clear hb ho23
                      obtain ⟨Ao24, co24, eo24⟩ := Kd.R_slice HO302.out
                      subst eo24
                      obtain ⟨ado24, fo24, _⟩ := Kd.at_int (Kd.R_reads' HO302.out).2.2 0 (by decide) (by rw [Ny300.out]; simp)
                      cases fo24
                      refine hK.out _ _ ⟨.slice (some ado24) y300.length co24, ado24, v304, adz_v304, v313, adz_v313, v316, adz_v316, m14_, m16_, m25_, m27_, (by rw [ha.out]; exact putSel_upk 6 hb_ rfl rfl rfl), (by (with_reducible repeat (first | apply Kd.R_alloc | apply Kd.R_drewN | apply Kd.R_drew)); exact HO296.out), fun h0_ => absurd ((hon 6 (by kernel_rfl)).symm.trans h0_) (by decide), (by repeat (first | (with_reducible first | exact HB.out | apply below_alloc | apply pw_below_drewN | apply below_drew1) | exact HB.out)), z_HI293_e6, fun _ => (by (with_reducible repeat (first | apply Kd.R_alloc | apply Kd.R_drewN | apply Kd.R_drew)); exact HO302.out), fun _ => ⟨_, rfl⟩, z_HO305, Q_HA_HO305, z_HI293_e13, z_HI293_e19, z_HO314, Q_HA_HO314, z_HO317, Q_HA_HO317, z_HI293_e24, Q_X14_, fun h0_ => absurd ((hoff 16 (by kernel_rfl)).symm.trans h0_) (by decide), Q_X25_, Q_X27_⟩
                    refine steps_cons ?_ ?_
                    · rintro b a w' ⟨v301, adz_v301, v304, adz_v304, v313, adz_v313, v316, adz_v316, m14_, m16_, m25_, m27_, ha, Q_HO296, Q_HI293, Q_HB, Q_HI293_e6, Q_HO302, Q_HA_HO302, Q_HO305, Q_HA_HO305, Q_HI293_e13, Q_HI293_e19, Q_HO314, Q_HA_HO314, Q_HO317, Q_HA_HO317, Q_HI293_e24, Q_X14_, Q_X16_, Q_X25_, Q_X27_⟩ hb_ hon hoff
                      refine ⟨_, rfl, fun K hK => ?_⟩
                      replace ha := Aside0.mk ha
                      have HO296 := Aside0.mk Q_HO296
                      have HB := Aside0.mk Q_HB
                      refine Kd.R_lit_step (Kd.int .i64) _ 3 ?hg (N := 22) ?hd (xs := ([0, 0, 0, 0, 1, 2, 3] : List Int)) (inner := [.int .i64 0, .int .i64 0, .int .i64 0, .int .i64 0, .int .i64 1, .int .i64 2, .int .i64 3]) (ok := fun _ => True) (okp := fun _ => True) ?hr ?hp (fun _ hk => hk) trivial (Below.refl _ _) (Nat.le_refl _) (by simp) ?_; (case hd => rfl); (case hg => rfl); (case hr => first | (go_simp; done) | (go_simp; rfl)); (case hp => exact (Reps.one (show Kd.M (Kd.int .i64) _ _ _ 0 [.int .i64 0] from rfl) (Reps.one (show Kd.M (Kd.int .i64) _ _ _ 0 [.int .i64 0] from rfl) (Reps.one (show Kd.M (Kd.int .i64) _ _ _ 0 [.int .i64 0] from rfl) (Reps.one (show Kd.M (Kd.int .i64) _ _ _ 0 [.int .i64 0] from rfl) (Reps.one (show Kd.M (Kd.int .i64) _ _ _ 1 [.int .i64 1] from rfl) (Reps.one (show Kd.M (Kd.int .i64) _ _ _ 2 [.int .i64 2] from rfl) (Reps.one (show Kd.M (Kd.int .i64) _ _ _ 3 [.int .i64 3] from rfl) (Reps.none _ _)))))))))
                      intro v304 w20 ho21 hb hg_ hnew_
                      clear hg_ hnew_
                      (first | rw [← Ny303.out] at ho21 | (simp only [Int.reduceToNat] at ho21; rw [← Ny303.out] at ho21))
                      have n0_ := Aside0.mk (Kd.R_below (by (with_reducible repeat (first | apply Kd.R_alloc | apply Kd.R_drewN | apply Kd.R_drew)); exact HO296.out) hb)
                      have n1_ := Aside0.mk (Kd.R_lower ho21 (below_size (by repeat (first | (with_reducible first | exact HB.out | apply below_alloc | apply pw_below_drewN | apply below_drew1) | exact HB.out))))
                      have n3_ := Aside0.mk (below_step (by repeat (first | (with_reducible first | exact HB.out | apply below_alloc | apply pw_below_drewN | apply below_drew1) | exact HB.out)) hb)
                      have z_HI293 := fun (h0_ : b 6 = false) => (show IsS54 w w20 g293 t291 t297 from by first | exact (IsS54.below (by repeat (first | (with_reducible first | exact (Q_HI293 h0_) | apply IsS54.alloc | apply IsS54.drewN | apply IsS54.drew | apply IsS54.set_1) | exact (Q_HI293 h0_))) hb))
                      have z_HI293_e6 := fun (h0_ : b 6 = true) (h1_ : b 13 = false) => (show IsS54 w w20 g293 t291 t299 from by first | exact (IsS54.below (by repeat (first | (with_reducible first | exact (Q_HI293_e6 h0_ h1_) | apply IsS54.alloc | apply IsS54.drewN | apply IsS54.drew | apply IsS54.set_1) | exact (Q_HI293_e6 h0_ h1_))) hb))
                      have z_HO302 := fun (h0_ : b 10 = true) => (show Kd.R (Kd.int .i64) 3 w20 w.heap.size (fun _ => True) v301 y300 from by first | exact (Kd.R_elder' (by (with_reducible repeat (first | apply Kd.R_alloc | apply Kd.R_drewN | apply Kd.R_drew)); exact (Q_HO302 h0_)) (Kd.R_base ho21) hb) | exact Kd.R_mono (Kd.R_elder' (by (with_reducible repeat (first | apply Kd.R_alloc | apply Kd.R_drewN | apply Kd.R_drew)); exact (Q_HO302 h0_)) (Kd.R_base ho21) hb) (fun _ h_ => by first | trivial | exact h_ | exact h_.1))
                      have z_HI293_e13 := fun (h0_ : b 13 = true) (h1_ : b 19 = false) => (show IsS54 w w20 g293 t291 t307 from by first | exact (IsS54.below (by repeat (first | (with_reducible first | exact (Q_HI293_e13 h0_ h1_) | apply IsS54.alloc | apply IsS54.drewN | apply IsS54.drew | apply IsS54.set_1) | exact (Q_HI293_e13 h0_ h1_))) hb))
                      have z_HI293_e19 := fun (h0_ : b 19 = true) (h1_ : b 24 = false) => (show IsS54 w w20 g293 t291 t311 from by first | exact (IsS54.below (by repeat (first | (with_reducible first | exact (Q_HI293_e19 h0_ h1_) | apply IsS54.alloc | apply IsS54.drewN | apply IsS54.drew | apply IsS54.set_1) | exact (Q_HI293_e19 h0_ h1_))) hb))
                      have z_HO314 := fun (h0_ : b 21 = true) => (show Kd.R (Kd.int .i64) 3 w20 w.heap.size (fun _ => True) v313 y312 from by first | exact (Kd.R_elder' (by (with_reducible repeat (first | apply Kd.R_alloc | apply Kd.R_drewN | apply Kd.R_drew)); exact (Q_HO314 h0_)) (Kd.R_base ho21) hb) | exact Kd.R_mono (Kd.R_elder' (by (with_reducible repeat (first | apply Kd.R_alloc | apply Kd.R_drewN | apply Kd.R_drew)); exact (Q_HO314 h0_)) (Kd.R_base ho21) hb) (fun _ h_ => by first | trivial | exact h_ | exact h_.1))
                      have z_HO317 := fun (h0_ : b 22 = true) => (show Kd.R (Kd.int .i64) 3 w20 w.heap.size (fun _ => True) v316 y315 from by first | exact (Kd.R_elder' (by (with_reducible repeat (first | apply Kd.R_alloc | apply Kd.R_drewN | apply Kd.R_drew)); exact (Q_HO317 h0_)) (Kd.R_base ho21) hb) | exact Kd.R_mono (Kd.R_elder' (by (with_reducible repeat (first | apply Kd.R_alloc | apply Kd.R_drewN | apply Kd.R_drew)); exact (Q_HO317 h0_)) (Kd.R_base ho21) hb) (fun _ h_ => by first | trivial | exact h_ | exact h_.1))
                      have z_HI293_e24 := fun (h0_ : b 24 = true) => (show IsS54 w w20 g293 t291 t319 from by first | exact (IsS54.below (by repeat (first | (with_reducible first | exact (Q_HI293_e24 h0_) | apply IsS54.alloc | apply IsS54.drewN | apply IsS54.drew | apply IsS54.set_1) | exact (Q_HI293_e24 h0_))) hb))
                      clear HO296
                      clear HB
                      have HO296 := n0_
                      have HO305 := n1_
                      have HB := n3_
                      clear n0_ n1_ n3_
                      clear hb ho21
                      obtain ⟨Ao22, co22, eo22⟩ := Kd.R_slice HO305.out
                      subst eo22
                      obtain ⟨ado22, fo22, _⟩ := Kd.at_int (Kd.R_reads' HO305.out).2.2 0 (by decide) (by rw [Ny303.out]; simp)
                      cases fo22
                      refine hK.out _ _ ⟨v301, adz_v301, .slice (some ado22) y303.length co22, ado22, v313, adz_v313, v316, adz_v316, m14_, m16_, m25_, m27_, (by rw [ha.out]; exact putSel_upk 7 hb_ rfl rfl rfl), (by (with_reducible repeat (first | apply Kd.R_alloc | apply Kd.R_drewN | apply Kd.R_drew)); exact HO296.out), z_HI293, (by repeat (first | (with_reducible first | exact HB.out | apply below_alloc | apply pw_below_drewN | apply below_drew1) | exact HB.out)), z_HI293_e6, z_HO302, Q_HA_HO302, fun _ => (by (with_reducible repeat (first | apply Kd.R_alloc | apply Kd.R_drewN | apply Kd.R_drew)); exact HO305.out), fun _ => ⟨_, rfl⟩, z_HI293_e13, z_HI293_e19, z_HO314, Q_HA_HO314, z_HO317, Q_HA_HO317, z_HI293_e24, fun h0_ => absurd ((hoff 14 (by kernel_rfl)).symm.trans h0_) (by decide), fun h0_ => absurd ((hoff 16 (by kernel_rfl)).symm.trans h0_) (by decide), Q_X25_, Q_X27_⟩
                    refine steps_cons ?_ ?_
                    · rintro b a w' ⟨v301, adz_v301, v304, adz_v304, v313, adz_v313, v316, adz_v316, m14_, m16_, m25_, m27_, ha, Q_HO296, Q_HI293, Q_HB, Q_HI293_e6, Q_HO302, Q_HA_HO302, Q_HO305, Q_HA_HO305, Q_HI293_e13, Q_HI293_e19, Q_HO314, Q_HA_HO314, Q_HO317, Q_HA_HO317, Q_HI293_e24, Q_X14_, Q_X16_, Q_X25_, Q_X27_⟩ hb_ hon hoff
                      refine ⟨_, rfl, fun K hK => ?_⟩
                      have e23 : a.tmps[23]? = some (.pointer (some ⟨g293, 0, none⟩)) := by rw [ha]; exact (putSel_off rfl).trans rfl
                      replace ha := Aside0.mk ha
                      have HO296 := Aside0.mk Q_HO296
                      have HB := Aside0.mk Q_HB
                      have HI293 := Aside0.mk (Q_HI293_e6 (hon 6 (by kernel_rfl)) hb_)
                      refine goes_ Try.func32 (by kernel_rfl) rfl #[.pointer (some ⟨g293, 0, none⟩), .int .i64 7] (by rfl) rfl rfl (by first | (simp only [List.map_toArray, List.map_cons, List.map_nil, Act.eval, Array.getD_eq_getD_getElem?, Option.getD_some, e23]; done) | (simp only [List.map_toArray, List.map_cons, List.map_nil, Act.eval, Array.getD_eq_getD_getElem?, Option.getD_some, e23]; rfl)) ?_
                      with_reducible refine (spec_l20Rd_pick.calls k g293 t291 t299 7 t306 t307 w _ ?side1 ?side2 A5.out).mono ?_
                      (case side1 => repeat (first | (with_reducible first | exact HI293.out | apply IsS54.alloc | apply IsS54.drewN | apply IsS54.drew | apply IsS54.set_1) | exact HI293.out))
                      (case side2 => repeat (first | (with_reducible first | exact HB.out | apply below_alloc | apply pw_below_drewN | apply below_drew1 | refine below_set ?_ (IsS54.ge HI293.out)) | exact HB.out))
                      rintro e w22 ⟨rfl, hi, hb, hk⟩
                      refine ⟨_, rfl, ?_⟩
                      have n0_ := Aside0.mk (Kd.R_mono (Kd.R_keep (IsS54.apart (show IsS54 w _ g293 t291 t299 from by repeat (first | (with_reducible first | exact HI293.out | apply IsS54.alloc | apply IsS54.drewN | apply IsS54.drew | apply IsS54.set_1) | exact HI293.out)) (by (with_reducible repeat (first | apply Kd.R_alloc | apply Kd.R_drewN | apply Kd.R_drew)); exact HO296.out) (by decide)) hk (fun _ h => h.2)) (fun _ h => h.1))
                      have n1_ := Aside0.mk (hb)
                      have n2_ := Aside0.mk (hi)
                      have z_HO302 := fun (h0_ : b 10 = true) => (show Kd.R (Kd.int .i64) 3 w22 w.heap.size (fun _ => True) v301 y300 from by first | exact (Kd.R_mono (Kd.R_keep (IsS54.apart (show IsS54 w _ g293 t291 t299 from by repeat (first | (with_reducible first | exact HI293.out | apply IsS54.alloc | apply IsS54.drewN | apply IsS54.drew | apply IsS54.set_1) | exact HI293.out)) (by (with_reducible repeat (first | apply Kd.R_alloc | apply Kd.R_drewN | apply Kd.R_drew)); exact (Q_HO302 h0_)) (by decide)) hk (fun _ h => h.2)) (fun _ h => h.1)) | exact Kd.R_mono (Kd.R_mono (Kd.R_keep (IsS54.apart (show IsS54 w _ g293 t291 t299 from by repeat (first | (with_reducible first | exact HI293.out | apply IsS54.alloc | apply IsS54.drewN | apply IsS54.drew | apply IsS54.set_1) | exact HI293.out)) (by (with_reducible repeat (first | apply Kd.R_alloc | apply Kd.R_drewN | apply Kd.R_drew)); exact (Q_HO302 h0_)) (by decide)) hk (fun _ h => h.2)) (fun _ h => h.1)) (fun _ h_ => by first | trivial | exact h_ | exact h_.1))
                      have z_HO305 := fun (h0_ : b 11 = true) => (show Kd.R (Kd.int .i64) 3 w22 w.heap.size (fun _ => True) v304 y303 from by first | exact (Kd.R_mono (Kd.R_keep (IsS54.apart (show IsS54 w _ g293 t291 t299 from by repeat (first | (with_reducible first | exact HI293.out | apply IsS54.alloc | apply IsS54.drewN | apply IsS54.drew | apply IsS54.set_1) | exact HI293.out)) (by (with_reducible repeat (first | apply Kd.R_alloc | apply Kd.R_drewN | apply Kd.R_drew)); exact (Q_HO305 h0_)) (by decide)) hk (fun _ h => h.2)) (fun _ h => h.1)) | exact Kd.R_mono (Kd.R_mono (Kd.R_keep (IsS54.apart (show IsS54 w _ g293 t291 t299 from by repeat (first | (with_reducible first | exact HI293.out | apply IsS54.alloc | apply IsS54.drewN | apply IsS54.drew | apply IsS54.set_1) | exact HI293.out)) (by (with_reducible repeat (first | apply Kd.R_alloc | apply Kd.R_drewN | apply Kd.R_drew)); exact (Q_HO305 h0_)) (by decide)) hk (fun _ h => h.2)) (fun _ h => h.1)) (fun _ h_ => by first | trivial | exact h_ | exact h_.1))
                      have z_HO317 := fun (h0_ : b 22 = true) => (show Kd.R (Kd.int .i64) 3 w22 w.heap.size (fun _ => True) v316 y315 from by first | exact (Kd.R_mono (Kd.R_keep (IsS54.apart (show IsS54 w _ g293 t291 t299 from by repeat (first | (with_reducible first | exact HI293.out | apply IsS54.alloc | apply IsS54.drewN | apply IsS54.drew | apply IsS54.set_1) | exact HI293.out)) (by (with_reducible repeat (first | apply Kd.R_alloc | apply Kd.R_drewN | apply Kd.R_drew)); exact (Q_HO317 h0_)) (by decide)) hk (fun _ h => h.2)) (fun _ h => h.1)) | exact Kd.R_mono (Kd.R_mono (Kd.R_keep (IsS54.apart (show IsS54 w _ g293 t291 t299 from by repeat (first | (with_reducible first | exact HI293.out | apply IsS54.alloc | apply IsS54.drewN | apply IsS54.drew | apply IsS54.set_1) | exact HI293.out)) (by (with_reducible repeat (first | apply Kd.R_alloc | apply Kd.R_drewN | apply Kd.R_drew)); exact (Q_HO317 h0_)) (by decide)) hk (fun _ h => h.2)) (fun _ h => h.1)) (fun _ h_ => by first | trivial | exact h_ | exact h_.1))
                      clear HO296
                      clear HB
                      clear HI293
                      have HO296 := n0_
                      have HB := n1_
                      have HI293 := n2_
                      clear n0_ n1_ n2_
                      (try clear hb)
                      (try clear hb2)
                      (try clear hk)
                      (try clear hi)
                      refine hK.out _ _ ⟨v301, adz_v301, v304, adz_v304, v313, adz_v313, v316, adz_v316, m14_, m16_, m25_, m27_, (by rw [ha.out]; exact putSel_upk 8 hb_ rfl rfl rfl), (by (with_reducible repeat (first | apply Kd.R_alloc | apply Kd.R_drewN | apply Kd.R_drew)); exact HO296.out), fun h0_ => absurd ((hon 6 (by kernel_rfl)).symm.trans h0_) (by decide), (by repeat (first | (with_reducible first | exact HB.out | apply below_alloc | apply pw_below_drewN | apply below_drew1 | refine below_set ?_ (IsS54.ge HI293.out)) | exact HB.out)), fun _ h1_ => absurd ((up_self b 13).symm.trans h1_) (by decide), z_HO302, Q_HA_HO302, z_HO305, Q_HA_HO305, fun _ _ => (by repeat (first | (with_reducible first | exact HI293.out | apply IsS54.alloc | apply IsS54.drewN | apply IsS54.drew | apply IsS54.set_1) | exact HI293.out)), fun h0_ _ => absurd ((hoff 19 (by kernel_rfl)).symm.trans h0_) (by decide), fun h0_ => absurd ((hoff 21 (by kernel_rfl)).symm.trans h0_) (by decide), fun h0_ => absurd ((hoff 21 (by kernel_rfl)).symm.trans h0_) (by decide), z_HO317, Q_HA_HO317, fun h0_ => absurd ((hoff 24 (by kernel_rfl)).symm.trans h0_) (by decide), fun h0_ => absurd ((hoff 14 (by kernel_rfl)).symm.trans h0_) (by decide), fun h0_ => absurd ((hoff 16 (by kernel_rfl)).symm.trans h0_) (by decide), fun h0_ => absurd ((hoff 25 (by kernel_rfl)).symm.trans h0_) (by decide), fun h0_ => absurd ((hoff 27 (by kernel_rfl)).symm.trans h0_) (by decide)⟩
                    refine steps_cons ?_ ?_
                    · rintro b a w' ⟨v301, adz_v301, v304, adz_v304, v313, adz_v313, v316, adz_v316, m14_, m16_, m25_, m27_, ha, Q_HO296, Q_HI293, Q_HB, Q_HI293_e6, Q_HO302, Q_HA_HO302, Q_HO305, Q_HA_HO305, Q_HI293_e13, Q_HI293_e19, Q_HO314, Q_HA_HO314, Q_HO317, Q_HA_HO317, Q_HI293_e24, Q_X14_, Q_X16_, Q_X25_, Q_X27_⟩ hb_ hon hoff
                      refine ⟨_, rfl, fun K hK => ?_⟩
                      have e22 : a.tmps[22]? = some (v304) := by rw [ha]; exact putSel_on (e := (11, 22, v304)) 7 rfl rfl (hon 11 (by kernel_rfl)) rfl
                      have e24 : a.tmps[24]? = some (.int .i64 t306) := by rw [ha]; exact putSel_on (e := (13, 24, .int .i64 t306)) 8 rfl rfl (hon 13 (by kernel_rfl)) rfl
                      replace ha := Aside0.mk ha
                      have HO296 := Aside0.mk Q_HO296
                      have HB := Aside0.mk Q_HB
                      have HO305 := Aside0.mk (Q_HO305 (hon 11 (by kernel_rfl)))
                      have HA_HO305 := Aside0.mk (Q_HA_HO305 (hon 11 (by kernel_rfl)))
                      obtain ⟨c_, hv_⟩ := HA_HO305.out
                      rw [hv_] at e22
                      refine value_ (w1 := w') (v := .pointer (some (adz_v304.add (t306).toNat))) (by rfl) rfl ?_ ?_
                      · go_simp
                        (try simp only [i64_w])
                        try rfl
                      refine hK.out _ _ ⟨v301, adz_v301, v304, adz_v304, v313, adz_v313, v316, adz_v316, (.pointer (some (adz_v304.add (t306).toNat))), m16_, m25_, m27_, (by rw [ha.out]; exact putSel_upk 9 hb_ rfl rfl rfl), Q_HO296, fun h0_ => absurd ((hon 6 (by kernel_rfl)).symm.trans h0_) (by decide), Q_HB, fun _ h1_ => absurd ((hon 13 (by kernel_rfl)).symm.trans h1_) (by decide), Q_HO302, Q_HA_HO302, Q_HO305, Q_HA_HO305, Q_HI293_e13, Q_HI293_e19, Q_HO314, Q_HA_HO314, Q_HO317, Q_HA_HO317, Q_HI293_e24, fun _ => rfl, fun h0_ => absurd ((hoff 16 (by kernel_rfl)).symm.trans h0_) (by decide), Q_X25_, Q_X27_⟩
                    refine steps_cons ?_ ?_
                    · rintro b a w' ⟨v301, adz_v301, v304, adz_v304, v313, adz_v313, v316, adz_v316, m14_, m16_, m25_, m27_, ha, Q_HO296, Q_HI293, Q_HB, Q_HI293_e6, Q_HO302, Q_HA_HO302, Q_HO305, Q_HA_HO305, Q_HI293_e13, Q_HI293_e19, Q_HO314, Q_HA_HO314, Q_HO317, Q_HA_HO317, Q_HI293_e24, Q_X14_, Q_X16_, Q_X25_, Q_X27_⟩ hb_ hon hoff
                      refine ⟨_, rfl, fun K hK => ?_⟩
                      have e25 : a.tmps[25]? = some (m14_) := by rw [ha]; exact putSel_on (e := (14, 25, m14_)) 9 rfl rfl (hon 14 (by kernel_rfl)) rfl
                      rw [Q_X14_ (hon 14 (by kernel_rfl))] at e25
                      replace ha := Aside0.mk ha
                      have HO296 := Aside0.mk Q_HO296
                      have HB := Aside0.mk Q_HB
                      have HO305 := Aside0.mk (Q_HO305 (hon 11 (by kernel_rfl)))
                      have HA_HO305 := Aside0.mk (Q_HA_HO305 (hon 11 (by kernel_rfl)))
                      obtain ⟨c_, hv_⟩ := HA_HO305.out
                      have hF_ := HO305.out
                      rw [hv_] at hF_
                      obtain ⟨ad_, ea_, hx_⟩ := Kd.at_int (Kd.R_reads' hF_).2.2 t306 (of_eq_true pi308) (of_eq_true qi308)
                      cases ea_
                      refine value_ (w1 := w') (v := .int .i64 (rd y303 t306)) (by rfl) rfl ?_ ?_
                      · go_simp
                        (try simp only [i64_w])
                        try rfl
                      refine hK.out _ _ ⟨v301, adz_v301, v304, adz_v304, v313, adz_v313, v316, adz_v316, m14_, m16_, m25_, m27_, (by rw [ha.out]; exact putSel_upk 10 hb_ rfl rfl rfl), Q_HO296, fun h0_ => absurd ((hon 6 (by kernel_rfl)).symm.trans h0_) (by decide), Q_HB, fun _ h1_ => absurd ((hon 13 (by kernel_rfl)).symm.trans h1_) (by decide), Q_HO302, Q_HA_HO302, Q_HO305, Q_HA_HO305, Q_HI293_e13, Q_HI293_e19, Q_HO314, Q_HA_HO314, Q_HO317, Q_HA_HO317, Q_HI293_e24, Q_X14_, fun h0_ => absurd ((hoff 16 (by kernel_rfl)).symm.trans h0_) (by decide), Q_X25_, Q_X27_⟩
                    refine steps_cons ?_ ?_
                    · rintro b a w' ⟨v301, adz_v301, v304, adz_v304, v313, adz_v313, v316, adz_v316, m14_, m16_, m25_, m27_, ha, Q_HO296, Q_HI293, Q_HB, Q_HI293_e6, Q_HO302, Q_HA_HO302, Q_HO305, Q_HA_HO305, Q_HI293_e13, Q_HI293_e19, Q_HO314, Q_HA_HO314, Q_HO317, Q_HA_HO317, Q_HI293_e24, Q_X14_, Q_X16_, Q_X25_, Q_X27_⟩ hb_ hon hoff
                      refine ⟨_, rfl, fun K hK => ?_⟩
                      have e21 : a.tmps[21]? = some (v301) := by rw [ha]; exact putSel_on (e := (10, 21, v301)) 6 rfl rfl (hon 10 (by kernel_rfl)) rfl
                      have e26 : a.tmps[26]? = some (.int .i64 (rd y303 t306)) := by rw [ha]; exact putSel_on (e := (15, 26, .int .i64 (rd y303 t306))) 10 rfl rfl (hon 15 (by kernel_rfl)) rfl
                      replace ha := Aside0.mk ha
                      have HO296 := Aside0.mk Q_HO296
                      have HB := Aside0.mk Q_HB
                      have HO302 := Aside0.mk (Q_HO302 (hon 10 (by kernel_rfl)))
                      have HA_HO302 := Aside0.mk (Q_HA_HO302 (hon 10 (by kernel_rfl)))
                      have HO305 := Aside0.mk (Q_HO305 (hon 11 (by kernel_rfl)))
                      have HA_HO305 := Aside0.mk (Q_HA_HO305 (hon 11 (by kernel_rfl)))
                      obtain ⟨c_, hv_⟩ := HA_HO302.out
                      rw [hv_] at e21
                      refine value_ (w1 := w') (v := .pointer (some (adz_v301.add ((rd y303 t306)).toNat))) (by rfl) rfl ?_ ?_
                      · go_simp
                        (try simp only [i64_w])
                        try rfl
                      refine hK.out _ _ ⟨v301, adz_v301, v304, adz_v304, v313, adz_v313, v316, adz_v316, m14_, (.pointer (some (adz_v301.add ((rd y303 t306)).toNat))), m25_, m27_, (by rw [ha.out]; exact putSel_upk 11 hb_ rfl rfl rfl), Q_HO296, fun h0_ => absurd ((hon 6 (by kernel_rfl)).symm.trans h0_) (by decide), Q_HB, fun _ h1_ => absurd ((hon 13 (by kernel_rfl)).symm.trans h1_) (by decide), Q_HO302, Q_HA_HO302, Q_HO305, Q_HA_HO305, Q_HI293_e13, Q_HI293_e19, Q_HO314, Q_HA_HO314, Q_HO317, Q_HA_HO317, Q_HI293_e24, Q_X14_, fun _ => rfl, Q_X25_, Q_X27_⟩
                    refine steps_cons ?_ ?_
                    · rintro b a w' ⟨v301, adz_v301, v304, adz_v304, v313, adz_v313, v316, adz_v316, m14_, m16_, m25_, m27_, ha, Q_HO296, Q_HI293, Q_HB, Q_HI293_e6, Q_HO302, Q_HA_HO302, Q_HO305, Q_HA_HO305, Q_HI293_e13, Q_HI293_e19, Q_HO314, Q_HA_HO314, Q_HO317, Q_HA_HO317, Q_HI293_e24, Q_X14_, Q_X16_, Q_X25_, Q_X27_⟩ hb_ hon hoff
                      refine ⟨_, rfl, fun K hK => ?_⟩
                      have e27 : a.tmps[27]? = some (m16_) := by rw [ha]; exact putSel_on (e := (16, 27, m16_)) 11 rfl rfl (hon 16 (by kernel_rfl)) rfl
                      rw [Q_X16_ (hon 16 (by kernel_rfl))] at e27
                      replace ha := Aside0.mk ha
                      have HO296 := Aside0.mk Q_HO296
                      have HB := Aside0.mk Q_HB
                      have HO302 := Aside0.mk (Q_HO302 (hon 10 (by kernel_rfl)))
                      have HA_HO302 := Aside0.mk (Q_HA_HO302 (hon 10 (by kernel_rfl)))
                      have HO305 := Aside0.mk (Q_HO305 (hon 11 (by kernel_rfl)))
                      have HA_HO305 := Aside0.mk (Q_HA_HO305 (hon 11 (by kernel_rfl)))
                      obtain ⟨c_, hv_⟩ := HA_HO302.out
                      have hF_ := HO302.out
                      rw [hv_] at hF_
                      obtain ⟨ad_, ea_, hx_⟩ := Kd.at_int (Kd.R_reads' hF_).2.2 (rd y303 t306) (of_eq_true pi309) (of_eq_true qi309)
                      cases ea_
                      refine value_ (w1 := w') (v := .int .i64 (rd y300 (rd y303 t306))) (by rfl) rfl ?_ ?_
                      · go_simp
                        (try simp only [i64_w])
                        try rfl
                      refine hK.out _ _ ⟨v301, adz_v301, v304, adz_v304, v313, adz_v313, v316, adz_v316, m14_, m16_, m25_, m27_, (by rw [ha.out]; exact putSel_upk 12 hb_ rfl rfl rfl), Q_HO296, fun h0_ => absurd ((hon 6 (by kernel_rfl)).symm.trans h0_) (by decide), Q_HB, fun _ h1_ => absurd ((hon 13 (by kernel_rfl)).symm.trans h1_) (by decide), Q_HO302, Q_HA_HO302, Q_HO305, Q_HA_HO305, Q_HI293_e13, Q_HI293_e19, Q_HO314, Q_HA_HO314, Q_HO317, Q_HA_HO317, Q_HI293_e24, Q_X14_, Q_X16_, Q_X25_, Q_X27_⟩
                    refine steps_cons ?_ ?_
                    · rintro b a w' ⟨v301, adz_v301, v304, adz_v304, v313, adz_v313, v316, adz_v316, m14_, m16_, m25_, m27_, ha, Q_HO296, Q_HI293, Q_HB, Q_HI293_e6, Q_HO302, Q_HA_HO302, Q_HO305, Q_HA_HO305, Q_HI293_e13, Q_HI293_e19, Q_HO314, Q_HA_HO314, Q_HO317, Q_HA_HO317, Q_HI293_e24, Q_X14_, Q_X16_, Q_X25_, Q_X27_⟩ hb_ hon hoff
                      refine ⟨_, rfl, fun K hK => ?_⟩
                      have e29 : a.tmps[29]? = some (.pointer (some ⟨g293, 0, none⟩)) := by rw [ha]; exact (putSel_off rfl).trans rfl
                      replace ha := Aside0.mk ha
                      have HO296 := Aside0.mk Q_HO296
                      have HB := Aside0.mk Q_HB
                      have HI293 := Aside0.mk (Q_HI293_e13 (hon 13 (by kernel_rfl)) hb_)
                      refine goes_ Try.func32 (by kernel_rfl) rfl #[.pointer (some ⟨g293, 0, none⟩), .int .i64 12] (by rfl) rfl rfl (by first | (simp only [List.map_toArray, List.map_cons, List.map_nil, Act.eval, Array.getD_eq_getD_getElem?, Option.getD_some, e29]; done) | (simp only [List.map_toArray, List.map_cons, List.map_nil, Act.eval, Array.getD_eq_getD_getElem?, Option.getD_some, e29]; rfl)) ?_
                      with_reducible refine (spec_l20Rd_pick.calls k g293 t291 t307 12 t310 t311 w _ ?side1 ?side2 A10.out).mono ?_
                      (case side1 => repeat (first | (with_reducible first | exact HI293.out | apply IsS54.alloc | apply IsS54.drewN | apply IsS54.drew | apply IsS54.set_1) | exact HI293.out))
                      (case side2 => repeat (first | (with_reducible first | exact HB.out | apply below_alloc | apply pw_below_drewN | apply below_drew1 | refine below_set ?_ (IsS54.ge HI293.out)) | exact HB.out))
                      rintro e w23 ⟨rfl, hi, hb, hk⟩
                      refine ⟨_, rfl, ?_⟩
                      have n0_ := Aside0.mk (Kd.R_mono (Kd.R_keep (IsS54.apart (show IsS54 w _ g293 t291 t307 from by repeat (first | (with_reducible first | exact HI293.out | apply IsS54.alloc | apply IsS54.drewN | apply IsS54.drew | apply IsS54.set_1) | exact HI293.out)) (by (with_reducible repeat (first | apply Kd.R_alloc | apply Kd.R_drewN | apply Kd.R_drew)); exact HO296.out) (by decide)) hk (fun _ h => h.2)) (fun _ h => h.1))
                      have n1_ := Aside0.mk (hb)
                      have n2_ := Aside0.mk (hi)
                      have z_HO302 := fun (h0_ : b 10 = true) => (show Kd.R (Kd.int .i64) 3 w23 w.heap.size (fun _ => True) v301 y300 from by first | exact (Kd.R_mono (Kd.R_keep (IsS54.apart (show IsS54 w _ g293 t291 t307 from by repeat (first | (with_reducible first | exact HI293.out | apply IsS54.alloc | apply IsS54.drewN | apply IsS54.drew | apply IsS54.set_1) | exact HI293.out)) (by (with_reducible repeat (first | apply Kd.R_alloc | apply Kd.R_drewN | apply Kd.R_drew)); exact (Q_HO302 h0_)) (by decide)) hk (fun _ h => h.2)) (fun _ h => h.1)) | exact Kd.R_mono (Kd.R_mono (Kd.R_keep (IsS54.apart (show IsS54 w _ g293 t291 t307 from by repeat (first | (with_reducible first | exact HI293.out | apply IsS54.alloc | apply IsS54.drewN | apply IsS54.drew | apply IsS54.set_1) | exact HI293.out)) (by (with_reducible repeat (first | apply Kd.R_alloc | apply Kd.R_drewN | apply Kd.R_drew)); exact (Q_HO302 h0_)) (by decide)) hk (fun _ h => h.2)) (fun _ h => h.1)) (fun _ h_ => by first | trivial | exact h_ | exact h_.1))
                      have z_HO305 := fun (h0_ : b 11 = true) => (show Kd.R (Kd.int .i64) 3 w23 w.heap.size (fun _ => True) v304 y303 from by first | exact (Kd.R_mono (Kd.R_keep (IsS54.apart (show IsS54 w _ g293 t291 t307 from by repeat (first | (with_reducible first | exact HI293.out | apply IsS54.alloc | apply IsS54.drewN | apply IsS54.drew | apply IsS54.set_1) | exact HI293.out)) (by (with_reducible repeat (first | apply Kd.R_alloc | apply Kd.R_drewN | apply Kd.R_drew)); exact (Q_HO305 h0_)) (by decide)) hk (fun _ h => h.2)) (fun _ h => h.1)) | exact Kd.R_mono (Kd.R_mono (Kd.R_keep (IsS54.apart (show IsS54 w _ g293 t291 t307 from by repeat (first | (with_reducible first | exact HI293.out | apply IsS54.alloc | apply IsS54.drewN | apply IsS54.drew | apply IsS54.set_1) | exact HI293.out)) (by (with_reducible repeat (first | apply Kd.R_alloc | apply Kd.R_drewN | apply Kd.R_drew)); exact (Q_HO305 h0_)) (by decide)) hk (fun _ h => h.2)) (fun _ h => h.1)) (fun _ h_ => by first | trivial | exact h_ | exact h_.1))
                      have z_HO317 := fun (h0_ : b 22 = true) => (show Kd.R (Kd.int .i64) 3 w23 w.heap.size (fun _ => True) v316 y315 from by first | exact (Kd.R_mono (Kd.R_keep (IsS54.apart (show IsS54 w _ g293 t291 t307 from by repeat (first | (with_reducible first | exact HI293.out | apply IsS54.alloc | apply IsS54.drewN | apply IsS54.drew | apply IsS54.set_1) | exact HI293.out)) (by (with_reducible repeat (first | apply Kd.R_alloc | apply Kd.R_drewN | apply Kd.R_drew)); exact (Q_HO317 h0_)) (by decide)) hk (fun _ h => h.2)) (fun _ h => h.1)) | exact Kd.R_mono (Kd.R_mono (Kd.R_keep (IsS54.apart (show IsS54 w _ g293 t291 t307 from by repeat (first | (with_reducible first | exact HI293.out | apply IsS54.alloc | apply IsS54.drewN | apply IsS54.drew | apply IsS54.set_1) | exact HI293.out)) (by (with_reducible repeat (first | apply Kd.R_alloc | apply Kd.R_drewN | apply Kd.R_drew)); exact (Q_HO317 h0_)) (by decide)) hk (fun _ h => h.2)) (fun _ h => h.1)) (fun _ h_ => by first | trivial | exact h_ | exact h_.1))
                      clear HO296
                      clear HB
                      clear HI293
                      have HO296 := n0_
                      have HB := n1_
                      have HI293 := n2_
                      clear n0_ n1_ n2_
                      (try clear hb)
                      (try clear hb2)
                      (try clear hk)
                      (try clear hi)
                      refine hK.out _ _ ⟨v301, adz_v301, v304, adz_v304, v313, adz_v313, v316, adz_v316, m14_, m16_, m25_, m27_, (by rw [ha.out]; exact putSel_upk 13 hb_ rfl rfl rfl), (by (with_reducible repeat (first | apply Kd.R_alloc | apply Kd.R_drewN | apply Kd.R_drew)); exact HO296.out), fun h0_ => absurd ((hon 6 (by kernel_rfl)).symm.trans h0_) (by decide), (by repeat (first | (with_reducible first | exact HB.out | apply below_alloc | apply pw_below_drewN | apply below_drew1 | refine below_set ?_ (IsS54.ge HI293.out)) | exact HB.out)), fun _ h1_ => absurd ((hon 13 (by kernel_rfl)).symm.trans h1_) (by decide), z_HO302, Q_HA_HO302, z_HO305, Q_HA_HO305, fun _ h1_ => absurd ((up_self b 19).symm.trans h1_) (by decide), fun _ _ => (by repeat (first | (with_reducible first | exact HI293.out | apply IsS54.alloc | apply IsS54.drewN | apply IsS54.drew | apply IsS54.set_1) | exact HI293.out)), fun h0_ => absurd ((hoff 21 (by kernel_rfl)).symm.trans h0_) (by decide), fun h0_ => absurd ((hoff 21 (by kernel_rfl)).symm.trans h0_) (by decide), z_HO317, Q_HA_HO317, fun h0_ => absurd ((hoff 24 (by kernel_rfl)).symm.trans h0_) (by decide), Q_X14_, Q_X16_, fun h0_ => absurd ((hoff 25 (by kernel_rfl)).symm.trans h0_) (by decide), fun h0_ => absurd ((hoff 27 (by kernel_rfl)).symm.trans h0_) (by decide)⟩
                    refine steps_cons ?_ ?_
                    · rintro b a w' ⟨v301, adz_v301, v304, adz_v304, v313, adz_v313, v316, adz_v316, m14_, m16_, m25_, m27_, ha, Q_HO296, Q_HI293, Q_HB, Q_HI293_e6, Q_HO302, Q_HA_HO302, Q_HO305, Q_HA_HO305, Q_HI293_e13, Q_HI293_e19, Q_HO314, Q_HA_HO314, Q_HO317, Q_HA_HO317, Q_HI293_e24, Q_X14_, Q_X16_, Q_X25_, Q_X27_⟩ hb_ hon hoff
                      refine ⟨_, rfl, fun K hK => ?_⟩
                      have e30 : a.tmps[30]? = some (.int .i64 t310) := by rw [ha]; exact putSel_on (e := (19, 30, .int .i64 t310)) 13 rfl rfl (hon 19 (by kernel_rfl)) rfl
                      replace ha := Aside0.mk ha
                      have HO296 := Aside0.mk Q_HO296
                      have HB := Aside0.mk Q_HB
                      refine value_ (w1 := w') (v := .int .i64 (wrap64 (1 + t310))) (by rfl) rfl ?_ ?_
                      · go_simp
                        (try simp only [i64_w])
                        try rfl
                      refine hK.out _ _ ⟨v301, adz_v301, v304, adz_v304, v313, adz_v313, v316, adz_v316, m14_, m16_, m25_, m27_, (by rw [ha.out]; exact putSel_upk 14 hb_ rfl rfl rfl), Q_HO296, fun h0_ => absurd ((hon 6 (by kernel_rfl)).symm.trans h0_) (by decide), Q_HB, fun _ h1_ => absurd ((hon 13 (by kernel_rfl)).symm.trans h1_) (by decide), Q_HO302, Q_HA_HO302, Q_HO305, Q_HA_HO305, fun _ h1_ => absurd ((hon 19 (by kernel_rfl)).symm.trans h1_) (by decide), Q_HI293_e19, fun h0_ => absurd ((hoff 21 (by kernel_rfl)).symm.trans h0_) (by decide), fun h0_ => absurd ((hoff 21 (by kernel_rfl)).symm.trans h0_) (by decide), Q_HO317, Q_HA_HO317, Q_HI293_e24, Q_X14_, Q_X16_, Q_X25_, fun h0_ => absurd ((hoff 27 (by kernel_rfl)).symm.trans h0_) (by decide)⟩
                    refine steps_cons ?_ ?_
                    · rintro b a w' ⟨v301, adz_v301, v304, adz_v304, v313, adz_v313, v316, adz_v316, m14_, m16_, m25_, m27_, ha, Q_HO296, Q_HI293, Q_HB, Q_HI293_e6, Q_HO302, Q_HA_HO302, Q_HO305, Q_HA_HO305, Q_HI293_e13, Q_HI293_e19, Q_HO314, Q_HA_HO314, Q_HO317, Q_HA_HO317, Q_HI293_e24, Q_X14_, Q_X16_, Q_X25_, Q_X27_⟩ hb_ hon hoff
                      refine ⟨_, rfl, fun K hK => ?_⟩
                      have e31 : a.tmps[31]? = some (.int .i64 (wrap64 (1 + t310))) := by rw [ha]; exact putSel_on (e := (20, 31, .int .i64 (wrap64 (1 + t310)))) 14 rfl rfl (hon 20 (by kernel_rfl)) rfl
                      replace ha := Aside0.mk ha
                      have HO296 := Aside0.mk Q_HO296
                      have HB := Aside0.mk Q_HB
                      refine Kd.R_lit_step (Kd.int .i64) _ 3 ?hg (N := 32) ?hd (xs := ([wrap64 (1 + t310), 0, 13, (-1)] : List Int)) (inner := [.int .i64 (wrap64 (1 + t310)), .int .i64 0, .int .i64 13, .int .i64 (-1)]) (ok := fun _ => True) (okp := fun _ => True) ?hr ?hp (fun _ hk => hk) trivial (Below.refl _ _) (Nat.le_refl _) (by simp) ?_; (case hd => rfl); (case hg => rfl); (case hr => first | (go_simp; done) | (go_simp; rfl)); (case hp => exact (Reps.one (show Kd.M (Kd.int .i64) _ _ _ (wrap64 (1 + t310)) [.int .i64 (wrap64 (1 + t310))] from rfl) (Reps.one (show Kd.M (Kd.int .i64) _ _ _ 0 [.int .i64 0] from rfl) (Reps.one (show Kd.M (Kd.int .i64) _ _ _ 13 [.int .i64 13] from rfl) (Reps.one (show Kd.M (Kd.int .i64) _ _ _ (-1) [.int .i64 (-1)] from rfl) (Reps.none _ _))))))
                      intro v313 w24 ho25 hb hg_ hnew_
                      clear hg_ hnew_
                      (first | rw [← Ny312.out] at ho25 | (simp only [Int.reduceToNat] at ho25; rw [← Ny312.out] at ho25))
                      have n0_ := Aside0.mk (Kd.R_below (by (with_reducible repeat (first | apply Kd.R_alloc | apply Kd.R_drewN | apply Kd.R_drew)); exact HO296.out) hb)
                      have n1_ := Aside0.mk (Kd.R_lower ho25 (below_size (by repeat (first | (with_reducible first | exact HB.out | apply below_alloc | apply pw_below_drewN | apply below_drew1) | exact HB.out))))
                      have n3_ := Aside0.mk (below_step (by repeat (first | (with_reducible first | exact HB.out | apply below_alloc | apply pw_below_drewN | apply below_drew1) | exact HB.out)) hb)
                      have z_HO302 := fun (h0_ : b 10 = true) => (show Kd.R (Kd.int .i64) 3 w24 w.heap.size (fun _ => True) v301 y300 from by first | exact (Kd.R_elder' (by (with_reducible repeat (first | apply Kd.R_alloc | apply Kd.R_drewN | apply Kd.R_drew)); exact (Q_HO302 h0_)) (Kd.R_base ho25) hb) | exact Kd.R_mono (Kd.R_elder' (by (with_reducible repeat (first | apply Kd.R_alloc | apply Kd.R_drewN | apply Kd.R_drew)); exact (Q_HO302 h0_)) (Kd.R_base ho25) hb) (fun _ h_ => by first | trivial | exact h_ | exact h_.1))
                      have z_HO305 := fun (h0_ : b 11 = true) => (show Kd.R (Kd.int .i64) 3 w24 w.heap.size (fun _ => True) v304 y303 from by first | exact (Kd.R_elder' (by (with_reducible repeat (first | apply Kd.R_alloc | apply Kd.R_drewN | apply Kd.R_drew)); exact (Q_HO305 h0_)) (Kd.R_base ho25) hb) | exact Kd.R_mono (Kd.R_elder' (by (with_reducible repeat (first | apply Kd.R_alloc | apply Kd.R_drewN | apply Kd.R_drew)); exact (Q_HO305 h0_)) (Kd.R_base ho25) hb) (fun _ h_ => by first | trivial | exact h_ | exact h_.1))
                      have z_HI293_e19 := fun (h0_ : b 19 = true) (h1_ : b 24 = false) => (show IsS54 w w24 g293 t291 t311 from by first | exact (IsS54.below (by repeat (first | (with_reducible first | exact (Q_HI293_e19 h0_ h1_) | apply IsS54.alloc | apply IsS54.drewN | apply IsS54.drew | apply IsS54.set_1) | exact (Q_HI293_e19 h0_ h1_))) hb))
                      have z_HO317 := fun (h0_ : b 22 = true) => (show Kd.R (Kd.int .i64) 3 w24 w.heap.size (fun _ => True) v316 y315 from by first | exact (Kd.R_elder' (by (with_reducible repeat (first | apply Kd.R_alloc | apply Kd.R_drewN | apply Kd.R_drew)); exact (Q_HO317 h0_)) (Kd.R_base ho25) hb) | exact Kd.R_mono (Kd.R_elder' (by (with_reducible repeat (first | apply Kd.R_alloc | apply Kd.R_drewN | apply Kd.R_drew)); exact (Q_HO317 h0_)) (Kd.R_base ho25) hb) (fun _ h_ => by first | trivial | exact h_ | exact h_.1))
                      have z_HI293_e24 := fun (h0_ : b 24 = true) => (show IsS54 w w24 g293 t291 t319 from by first | exact (IsS54.below (by repeat (first | (with_reducible first | exact (Q_HI293_e24 h0_) | apply IsS54.alloc | apply IsS54.drewN | apply IsS54.drew | apply IsS54.set_1) | exact (Q_HI293_e24 h0_))) hb))
                      clear HO296
                      clear HB
                      have HO296 := n0_
                      have HO314 := n1_
                      have HB := n3_
                      clear n0_ n1_ n3_
                      clear hb ho25
                      obtain ⟨Ao26, co26, eo26⟩ := Kd.R_slice HO314.out
                      subst eo26
                      obtain ⟨ado26, fo26, _⟩ := Kd.at_int (Kd.R_reads' HO314.out).2.2 0 (by decide) (by rw [Ny312.out]; simp)
                      cases fo26
                      refine hK.out _ _ ⟨v301, adz_v301, v304, adz_v304, .slice (some ado26) y312.length co26, ado26, v316, adz_v316, m14_, m16_, m25_, m27_, (by rw [ha.out]; exact putSel_upk 15 hb_ rfl rfl rfl), (by (with_reducible repeat (first | apply Kd.R_alloc | apply Kd.R_drewN | apply Kd.R_drew)); exact HO296.out), fun h0_ => absurd ((hon 6 (by kernel_rfl)).symm.trans h0_) (by decide), (by repeat (first | (with_reducible first | exact HB.out | apply below_alloc | apply pw_below_drewN | apply below_drew1) | exact HB.out)), fun _ h1_ => absurd ((hon 13 (by kernel_rfl)).symm.trans h1_) (by decide), z_HO302, Q_HA_HO302, z_HO305, Q_HA_HO305, fun _ h1_ => absurd ((hon 19 (by kernel_rfl)).symm.trans h1_) (by decide), z_HI293_e19, fun _ => (by (with_reducible repeat (first | apply Kd.R_alloc | apply Kd.R_drewN | apply Kd.R_drew)); exact HO314.out), fun _ => ⟨_, rfl⟩, z_HO317, Q_HA_HO317, z_HI293_e24, Q_X14_, Q_X16_, Q_X25_, fun h0_ => absurd ((hoff 27 (by kernel_rfl)).symm.trans h0_) (by decide)⟩
                    refine steps_cons ?_ ?_
                    · rintro b a w' ⟨v301, adz_v301, v304, adz_v304, v313, adz_v313, v316, adz_v316, m14_, m16_, m25_, m27_, ha, Q_HO296, Q_HI293, Q_HB, Q_HI293_e6, Q_HO302, Q_HA_HO302, Q_HO305, Q_HA_HO305, Q_HI293_e13, Q_HI293_e19, Q_HO314, Q_HA_HO314, Q_HO317, Q_HA_HO317, Q_HI293_e24, Q_X14_, Q_X16_, Q_X25_, Q_X27_⟩ hb_ hon hoff
                      refine ⟨_, rfl, fun K hK => ?_⟩
                      replace ha := Aside0.mk ha
                      have HO296 := Aside0.mk Q_HO296
                      have HB := Aside0.mk Q_HB
                      refine Kd.R_lit_step (Kd.int .i64) _ 3 ?hg (N := 33) ?hd (xs := ([0, 0, 0, 0, 0, 1, 2, 3] : List Int)) (inner := [.int .i64 0, .int .i64 0, .int .i64 0, .int .i64 0, .int .i64 0, .int .i64 1, .int .i64 2, .int .i64 3]) (ok := fun _ => True) (okp := fun _ => True) ?hr ?hp (fun _ hk => hk) trivial (Below.refl _ _) (Nat.le_refl _) (by simp) ?_; (case hd => rfl); (case hg => rfl); (case hr => first | (go_simp; done) | (go_simp; rfl)); (case hp => exact (Reps.one (show Kd.M (Kd.int .i64) _ _ _ 0 [.int .i64 0] from rfl) (Reps.one (show Kd.M (Kd.int .i64) _ _ _ 0 [.int .i64 0] from rfl) (Reps.one (show Kd.M (Kd.int .i64) _ _ _ 0 [.int .i64 0] from rfl) (Reps.one (show Kd.M (Kd.int .i64) _ _ _ 0 [.int .i64 0] from rfl) (Reps.one (show Kd.M (Kd.int .i64) _ _ _ 0 [.int .i64 0] from rfl) (Reps.one (show Kd.M (Kd.int .i64) _ _ _ 1 [.int .i64 1] from rfl) (Reps.one (show Kd.M (Kd.int .i64) _ _ _ 2 [.int .i64 2] from rfl) (Reps.one (show Kd.M (Kd.int .i64) _ _ _ 3 [.int .i64 3] from rfl) (Reps.none _ _))))))))))
                      intro v316 w20 ho21 hb hg_ hnew_
                      clear hg_ hnew_
                      (first | rw [← Ny315.out] at ho21 | (simp only [Int.reduceToNat] at ho21; rw [← Ny315.out] at ho21))
                      have n0_ := Aside0.mk (Kd.R_below (by (with_reducible repeat (first | apply Kd.R_alloc | apply Kd.R_drewN | apply Kd.R_drew)); exact HO296.out) hb)
                      have n1_ := Aside0.mk (Kd.R_lower ho21 (below_size (by repeat (first | (with_reducible first | exact HB.out | apply below_alloc | apply pw_below_drewN | apply below_drew1) | exact HB.out))))
                      have n3_ := Aside0.mk (below_step (by repeat (first | (with_reducible first | exact HB.out | apply below_alloc | apply pw_below_drewN | apply below_drew1) | exact HB.out)) hb)
                      have z_HI293 := fun (h0_ : b 6 = false) => (show IsS54 w w20 g293 t291 t297 from by first | exact (IsS54.below (by repeat (first | (with_reducible first | exact (Q_HI293 h0_) | apply IsS54.alloc | apply IsS54.drewN | apply IsS54.drew | apply IsS54.set_1) | exact (Q_HI293 h0_))) hb))
                      have z_HI293_e6 := fun (h0_ : b 6 = true) (h1_ : b 13 = false) => (show IsS54 w w20 g293 t291 t299 from by first | exact (IsS54.below (by repeat (first | (with_reducible first | exact (Q_HI293_e6 h0_ h1_) | apply IsS54.alloc | apply IsS54.drewN | apply IsS54.drew | apply IsS54.set_1) | exact (Q_HI293_e6 h0_ h1_))) hb))
                      have z_HO302 := fun (h0_ : b 10 = true) => (show Kd.R (Kd.int .i64) 3 w20 w.heap.size (fun _ => True) v301 y300 from by first | exact (Kd.R_elder' (by (with_reducible repeat (first | apply Kd.R_alloc | apply Kd.R_drewN | apply Kd.R_drew)); exact (Q_HO302 h0_)) (Kd.R_base ho21) hb) | exact Kd.R_mono (Kd.R_elder' (by (with_reducible repeat (first | apply Kd.R_alloc | apply Kd.R_drewN | apply Kd.R_drew)); exact (Q_HO302 h0_)) (Kd.R_base ho21) hb) (fun _ h_ => by first | trivial | exact h_ | exact h_.1))
                      have z_HO305 := fun (h0_ : b 11 = true) => (show Kd.R (Kd.int .i64) 3 w20 w.heap.size (fun _ => True) v304 y303 from by first | exact (Kd.R_elder' (by (with_reducible repeat (first | apply Kd.R_alloc | apply Kd.R_drewN | apply Kd.R_drew)); exact (Q_HO305 h0_)) (Kd.R_base ho21) hb) | exact Kd.R_mono (Kd.R_elder' (by (with_reducible repeat (first | apply Kd.R_alloc | apply Kd.R_drewN | apply Kd.R_drew)); exact (Q_HO305 h0_)) (Kd.R_base ho21) hb) (fun _ h_ => by first | trivial | exact h_ | exact h_.1))
                      have z_HI293_e13 := fun (h0_ : b 13 = true) (h1_ : b 19 = false) => (show IsS54 w w20 g293 t291 t307 from by first | exact (IsS54.below (by repeat (first | (with_reducible first | exact (Q_HI293_e13 h0_ h1_) | apply IsS54.alloc | apply IsS54.drewN | apply IsS54.drew | apply IsS54.set_1) | exact (Q_HI293_e13 h0_ h1_))) hb))
                      have z_HI293_e19 := fun (h0_ : b 19 = true) (h1_ : b 24 = false) => (show IsS54 w w20 g293 t291 t311 from by first | exact (IsS54.below (by repeat (first | (with_reducible first | exact (Q_HI293_e19 h0_ h1_) | apply IsS54.alloc | apply IsS54.drewN | apply IsS54.drew | apply IsS54.set_1) | exact (Q_HI293_e19 h0_ h1_))) hb))
                      have z_HO314 := fun (h0_ : b 21 = true) => (show Kd.R (Kd.int .i64) 3 w20 w.heap.size (fun _ => True) v313 y312 from by first | exact (Kd.R_elder' (by (with_reducible repeat (first | apply Kd.R_alloc | apply Kd.R_drewN | apply Kd.R_drew)); exact (Q_HO314 h0_)) (Kd.R_base ho21) hb) | exact Kd.R_mono (Kd.R_elder' (by (with_reducible repeat (first | apply Kd.R_alloc | apply Kd.R_drewN | apply Kd.R_drew)); exact (Q_HO314 h0_)) (Kd.R_base ho21) hb) (fun _ h_ => by first | trivial | exact h_ | exact h_.1))
                      have z_HI293_e24 := fun (h0_ : b 24 = true) => (show IsS54 w w20 g293 t291 t319 from by first | exact (IsS54.below (by repeat (first | (with_reducible first | exact (Q_HI293_e24 h0_) | apply IsS54.alloc | apply IsS54.drewN | apply IsS54.drew | apply IsS54.set_1) | exact (Q_HI293_e24 h0_))) hb))
                      clear HO296
                      clear HB
                      have HO296 := n0_
                      have HO317 := n1_
                      have HB := n3_
                      clear n0_ n1_ n3_
                      clear hb ho21
                      obtain ⟨Ao22, co22, eo22⟩ := Kd.R_slice HO317.out
                      subst eo22
                      obtain ⟨ado22, fo22, _⟩ := Kd.at_int (Kd.R_reads' HO317.out).2.2 0 (by decide) (by rw [Ny315.out]; simp)
                      cases fo22
                      refine hK.out _ _ ⟨v301, adz_v301, v304, adz_v304, v313, adz_v313, .slice (some ado22) y315.length co22, ado22, m14_, m16_, m25_, m27_, (by rw [ha.out]; exact putSel_upk 16 hb_ rfl rfl rfl), (by (with_reducible repeat (first | apply Kd.R_alloc | apply Kd.R_drewN | apply Kd.R_drew)); exact HO296.out), z_HI293, (by repeat (first | (with_reducible first | exact HB.out | apply below_alloc | apply pw_below_drewN | apply below_drew1) | exact HB.out)), z_HI293_e6, z_HO302, Q_HA_HO302, z_HO305, Q_HA_HO305, z_HI293_e13, z_HI293_e19, z_HO314, Q_HA_HO314, fun _ => (by (with_reducible repeat (first | apply Kd.R_alloc | apply Kd.R_drewN | apply Kd.R_drew)); exact HO317.out), fun _ => ⟨_, rfl⟩, z_HI293_e24, Q_X14_, Q_X16_, fun h0_ => absurd ((hoff 25 (by kernel_rfl)).symm.trans h0_) (by decide), fun h0_ => absurd ((hoff 27 (by kernel_rfl)).symm.trans h0_) (by decide)⟩
                    refine steps_cons ?_ ?_
                    · rintro b a w' ⟨v301, adz_v301, v304, adz_v304, v313, adz_v313, v316, adz_v316, m14_, m16_, m25_, m27_, ha, Q_HO296, Q_HI293, Q_HB, Q_HI293_e6, Q_HO302, Q_HA_HO302, Q_HO305, Q_HA_HO305, Q_HI293_e13, Q_HI293_e19, Q_HO314, Q_HA_HO314, Q_HO317, Q_HA_HO317, Q_HI293_e24, Q_X14_, Q_X16_, Q_X25_, Q_X27_⟩ hb_ hon hoff
                      refine ⟨_, rfl, fun K hK => ?_⟩
                      have e34 : a.tmps[34]? = some (.pointer (some ⟨g293, 0, none⟩)) := by rw [ha]; exact (putSel_off rfl).trans rfl
                      replace ha := Aside0.mk ha
                      have HO296 := Aside0.mk Q_HO296
                      have HB := Aside0.mk Q_HB
                      have HI293 := Aside0.mk (Q_HI293_e19 (hon 19 (by kernel_rfl)) hb_)
                      refine goes_ Try.func32 (by kernel_rfl) rfl #[.pointer (some ⟨g293, 0, none⟩), .int .i64 8] (by rfl) rfl rfl (by first | (simp only [List.map_toArray, List.map_cons, List.map_nil, Act.eval, Array.getD_eq_getD_getElem?, Option.getD_some, e34]; done) | (simp only [List.map_toArray, List.map_cons, List.map_nil, Act.eval, Array.getD_eq_getD_getElem?, Option.getD_some, e34]; rfl)) ?_
                      with_reducible refine (spec_l20Rd_pick.calls k g293 t291 t311 8 t318 t319 w _ ?side1 ?side2 A11.out).mono ?_
                      (case side1 => repeat (first | (with_reducible first | exact HI293.out | apply IsS54.alloc | apply IsS54.drewN | apply IsS54.drew | apply IsS54.set_1) | exact HI293.out))
                      (case side2 => repeat (first | (with_reducible first | exact HB.out | apply below_alloc | apply pw_below_drewN | apply below_drew1 | refine below_set ?_ (IsS54.ge HI293.out)) | exact HB.out))
                      rintro e w24 ⟨rfl, hi, hb, hk⟩
                      refine ⟨_, rfl, ?_⟩
                      have n0_ := Aside0.mk (Kd.R_mono (Kd.R_keep (IsS54.apart (show IsS54 w _ g293 t291 t311 from by repeat (first | (with_reducible first | exact HI293.out | apply IsS54.alloc | apply IsS54.drewN | apply IsS54.drew | apply IsS54.set_1) | exact HI293.out)) (by (with_reducible repeat (first | apply Kd.R_alloc | apply Kd.R_drewN | apply Kd.R_drew)); exact HO296.out) (by decide)) hk (fun _ h => h.2)) (fun _ h => h.1))
                      have n1_ := Aside0.mk (hb)
                      have n2_ := Aside0.mk (hi)
                      have z_HO302 := fun (h0_ : b 10 = true) => (show Kd.R (Kd.int .i64) 3 w24 w.heap.size (fun _ => True) v301 y300 from by first | exact (Kd.R_mono (Kd.R_keep (IsS54.apart (show IsS54 w _ g293 t291 t311 from by repeat (first | (with_reducible first | exact HI293.out | apply IsS54.alloc | apply IsS54.drewN | apply IsS54.drew | apply IsS54.set_1) | exact HI293.out)) (by (with_reducible repeat (first | apply Kd.R_alloc | apply Kd.R_drewN | apply Kd.R_drew)); exact (Q_HO302 h0_)) (by decide)) hk (fun _ h => h.2)) (fun _ h => h.1)) | exact Kd.R_mono (Kd.R_mono (Kd.R_keep (IsS54.apart (show IsS54 w _ g293 t291 t311 from by repeat (first | (with_reducible first | exact HI293.out | apply IsS54.alloc | apply IsS54.drewN | apply IsS54.drew | apply IsS54.set_1) | exact HI293.out)) (by (with_reducible repeat (first | apply Kd.R_alloc | apply Kd.R_drewN | apply Kd.R_drew)); exact (Q_HO302 h0_)) (by decide)) hk (fun _ h => h.2)) (fun _ h => h.1)) (fun _ h_ => by first | trivial | exact h_ | exact h_.1))
                      have z_HO305 := fun (h0_ : b 11 = true) => (show Kd.R (Kd.int .i64) 3 w24 w.heap.size (fun _ => True) v304 y303 from by first | exact (Kd.R_mono (Kd.R_keep (IsS54.apart (show IsS54 w _ g293 t291 t311 from by repeat (first | (with_reducible first | exact HI293.out | apply IsS54.alloc | apply IsS54.drewN | apply IsS54.drew | apply IsS54.set_1) | exact HI293.out)) (by (with_reducible repeat (first | apply Kd.R_alloc | apply Kd.R_drewN | apply Kd.R_drew)); exact (Q_HO305 h0_)) (by decide)) hk (fun _ h => h.2)) (fun _ h => h.1)) | exact Kd.R_mono (Kd.R_mono (Kd.R_keep (IsS54.apart (show IsS54 w _ g293 t291 t311 from by repeat (first | (with_reducible first | exact HI293.out | apply IsS54.alloc | apply IsS54.drewN | apply IsS54.drew | apply IsS54.set_1) | exact HI293.out)) (by (with_reducible repeat (first | apply Kd.R_alloc | apply Kd.R_drewN | apply Kd.R_drew)); exact (Q_HO305 h0_)) (by decide)) hk (fun _ h => h.2)) (fun _ h => h.1)) (fun _ h_ => by first | trivial | exact h_ | exact h_.1))
                      have z_HO314 := fun (h0_ : b 21 = true) => (show Kd.R (Kd.int .i64) 3 w24 w.heap.size (fun _ => True) v313 y312 from by first | exact (Kd.R_mono (Kd.R_keep (IsS54.apart (show IsS54 w _ g293 t291 t311 from by repeat (first | (with_reducible first | exact HI293.out | apply IsS54.alloc | apply IsS54.drewN | apply IsS54.drew | apply IsS54.set_1) | exact HI293.out)) (by (with_reducible repeat (first | apply Kd.R_alloc | apply Kd.R_drewN | apply Kd.R_drew)); exact (Q_HO314 h0_)) (by decide)) hk (fun _ h => h.2)) (fun _ h => h.1)) | exact Kd.R_mono (Kd.R_mono (Kd.R_keep (IsS54.apart (show IsS54 w _ g293 t291 t311 from by repeat (first | (with_reducible first | exact HI293.out | apply IsS54.alloc | apply IsS54.drewN | apply IsS54.drew | apply IsS54.set_1) | exact HI293.out)) (by (with_reducible repeat (first | apply Kd.R_alloc | apply Kd.R_drewN | apply Kd.R_drew)); exact (Q_HO314 h0_)) (by decide)) hk (fun _ h => h.2)) (fun _ h => h.1)) (fun _ h_ => by first | trivial | exact h_ | exact h_.1))
                      have z_HO317 := fun (h0_ : b 22 = true) => (show Kd.R (Kd.int .i64) 3 w24 w.heap.size (fun _ => True) v316 y315 from by first | exact (Kd.R_mono (Kd.R_keep (IsS54.apart (show IsS54 w _ g293 t291 t311 from by repeat (first | (with_reducible first | exact HI293.out | apply IsS54.alloc | apply IsS54.drewN | apply IsS54.drew | apply IsS54.set_1) | exact HI293.out)) (by (with_reducible repeat (first | apply Kd.R_alloc | apply Kd.R_drewN | apply Kd.R_drew)); exact (Q_HO317 h0_)) (by decide)) hk (fun _ h => h.2)) (fun _ h => h.1)) | exact Kd.R_mono (Kd.R_mono (Kd.R_keep (IsS54.apart (show IsS54 w _ g293 t291 t311 from by repeat (first | (with_reducible first | exact HI293.out | apply IsS54.alloc | apply IsS54.drewN | apply IsS54.drew | apply IsS54.set_1) | exact HI293.out)) (by (with_reducible repeat (first | apply Kd.R_alloc | apply Kd.R_drewN | apply Kd.R_drew)); exact (Q_HO317 h0_)) (by decide)) hk (fun _ h => h.2)) (fun _ h => h.1)) (fun _ h_ => by first | trivial | exact h_ | exact h_.1))
                      clear HO296
                      clear HB
                      clear HI293
                      have HO296 := n0_
                      have HB := n1_
                      have HI293 := n2_
                      clear n0_ n1_ n2_
                      (try clear hb)
                      (try clear hb2)
                      (try clear hk)
                      (try clear hi)
                      refine hK.out _ _ ⟨v301, adz_v301, v304, adz_v304, v313, adz_v313, v316, adz_v316, m14_, m16_, m25_, m27_, (by rw [ha.out]; exact putSel_upk 17 hb_ rfl rfl rfl), (by (with_reducible repeat (first | apply Kd.R_alloc | apply Kd.R_drewN | apply Kd.R_drew)); exact HO296.out), fun h0_ => absurd ((hon 6 (by kernel_rfl)).symm.trans h0_) (by decide), (by repeat (first | (with_reducible first | exact HB.out | apply below_alloc | apply pw_below_drewN | apply below_drew1 | refine below_set ?_ (IsS54.ge HI293.out)) | exact HB.out)), fun _ h1_ => absurd ((hon 13 (by kernel_rfl)).symm.trans h1_) (by decide), z_HO302, Q_HA_HO302, z_HO305, Q_HA_HO305, fun _ h1_ => absurd ((hon 19 (by kernel_rfl)).symm.trans h1_) (by decide), fun _ h1_ => absurd ((up_self b 24).symm.trans h1_) (by decide), z_HO314, Q_HA_HO314, z_HO317, Q_HA_HO317, fun _ => (by repeat (first | (with_reducible first | exact HI293.out | apply IsS54.alloc | apply IsS54.drewN | apply IsS54.drew | apply IsS54.set_1) | exact HI293.out)), Q_X14_, Q_X16_, fun h0_ => absurd ((hoff 25 (by kernel_rfl)).symm.trans h0_) (by decide), fun h0_ => absurd ((hoff 27 (by kernel_rfl)).symm.trans h0_) (by decide)⟩
                    refine steps_cons ?_ ?_
                    · rintro b a w' ⟨v301, adz_v301, v304, adz_v304, v313, adz_v313, v316, adz_v316, m14_, m16_, m25_, m27_, ha, Q_HO296, Q_HI293, Q_HB, Q_HI293_e6, Q_HO302, Q_HA_HO302, Q_HO305, Q_HA_HO305, Q_HI293_e13, Q_HI293_e19, Q_HO314, Q_HA_HO314, Q_HO317, Q_HA_HO317, Q_HI293_e24, Q_X14_, Q_X16_, Q_X25_, Q_X27_⟩ hb_ hon hoff
                      refine ⟨_, rfl, fun K hK => ?_⟩
                      have e33 : a.tmps[33]? = some (v316) := by rw [ha]; exact putSel_on (e := (22, 33, v316)) 16 rfl rfl (hon 22 (by kernel_rfl)) rfl
                      have e35 : a.tmps[35]? = some (.int .i64 t318) := by rw [ha]; exact putSel_on (e := (24, 35, .int .i64 t318)) 17 rfl rfl (hon 24 (by kernel_rfl)) rfl
                      replace ha := Aside0.mk ha
                      have HO296 := Aside0.mk Q_HO296
                      have HB := Aside0.mk Q_HB
                      have HO317 := Aside0.mk (Q_HO317 (hon 22 (by kernel_rfl)))
                      have HA_HO317 := Aside0.mk (Q_HA_HO317 (hon 22 (by kernel_rfl)))
                      have HI293 := Aside0.mk (Q_HI293_e24 (hon 24 (by kernel_rfl)))
                      obtain ⟨c_, hv_⟩ := HA_HO317.out
                      rw [hv_] at e33
                      refine value_ (w1 := w') (v := .pointer (some (adz_v316.add (t318).toNat))) (by rfl) rfl ?_ ?_
                      · go_simp
                        (try simp only [i64_w])
                        try rfl
                      refine hK.out _ _ ⟨v301, adz_v301, v304, adz_v304, v313, adz_v313, v316, adz_v316, m14_, m16_, (.pointer (some (adz_v316.add (t318).toNat))), m27_, (by rw [ha.out]; exact putSel_upk 18 hb_ rfl rfl rfl), Q_HO296, fun h0_ => absurd ((hon 6 (by kernel_rfl)).symm.trans h0_) (by decide), Q_HB, fun _ h1_ => absurd ((hon 13 (by kernel_rfl)).symm.trans h1_) (by decide), Q_HO302, Q_HA_HO302, Q_HO305, Q_HA_HO305, fun _ h1_ => absurd ((hon 19 (by kernel_rfl)).symm.trans h1_) (by decide), fun _ h1_ => absurd ((hon 24 (by kernel_rfl)).symm.trans h1_) (by decide), Q_HO314, Q_HA_HO314, Q_HO317, Q_HA_HO317, Q_HI293_e24, Q_X14_, Q_X16_, fun _ => rfl, fun h0_ => absurd ((hoff 27 (by kernel_rfl)).symm.trans h0_) (by decide)⟩
                    refine steps_cons ?_ ?_
                    · rintro b a w' ⟨v301, adz_v301, v304, adz_v304, v313, adz_v313, v316, adz_v316, m14_, m16_, m25_, m27_, ha, Q_HO296, Q_HI293, Q_HB, Q_HI293_e6, Q_HO302, Q_HA_HO302, Q_HO305, Q_HA_HO305, Q_HI293_e13, Q_HI293_e19, Q_HO314, Q_HA_HO314, Q_HO317, Q_HA_HO317, Q_HI293_e24, Q_X14_, Q_X16_, Q_X25_, Q_X27_⟩ hb_ hon hoff
                      refine ⟨_, rfl, fun K hK => ?_⟩
                      have e36 : a.tmps[36]? = some (m25_) := by rw [ha]; exact putSel_on (e := (25, 36, m25_)) 18 rfl rfl (hon 25 (by kernel_rfl)) rfl
                      rw [Q_X25_ (hon 25 (by kernel_rfl))] at e36
                      replace ha := Aside0.mk ha
                      have HO296 := Aside0.mk Q_HO296
                      have HB := Aside0.mk Q_HB
                      have HO317 := Aside0.mk (Q_HO317 (hon 22 (by kernel_rfl)))
                      have HA_HO317 := Aside0.mk (Q_HA_HO317 (hon 22 (by kernel_rfl)))
                      have HI293 := Aside0.mk (Q_HI293_e24 (hon 24 (by kernel_rfl)))
                      obtain ⟨c_, hv_⟩ := HA_HO317.out
                      have hF_ := HO317.out
                      rw [hv_] at hF_
                      obtain ⟨ad_, ea_, hx_⟩ := Kd.at_int (Kd.R_reads' hF_).2.2 t318 (of_eq_true pi320) (of_eq_true qi320)
                      cases ea_
                      refine value_ (w1 := w') (v := .int .i64 (rd y315 t318)) (by rfl) rfl ?_ ?_
                      · go_simp
                        (try simp only [i64_w])
                        try rfl
                      refine hK.out _ _ ⟨v301, adz_v301, v304, adz_v304, v313, adz_v313, v316, adz_v316, m14_, m16_, m25_, m27_, (by rw [ha.out]; exact putSel_upk 19 hb_ rfl rfl rfl), Q_HO296, fun h0_ => absurd ((hon 6 (by kernel_rfl)).symm.trans h0_) (by decide), Q_HB, fun _ h1_ => absurd ((hon 13 (by kernel_rfl)).symm.trans h1_) (by decide), Q_HO302, Q_HA_HO302, Q_HO305, Q_HA_HO305, fun _ h1_ => absurd ((hon 19 (by kernel_rfl)).symm.trans h1_) (by decide), fun _ h1_ => absurd ((hon 24 (by kernel_rfl)).symm.trans h1_) (by decide), Q_HO314, Q_HA_HO314, Q_HO317, Q_HA_HO317, Q_HI293_e24, Q_X14_, Q_X16_, Q_X25_, fun h0_ => absurd ((hoff 27 (by kernel_rfl)).symm.trans h0_) (by decide)⟩
                    refine steps_cons ?_ ?_
                    · rintro b a w' ⟨v301, adz_v301, v304, adz_v304, v313, adz_v313, v316, adz_v316, m14_, m16_, m25_, m27_, ha, Q_HO296, Q_HI293, Q_HB, Q_HI293_e6, Q_HO302, Q_HA_HO302, Q_HO305, Q_HA_HO305, Q_HI293_e13, Q_HI293_e19, Q_HO314, Q_HA_HO314, Q_HO317, Q_HA_HO317, Q_HI293_e24, Q_X14_, Q_X16_, Q_X25_, Q_X27_⟩ hb_ hon hoff
                      refine ⟨_, rfl, fun K hK => ?_⟩
                      have e32 : a.tmps[32]? = some (v313) := by rw [ha]; exact putSel_on (e := (21, 32, v313)) 15 rfl rfl (hon 21 (by kernel_rfl)) rfl
                      have e37 : a.tmps[37]? = some (.int .i64 (rd y315 t318)) := by rw [ha]; exact putSel_on (e := (26, 37, .int .i64 (rd y315 t318))) 19 rfl rfl (hon 26 (by kernel_rfl)) rfl
                      replace ha := Aside0.mk ha
                      have HO296 := Aside0.mk Q_HO296
                      have HB := Aside0.mk Q_HB
                      have HO314 := Aside0.mk (Q_HO314 (hon 21 (by kernel_rfl)))
                      have HA_HO314 := Aside0.mk (Q_HA_HO314 (hon 21 (by kernel_rfl)))
                      have HO317 := Aside0.mk (Q_HO317 (hon 22 (by kernel_rfl)))
                      have HA_HO317 := Aside0.mk (Q_HA_HO317 (hon 22 (by kernel_rfl)))
                      have HI293 := Aside0.mk (Q_HI293_e24 (hon 24 (by kernel_rfl)))
                      obtain ⟨c_, hv_⟩ := HA_HO314.out
                      rw [hv_] at e32
                      refine value_ (w1 := w') (v := .pointer (some (adz_v313.add ((rd y315 t318)).toNat))) (by rfl) rfl ?_ ?_
                      · go_simp
                        (try simp only [i64_w])
                        try rfl
                      refine hK.out _ _ ⟨v301, adz_v301, v304, adz_v304, v313, adz_v313, v316, adz_v316, m14_, m16_, m25_, (.pointer (some (adz_v313.add ((rd y315 t318)).toNat))), (by rw [ha.out]; exact putSel_upk 20 hb_ rfl rfl rfl), Q_HO296, fun h0_ => absurd ((hon 6 (by kernel_rfl)).symm.trans h0_) (by decide), Q_HB, fun _ h1_ => absurd ((hon 13 (by kernel_rfl)).symm.trans h1_) (by decide), Q_HO302, Q_HA_HO302, Q_HO305, Q_HA_HO305, fun _ h1_ => absurd ((hon 19 (by kernel_rfl)).symm.trans h1_) (by decide), fun _ h1_ => absurd ((hon 24 (by kernel_rfl)).symm.trans h1_) (by decide), Q_HO314, Q_HA_HO314, Q_HO317, Q_HA_HO317, Q_HI293_e24, Q_X14_, Q_X16_, Q_X25_, fun _ => rfl⟩
                    refine steps_cons ?_ ?_
                    · rintro b a w' ⟨v301, adz_v301, v304, adz_v304, v313, adz_v313, v316, adz_v316, m14_, m16_, m25_, m27_, ha, Q_HO296, Q_HI293, Q_HB, Q_HI293_e6, Q_HO302, Q_HA_HO302, Q_HO305, Q_HA_HO305, Q_HI293_e13, Q_HI293_e19, Q_HO314, Q_HA_HO314, Q_HO317, Q_HA_HO317, Q_HI293_e24, Q_X14_, Q_X16_, Q_X25_, Q_X27_⟩ hb_ hon hoff
                      refine ⟨_, rfl, fun K hK => ?_⟩
                      have e38 : a.tmps[38]? = some (m27_) := by rw [ha]; exact putSel_on (e := (27, 38, m27_)) 20 rfl rfl (hon 27 (by kernel_rfl)) rfl
                      rw [Q_X27_ (hon 27 (by kernel_rfl))] at e38
                      replace ha := Aside0.mk ha
                      have HO296 := Aside0.mk Q_HO296
                      have HB := Aside0.mk Q_HB
                      have HO314 := Aside0.mk (Q_HO314 (hon 21 (by kernel_rfl)))
                      have HA_HO314 := Aside0.mk (Q_HA_HO314 (hon 21 (by kernel_rfl)))
                      have HO317 := Aside0.mk (Q_HO317 (hon 22 (by kernel_rfl)))
                      have HA_HO317 := Aside0.mk (Q_HA_HO317 (hon 22 (by kernel_rfl)))
                      have HI293 := Aside0.mk (Q_HI293_e24 (hon 24 (by kernel_rfl)))
                      obtain ⟨c_, hv_⟩ := HA_HO314.out
                      have hF_ := HO314.out
                      rw [hv_] at hF_
                      obtain ⟨ad_, ea_, hx_⟩ := Kd.at_int (Kd.R_reads' hF_).2.2 (rd y315 t318) (of_eq_true pi321) (of_eq_true qi321)
                      cases ea_
                      refine value_ (w1 := w') (v := .int .i64 (rd y312 (rd y315 t318))) (by rfl) rfl ?_ ?_
                      · go_simp
                        (try simp only [i64_w])
                        try rfl
                      refine hK.out _ _ ⟨v301, adz_v301, v304, adz_v304, v313, adz_v313, v316, adz_v316, m14_, m16_, m25_, m27_, (by rw [ha.out]; exact putSel_upk 21 hb_ rfl rfl rfl), Q_HO296, fun h0_ => absurd ((hon 6 (by kernel_rfl)).symm.trans h0_) (by decide), Q_HB, fun _ h1_ => absurd ((hon 13 (by kernel_rfl)).symm.trans h1_) (by decide), Q_HO302, Q_HA_HO302, Q_HO305, Q_HA_HO305, fun _ h1_ => absurd ((hon 19 (by kernel_rfl)).symm.trans h1_) (by decide), fun _ h1_ => absurd ((hon 24 (by kernel_rfl)).symm.trans h1_) (by decide), Q_HO314, Q_HA_HO314, Q_HO317, Q_HA_HO317, Q_HI293_e24, Q_X14_, Q_X16_, Q_X25_, Q_X27_⟩
                    refine steps_cons ?_ ?_
                    · rintro b a w' ⟨v301, adz_v301, v304, adz_v304, v313, adz_v313, v316, adz_v316, m14_, m16_, m25_, m27_, ha, Q_HO296, Q_HI293, Q_HB, Q_HI293_e6, Q_HO302, Q_HA_HO302, Q_HO305, Q_HA_HO305, Q_HI293_e13, Q_HI293_e19, Q_HO314, Q_HA_HO314, Q_HO317, Q_HA_HO317, Q_HI293_e24, Q_X14_, Q_X16_, Q_X25_, Q_X27_⟩ hb_ hon hoff
                      refine ⟨_, rfl, fun K hK => ?_⟩
                      have e11 : a.tmps[11]? = some (.slice Ao19 t294.length co19) := by rw [ha]; exact (putSel_off rfl).trans rfl
                      replace ha := Aside0.mk ha
                      have HO296 := Aside0.mk Q_HO296
                      have HB := Aside0.mk Q_HB
                      have HI293 := Aside0.mk (Q_HI293_e24 (hon 24 (by kernel_rfl)))
                      refine value_ (w1 := w') (v := .slice Ao19 t294.length co19) (by rfl) rfl ?_ ?_
                      · go_simp
                        (try simp only [i64_w])
                        try rfl
                      refine hK.out _ _ ⟨v301, adz_v301, v304, adz_v304, v313, adz_v313, v316, adz_v316, m14_, m16_, m25_, m27_, (by rw [ha.out]; exact putSel_upk 22 hb_ rfl rfl rfl), Q_HO296, fun h0_ => absurd ((hon 6 (by kernel_rfl)).symm.trans h0_) (by decide), Q_HB, fun _ h1_ => absurd ((hon 13 (by kernel_rfl)).symm.trans h1_) (by decide), Q_HO302, Q_HA_HO302, Q_HO305, Q_HA_HO305, fun _ h1_ => absurd ((hon 19 (by kernel_rfl)).symm.trans h1_) (by decide), fun _ h1_ => absurd ((hon 24 (by kernel_rfl)).symm.trans h1_) (by decide), Q_HO314, Q_HA_HO314, Q_HO317, Q_HA_HO317, Q_HI293_e24, Q_X14_, Q_X16_, Q_X25_, Q_X27_⟩
                    refine steps_cons ?_ ?_
                    · rintro b a w' ⟨v301, adz_v301, v304, adz_v304, v313, adz_v313, v316, adz_v316, m14_, m16_, m25_, m27_, ha, Q_HO296, Q_HI293, Q_HB, Q_HI293_e6, Q_HO302, Q_HA_HO302, Q_HO305, Q_HA_HO305, Q_HI293_e13, Q_HI293_e19, Q_HO314, Q_HA_HO314, Q_HO317, Q_HA_HO317, Q_HI293_e24, Q_X14_, Q_X16_, Q_X25_, Q_X27_⟩ hb_ hon hoff
                      refine ⟨_, rfl, fun K hK => ?_⟩
                      have e28 : a.tmps[28]? = some (.int .i64 (rd y300 (rd y303 t306))) := by rw [ha]; exact putSel_on (e := (17, 28, .int .i64 (rd y300 (rd y303 t306)))) 12 rfl rfl (hon 17 (by kernel_rfl)) rfl
                      replace ha := Aside0.mk ha
                      have HO296 := Aside0.mk Q_HO296
                      have HB := Aside0.mk Q_HB
                      have HO302 := Aside0.mk (Q_HO302 (hon 10 (by kernel_rfl)))
                      have HA_HO302 := Aside0.mk (Q_HA_HO302 (hon 10 (by kernel_rfl)))
                      have HO305 := Aside0.mk (Q_HO305 (hon 11 (by kernel_rfl)))
                      have HA_HO305 := Aside0.mk (Q_HA_HO305 (hon 11 (by kernel_rfl)))
                      have HI293 := Aside0.mk (Q_HI293_e24 (hon 24 (by kernel_rfl)))
                      refine value_ (w1 := w') (v := .int .i64 (rd y300 (rd y303 t306))) (by rfl) rfl ?_ ?_
                      · go_simp
                        (try simp only [i64_w])
                        try rfl
                      refine hK.out _ _ ⟨v301, adz_v301, v304, adz_v304, v313, adz_v313, v316, adz_v316, m14_, m16_, m25_, m27_, (by rw [ha.out]; exact putSel_upk 23 hb_ rfl rfl rfl), Q_HO296, fun h0_ => absurd ((hon 6 (by kernel_rfl)).symm.trans h0_) (by decide), Q_HB, fun _ h1_ => absurd ((hon 13 (by kernel_rfl)).symm.trans h1_) (by decide), Q_HO302, Q_HA_HO302, Q_HO305, Q_HA_HO305, fun _ h1_ => absurd ((hon 19 (by kernel_rfl)).symm.trans h1_) (by decide), fun _ h1_ => absurd ((hon 24 (by kernel_rfl)).symm.trans h1_) (by decide), Q_HO314, Q_HA_HO314, Q_HO317, Q_HA_HO317, Q_HI293_e24, Q_X14_, Q_X16_, Q_X25_, Q_X27_⟩
                    refine steps_cons ?_ ?_
                    · rintro b a w' ⟨v301, adz_v301, v304, adz_v304, v313, adz_v313, v316, adz_v316, m14_, m16_, m25_, m27_, ha, Q_HO296, Q_HI293, Q_HB, Q_HI293_e6, Q_HO302, Q_HA_HO302, Q_HO305, Q_HA_HO305, Q_HI293_e13, Q_HI293_e19, Q_HO314, Q_HA_HO314, Q_HO317, Q_HA_HO317, Q_HI293_e24, Q_X14_, Q_X16_, Q_X25_, Q_X27_⟩ hb_ hon hoff
                      refine ⟨_, rfl, fun K hK => ?_⟩
                      have e39 : a.tmps[39]? = some (.int .i64 (rd y312 (rd y315 t318))) := by rw [ha]; exact putSel_on (e := (28, 39, .int .i64 (rd y312 (rd y315 t318)))) 21 rfl rfl (hon 28 (by kernel_rfl)) rfl
                      replace ha := Aside0.mk ha
                      have HO296 := Aside0.mk Q_HO296
                      have HB := Aside0.mk Q_HB
                      have HO302 := Aside0.mk (Q_HO302 (hon 10 (by kernel_rfl)))
                      have HA_HO302 := Aside0.mk (Q_HA_HO302 (hon 10 (by kernel_rfl)))
                      have HO305 := Aside0.mk (Q_HO305 (hon 11 (by kernel_rfl)))
                      have HA_HO305 := Aside0.mk (Q_HA_HO305 (hon 11 (by kernel_rfl)))
                      have HO314 := Aside0.mk (Q_HO314 (hon 21 (by kernel_rfl)))
                      have HA_HO314 := Aside0.mk (Q_HA_HO314 (hon 21 (by kernel_rfl)))
                      have HO317 := Aside0.mk (Q_HO317 (hon 22 (by kernel_rfl)))
                      have HA_HO317 := Aside0.mk (Q_HA_HO317 (hon 22 (by kernel_rfl)))
                      have HI293 := Aside0.mk (Q_HI293_e24 (hon 24 (by kernel_rfl)))
                      refine value_ (w1 := w') (v := .int .i64 (rd y312 (rd y315 t318))) (by rfl) rfl ?_ ?_
                      · go_simp
                        (try simp only [i64_w])
                        try rfl
                      refine hK.out _ _ ⟨v301, adz_v301, v304, adz_v304, v313, adz_v313, v316, adz_v316, m14_, m16_, m25_, m27_, (by rw [ha.out]; exact putSel_upk 24 hb_ rfl rfl rfl), Q_HO296, fun h0_ => absurd ((hon 6 (by kernel_rfl)).symm.trans h0_) (by decide), Q_HB, fun _ h1_ => absurd ((hon 13 (by kernel_rfl)).symm.trans h1_) (by decide), Q_HO302, Q_HA_HO302, Q_HO305, Q_HA_HO305, fun _ h1_ => absurd ((hon 19 (by kernel_rfl)).symm.trans h1_) (by decide), fun _ h1_ => absurd ((hon 24 (by kernel_rfl)).symm.trans h1_) (by decide), Q_HO314, Q_HA_HO314, Q_HO317, Q_HA_HO317, Q_HI293_e24, Q_X14_, Q_X16_, Q_X25_, Q_X27_⟩
                    exact steps_nil
                  rintro b a w36 hall ⟨v301, adz_v301, v304, adz_v304, v313, adz_v313, v316, adz_v316, m14_, m16_, m25_, m27_, ha, Q_HO296, Q_HI293, Q_HB, Q_HI293_e6, Q_HO302, Q_HA_HO302, Q_HO305, Q_HA_HO305, Q_HI293_e13, Q_HI293_e19, Q_HO314, Q_HA_HO314, Q_HO317, Q_HA_HO317, Q_HI293_e24, Q_X14_, Q_X16_, Q_X25_, Q_X27_⟩
                  clear HB HI293 HO296
                  have hb3_ := hall 3 (by kernel_rfl)
                  have hb4_ := hall 4 (by kernel_rfl)
                  have hb5_ := hall 5 (by kernel_rfl)
                  have hb6_ := hall 6 (by kernel_rfl)
                  have hb8_ := hall 8 (by kernel_rfl)
                  have hb9_ := hall 9 (by kernel_rfl)
                  have hb10_ := hall 10 (by kernel_rfl)
                  have hb11_ := hall 11 (by kernel_rfl)
                  have hb13_ := hall 13 (by kernel_rfl)
                  have hb14_ := hall 14 (by kernel_rfl)
                  have hb15_ := hall 15 (by kernel_rfl)
                  have hb16_ := hall 16 (by kernel_rfl)
                  have hb17_ := hall 17 (by kernel_rfl)
                  have hb19_ := hall 19 (by kernel_rfl)
                  have hb20_ := hall 20 (by kernel_rfl)
                  have hb21_ := hall 21 (by kernel_rfl)
                  have hb22_ := hall 22 (by kernel_rfl)
                  have hb24_ := hall 24 (by kernel_rfl)
                  have hb25_ := hall 25 (by kernel_rfl)
                  have hb26_ := hall 26 (by kernel_rfl)
                  have hb27_ := hall 27 (by kernel_rfl)
                  have hb28_ := hall 28 (by kernel_rfl)
                  have hb29_ := hall 29 (by kernel_rfl)
                  have hb30_ := hall 30 (by kernel_rfl)
                  have hb31_ := hall 31 (by kernel_rfl)
                  subst ha
                  obtain rfl := Q_X14_ hb14_
                  obtain rfl := Q_X16_ hb16_
                  obtain rfl := Q_X25_ hb25_
                  obtain rfl := Q_X27_ hb27_
                  simp only [putSel, hb3_, hb4_, hb5_, hb6_, hb8_, hb9_, hb10_, hb11_, hb13_, hb14_, hb15_, hb16_, hb17_, hb19_, hb20_, hb21_, hb22_, hb24_, hb25_, hb26_, hb27_, hb28_, hb29_, hb30_, hb31_, if_true, Act.put, List.setIfInBounds_toArray, List.set_cons_zero, List.set_cons_succ]
                  have HO296 := Aside0.mk Q_HO296
                  clear Q_HO296
                  clear Q_HI293
                  have HB := Aside0.mk Q_HB
                  clear Q_HB
                  clear Q_HI293_e6
                  have HO302 := Aside0.mk (Q_HO302 hb10_)
                  clear Q_HO302
                  have HA_HO302 := Aside0.mk (Q_HA_HO302 hb10_)
                  clear Q_HA_HO302
                  have HO305 := Aside0.mk (Q_HO305 hb11_)
                  clear Q_HO305
                  have HA_HO305 := Aside0.mk (Q_HA_HO305 hb11_)
                  clear Q_HA_HO305
                  clear Q_HI293_e13
                  clear Q_HI293_e19
                  have HO314 := Aside0.mk (Q_HO314 hb21_)
                  clear Q_HO314
                  have HA_HO314 := Aside0.mk (Q_HA_HO314 hb21_)
                  clear Q_HA_HO314
                  have HO317 := Aside0.mk (Q_HO317 hb22_)
                  clear Q_HO317
                  have HA_HO317 := Aside0.mk (Q_HA_HO317 hb22_)
                  clear Q_HA_HO317
                  have HI293 := Aside0.mk (Q_HI293_e24 hb24_)
                  clear Q_HI293_e24
                  clear hall hb3_ hb4_ hb5_ hb6_ hb8_ hb9_ hb10_ hb11_ hb13_ hb14_ hb15_ hb16_ hb17_ hb19_ hb20_ hb21_ hb22_ hb24_ hb25_ hb26_ hb27_ hb28_ hb29_ hb30_ hb31_
                  obtain ⟨co37, eo37⟩ := HA_HO302.out
                  clear HA_HO302
                  subst eo37
                  obtain ⟨co38, eo38⟩ := HA_HO305.out
                  clear HA_HO305
                  subst eo38
                  obtain ⟨co39, eo39⟩ := HA_HO314.out
                  clear HA_HO314
                  subst eo39
                  obtain ⟨co40, eo40⟩ := HA_HO317.out
                  clear HA_HO317
                  subst eo40
                  try go_wp2
                  go_ret3
                  exact ⟨_, by first | rfl | (simp [errW_none, errW_some] <;> rfl) | (simp [*, errW_none, errW_some] <;> rfl), by (with_reducible repeat (first | apply Kd.R_alloc | apply Kd.R_drewN | apply Kd.R_drew)); exact HO296.out, by repeat (first | (with_reducible first | exact HB.out | apply below_alloc | apply pw_below_drewN | apply below_drew1 | refine below_set ?_ (IsS54.ge HI293.out)) | exact HB.out)⟩
                · rw [if_neg c15] at H
                  exact absurd H (by simp)
              · rw [if_neg c14] at H
                exact absurd H (by simp)
            · rw [if_neg c13] at H
              exact absurd H (by simp)
          · rw [if_neg c12] at H
            exact absurd H (by simp)
        · rw [if_neg c9] at H
          exact absurd H (by simp)
      · rw [if_neg c8] at H
        exact absurd H (by simp)
    · rw [if_neg c7] at H
      exact absurd H (by simp)
  · rw [if_neg c6] at H
    exact absurd H (by simp)

end Go.Proofs.Ytcoiglbkeebccab.X
