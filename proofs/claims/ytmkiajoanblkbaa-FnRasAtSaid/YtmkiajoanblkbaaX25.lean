/- Functions of the given program as plain Lean functions, and for each the proof that the machine's call comes to what its function says. No condition but what each theorem states. Written by a program of this session. -/
import Derived.Test.YtmkiajoanblkbaaX0
import Derived.Test.YtmkiajoanblkbaaX11
namespace Go.Proofs.Ytmkiajoanblkbaa.X
open Go.RowKit Go.Proofs.YtmkiajoanblkbaaW.PrintWords Go.Proofs.YtmkiajoanblkbaaW.PrintLast Go.Proofs.YtmkiajoanblkbaaW.PrintMore
attribute [local go_sem] max2_int min2_int max_two min_two max_three min_three max_four min_four   -- for this text's walks alone
set_option linter.unusedVariables false
set_option linter.unusedSimpArgs false

/-! ### spec_l20Pix: function 51 -/
def spec_l20Pix.f (k : Nat) (s0_0 : List Int) (s0_1 : Int) : Option (Int × Int × Int × Int × Int) := (spec_l20Rd_pick.f k s0_0 s0_1 256).bind fun bt255 => ((some (([0, 255, bt255.1] : List Int) : List Int)).bind fun y257 => ((spec_l20Rd_pick.f k s0_0 bt255.2 3).bind fun bt260 => (if 0 ≤ bt260.1 then (if bt260.1 < (y257.length : Int) then ((spec_l20Rd_pick.f k s0_0 bt260.2 256).bind fun bt263 => ((some (([rd y257 bt260.1, bt263.1] : List Int) : List Int)).bind fun y265 => ((spec_l20Rd_pick.f k s0_0 bt263.2 2).bind fun bt268 => (if 0 ≤ bt268.1 then (if bt268.1 < (y265.length : Int) then ((spec_l20Rd_pick.f k s0_0 bt268.2 256).bind fun bt271 => ((some (([rd y257 bt260.1, bt271.1] : List Int) : List Int)).bind fun y273 => ((spec_l20Rd_pick.f k s0_0 bt271.2 2).bind fun bt276 => (if 0 ≤ bt276.1 then (if bt276.1 < (y273.length : Int) then ((spec_l20Rd_pick.f k s0_0 bt276.2 256).bind fun bt279 => ((some (([255, 255, 0, bt279.1] : List Int) : List Int)).bind fun y281 => ((spec_l20Rd_pick.f k s0_0 bt279.2 4).bind fun bt284 => (if 0 ≤ bt284.1 then (if bt284.1 < (y281.length : Int) then (some (rd y257 bt260.1, rd y265 bt268.1, rd y273 bt276.1, rd y281 bt284.1, bt284.2)) else (none)) else (none))))) else (none)) else (none))))) else (none)) else (none))))) else (none)) else (none))))
theorem spec_l20Pix.mono : ∀ a0 a1 k, LeO (spec_l20Pix.f k a0 a1) (spec_l20Pix.f (k + 1) a0 a1) := by
 intro a0 a1 k
 unfold spec_l20Pix.f
 repeat' first
   | (with_reducible exact spec_l20Rd_pick.mono _ _ _ _)
   | (with_reducible exact LeO.refl _)
   | (with_reducible exact LeO.none _)
   | (with_reducible refine LeO.ite ?_ ?_)
   | (with_reducible refine LeO.bind ?_ (fun _ => ?_))
   | exact spec_l20Rd_pick.mono _ _ _ _
   | exact LeO.none _
   | refine LeO.ite ?_ ?_
   | refine LeO.bind ?_ (fun _ => ?_)
def spec_l20Pix.T2 : Bool × List (List Nat × List Nat) := (true, [([], []), ([], []), ([], []), ([2], [2]), ([1, 3], [1, 3]), ([], []), ([5, 3], [5]), ([4, 6], [4, 6]), ([7], [7]), ([], []), ([], []), ([10, 6], [10]), ([9, 11], [9, 11]), ([], []), ([13, 11], [13]), ([12, 14], [12, 14]), ([15], [15]), ([], []), ([17, 14], [17]), ([18], [18]), ([], []), ([20, 18], [20]), ([19, 21], [19, 21]), ([22], [22]), ([0, 8, 16, 23], [0, 8, 16, 23]), ([24, 21, 0, 1, 2, 3, 4, 5, 6, 7, 8, 9, 10, 11, 12, 13, 14, 15, 16, 17, 18, 19, 20, 21, 22, 23, 24], [24])])
def spec_l20Pix.B2 : List Nat := [0, 0, 0, 4, 14, 0, 44, 126, 254, 0, 0, 1132, 3692, 0, 11372, 32364, 65132, 0, 158828, 420972, 0, 1469548, 4090988, 8285292, 16777215, 33554431]
theorem spec_l20Pix.tab2 : rtab .any (opsOf Try.f51 2) = spec_l20Pix.T2 := by kernel_rfl
theorem spec_l20Pix.bits2 : waitsOk spec_l20Pix.T2.2 spec_l20Pix.B2 = true := by kernel_rfl
set_option maxHeartbeats 8000000 in
set_option maxRecDepth 100000 in
theorem spec_l20Pix.calls (k : Nat) (g : Nat) (s0_0 : List Int) (s0_1 : Int) (r1 : Int) (r2 : Int) (r3 : Int) (r4 : Int) (r5 : Int) (w0 w : World) (hI : IsS82 w0 w g s0_0 s0_1) (hB : Below w0.heap.size w0 w) (h : spec_l20Pix.f k s0_0 s0_1 = some (r1, r2, r3, r4, r5)) :
  Calls Try.prog 51 #[.pointer (some ⟨g, 0, none⟩)] w fun e w' => e = .returned (.agg #[.int .i64 r1, .int .i64 r2, .int .i64 r3, .int .i64 r4]) ∧ IsS82 w0 w' g s0_0 r5 ∧ Below w0.heap.size w0 w' ∧ KeepBut w w' g none := by
 have hu39 := Try.underlying39
 have HI0 := Aside0.mk hI
 have HK := Aside0.mk (KeepBut.refl w g none)
 have HL := Aside0.mk hB.size
 clear hI
 have HW0 := Aside0.mk hB.size
 have HB := Aside0.mk hB
 clear hB
 have H : ((spec_l20Rd_pick.f k s0_0 s0_1 256).bind fun bt255 => ((some (([0, 255, bt255.1] : List Int) : List Int)).bind fun y257 => ((spec_l20Rd_pick.f k s0_0 bt255.2 3).bind fun bt260 => (if 0 ≤ bt260.1 then (if bt260.1 < (y257.length : Int) then ((spec_l20Rd_pick.f k s0_0 bt260.2 256).bind fun bt263 => ((some (([rd y257 bt260.1, bt263.1] : List Int) : List Int)).bind fun y265 => ((spec_l20Rd_pick.f k s0_0 bt263.2 2).bind fun bt268 => (if 0 ≤ bt268.1 then (if bt268.1 < (y265.length : Int) then ((spec_l20Rd_pick.f k s0_0 bt268.2 256).bind fun bt271 => ((some (([rd y257 bt260.1, bt271.1] : List Int) : List Int)).bind fun y273 => ((spec_l20Rd_pick.f k s0_0 bt271.2 2).bind fun bt276 => (if 0 ≤ bt276.1 then (if bt276.1 < (y273.length : Int) then ((spec_l20Rd_pick.f k s0_0 bt276.2 256).bind fun bt279 => ((some (([255, 255, 0, bt279.1] : List Int) : List Int)).bind fun y281 => ((spec_l20Rd_pick.f k s0_0 bt279.2 4).bind fun bt284 => (if 0 ≤ bt284.1 then (if bt284.1 < (y281.length : Int) then (some (rd y257 bt260.1, rd y265 bt268.1, rd y273 bt276.1, rd y281 bt284.1, bt284.2)) else (none)) else (none))))) else (none)) else (none))))) else (none)) else (none))))) else (none)) else (none))))) = some (r1, r2, r3, r4, r5) := h
 clear h
 replace H := Option.bind_eq_some_iff.mp H
 obtain ⟨⟨t255, t256⟩, A20, H⟩ := H
 replace H : ((some (([0, 255, t255] : List Int) : List Int)).bind fun y257 => ((spec_l20Rd_pick.f k s0_0 t256 3).bind fun bt260 => (if 0 ≤ bt260.1 then (if bt260.1 < (y257.length : Int) then ((spec_l20Rd_pick.f k s0_0 bt260.2 256).bind fun bt263 => ((some (([rd y257 bt260.1, bt263.1] : List Int) : List Int)).bind fun y265 => ((spec_l20Rd_pick.f k s0_0 bt263.2 2).bind fun bt268 => (if 0 ≤ bt268.1 then (if bt268.1 < (y265.length : Int) then ((spec_l20Rd_pick.f k s0_0 bt268.2 256).bind fun bt271 => ((some (([rd y257 bt260.1, bt271.1] : List Int) : List Int)).bind fun y273 => ((spec_l20Rd_pick.f k s0_0 bt271.2 2).bind fun bt276 => (if 0 ≤ bt276.1 then (if bt276.1 < (y273.length : Int) then ((spec_l20Rd_pick.f k s0_0 bt276.2 256).bind fun bt279 => ((some (([255, 255, 0, bt279.1] : List Int) : List Int)).bind fun y281 => ((spec_l20Rd_pick.f k s0_0 bt279.2 4).bind fun bt284 => (if 0 ≤ bt284.1 then (if bt284.1 < (y281.length : Int) then (some (rd y257 bt260.1, rd y265 bt268.1, rd y273 bt276.1, rd y281 bt284.1, bt284.2)) else (none)) else (none))))) else (none)) else (none))))) else (none)) else (none))))) else (none)) else (none)))) = some (r1, r2, r3, r4, r5) := H
 have A2 := Aside0.mk A20
 clear A20
 obtain ⟨y257, hy257⟩ : ∃ y_ : List Int, y_ = (([0, 255, t255] : List Int)) := ⟨_, rfl⟩
 replace H : ((spec_l20Rd_pick.f k s0_0 t256 3).bind fun bt260 => (if 0 ≤ bt260.1 then (if bt260.1 < (y257.length : Int) then ((spec_l20Rd_pick.f k s0_0 bt260.2 256).bind fun bt263 => ((some (([rd y257 bt260.1, bt263.1] : List Int) : List Int)).bind fun y265 => ((spec_l20Rd_pick.f k s0_0 bt263.2 2).bind fun bt268 => (if 0 ≤ bt268.1 then (if bt268.1 < (y265.length : Int) then ((spec_l20Rd_pick.f k s0_0 bt268.2 256).bind fun bt271 => ((some (([rd y257 bt260.1, bt271.1] : List Int) : List Int)).bind fun y273 => ((spec_l20Rd_pick.f k s0_0 bt271.2 2).bind fun bt276 => (if 0 ≤ bt276.1 then (if bt276.1 < (y273.length : Int) then ((spec_l20Rd_pick.f k s0_0 bt276.2 256).bind fun bt279 => ((some (([255, 255, 0, bt279.1] : List Int) : List Int)).bind fun y281 => ((spec_l20Rd_pick.f k s0_0 bt279.2 4).bind fun bt284 => (if 0 ≤ bt284.1 then (if bt284.1 < (y281.length : Int) then (some (rd y257 bt260.1, rd y265 bt268.1, rd y273 bt276.1, rd y281 bt284.1, bt284.2)) else (none)) else (none))))) else (none)) else (none))))) else (none)) else (none))))) else (none)) else (none))) = some (r1, r2, r3, r4, r5) := by first | (rw [hy257]; with_reducible exact H) | (have H2_ := (Option.bind_some _ _).symm.trans H; rw [hy257]; with_reducible exact H2_) | (have H2_ := (Option.bind_some _ _).symm.trans H; with_reducible exact H2_) | with_reducible exact H | (rw [hy257]; exact H) | exact H
 have Ny257 := Aside0.mk hy257
 clear hy257
 replace H := Option.bind_eq_some_iff.mp H
 obtain ⟨⟨t260, t261⟩, A30, H⟩ := H
 replace H : (if 0 ≤ t260 then (if t260 < (y257.length : Int) then ((spec_l20Rd_pick.f k s0_0 t261 256).bind fun bt263 => ((some (([rd y257 t260, bt263.1] : List Int) : List Int)).bind fun y265 => ((spec_l20Rd_pick.f k s0_0 bt263.2 2).bind fun bt268 => (if 0 ≤ bt268.1 then (if bt268.1 < (y265.length : Int) then ((spec_l20Rd_pick.f k s0_0 bt268.2 256).bind fun bt271 => ((some (([rd y257 t260, bt271.1] : List Int) : List Int)).bind fun y273 => ((spec_l20Rd_pick.f k s0_0 bt271.2 2).bind fun bt276 => (if 0 ≤ bt276.1 then (if bt276.1 < (y273.length : Int) then ((spec_l20Rd_pick.f k s0_0 bt276.2 256).bind fun bt279 => ((some (([255, 255, 0, bt279.1] : List Int) : List Int)).bind fun y281 => ((spec_l20Rd_pick.f k s0_0 bt279.2 4).bind fun bt284 => (if 0 ≤ bt284.1 then (if bt284.1 < (y281.length : Int) then (some (rd y257 t260, rd y265 bt268.1, rd y273 bt276.1, rd y281 bt284.1, bt284.2)) else (none)) else (none))))) else (none)) else (none))))) else (none)) else (none))))) else (none)) else (none)) = some (r1, r2, r3, r4, r5) := H
 have A3 := Aside0.mk A30
 clear A30
 by_cases c4 : 0 ≤ t260
 ·rw [if_pos c4] at H
  have c4b0 : decide (0 ≤ t260) = true := decide_eq_true c4
  clear c4
  by_cases c5 : t260 < (y257.length : Int)
  ·rw [if_pos c5] at H
   have c5b0 : decide (t260 < (y257.length : Int)) = true := decide_eq_true c5
   clear c5
   replace H := Option.bind_eq_some_iff.mp H
   obtain ⟨⟨t263, t264⟩, A60, H⟩ := H
   replace H : ((some (([rd y257 t260, t263] : List Int) : List Int)).bind fun y265 => ((spec_l20Rd_pick.f k s0_0 t264 2).bind fun bt268 => (if 0 ≤ bt268.1 then (if bt268.1 < (y265.length : Int) then ((spec_l20Rd_pick.f k s0_0 bt268.2 256).bind fun bt271 => ((some (([rd y257 t260, bt271.1] : List Int) : List Int)).bind fun y273 => ((spec_l20Rd_pick.f k s0_0 bt271.2 2).bind fun bt276 => (if 0 ≤ bt276.1 then (if bt276.1 < (y273.length : Int) then ((spec_l20Rd_pick.f k s0_0 bt276.2 256).bind fun bt279 => ((some (([255, 255, 0, bt279.1] : List Int) : List Int)).bind fun y281 => ((spec_l20Rd_pick.f k s0_0 bt279.2 4).bind fun bt284 => (if 0 ≤ bt284.1 then (if bt284.1 < (y281.length : Int) then (some (rd y257 t260, rd y265 bt268.1, rd y273 bt276.1, rd y281 bt284.1, bt284.2)) else (none)) else (none))))) else (none)) else (none))))) else (none)) else (none)))) = some (r1, r2, r3, r4, r5) := H
   have A6 := Aside0.mk A60
   clear A60
   obtain ⟨y265, hy265⟩ : ∃ y_ : List Int, y_ = (([rd y257 t260, t263] : List Int)) := ⟨_, rfl⟩
   replace H : ((spec_l20Rd_pick.f k s0_0 t264 2).bind fun bt268 => (if 0 ≤ bt268.1 then (if bt268.1 < (y265.length : Int) then ((spec_l20Rd_pick.f k s0_0 bt268.2 256).bind fun bt271 => ((some (([rd y257 t260, bt271.1] : List Int) : List Int)).bind fun y273 => ((spec_l20Rd_pick.f k s0_0 bt271.2 2).bind fun bt276 => (if 0 ≤ bt276.1 then (if bt276.1 < (y273.length : Int) then ((spec_l20Rd_pick.f k s0_0 bt276.2 256).bind fun bt279 => ((some (([255, 255, 0, bt279.1] : List Int) : List Int)).bind fun y281 => ((spec_l20Rd_pick.f k s0_0 bt279.2 4).bind fun bt284 => (if 0 ≤ bt284.1 then (if bt284.1 < (y281.length : Int) then (some (rd y257 t260, rd y265 bt268.1, rd y273 bt276.1, rd y281 bt284.1, bt284.2)) else (none)) else (none))))) else (none)) else (none))))) else (none)) else (none))) = some (r1, r2, r3, r4, r5) := by first | (rw [hy265]; with_reducible exact H) | (have H2_ := (Option.bind_some _ _).symm.trans H; rw [hy265]; with_reducible exact H2_) | (have H2_ := (Option.bind_some _ _).symm.trans H; with_reducible exact H2_) | with_reducible exact H | (rw [hy265]; exact H) | exact H
   have Ny265 := Aside0.mk hy265
   clear hy265
   replace H := Option.bind_eq_some_iff.mp H
   obtain ⟨⟨t268, t269⟩, A70, H⟩ := H
   replace H : (if 0 ≤ t268 then (if t268 < (y265.length : Int) then ((spec_l20Rd_pick.f k s0_0 t269 256).bind fun bt271 => ((some (([rd y257 t260, bt271.1] : List Int) : List Int)).bind fun y273 => ((spec_l20Rd_pick.f k s0_0 bt271.2 2).bind fun bt276 => (if 0 ≤ bt276.1 then (if bt276.1 < (y273.length : Int) then ((spec_l20Rd_pick.f k s0_0 bt276.2 256).bind fun bt279 => ((some (([255, 255, 0, bt279.1] : List Int) : List Int)).bind fun y281 => ((spec_l20Rd_pick.f k s0_0 bt279.2 4).bind fun bt284 => (if 0 ≤ bt284.1 then (if bt284.1 < (y281.length : Int) then (some (rd y257 t260, rd y265 t268, rd y273 bt276.1, rd y281 bt284.1, bt284.2)) else (none)) else (none))))) else (none)) else (none))))) else (none)) else (none)) = some (r1, r2, r3, r4, r5) := H
   have A7 := Aside0.mk A70
   clear A70
   by_cases c8 : 0 ≤ t268
   ·rw [if_pos c8] at H
    have c8b0 : decide (0 ≤ t268) = true := decide_eq_true c8
    clear c8
    by_cases c9 : t268 < (y265.length : Int)
    ·rw [if_pos c9] at H
     have c9b0 : decide (t268 < (y265.length : Int)) = true := decide_eq_true c9
     clear c9
     replace H := Option.bind_eq_some_iff.mp H
     obtain ⟨⟨t271, t272⟩, A100, H⟩ := H
     replace H : ((some (([rd y257 t260, t271] : List Int) : List Int)).bind fun y273 => ((spec_l20Rd_pick.f k s0_0 t272 2).bind fun bt276 => (if 0 ≤ bt276.1 then (if bt276.1 < (y273.length : Int) then ((spec_l20Rd_pick.f k s0_0 bt276.2 256).bind fun bt279 => ((some (([255, 255, 0, bt279.1] : List Int) : List Int)).bind fun y281 => ((spec_l20Rd_pick.f k s0_0 bt279.2 4).bind fun bt284 => (if 0 ≤ bt284.1 then (if bt284.1 < (y281.length : Int) then (some (rd y257 t260, rd y265 t268, rd y273 bt276.1, rd y281 bt284.1, bt284.2)) else (none)) else (none))))) else (none)) else (none)))) = some (r1, r2, r3, r4, r5) := H
     have A10 := Aside0.mk A100
     clear A100
     obtain ⟨y273, hy273⟩ : ∃ y_ : List Int, y_ = (([rd y257 t260, t271] : List Int)) := ⟨_, rfl⟩
     replace H : ((spec_l20Rd_pick.f k s0_0 t272 2).bind fun bt276 => (if 0 ≤ bt276.1 then (if bt276.1 < (y273.length : Int) then ((spec_l20Rd_pick.f k s0_0 bt276.2 256).bind fun bt279 => ((some (([255, 255, 0, bt279.1] : List Int) : List Int)).bind fun y281 => ((spec_l20Rd_pick.f k s0_0 bt279.2 4).bind fun bt284 => (if 0 ≤ bt284.1 then (if bt284.1 < (y281.length : Int) then (some (rd y257 t260, rd y265 t268, rd y273 bt276.1, rd y281 bt284.1, bt284.2)) else (none)) else (none))))) else (none)) else (none))) = some (r1, r2, r3, r4, r5) := by first | (rw [hy273]; with_reducible exact H) | (have H2_ := (Option.bind_some _ _).symm.trans H; rw [hy273]; with_reducible exact H2_) | (have H2_ := (Option.bind_some _ _).symm.trans H; with_reducible exact H2_) | with_reducible exact H | (rw [hy273]; exact H) | exact H
     have Ny273 := Aside0.mk hy273
     clear hy273
     replace H := Option.bind_eq_some_iff.mp H
     obtain ⟨⟨t276, t277⟩, A110, H⟩ := H
     replace H : (if 0 ≤ t276 then (if t276 < (y273.length : Int) then ((spec_l20Rd_pick.f k s0_0 t277 256).bind fun bt279 => ((some (([255, 255, 0, bt279.1] : List Int) : List Int)).bind fun y281 => ((spec_l20Rd_pick.f k s0_0 bt279.2 4).bind fun bt284 => (if 0 ≤ bt284.1 then (if bt284.1 < (y281.length : Int) then (some (rd y257 t260, rd y265 t268, rd y273 t276, rd y281 bt284.1, bt284.2)) else (none)) else (none))))) else (none)) else (none)) = some (r1, r2, r3, r4, r5) := H
     have A11 := Aside0.mk A110
     clear A110
     by_cases c12 : 0 ≤ t276
     ·rw [if_pos c12] at H
      have c12b0 : decide (0 ≤ t276) = true := decide_eq_true c12
      clear c12
      by_cases c13 : t276 < (y273.length : Int)
      ·rw [if_pos c13] at H
       have c13b0 : decide (t276 < (y273.length : Int)) = true := decide_eq_true c13
       clear c13
       replace H := Option.bind_eq_some_iff.mp H
       obtain ⟨⟨t279, t280⟩, A140, H⟩ := H
       replace H : ((some (([255, 255, 0, t279] : List Int) : List Int)).bind fun y281 => ((spec_l20Rd_pick.f k s0_0 t280 4).bind fun bt284 => (if 0 ≤ bt284.1 then (if bt284.1 < (y281.length : Int) then (some (rd y257 t260, rd y265 t268, rd y273 t276, rd y281 bt284.1, bt284.2)) else (none)) else (none)))) = some (r1, r2, r3, r4, r5) := H
       have A14 := Aside0.mk A140
       clear A140
       obtain ⟨y281, hy281⟩ : ∃ y_ : List Int, y_ = (([255, 255, 0, t279] : List Int)) := ⟨_, rfl⟩
       replace H : ((spec_l20Rd_pick.f k s0_0 t280 4).bind fun bt284 => (if 0 ≤ bt284.1 then (if bt284.1 < (y281.length : Int) then (some (rd y257 t260, rd y265 t268, rd y273 t276, rd y281 bt284.1, bt284.2)) else (none)) else (none))) = some (r1, r2, r3, r4, r5) := by first | (rw [hy281]; with_reducible exact H) | (have H2_ := (Option.bind_some _ _).symm.trans H; rw [hy281]; with_reducible exact H2_) | (have H2_ := (Option.bind_some _ _).symm.trans H; with_reducible exact H2_) | with_reducible exact H | (rw [hy281]; exact H) | exact H
       have Ny281 := Aside0.mk hy281
       clear hy281
       replace H := Option.bind_eq_some_iff.mp H
       obtain ⟨⟨t284, t285⟩, A150, H⟩ := H
       replace H : (if 0 ≤ t284 then (if t284 < (y281.length : Int) then (some (rd y257 t260, rd y265 t268, rd y273 t276, rd y281 t284, t285)) else (none)) else (none)) = some (r1, r2, r3, r4, r5) := H
       have A15 := Aside0.mk A150
       clear A150
       by_cases c16 : 0 ≤ t284
       ·rw [if_pos c16] at H
        have c16b0 : decide (0 ≤ t284) = true := decide_eq_true c16
        clear c16
        by_cases c17 : t284 < (y281.length : Int)
        ·rw [if_pos c17] at H
         have c17b0 : decide (t284 < (y281.length : Int)) = true := decide_eq_true c17
         clear c17
         simp only [Option.some.injEq, Prod.mk.injEq] at H
         obtain ⟨rfl, rfl, rfl, rfl, rfl⟩ := H
         go_enter Try.func51, Try.ntmps51
         try go_wp2_with (first | ((with_reducible refine gate_dst (N := 2) rfl ?_); refine box_event ?hg (N := 2) ?hd (cs := #[.int .i64 0, .int .i64 0, .int .i64 0, .int .i64 0]) (t := 39) ?hr ?_; (case hd => rfl); (case hg => rfl); (case hr => first | (go_simp; done) | (go_simp; rfl)); intro gb254 hg w18 hbox hb; have n0_ := Aside0.mk (IsS82.below (by repeat (first | (with_reducible first | exact HI0.out | apply IsS82.alloc | apply IsS82.drewN | apply IsS82.drew | apply IsS82.set_1) | exact HI0.out)) hb); have n1_ := Aside0.mk (KeepBut.trans (by repeat (first | (with_reducible first | exact HK.out | apply KeepBut.set_ | apply keep_drewN | apply keep_drew | apply keep_alloc) | exact HK.out)) (KeepBut.of_below hb g none) (.inl rfl)); have n2_ := Aside0.mk (below_step (by repeat (first | (with_reducible first | exact HB.out | apply below_alloc | apply pw_below_drewN | apply below_drew1 | refine below_set ?_ (IsS82.ge HI0.out)) | exact HB.out)) hb); have n3_ := Aside0.mk (hbox); have n4_ := Aside0.mk ((by rw [hg]; exact (keep_size (w := w) (g := g) (row := none) (by repeat (first | (with_reducible first | exact HK.out | apply KeepBut.set_ | apply keep_drewN | apply keep_drew | apply keep_alloc) | exact HK.out))) : w.heap.size ≤ gb254)); have n5_ := Aside0.mk ((Nat.le_trans HW0.out (by rw [hg]; exact (keep_size (w := w) (g := g) (row := none) (by repeat (first | (with_reducible first | exact HK.out | apply KeepBut.set_ | apply keep_drewN | apply keep_drew | apply keep_alloc) | exact HK.out))) : w.heap.size ≤ gb254) : w0.heap.size ≤ gb254)); have n6_ := Aside0.mk ((by rw [hg]; exact Nat.ne_of_lt (IsS82.lt (show IsS82 w0 _ g s0_0 s0_1 from by repeat (first | (with_reducible first | exact HI0.out | apply IsS82.alloc | apply IsS82.drewN | apply IsS82.drew | apply IsS82.set_1) | exact HI0.out))) : g ≠ gb254)); have n7_ := Aside0.mk ((by rw [hg]; exact Nat.ne_of_gt (IsS82.lt (show IsS82 w0 _ g s0_0 s0_1 from by repeat (first | (with_reducible first | exact HI0.out | apply IsS82.alloc | apply IsS82.drewN | apply IsS82.drew | apply IsS82.set_1) | exact HI0.out))) : gb254 ≠ g)); clear HI0; clear HK; clear HB; have HI0 := n0_; have HK := n1_; have HB := n2_; have BK254 := n3_; have GW254 := n4_; have GE254 := n5_; have NB0_254 := n6_; have NB254_0 := n7_; clear n0_ n1_ n2_ n3_ n4_ n5_ n6_ n7_; clear hb hbox hg) | ((with_reducible refine gate_callee (f := 52) rfl ?_); refine goesL_ (some 5) rfl rfl Try.func52 (by kernel_rfl) rfl #[.pointer (some ⟨g, 0, none⟩), .int .i64 256] rfl (by (try simp only [List.map_toArray, List.map_cons, List.map_nil]); first | done | rfl | (simp only [List.length_drop, List.length_take]; rfl)) ?_; (with_reducible refine (spec_l20Rd_pick.calls k g s0_0 s0_1 256 t255 t256 w0 _ ?side1 ?side2 A2.out).mono ?_); (case side1 => repeat (first | (with_reducible first | exact HI0.out | apply IsS82.alloc | apply IsS82.drewN | apply IsS82.drew | apply IsS82.set_1 | refine IsS82.far ?_ NB0_254.out _) | exact HI0.out)); (case side2 => repeat (first | (with_reducible first | exact HB.out | apply below_alloc | apply pw_below_drewN | apply below_drew1 | refine below_set ?_ (IsS82.ge HI0.out) | refine below_set ?_ GE254.out) | exact HB.out)); rintro e w19 ⟨rfl, hi, hb, hk⟩; refine ⟨_, rfl, ?_⟩; have n0_ := Aside0.mk (KeepBut.blk hk (g' := gb254) (o := .cells #[.int .i64 0, .int .i64 0, .int .i64 0, .int .i64 0] 39 (0, 0)) (by (with_reducible repeat (first | refine blk_drewN ?_ _ | refine blk_drew ?_ | refine blk_alloc ?_ _)); exact BK254.out) NB254_0.out (by simp)); have n1_ := Aside0.mk (KeepBut.trans (by repeat (first | (with_reducible first | exact HK.out | apply KeepBut.set_ | apply keep_drewN | apply keep_drew | apply keep_alloc | refine keep_far ?_ GW254.out _) | exact HK.out)) hk (.inl rfl)); have n2_ := Aside0.mk (hb); have n3_ := Aside0.mk (hi); clear BK254; clear HK; clear HB; clear HI0; have BK254 := n0_; have HK := n1_; have HB := n2_; have HI0 := n3_; clear n0_ n1_ n2_ n3_; (try clear hb); (try clear hb2); (try clear hk); (try clear hi)) | ((with_reducible refine gate_dst (N := 6) rfl ?_); refine Kd.R_lit (Kd.int .i64) _ 3 ?hg (N := 6) ?hd (xs := ([0, 255, t255] : List Int)) (inner := [.int .i64 0, .int .i64 255, .int .i64 t255]) (ok := fun _ => True) (okp := fun _ => True) ?hr ?hp (fun _ hk => hk) trivial (Below.refl _ _) (Nat.le_refl _) (by simp) ?_; (case hd => rfl); (case hg => rfl); (case hr => first | (go_simp; done) | (go_simp; rfl)); (case hp => exact (Reps.one (show Kd.M (Kd.int .i64) _ _ _ 0 [.int .i64 0] from rfl) (Reps.one (show Kd.M (Kd.int .i64) _ _ _ 255 [.int .i64 255] from rfl) (Reps.one (show Kd.M (Kd.int .i64) _ _ _ t255 [.int .i64 t255] from rfl) (Reps.none _ _))))); intro v258 w20 ho21 hb hg_ hnew_; clear hg_ hnew_; (first | rw [← Ny257.out] at ho21 | (simp only [Int.reduceToNat] at ho21; rw [← Ny257.out] at ho21)); have n0_ := Aside0.mk (Kd.R_lower ho21 (keep_size (w := w) (g := g) (row := none) (by repeat (first | (with_reducible first | exact HK.out | apply KeepBut.set_ | apply keep_drewN | apply keep_drew | apply keep_alloc | refine keep_far ?_ GW254.out _) | exact HK.out)))); have n1_ := Aside0.mk (IsS82.below (by repeat (first | (with_reducible first | exact HI0.out | apply IsS82.alloc | apply IsS82.drewN | apply IsS82.drew | apply IsS82.set_1 | refine IsS82.far ?_ NB0_254.out _) | exact HI0.out)) hb); have n2_ := Aside0.mk (blk_below (g := gb254) (o := .cells #[.int .i64 0, .int .i64 0, .int .i64 0, .int .i64 0] 39 (0, 0)) (by (with_reducible repeat (first | refine blk_drewN ?_ _ | refine blk_drew ?_ | refine blk_alloc ?_ _)); exact BK254.out) hb); have n3_ := Aside0.mk (KeepBut.trans (by repeat (first | (with_reducible first | exact HK.out | apply KeepBut.set_ | apply keep_drewN | apply keep_drew | apply keep_alloc | refine keep_far ?_ GW254.out _) | exact HK.out)) (KeepBut.of_below hb g none) (.inl rfl)); have n4_ := Aside0.mk (below_step (by repeat (first | (with_reducible first | exact HB.out | apply below_alloc | apply pw_below_drewN | apply below_drew1 | refine below_set ?_ (IsS82.ge HI0.out) | refine below_set ?_ GE254.out) | exact HB.out)) hb); clear HI0; clear BK254; clear HK; clear HB; have HO259 := n0_; have HI0 := n1_; have BK254 := n2_; have HK := n3_; have HB := n4_; clear n0_ n1_ n2_ n3_ n4_; clear hb ho21) | ((with_reducible refine gate_callee (f := 52) rfl ?_); refine goesL_ (some 8) rfl rfl Try.func52 (by kernel_rfl) rfl #[.pointer (some ⟨g, 0, none⟩), .int .i64 3] rfl (by (try simp only [List.map_toArray, List.map_cons, List.map_nil]); first | done | rfl | (simp only [List.length_drop, List.length_take]; rfl)) ?_; (with_reducible refine (spec_l20Rd_pick.calls k g s0_0 t256 3 t260 t261 w0 _ ?side1 ?side2 A3.out).mono ?_); (case side1 => repeat (first | (with_reducible first | exact HI0.out | apply IsS82.alloc | apply IsS82.drewN | apply IsS82.drew | apply IsS82.set_1 | refine IsS82.far ?_ NB0_254.out _) | exact HI0.out)); (case side2 => repeat (first | (with_reducible first | exact HB.out | apply below_alloc | apply pw_below_drewN | apply below_drew1 | refine below_set ?_ (IsS82.ge HI0.out) | refine below_set ?_ GE254.out) | exact HB.out)); rintro e w22 ⟨rfl, hi, hb, hk⟩; refine ⟨_, rfl, ?_⟩; have n0_ := Aside0.mk (KeepBut.blk hk (g' := gb254) (o := .cells #[.int .i64 0, .int .i64 0, .int .i64 0, .int .i64 0] 39 (0, 0)) (by (with_reducible repeat (first | refine blk_drewN ?_ _ | refine blk_drew ?_ | refine blk_alloc ?_ _)); exact BK254.out) NB254_0.out (by simp)); have n1_ := Aside0.mk (Kd.R_mono (Kd.R_keep (IsS82.apart (show IsS82 w0 _ g s0_0 t256 from by repeat (first | (with_reducible first | exact HI0.out | apply IsS82.alloc | apply IsS82.drewN | apply IsS82.drew | apply IsS82.set_1 | refine IsS82.far ?_ NB0_254.out _) | exact HI0.out)) (by (with_reducible repeat (first | apply Kd.R_alloc | apply Kd.R_drewN | apply Kd.R_drew)); exact HO259.out) (by decide)) hk (fun _ h => h.2)) (fun _ h => h.1)); have n2_ := Aside0.mk (KeepBut.trans (by repeat (first | (with_reducible first | exact HK.out | apply KeepBut.set_ | apply keep_drewN | apply keep_drew | apply keep_alloc | refine keep_far ?_ GW254.out _) | exact HK.out)) hk (.inl rfl)); have n3_ := Aside0.mk (hb); have n4_ := Aside0.mk (hi); clear BK254; clear HO259; clear HK; clear HB; clear HI0; have BK254 := n0_; have HO259 := n1_; have HK := n2_; have HB := n3_; have HI0 := n4_; clear n0_ n1_ n2_ n3_ n4_; (try clear hb); (try clear hb2); (try clear hk); (try clear hi); obtain ⟨Ao23, co23, eo23⟩ := Kd.R_slice HO259.out; subst eo23; have p262 : 0 ≤ (t260 : Int) := of_decide_eq_true (by first | (with_reducible assumption) | assumption); have q262 : t260 < (y257.length : Int) := of_decide_eq_true (by first | (with_reducible assumption) | assumption); obtain ⟨ad262, e262, hx262_0⟩ := Kd.at_int (Kd.R_reads' HO259.out).2.2 t260 p262 q262; cases e262; replace p262 := eq_true p262; replace q262 := eq_true q262))
         have pi270 : (0 ≤ (t268 : Int)) = True := eq_true (of_decide_eq_true (by first | (with_reducible assumption) | assumption))
         have qi270 : (t268 < (y265.length : Int)) = True := eq_true (of_decide_eq_true (by first | (with_reducible assumption) | assumption))
         have pi278 : (0 ≤ (t276 : Int)) = True := eq_true (of_decide_eq_true (by first | (with_reducible assumption) | assumption))
         have qi278 : (t276 < (y273.length : Int)) = True := eq_true (of_decide_eq_true (by first | (with_reducible assumption) | assumption))
         have pi286 : (0 ≤ (t284 : Int)) = True := eq_true (of_decide_eq_true (by first | (with_reducible assumption) | assumption))
         have qi286 : (t284 < (y281.length : Int)) = True := eq_true (of_decide_eq_true (by first | (with_reducible assumption) | assumption))
         have n0_ := Aside0.mk (Kd.R_drew HO259.out)
         have n1_ := Aside0.mk (blk_drew BK254.out)
         have n2_ := Aside0.mk (IsS82.drew HI0.out)
         have n3_ := Aside0.mk (keep_drew HK.out)
         have n4_ := Aside0.mk (below_drew1 HB.out)
         clear HO259
         clear BK254
         clear HI0
         clear HK
         clear HB
         have HO259 := n0_
         have BK254 := n1_
         have HI0 := n2_
         have HK := n3_
         have HB := n4_
         clear n0_ n1_ n2_ n3_ n4_
         refine start_ (n := 26) (S := fun w' => True) (ds := []) #[false, false, false, false, false, false, false, false, false, false, false, false, false, false, false, false, false, false, false, false, false, false, false, false, false, false] (by kernel_rfl) rfl rfl trivial (fun hHeld => ?_); refine with_tabW spec_l20Pix.tab2 spec_l20Pix.bits2 (fun HT_ HW_ => ?_)
         generalize w22.drew = w24 at HO259 BK254 HI0 HK HB hHeld ⊢
         refine pure_ (i := 0) (N := some 11) (v := ?_) (a' := ?_) #[true, false, false, false, false, false, false, false, false, false, false, false, false, false, false, false, false, false, false, false, false, false, false, false, false, false] rfl rfl (any_of HT_.out (by kernel_rfl)) (fun _ _ _ h => h) (Or.inl ⟨by rfl, ?_⟩) ?_ ?_
         rotate_left
         ·intro w'
          go_simp
          with_reducible rfl
         rotate_left
         ·simp only [Act.put, List.setIfInBounds_toArray, List.set_cons_zero, List.set_cons_succ, i64_w, i32_w]
          rfl
         refine pure_ (i := 1) (N := some 12) (v := ?_) (a' := ?_) #[true, true, false, false, false, false, false, false, false, false, false, false, false, false, false, false, false, false, false, false, false, false, false, false, false, false] rfl rfl (any_of HT_.out (by kernel_rfl)) (fun _ _ _ h => h) (Or.inl ⟨by rfl, ?_⟩) ?_ ?_
         rotate_left
         ·intro w'
          go_simp
          with_reducible rfl
         rotate_left
         ·simp only [Act.put, List.setIfInBounds_toArray, List.set_cons_zero, List.set_cons_succ, i64_w, i32_w]
          rfl
         refine pure_ (i := 2) (N := some 13) (v := ?_) (a' := ?_) #[true, true, true, false, false, false, false, false, false, false, false, false, false, false, false, false, false, false, false, false, false, false, false, false, false, false] rfl rfl (any_of HT_.out (by kernel_rfl)) (fun _ _ _ h => h) (Or.inl ⟨by rfl, ?_⟩) ?_ ?_
         rotate_left
         ·intro w'
          go_simp
          with_reducible rfl
         rotate_left
         ·simp only [Act.put, List.setIfInBounds_toArray, List.set_cons_zero, List.set_cons_succ, i64_w, i32_w]
          rfl
         refine pure_ (i := 5) (N := some 16) (v := ?_) (a' := ?_) #[true, true, true, false, false, true, false, false, false, false, false, false, false, false, false, false, false, false, false, false, false, false, false, false, false, false] rfl rfl (any_of HT_.out (by kernel_rfl)) (fun _ _ _ h => h) (Or.inl ⟨by rfl, ?_⟩) ?_ ?_
         rotate_left
         ·intro w'
          go_simp
          with_reducible rfl
         rotate_left
         ·simp only [Act.put, List.setIfInBounds_toArray, List.set_cons_zero, List.set_cons_succ, i64_w, i32_w]
          rfl
         refine pure_ (i := 9) (N := some 20) (v := ?_) (a' := ?_) #[true, true, true, false, false, true, false, false, false, true, false, false, false, false, false, false, false, false, false, false, false, false, false, false, false, false] rfl rfl (any_of HT_.out (by kernel_rfl)) (fun _ _ _ h => h) (Or.inl ⟨by rfl, ?_⟩) ?_ ?_
         rotate_left
         ·intro w'
          go_simp
          with_reducible rfl
         rotate_left
         ·simp only [Act.put, List.setIfInBounds_toArray, List.set_cons_zero, List.set_cons_succ, i64_w, i32_w]
          rfl
         refine pure_ (i := 10) (N := some 21) (v := ?_) (a' := ?_) #[true, true, true, false, false, true, false, false, false, true, true, false, false, false, false, false, false, false, false, false, false, false, false, false, false, false] rfl rfl (any_of HT_.out (by kernel_rfl)) (fun _ _ _ h => h) (Or.inl ⟨by rfl, ?_⟩) ?_ ?_
         rotate_left
         ·intro w'
          go_simp
          with_reducible rfl
         rotate_left
         ·simp only [Act.put, List.setIfInBounds_toArray, List.set_cons_zero, List.set_cons_succ, i64_w, i32_w]
          rfl
         refine pure_ (i := 13) (N := some 24) (v := ?_) (a' := ?_) #[true, true, true, false, false, true, false, false, false, true, true, false, false, true, false, false, false, false, false, false, false, false, false, false, false, false] rfl rfl (any_of HT_.out (by kernel_rfl)) (fun _ _ _ h => h) (Or.inl ⟨by rfl, ?_⟩) ?_ ?_
         rotate_left
         ·intro w'
          go_simp
          with_reducible rfl
         rotate_left
         ·simp only [Act.put, List.setIfInBounds_toArray, List.set_cons_zero, List.set_cons_succ, i64_w, i32_w]
          rfl
         refine pure_ (i := 17) (N := some 28) (v := ?_) (a' := ?_) #[true, true, true, false, false, true, false, false, false, true, true, false, false, true, false, false, false, true, false, false, false, false, false, false, false, false] rfl rfl (any_of HT_.out (by kernel_rfl)) (fun _ _ _ h => h) (Or.inl ⟨by rfl, ?_⟩) ?_ ?_
         rotate_left
         ·intro w'
          go_simp
          with_reducible rfl
         rotate_left
         ·simp only [Act.put, List.setIfInBounds_toArray, List.set_cons_zero, List.set_cons_succ, i64_w, i32_w]
          rfl
         refine pure_ (i := 20) (N := some 31) (v := ?_) (a' := ?_) #[true, true, true, false, false, true, false, false, false, true, true, false, false, true, false, false, false, true, false, false, true, false, false, false, false, false] rfl rfl (any_of HT_.out (by kernel_rfl)) (fun _ _ _ h => h) (Or.inl ⟨by rfl, ?_⟩) ?_ ?_
         rotate_left
         ·intro w'
          go_simp
          with_reducible rfl
         rotate_left
         ·simp only [Act.put, List.setIfInBounds_toArray, List.set_cons_zero, List.set_cons_succ, i64_w, i32_w]
          rfl
         refine inv_at [3, 4, 6, 7, 8, 11, 12, 14, 15, 16, 18, 19, 21, 22, 23, 24, 25] (fun a0_ b a w' => ∃ (v266 : Value) (adz_v266 : Addr) (v274 : Value) (adz_v274 : Addr) (v282 : Value) (adz_v282 : Addr) (m7_ : Value) (m15_ : Value) (m22_ : Value), a = putSel a0_ b [(3, 14, .int .i64 t263), (4, 15, v266), (6, 17, .int .i64 t268), (7, 18, m7_), (8, 19, .int .i64 (rd y265 t268)), (11, 22, .int .i64 t271), (12, 23, v274), (14, 25, .int .i64 t276), (15, 26, m15_), (16, 27, .int .i64 (rd y273 t276)), (18, 29, .int .i64 t279), (19, 30, v282), (21, 32, .int .i64 t284), (22, 33, m22_), (23, 34, .int .i64 (rd y281 t284)), (24, 35, .agg #[.int .i64 (rd y257 t260), .int .i64 (rd y265 t268), .int .i64 (rd y273 t276), .int .i64 (rd y281 t284)])] ∧ (Kd.R (Kd.int .i64) 3 w' w.heap.size (fun _ => True) (.slice (some ad262) y257.length co23) y257) ∧ (b 25 = false → w'.heap[gb254]? = some (.cells #[.int .i64 0, .int .i64 0, .int .i64 0, .int .i64 0] 39 (0, 0))) ∧ (b 3 = false → IsS82 w0 w' g s0_0 t261) ∧ (KeepBut w w' g none) ∧ (Below w0.heap.size w0 w') ∧ (b 3 = true → b 6 = false → IsS82 w0 w' g s0_0 t264) ∧ (b 4 = true → Kd.R (Kd.int .i64) 3 w' w.heap.size (fun k_ => some k_ ≠ (.slice (some ad262) y257.length co23 : Value).ownBlock) v266 y265) ∧ (b 4 = true → ∃ c_, (v266 : Value) = .slice (some adz_v266) y265.length c_) ∧ (b 6 = true → b 11 = false → IsS82 w0 w' g s0_0 t269) ∧ (b 11 = true → b 14 = false → IsS82 w0 w' g s0_0 t272) ∧ (b 12 = true → Kd.R (Kd.int .i64) 3 w' w.heap.size (fun k_ => some k_ ≠ (.slice (some ad262) y257.length co23 : Value).ownBlock) v274 y273) ∧ (b 12 = true → ∃ c_, (v274 : Value) = .slice (some adz_v274) y273.length c_) ∧ (b 14 = true → b 18 = false → IsS82 w0 w' g s0_0 t277) ∧ (b 18 = true → b 21 = false → IsS82 w0 w' g s0_0 t280) ∧ (b 19 = true → Kd.R (Kd.int .i64) 3 w' w.heap.size (fun k_ => some k_ ≠ (.slice (some ad262) y257.length co23 : Value).ownBlock) v282 y281) ∧ (b 19 = true → ∃ c_, (v282 : Value) = .slice (some adz_v282) y281.length c_) ∧ (b 21 = true → IsS82 w0 w' g s0_0 t285) ∧ (b 25 = true → w'.heap[gb254]? = some (.cells #[.int .i64 (rd y257 t260), .int .i64 (rd y265 t268), .int .i64 (rd y273 t276), .int .i64 (rd y281 t284)] 39 (0, 0))) ∧ (b 7 = true → (m7_ : Value) = .pointer (some (adz_v266.add (t268).toNat))) ∧ (b 15 = true → (m15_ : Value) = .pointer (some (adz_v274.add (t276).toNat))) ∧ (b 22 = true → (m22_ : Value) = .pointer (some (adz_v282.add (t284).toNat)))) HT_.out HW_.out (by kernel_rfl) (by kernel_rfl) ?_ ?_ ?_
         ·exact ⟨.bool false, ⟨0, 0, none⟩, .bool false, ⟨0, 0, none⟩, .bool false, ⟨0, 0, none⟩, .bool false, .bool false, .bool false, by simp only [putSel, Bool.false_eq_true, if_false], HO259.out, fun _ => BK254.out, fun _ => HI0.out, HK.out, HB.out, fun h_ => absurd h_ (by decide), fun h_ => absurd h_ (by decide), fun h_ => absurd h_ (by decide), fun h_ => absurd h_ (by decide), fun h_ => absurd h_ (by decide), fun h_ => absurd h_ (by decide), fun h_ => absurd h_ (by decide), fun h_ => absurd h_ (by decide), fun h_ => absurd h_ (by decide), fun h_ => absurd h_ (by decide), fun h_ => absurd h_ (by decide), fun h_ => absurd h_ (by decide), fun h_ => absurd h_ (by decide), fun h_ => absurd h_ (by decide), fun h_ => absurd h_ (by decide), fun h_ => absurd h_ (by decide)⟩
         ·skip
          clear BK254 HB HI0 HK HO259
          refine steps_cons ?_ ?_
          ·rintro b a w' ⟨v266, adz_v266, v274, adz_v274, v282, adz_v282, m7_, m15_, m22_, ha, Q_HO259, Q_BK254, Q_HI0, Q_HK, Q_HB, Q_HI0_e3, Q_HO267, Q_HA_HO267, Q_HI0_e6, Q_HI0_e11, Q_HO275, Q_HA_HO275, Q_HI0_e14, Q_HI0_e18, Q_HO283, Q_HA_HO283, Q_HI0_e21, Q_BK254_e25, Q_X7_, Q_X15_, Q_X22_⟩ hb_ hon hoff
           refine ⟨_, rfl, fun K hK => ?_⟩
           have e13 : a.tmps[13]? = some (.pointer (some ⟨g, 0, none⟩)) := by rw [ha]; exact (putSel_off rfl).trans rfl
           replace ha := Aside0.mk ha
           have HO259 := Aside0.mk Q_HO259
           have BK254 := Aside0.mk (Q_BK254 (hoff 25 (by kernel_rfl)))
           have HI0 := Aside0.mk (Q_HI0 hb_)
           have HK := Aside0.mk Q_HK
           have HB := Aside0.mk Q_HB
           refine goes_ Try.func52 (by kernel_rfl) rfl #[.pointer (some ⟨g, 0, none⟩), .int .i64 256] (by rfl) rfl rfl (by first | (simp only [List.map_toArray, List.map_cons, List.map_nil, Act.eval, Array.getD_eq_getD_getElem?, Option.getD_some, e13]; done) | (simp only [List.map_toArray, List.map_cons, List.map_nil, Act.eval, Array.getD_eq_getD_getElem?, Option.getD_some, e13]; rfl)) ?_
           with_reducible refine (spec_l20Rd_pick.calls k g s0_0 t261 256 t263 t264 w0 _ ?side1 ?side2 A6.out).mono ?_
           (case side1 => repeat (first | (with_reducible first | exact HI0.out | apply IsS82.alloc | apply IsS82.drewN | apply IsS82.drew | apply IsS82.set_1 | refine IsS82.far ?_ NB0_254.out _) | exact HI0.out))
           (case side2 => repeat (first | (with_reducible first | exact HB.out | apply below_alloc | apply pw_below_drewN | apply below_drew1 | refine below_set ?_ (IsS82.ge HI0.out) | refine below_set ?_ GE254.out) | exact HB.out))
           rintro e w25 ⟨rfl, hi, hb, hk⟩
           refine ⟨_, rfl, ?_⟩
           have n0_ := Aside0.mk (KeepBut.blk hk (g' := gb254) (o := .cells #[.int .i64 0, .int .i64 0, .int .i64 0, .int .i64 0] 39 (0, 0)) (by (with_reducible repeat (first | refine blk_drewN ?_ _ | refine blk_drew ?_ | refine blk_alloc ?_ _)); exact BK254.out) NB254_0.out (by simp))
           have n1_ := Aside0.mk (Kd.R_mono (Kd.R_keep (IsS82.apart (show IsS82 w0 _ g s0_0 t261 from by repeat (first | (with_reducible first | exact HI0.out | apply IsS82.alloc | apply IsS82.drewN | apply IsS82.drew | apply IsS82.set_1 | refine IsS82.far ?_ NB0_254.out _) | exact HI0.out)) (by (with_reducible repeat (first | apply Kd.R_alloc | apply Kd.R_drewN | apply Kd.R_drew)); exact HO259.out) (by decide)) hk (fun _ h => h.2)) (fun _ h => h.1))
           have n2_ := Aside0.mk (KeepBut.trans (by repeat (first | (with_reducible first | exact HK.out | apply KeepBut.set_ | apply keep_drewN | apply keep_drew | apply keep_alloc | refine keep_far ?_ GW254.out _) | exact HK.out)) hk (.inl rfl))
           have n3_ := Aside0.mk (hb)
           have n4_ := Aside0.mk (hi)
           clear BK254
           clear HO259
           clear HK
           clear HB
           clear HI0
           have BK254 := n0_
           have HO259 := n1_
           have HK := n2_
           have HB := n3_
           have HI0 := n4_
           clear n0_ n1_ n2_ n3_ n4_
           (try clear hb)
           (try clear hb2)
           (try clear hk)
           (try clear hi)
           refine hK.out _ _ ⟨v266, adz_v266, v274, adz_v274, v282, adz_v282, m7_, m15_, m22_, (by rw [ha.out]; exact putSel_upk 0 hb_ rfl rfl rfl), (by (with_reducible repeat (first | apply Kd.R_alloc | apply Kd.R_drewN | apply Kd.R_drew)); exact HO259.out), fun _ => (by (with_reducible repeat (first | refine blk_drewN ?_ _ | refine blk_drew ?_ | refine blk_alloc ?_ _)); exact BK254.out), fun h0_ => absurd ((up_self b 3).symm.trans h0_) (by decide), (by repeat (first | (with_reducible first | exact HK.out | apply KeepBut.set_ | apply keep_drewN | apply keep_drew | apply keep_alloc | refine keep_far ?_ GW254.out _) | exact HK.out)), (by repeat (first | (with_reducible first | exact HB.out | apply below_alloc | apply pw_below_drewN | apply below_drew1 | refine below_set ?_ (IsS82.ge HI0.out) | refine below_set ?_ GE254.out) | exact HB.out)), fun _ _ => (by repeat (first | (with_reducible first | exact HI0.out | apply IsS82.alloc | apply IsS82.drewN | apply IsS82.drew | apply IsS82.set_1 | refine IsS82.far ?_ NB0_254.out _) | exact HI0.out)), fun h0_ => absurd ((hoff 4 (by kernel_rfl)).symm.trans h0_) (by decide), fun h0_ => absurd ((hoff 4 (by kernel_rfl)).symm.trans h0_) (by decide), fun h0_ _ => absurd ((hoff 6 (by kernel_rfl)).symm.trans h0_) (by decide), fun h0_ _ => absurd ((hoff 11 (by kernel_rfl)).symm.trans h0_) (by decide), fun h0_ => absurd ((hoff 12 (by kernel_rfl)).symm.trans h0_) (by decide), fun h0_ => absurd ((hoff 12 (by kernel_rfl)).symm.trans h0_) (by decide), fun h0_ _ => absurd ((hoff 14 (by kernel_rfl)).symm.trans h0_) (by decide), fun h0_ _ => absurd ((hoff 18 (by kernel_rfl)).symm.trans h0_) (by decide), fun h0_ => absurd ((hoff 19 (by kernel_rfl)).symm.trans h0_) (by decide), fun h0_ => absurd ((hoff 19 (by kernel_rfl)).symm.trans h0_) (by decide), fun h0_ => absurd ((hoff 21 (by kernel_rfl)).symm.trans h0_) (by decide), fun h0_ => absurd ((hoff 25 (by kernel_rfl)).symm.trans h0_) (by decide), fun h0_ => absurd ((hoff 7 (by kernel_rfl)).symm.trans h0_) (by decide), fun h0_ => absurd ((hoff 15 (by kernel_rfl)).symm.trans h0_) (by decide), fun h0_ => absurd ((hoff 22 (by kernel_rfl)).symm.trans h0_) (by decide)⟩
          refine steps_cons ?_ ?_
          ·rintro b a w' ⟨v266, adz_v266, v274, adz_v274, v282, adz_v282, m7_, m15_, m22_, ha, Q_HO259, Q_BK254, Q_HI0, Q_HK, Q_HB, Q_HI0_e3, Q_HO267, Q_HA_HO267, Q_HI0_e6, Q_HI0_e11, Q_HO275, Q_HA_HO275, Q_HI0_e14, Q_HI0_e18, Q_HO283, Q_HA_HO283, Q_HI0_e21, Q_BK254_e25, Q_X7_, Q_X15_, Q_X22_⟩ hb_ hon hoff
           refine ⟨_, rfl, fun K hK => ?_⟩
           have e12 : a.tmps[12]? = some (.int .i64 (rd y257 t260)) := by rw [ha]; exact (putSel_off rfl).trans rfl
           have e14 : a.tmps[14]? = some (.int .i64 t263) := by rw [ha]; exact putSel_on (e := (3, 14, .int .i64 t263)) 0 rfl rfl (hon 3 (by kernel_rfl)) rfl
           replace ha := Aside0.mk ha
           have HO259 := Aside0.mk Q_HO259
           have BK254 := Aside0.mk (Q_BK254 (hoff 25 (by kernel_rfl)))
           have HK := Aside0.mk Q_HK
           have HB := Aside0.mk Q_HB
           refine Kd.R_lit_step (Kd.int .i64) _ 3 ?hg (N := 15) ?hd (xs := ([rd y257 t260, t263] : List Int)) (inner := [.int .i64 (rd y257 t260), .int .i64 t263]) (ok := fun _ => True) (okp := fun _ => True) ?hr ?hp (fun _ hk => hk) trivial (Below.refl _ _) (Nat.le_refl _) (by simp) ?_; (case hd => rfl); (case hg => rfl); (case hr => first | (go_simp; done) | (go_simp; rfl)); (case hp => exact (Reps.one (show Kd.M (Kd.int .i64) _ _ _ (rd y257 t260) [.int .i64 (rd y257 t260)] from rfl) (Reps.one (show Kd.M (Kd.int .i64) _ _ _ t263 [.int .i64 t263] from rfl) (Reps.none _ _))))
           intro v266 w27 ho28 hb hg_ hnew_
           clear hg_ hnew_
           (first | rw [← Ny265.out] at ho28 | (simp only [Int.reduceToNat] at ho28; rw [← Ny265.out] at ho28))
           have n0_ := Aside0.mk (Kd.R_elder' (by (with_reducible repeat (first | apply Kd.R_alloc | apply Kd.R_drewN | apply Kd.R_drew)); exact HO259.out) (Kd.R_base ho28) hb)
           have n1_ := Aside0.mk (Kd.R_lower (Kd.R_new' ho28 (Kd.R_lt (by (with_reducible repeat (first | apply Kd.R_alloc | apply Kd.R_drewN | apply Kd.R_drew)); exact HO259.out))) (keep_size (w := w) (g := g) (row := none) (by repeat (first | (with_reducible first | exact HK.out | apply KeepBut.set_ | apply keep_drewN | apply keep_drew | apply keep_alloc | refine keep_far ?_ GW254.out _) | exact HK.out))))
           have n3_ := Aside0.mk (blk_below (g := gb254) (o := .cells #[.int .i64 0, .int .i64 0, .int .i64 0, .int .i64 0] 39 (0, 0)) (by (with_reducible repeat (first | refine blk_drewN ?_ _ | refine blk_drew ?_ | refine blk_alloc ?_ _)); exact BK254.out) hb)
           have n4_ := Aside0.mk (KeepBut.trans (by repeat (first | (with_reducible first | exact HK.out | apply KeepBut.set_ | apply keep_drewN | apply keep_drew | apply keep_alloc | refine keep_far ?_ GW254.out _) | exact HK.out)) (KeepBut.of_below hb g none) (.inl rfl))
           have n5_ := Aside0.mk (below_step (by repeat (first | (with_reducible first | exact HB.out | apply below_alloc | apply pw_below_drewN | apply below_drew1 | refine below_set ?_ GE254.out) | exact HB.out)) hb)
           have z_HI0_e3 := fun (h0_ : b 3 = true) (h1_ : b 6 = false) => (show IsS82 w0 w27 g s0_0 t264 from by first | exact (IsS82.below (by repeat (first | (with_reducible first | exact (Q_HI0_e3 h0_ h1_) | apply IsS82.alloc | apply IsS82.drewN | apply IsS82.drew | apply IsS82.set_1 | refine IsS82.far ?_ NB0_254.out _) | exact (Q_HI0_e3 h0_ h1_))) hb))
           have z_HI0_e6 := fun (h0_ : b 6 = true) (h1_ : b 11 = false) => (show IsS82 w0 w27 g s0_0 t269 from by first | exact (IsS82.below (by repeat (first | (with_reducible first | exact (Q_HI0_e6 h0_ h1_) | apply IsS82.alloc | apply IsS82.drewN | apply IsS82.drew | apply IsS82.set_1 | refine IsS82.far ?_ NB0_254.out _) | exact (Q_HI0_e6 h0_ h1_))) hb))
           have z_HI0_e11 := fun (h0_ : b 11 = true) (h1_ : b 14 = false) => (show IsS82 w0 w27 g s0_0 t272 from by first | exact (IsS82.below (by repeat (first | (with_reducible first | exact (Q_HI0_e11 h0_ h1_) | apply IsS82.alloc | apply IsS82.drewN | apply IsS82.drew | apply IsS82.set_1 | refine IsS82.far ?_ NB0_254.out _) | exact (Q_HI0_e11 h0_ h1_))) hb))
           have z_HO275 := fun (h0_ : b 12 = true) => (show Kd.R (Kd.int .i64) 3 w27 w.heap.size (fun k_ => some k_ ≠ (.slice (some ad262) y257.length co23 : Value).ownBlock) v274 y273 from by first | exact (Kd.R_elder' (by (with_reducible repeat (first | apply Kd.R_alloc | apply Kd.R_drewN | apply Kd.R_drew)); exact (Q_HO275 h0_)) (Kd.R_base ho28) hb) | exact Kd.R_mono (Kd.R_elder' (by (with_reducible repeat (first | apply Kd.R_alloc | apply Kd.R_drewN | apply Kd.R_drew)); exact (Q_HO275 h0_)) (Kd.R_base ho28) hb) (fun _ h_ => by first | trivial | exact h_ | exact h_.1))
           have z_HI0_e14 := fun (h0_ : b 14 = true) (h1_ : b 18 = false) => (show IsS82 w0 w27 g s0_0 t277 from by first | exact (IsS82.below (by repeat (first | (with_reducible first | exact (Q_HI0_e14 h0_ h1_) | apply IsS82.alloc | apply IsS82.drewN | apply IsS82.drew | apply IsS82.set_1 | refine IsS82.far ?_ NB0_254.out _) | exact (Q_HI0_e14 h0_ h1_))) hb))
           have z_HI0_e18 := fun (h0_ : b 18 = true) (h1_ : b 21 = false) => (show IsS82 w0 w27 g s0_0 t280 from by first | exact (IsS82.below (by repeat (first | (with_reducible first | exact (Q_HI0_e18 h0_ h1_) | apply IsS82.alloc | apply IsS82.drewN | apply IsS82.drew | apply IsS82.set_1 | refine IsS82.far ?_ NB0_254.out _) | exact (Q_HI0_e18 h0_ h1_))) hb))
           have z_HO283 := fun (h0_ : b 19 = true) => (show Kd.R (Kd.int .i64) 3 w27 w.heap.size (fun k_ => some k_ ≠ (.slice (some ad262) y257.length co23 : Value).ownBlock) v282 y281 from by first | exact (Kd.R_elder' (by (with_reducible repeat (first | apply Kd.R_alloc | apply Kd.R_drewN | apply Kd.R_drew)); exact (Q_HO283 h0_)) (Kd.R_base ho28) hb) | exact Kd.R_mono (Kd.R_elder' (by (with_reducible repeat (first | apply Kd.R_alloc | apply Kd.R_drewN | apply Kd.R_drew)); exact (Q_HO283 h0_)) (Kd.R_base ho28) hb) (fun _ h_ => by first | trivial | exact h_ | exact h_.1))
           have z_HI0_e21 := fun (h0_ : b 21 = true) => (show IsS82 w0 w27 g s0_0 t285 from by first | exact (IsS82.below (by repeat (first | (with_reducible first | exact (Q_HI0_e21 h0_) | apply IsS82.alloc | apply IsS82.drewN | apply IsS82.drew | apply IsS82.set_1 | refine IsS82.far ?_ NB0_254.out _) | exact (Q_HI0_e21 h0_))) hb))
           clear HO259
           clear BK254
           clear HK
           clear HB
           have HO259 := n0_
           have HO267 := n1_
           have BK254 := n3_
           have HK := n4_
           have HB := n5_
           clear n0_ n1_ n3_ n4_ n5_
           clear hb ho28
           obtain ⟨Ao29, co29, eo29⟩ := Kd.R_slice HO267.out
           subst eo29
           obtain ⟨ado29, fo29, _⟩ := Kd.at_int (Kd.R_reads' HO267.out).2.2 0 (by decide) (by rw [Ny265.out]; simp)
           cases fo29
           refine hK.out _ _ ⟨.slice (some ado29) y265.length co29, ado29, v274, adz_v274, v282, adz_v282, m7_, m15_, m22_, (by rw [ha.out]; exact putSel_upk 1 hb_ rfl rfl rfl), (by (with_reducible repeat (first | apply Kd.R_alloc | apply Kd.R_drewN | apply Kd.R_drew)); exact Kd.R_mono HO259.out (fun _ hk => by first | exact hk.2 | exact trivial | (revert hk; simp; done) | (simp_all; done))), fun _ => (by (with_reducible repeat (first | refine blk_drewN ?_ _ | refine blk_drew ?_ | refine blk_alloc ?_ _)); exact BK254.out), fun h0_ => absurd ((hon 3 (by kernel_rfl)).symm.trans h0_) (by decide), (by repeat (first | (with_reducible first | exact HK.out | apply KeepBut.set_ | apply keep_drewN | apply keep_drew | apply keep_alloc | refine keep_far ?_ GW254.out _) | exact HK.out)), (by repeat (first | (with_reducible first | exact HB.out | apply below_alloc | apply pw_below_drewN | apply below_drew1 | refine below_set ?_ GE254.out) | exact HB.out)), z_HI0_e3, fun _ => (by (with_reducible repeat (first | apply Kd.R_alloc | apply Kd.R_drewN | apply Kd.R_drew)); exact Kd.R_mono HO267.out (fun _ hk => by first | exact hk.2 | exact trivial | (revert hk; simp; done) | (simp_all; done))), fun _ => ⟨_, rfl⟩, z_HI0_e6, z_HI0_e11, z_HO275, Q_HA_HO275, z_HI0_e14, z_HI0_e18, z_HO283, Q_HA_HO283, z_HI0_e21, fun h0_ => absurd ((hoff 25 (by kernel_rfl)).symm.trans h0_) (by decide), fun h0_ => absurd ((hoff 7 (by kernel_rfl)).symm.trans h0_) (by decide), Q_X15_, Q_X22_⟩
          refine steps_cons ?_ ?_
          ·rintro b a w' ⟨v266, adz_v266, v274, adz_v274, v282, adz_v282, m7_, m15_, m22_, ha, Q_HO259, Q_BK254, Q_HI0, Q_HK, Q_HB, Q_HI0_e3, Q_HO267, Q_HA_HO267, Q_HI0_e6, Q_HI0_e11, Q_HO275, Q_HA_HO275, Q_HI0_e14, Q_HI0_e18, Q_HO283, Q_HA_HO283, Q_HI0_e21, Q_BK254_e25, Q_X7_, Q_X15_, Q_X22_⟩ hb_ hon hoff
           refine ⟨_, rfl, fun K hK => ?_⟩
           have e16 : a.tmps[16]? = some (.pointer (some ⟨g, 0, none⟩)) := by rw [ha]; exact (putSel_off rfl).trans rfl
           replace ha := Aside0.mk ha
           have HO259 := Aside0.mk Q_HO259
           have BK254 := Aside0.mk (Q_BK254 (hoff 25 (by kernel_rfl)))
           have HK := Aside0.mk Q_HK
           have HB := Aside0.mk Q_HB
           have HI0 := Aside0.mk (Q_HI0_e3 (hon 3 (by kernel_rfl)) hb_)
           refine goes_ Try.func52 (by kernel_rfl) rfl #[.pointer (some ⟨g, 0, none⟩), .int .i64 2] (by rfl) rfl rfl (by first | (simp only [List.map_toArray, List.map_cons, List.map_nil, Act.eval, Array.getD_eq_getD_getElem?, Option.getD_some, e16]; done) | (simp only [List.map_toArray, List.map_cons, List.map_nil, Act.eval, Array.getD_eq_getD_getElem?, Option.getD_some, e16]; rfl)) ?_
           with_reducible refine (spec_l20Rd_pick.calls k g s0_0 t264 2 t268 t269 w0 _ ?side1 ?side2 A7.out).mono ?_
           (case side1 => repeat (first | (with_reducible first | exact HI0.out | apply IsS82.alloc | apply IsS82.drewN | apply IsS82.drew | apply IsS82.set_1 | refine IsS82.far ?_ NB0_254.out _) | exact HI0.out))
           (case side2 => repeat (first | (with_reducible first | exact HB.out | apply below_alloc | apply pw_below_drewN | apply below_drew1 | refine below_set ?_ (IsS82.ge HI0.out) | refine below_set ?_ GE254.out) | exact HB.out))
           rintro e w27 ⟨rfl, hi, hb, hk⟩
           refine ⟨_, rfl, ?_⟩
           have n0_ := Aside0.mk (KeepBut.blk hk (g' := gb254) (o := .cells #[.int .i64 0, .int .i64 0, .int .i64 0, .int .i64 0] 39 (0, 0)) (by (with_reducible repeat (first | refine blk_drewN ?_ _ | refine blk_drew ?_ | refine blk_alloc ?_ _)); exact BK254.out) NB254_0.out (by simp))
           have n1_ := Aside0.mk (Kd.R_mono (Kd.R_keep (IsS82.apart (show IsS82 w0 _ g s0_0 t264 from by repeat (first | (with_reducible first | exact HI0.out | apply IsS82.alloc | apply IsS82.drewN | apply IsS82.drew | apply IsS82.set_1 | refine IsS82.far ?_ NB0_254.out _) | exact HI0.out)) (by (with_reducible repeat (first | apply Kd.R_alloc | apply Kd.R_drewN | apply Kd.R_drew)); exact HO259.out) (by decide)) hk (fun _ h => h.2)) (fun _ h => h.1))
           have n2_ := Aside0.mk (KeepBut.trans (by repeat (first | (with_reducible first | exact HK.out | apply KeepBut.set_ | apply keep_drewN | apply keep_drew | apply keep_alloc | refine keep_far ?_ GW254.out _) | exact HK.out)) hk (.inl rfl))
           have n3_ := Aside0.mk (hb)
           have n4_ := Aside0.mk (hi)
           have z_HO267 := fun (h0_ : b 4 = true) => (show Kd.R (Kd.int .i64) 3 w27 w.heap.size (fun k_ => some k_ ≠ (.slice (some ad262) y257.length co23 : Value).ownBlock) v266 y265 from by first | exact (Kd.R_mono (Kd.R_keep (IsS82.apart (show IsS82 w0 _ g s0_0 t264 from by repeat (first | (with_reducible first | exact HI0.out | apply IsS82.alloc | apply IsS82.drewN | apply IsS82.drew | apply IsS82.set_1 | refine IsS82.far ?_ NB0_254.out _) | exact HI0.out)) (by (with_reducible repeat (first | apply Kd.R_alloc | apply Kd.R_drewN | apply Kd.R_drew)); exact (Q_HO267 h0_)) (by decide)) hk (fun _ h => h.2)) (fun _ h => h.1)) | exact Kd.R_mono (Kd.R_mono (Kd.R_keep (IsS82.apart (show IsS82 w0 _ g s0_0 t264 from by repeat (first | (with_reducible first | exact HI0.out | apply IsS82.alloc | apply IsS82.drewN | apply IsS82.drew | apply IsS82.set_1 | refine IsS82.far ?_ NB0_254.out _) | exact HI0.out)) (by (with_reducible repeat (first | apply Kd.R_alloc | apply Kd.R_drewN | apply Kd.R_drew)); exact (Q_HO267 h0_)) (by decide)) hk (fun _ h => h.2)) (fun _ h => h.1)) (fun _ h_ => by first | trivial | exact h_ | exact h_.1))
           clear BK254
           clear HO259
           clear HK
           clear HB
           clear HI0
           have BK254 := n0_
           have HO259 := n1_
           have HK := n2_
           have HB := n3_
           have HI0 := n4_
           clear n0_ n1_ n2_ n3_ n4_
           (try clear hb)
           (try clear hb2)
           (try clear hk)
           (try clear hi)
           refine hK.out _ _ ⟨v266, adz_v266, v274, adz_v274, v282, adz_v282, m7_, m15_, m22_, (by rw [ha.out]; exact putSel_upk 2 hb_ rfl rfl rfl), (by (with_reducible repeat (first | apply Kd.R_alloc | apply Kd.R_drewN | apply Kd.R_drew)); exact HO259.out), fun _ => (by (with_reducible repeat (first | refine blk_drewN ?_ _ | refine blk_drew ?_ | refine blk_alloc ?_ _)); exact BK254.out), fun h0_ => absurd ((hon 3 (by kernel_rfl)).symm.trans h0_) (by decide), (by repeat (first | (with_reducible first | exact HK.out | apply KeepBut.set_ | apply keep_drewN | apply keep_drew | apply keep_alloc | refine keep_far ?_ GW254.out _) | exact HK.out)), (by repeat (first | (with_reducible first | exact HB.out | apply below_alloc | apply pw_below_drewN | apply below_drew1 | refine below_set ?_ (IsS82.ge HI0.out) | refine below_set ?_ GE254.out) | exact HB.out)), fun _ h1_ => absurd ((up_self b 6).symm.trans h1_) (by decide), z_HO267, Q_HA_HO267, fun _ _ => (by repeat (first | (with_reducible first | exact HI0.out | apply IsS82.alloc | apply IsS82.drewN | apply IsS82.drew | apply IsS82.set_1 | refine IsS82.far ?_ NB0_254.out _) | exact HI0.out)), fun h0_ _ => absurd ((hoff 11 (by kernel_rfl)).symm.trans h0_) (by decide), fun h0_ => absurd ((hoff 12 (by kernel_rfl)).symm.trans h0_) (by decide), fun h0_ => absurd ((hoff 12 (by kernel_rfl)).symm.trans h0_) (by decide), fun h0_ _ => absurd ((hoff 14 (by kernel_rfl)).symm.trans h0_) (by decide), fun h0_ _ => absurd ((hoff 18 (by kernel_rfl)).symm.trans h0_) (by decide), fun h0_ => absurd ((hoff 19 (by kernel_rfl)).symm.trans h0_) (by decide), fun h0_ => absurd ((hoff 19 (by kernel_rfl)).symm.trans h0_) (by decide), fun h0_ => absurd ((hoff 21 (by kernel_rfl)).symm.trans h0_) (by decide), fun h0_ => absurd ((hoff 25 (by kernel_rfl)).symm.trans h0_) (by decide), fun h0_ => absurd ((hoff 7 (by kernel_rfl)).symm.trans h0_) (by decide), fun h0_ => absurd ((hoff 15 (by kernel_rfl)).symm.trans h0_) (by decide), fun h0_ => absurd ((hoff 22 (by kernel_rfl)).symm.trans h0_) (by decide)⟩
          refine steps_cons ?_ ?_
          ·rintro b a w' ⟨v266, adz_v266, v274, adz_v274, v282, adz_v282, m7_, m15_, m22_, ha, Q_HO259, Q_BK254, Q_HI0, Q_HK, Q_HB, Q_HI0_e3, Q_HO267, Q_HA_HO267, Q_HI0_e6, Q_HI0_e11, Q_HO275, Q_HA_HO275, Q_HI0_e14, Q_HI0_e18, Q_HO283, Q_HA_HO283, Q_HI0_e21, Q_BK254_e25, Q_X7_, Q_X15_, Q_X22_⟩ hb_ hon hoff
           refine ⟨_, rfl, fun K hK => ?_⟩
           have e15 : a.tmps[15]? = some (v266) := by rw [ha]; exact putSel_on (e := (4, 15, v266)) 1 rfl rfl (hon 4 (by kernel_rfl)) rfl
           have e17 : a.tmps[17]? = some (.int .i64 t268) := by rw [ha]; exact putSel_on (e := (6, 17, .int .i64 t268)) 2 rfl rfl (hon 6 (by kernel_rfl)) rfl
           replace ha := Aside0.mk ha
           have HO259 := Aside0.mk Q_HO259
           have BK254 := Aside0.mk (Q_BK254 (hoff 25 (by kernel_rfl)))
           have HK := Aside0.mk Q_HK
           have HB := Aside0.mk Q_HB
           have HO267 := Aside0.mk (Q_HO267 (hon 4 (by kernel_rfl)))
           have HA_HO267 := Aside0.mk (Q_HA_HO267 (hon 4 (by kernel_rfl)))
           obtain ⟨c_, hv_⟩ := HA_HO267.out
           rw [hv_] at e15
           refine value_ (w1 := w') (v := .pointer (some (adz_v266.add (t268).toNat))) (by rfl) rfl ?_ ?_
           ·go_simp
            (try simp only [i64_w])
            try rfl
           refine hK.out _ _ ⟨v266, adz_v266, v274, adz_v274, v282, adz_v282, (.pointer (some (adz_v266.add (t268).toNat))), m15_, m22_, (by rw [ha.out]; exact putSel_upk 3 hb_ rfl rfl rfl), Q_HO259, Q_BK254, fun h0_ => absurd ((hon 3 (by kernel_rfl)).symm.trans h0_) (by decide), Q_HK, Q_HB, fun _ h1_ => absurd ((hon 6 (by kernel_rfl)).symm.trans h1_) (by decide), Q_HO267, Q_HA_HO267, Q_HI0_e6, Q_HI0_e11, Q_HO275, Q_HA_HO275, Q_HI0_e14, Q_HI0_e18, Q_HO283, Q_HA_HO283, Q_HI0_e21, fun h0_ => absurd ((hoff 25 (by kernel_rfl)).symm.trans h0_) (by decide), fun _ => rfl, Q_X15_, Q_X22_⟩
          refine steps_cons ?_ ?_
          ·rintro b a w' ⟨v266, adz_v266, v274, adz_v274, v282, adz_v282, m7_, m15_, m22_, ha, Q_HO259, Q_BK254, Q_HI0, Q_HK, Q_HB, Q_HI0_e3, Q_HO267, Q_HA_HO267, Q_HI0_e6, Q_HI0_e11, Q_HO275, Q_HA_HO275, Q_HI0_e14, Q_HI0_e18, Q_HO283, Q_HA_HO283, Q_HI0_e21, Q_BK254_e25, Q_X7_, Q_X15_, Q_X22_⟩ hb_ hon hoff
           refine ⟨_, rfl, fun K hK => ?_⟩
           have e18 : a.tmps[18]? = some (m7_) := by rw [ha]; exact putSel_on (e := (7, 18, m7_)) 3 rfl rfl (hon 7 (by kernel_rfl)) rfl
           rw [Q_X7_ (hon 7 (by kernel_rfl))] at e18
           replace ha := Aside0.mk ha
           have HO259 := Aside0.mk Q_HO259
           have BK254 := Aside0.mk (Q_BK254 (hoff 25 (by kernel_rfl)))
           have HK := Aside0.mk Q_HK
           have HB := Aside0.mk Q_HB
           have HO267 := Aside0.mk (Q_HO267 (hon 4 (by kernel_rfl)))
           have HA_HO267 := Aside0.mk (Q_HA_HO267 (hon 4 (by kernel_rfl)))
           obtain ⟨c_, hv_⟩ := HA_HO267.out
           have hF_ := HO267.out
           rw [hv_] at hF_
           obtain ⟨ad_, ea_, hx_⟩ := Kd.at_int (Kd.R_reads' hF_).2.2 t268 (of_eq_true pi270) (of_eq_true qi270)
           cases ea_
           refine value_ (w1 := w') (v := .int .i64 (rd y265 t268)) (by rfl) rfl ?_ ?_
           ·go_simp
            (try simp only [i64_w])
            try rfl
           refine hK.out _ _ ⟨v266, adz_v266, v274, adz_v274, v282, adz_v282, m7_, m15_, m22_, (by rw [ha.out]; exact putSel_upk 4 hb_ rfl rfl rfl), Q_HO259, Q_BK254, fun h0_ => absurd ((hon 3 (by kernel_rfl)).symm.trans h0_) (by decide), Q_HK, Q_HB, fun _ h1_ => absurd ((hon 6 (by kernel_rfl)).symm.trans h1_) (by decide), Q_HO267, Q_HA_HO267, Q_HI0_e6, Q_HI0_e11, Q_HO275, Q_HA_HO275, Q_HI0_e14, Q_HI0_e18, Q_HO283, Q_HA_HO283, Q_HI0_e21, fun h0_ => absurd ((hoff 25 (by kernel_rfl)).symm.trans h0_) (by decide), Q_X7_, Q_X15_, Q_X22_⟩
          refine steps_cons ?_ ?_
          ·rintro b a w' ⟨v266, adz_v266, v274, adz_v274, v282, adz_v282, m7_, m15_, m22_, ha, Q_HO259, Q_BK254, Q_HI0, Q_HK, Q_HB, Q_HI0_e3, Q_HO267, Q_HA_HO267, Q_HI0_e6, Q_HI0_e11, Q_HO275, Q_HA_HO275, Q_HI0_e14, Q_HI0_e18, Q_HO283, Q_HA_HO283, Q_HI0_e21, Q_BK254_e25, Q_X7_, Q_X15_, Q_X22_⟩ hb_ hon hoff
           refine ⟨_, rfl, fun K hK => ?_⟩
           have e21 : a.tmps[21]? = some (.pointer (some ⟨g, 0, none⟩)) := by rw [ha]; exact (putSel_off rfl).trans rfl
           replace ha := Aside0.mk ha
           have HO259 := Aside0.mk Q_HO259
           have BK254 := Aside0.mk (Q_BK254 (hoff 25 (by kernel_rfl)))
           have HK := Aside0.mk Q_HK
           have HB := Aside0.mk Q_HB
           have HI0 := Aside0.mk (Q_HI0_e6 (hon 6 (by kernel_rfl)) hb_)
           refine goes_ Try.func52 (by kernel_rfl) rfl #[.pointer (some ⟨g, 0, none⟩), .int .i64 256] (by rfl) rfl rfl (by first | (simp only [List.map_toArray, List.map_cons, List.map_nil, Act.eval, Array.getD_eq_getD_getElem?, Option.getD_some, e21]; done) | (simp only [List.map_toArray, List.map_cons, List.map_nil, Act.eval, Array.getD_eq_getD_getElem?, Option.getD_some, e21]; rfl)) ?_
           with_reducible refine (spec_l20Rd_pick.calls k g s0_0 t269 256 t271 t272 w0 _ ?side1 ?side2 A10.out).mono ?_
           (case side1 => repeat (first | (with_reducible first | exact HI0.out | apply IsS82.alloc | apply IsS82.drewN | apply IsS82.drew | apply IsS82.set_1 | refine IsS82.far ?_ NB0_254.out _) | exact HI0.out))
           (case side2 => repeat (first | (with_reducible first | exact HB.out | apply below_alloc | apply pw_below_drewN | apply below_drew1 | refine below_set ?_ (IsS82.ge HI0.out) | refine below_set ?_ GE254.out) | exact HB.out))
           rintro e w28 ⟨rfl, hi, hb, hk⟩
           refine ⟨_, rfl, ?_⟩
           have n0_ := Aside0.mk (KeepBut.blk hk (g' := gb254) (o := .cells #[.int .i64 0, .int .i64 0, .int .i64 0, .int .i64 0] 39 (0, 0)) (by (with_reducible repeat (first | refine blk_drewN ?_ _ | refine blk_drew ?_ | refine blk_alloc ?_ _)); exact BK254.out) NB254_0.out (by simp))
           have n1_ := Aside0.mk (Kd.R_mono (Kd.R_keep (IsS82.apart (show IsS82 w0 _ g s0_0 t269 from by repeat (first | (with_reducible first | exact HI0.out | apply IsS82.alloc | apply IsS82.drewN | apply IsS82.drew | apply IsS82.set_1 | refine IsS82.far ?_ NB0_254.out _) | exact HI0.out)) (by (with_reducible repeat (first | apply Kd.R_alloc | apply Kd.R_drewN | apply Kd.R_drew)); exact HO259.out) (by decide)) hk (fun _ h => h.2)) (fun _ h => h.1))
           have n2_ := Aside0.mk (KeepBut.trans (by repeat (first | (with_reducible first | exact HK.out | apply KeepBut.set_ | apply keep_drewN | apply keep_drew | apply keep_alloc | refine keep_far ?_ GW254.out _) | exact HK.out)) hk (.inl rfl))
           have n3_ := Aside0.mk (hb)
           have n4_ := Aside0.mk (hi)
           have z_HO267 := fun (h0_ : b 4 = true) => (show Kd.R (Kd.int .i64) 3 w28 w.heap.size (fun k_ => some k_ ≠ (.slice (some ad262) y257.length co23 : Value).ownBlock) v266 y265 from by first | exact (Kd.R_mono (Kd.R_keep (IsS82.apart (show IsS82 w0 _ g s0_0 t269 from by repeat (first | (with_reducible first | exact HI0.out | apply IsS82.alloc | apply IsS82.drewN | apply IsS82.drew | apply IsS82.set_1 | refine IsS82.far ?_ NB0_254.out _) | exact HI0.out)) (by (with_reducible repeat (first | apply Kd.R_alloc | apply Kd.R_drewN | apply Kd.R_drew)); exact (Q_HO267 h0_)) (by decide)) hk (fun _ h => h.2)) (fun _ h => h.1)) | exact Kd.R_mono (Kd.R_mono (Kd.R_keep (IsS82.apart (show IsS82 w0 _ g s0_0 t269 from by repeat (first | (with_reducible first | exact HI0.out | apply IsS82.alloc | apply IsS82.drewN | apply IsS82.drew | apply IsS82.set_1 | refine IsS82.far ?_ NB0_254.out _) | exact HI0.out)) (by (with_reducible repeat (first | apply Kd.R_alloc | apply Kd.R_drewN | apply Kd.R_drew)); exact (Q_HO267 h0_)) (by decide)) hk (fun _ h => h.2)) (fun _ h => h.1)) (fun _ h_ => by first | trivial | exact h_ | exact h_.1))
           clear BK254
           clear HO259
           clear HK
           clear HB
           clear HI0
           have BK254 := n0_
           have HO259 := n1_
           have HK := n2_
           have HB := n3_
           have HI0 := n4_
           clear n0_ n1_ n2_ n3_ n4_
           (try clear hb)
           (try clear hb2)
           (try clear hk)
           (try clear hi)
           refine hK.out _ _ ⟨v266, adz_v266, v274, adz_v274, v282, adz_v282, m7_, m15_, m22_, (by rw [ha.out]; exact putSel_upk 5 hb_ rfl rfl rfl), (by (with_reducible repeat (first | apply Kd.R_alloc | apply Kd.R_drewN | apply Kd.R_drew)); exact HO259.out), fun _ => (by (with_reducible repeat (first | refine blk_drewN ?_ _ | refine blk_drew ?_ | refine blk_alloc ?_ _)); exact BK254.out), fun h0_ => absurd ((hon 3 (by kernel_rfl)).symm.trans h0_) (by decide), (by repeat (first | (with_reducible first | exact HK.out | apply KeepBut.set_ | apply keep_drewN | apply keep_drew | apply keep_alloc | refine keep_far ?_ GW254.out _) | exact HK.out)), (by repeat (first | (with_reducible first | exact HB.out | apply below_alloc | apply pw_below_drewN | apply below_drew1 | refine below_set ?_ (IsS82.ge HI0.out) | refine below_set ?_ GE254.out) | exact HB.out)), fun _ h1_ => absurd ((hon 6 (by kernel_rfl)).symm.trans h1_) (by decide), z_HO267, Q_HA_HO267, fun _ h1_ => absurd ((up_self b 11).symm.trans h1_) (by decide), fun _ _ => (by repeat (first | (with_reducible first | exact HI0.out | apply IsS82.alloc | apply IsS82.drewN | apply IsS82.drew | apply IsS82.set_1 | refine IsS82.far ?_ NB0_254.out _) | exact HI0.out)), fun h0_ => absurd ((hoff 12 (by kernel_rfl)).symm.trans h0_) (by decide), fun h0_ => absurd ((hoff 12 (by kernel_rfl)).symm.trans h0_) (by decide), fun h0_ _ => absurd ((hoff 14 (by kernel_rfl)).symm.trans h0_) (by decide), fun h0_ _ => absurd ((hoff 18 (by kernel_rfl)).symm.trans h0_) (by decide), fun h0_ => absurd ((hoff 19 (by kernel_rfl)).symm.trans h0_) (by decide), fun h0_ => absurd ((hoff 19 (by kernel_rfl)).symm.trans h0_) (by decide), fun h0_ => absurd ((hoff 21 (by kernel_rfl)).symm.trans h0_) (by decide), fun h0_ => absurd ((hoff 25 (by kernel_rfl)).symm.trans h0_) (by decide), Q_X7_, fun h0_ => absurd ((hoff 15 (by kernel_rfl)).symm.trans h0_) (by decide), fun h0_ => absurd ((hoff 22 (by kernel_rfl)).symm.trans h0_) (by decide)⟩
          refine steps_cons ?_ ?_
          ·rintro b a w' ⟨v266, adz_v266, v274, adz_v274, v282, adz_v282, m7_, m15_, m22_, ha, Q_HO259, Q_BK254, Q_HI0, Q_HK, Q_HB, Q_HI0_e3, Q_HO267, Q_HA_HO267, Q_HI0_e6, Q_HI0_e11, Q_HO275, Q_HA_HO275, Q_HI0_e14, Q_HI0_e18, Q_HO283, Q_HA_HO283, Q_HI0_e21, Q_BK254_e25, Q_X7_, Q_X15_, Q_X22_⟩ hb_ hon hoff
           refine ⟨_, rfl, fun K hK => ?_⟩
           have e20 : a.tmps[20]? = some (.int .i64 (rd y257 t260)) := by rw [ha]; exact (putSel_off rfl).trans rfl
           have e22 : a.tmps[22]? = some (.int .i64 t271) := by rw [ha]; exact putSel_on (e := (11, 22, .int .i64 t271)) 5 rfl rfl (hon 11 (by kernel_rfl)) rfl
           replace ha := Aside0.mk ha
           have HO259 := Aside0.mk Q_HO259
           have BK254 := Aside0.mk (Q_BK254 (hoff 25 (by kernel_rfl)))
           have HK := Aside0.mk Q_HK
           have HB := Aside0.mk Q_HB
           refine Kd.R_lit_step (Kd.int .i64) _ 3 ?hg (N := 23) ?hd (xs := ([rd y257 t260, t271] : List Int)) (inner := [.int .i64 (rd y257 t260), .int .i64 t271]) (ok := fun _ => True) (okp := fun _ => True) ?hr ?hp (fun _ hk => hk) trivial (Below.refl _ _) (Nat.le_refl _) (by simp) ?_; (case hd => rfl); (case hg => rfl); (case hr => first | (go_simp; done) | (go_simp; rfl)); (case hp => exact (Reps.one (show Kd.M (Kd.int .i64) _ _ _ (rd y257 t260) [.int .i64 (rd y257 t260)] from rfl) (Reps.one (show Kd.M (Kd.int .i64) _ _ _ t271 [.int .i64 t271] from rfl) (Reps.none _ _))))
           intro v274 w29 ho30 hb hg_ hnew_
           clear hg_ hnew_
           (first | rw [← Ny273.out] at ho30 | (simp only [Int.reduceToNat] at ho30; rw [← Ny273.out] at ho30))
           have n0_ := Aside0.mk (Kd.R_elder' (by (with_reducible repeat (first | apply Kd.R_alloc | apply Kd.R_drewN | apply Kd.R_drew)); exact HO259.out) (Kd.R_base ho30) hb)
           have n1_ := Aside0.mk (Kd.R_lower (Kd.R_new' ho30 (Kd.R_lt (by (with_reducible repeat (first | apply Kd.R_alloc | apply Kd.R_drewN | apply Kd.R_drew)); exact HO259.out))) (keep_size (w := w) (g := g) (row := none) (by repeat (first | (with_reducible first | exact HK.out | apply KeepBut.set_ | apply keep_drewN | apply keep_drew | apply keep_alloc | refine keep_far ?_ GW254.out _) | exact HK.out))))
           have n3_ := Aside0.mk (blk_below (g := gb254) (o := .cells #[.int .i64 0, .int .i64 0, .int .i64 0, .int .i64 0] 39 (0, 0)) (by (with_reducible repeat (first | refine blk_drewN ?_ _ | refine blk_drew ?_ | refine blk_alloc ?_ _)); exact BK254.out) hb)
           have n4_ := Aside0.mk (KeepBut.trans (by repeat (first | (with_reducible first | exact HK.out | apply KeepBut.set_ | apply keep_drewN | apply keep_drew | apply keep_alloc | refine keep_far ?_ GW254.out _) | exact HK.out)) (KeepBut.of_below hb g none) (.inl rfl))
           have n5_ := Aside0.mk (below_step (by repeat (first | (with_reducible first | exact HB.out | apply below_alloc | apply pw_below_drewN | apply below_drew1 | refine below_set ?_ GE254.out) | exact HB.out)) hb)
           have z_HO267 := fun (h0_ : b 4 = true) => (show Kd.R (Kd.int .i64) 3 w29 w.heap.size (fun k_ => some k_ ≠ (.slice (some ad262) y257.length co23 : Value).ownBlock) v266 y265 from by first | exact (Kd.R_elder' (by (with_reducible repeat (first | apply Kd.R_alloc | apply Kd.R_drewN | apply Kd.R_drew)); exact (Q_HO267 h0_)) (Kd.R_base ho30) hb) | exact Kd.R_mono (Kd.R_elder' (by (with_reducible repeat (first | apply Kd.R_alloc | apply Kd.R_drewN | apply Kd.R_drew)); exact (Q_HO267 h0_)) (Kd.R_base ho30) hb) (fun _ h_ => by first | trivial | exact h_ | exact h_.1))
           have z_HI0_e11 := fun (h0_ : b 11 = true) (h1_ : b 14 = false) => (show IsS82 w0 w29 g s0_0 t272 from by first | exact (IsS82.below (by repeat (first | (with_reducible first | exact (Q_HI0_e11 h0_ h1_) | apply IsS82.alloc | apply IsS82.drewN | apply IsS82.drew | apply IsS82.set_1 | refine IsS82.far ?_ NB0_254.out _) | exact (Q_HI0_e11 h0_ h1_))) hb))
           have z_HI0_e14 := fun (h0_ : b 14 = true) (h1_ : b 18 = false) => (show IsS82 w0 w29 g s0_0 t277 from by first | exact (IsS82.below (by repeat (first | (with_reducible first | exact (Q_HI0_e14 h0_ h1_) | apply IsS82.alloc | apply IsS82.drewN | apply IsS82.drew | apply IsS82.set_1 | refine IsS82.far ?_ NB0_254.out _) | exact (Q_HI0_e14 h0_ h1_))) hb))
           have z_HI0_e18 := fun (h0_ : b 18 = true) (h1_ : b 21 = false) => (show IsS82 w0 w29 g s0_0 t280 from by first | exact (IsS82.below (by repeat (first | (with_reducible first | exact (Q_HI0_e18 h0_ h1_) | apply IsS82.alloc | apply IsS82.drewN | apply IsS82.drew | apply IsS82.set_1 | refine IsS82.far ?_ NB0_254.out _) | exact (Q_HI0_e18 h0_ h1_))) hb))
           have z_HO283 := fun (h0_ : b 19 = true) => (show Kd.R (Kd.int .i64) 3 w29 w.heap.size (fun k_ => some k_ ≠ (.slice (some ad262) y257.length co23 : Value).ownBlock) v282 y281 from by first | exact (Kd.R_elder' (by (with_reducible repeat (first | apply Kd.R_alloc | apply Kd.R_drewN | apply Kd.R_drew)); exact (Q_HO283 h0_)) (Kd.R_base ho30) hb) | exact Kd.R_mono (Kd.R_elder' (by (with_reducible repeat (first | apply Kd.R_alloc | apply Kd.R_drewN | apply Kd.R_drew)); exact (Q_HO283 h0_)) (Kd.R_base ho30) hb) (fun _ h_ => by first | trivial | exact h_ | exact h_.1))
           have z_HI0_e21 := fun (h0_ : b 21 = true) => (show IsS82 w0 w29 g s0_0 t285 from by first | exact (IsS82.below (by repeat (first | (with_reducible first | exact (Q_HI0_e21 h0_) | apply IsS82.alloc | apply IsS82.drewN | apply IsS82.drew | apply IsS82.set_1 | refine IsS82.far ?_ NB0_254.out _) | exact (Q_HI0_e21 h0_))) hb))
           clear HO259
           clear BK254
           clear HK
           clear HB
           have HO259 := n0_
           have HO275 := n1_
           have BK254 := n3_
           have HK := n4_
           have HB := n5_
           clear n0_ n1_ n3_ n4_ n5_
           clear hb ho30
           obtain ⟨Ao31, co31, eo31⟩ := Kd.R_slice HO275.out
           subst eo31
           obtain ⟨ado31, fo31, _⟩ := Kd.at_int (Kd.R_reads' HO275.out).2.2 0 (by decide) (by rw [Ny273.out]; simp)
           cases fo31
           refine hK.out _ _ ⟨v266, adz_v266, .slice (some ado31) y273.length co31, ado31, v282, adz_v282, m7_, m15_, m22_, (by rw [ha.out]; exact putSel_upk 6 hb_ rfl rfl rfl), (by (with_reducible repeat (first | apply Kd.R_alloc | apply Kd.R_drewN | apply Kd.R_drew)); exact Kd.R_mono HO259.out (fun _ hk => by first | exact hk.2 | exact trivial | (revert hk; simp; done) | (simp_all; done))), fun _ => (by (with_reducible repeat (first | refine blk_drewN ?_ _ | refine blk_drew ?_ | refine blk_alloc ?_ _)); exact BK254.out), fun h0_ => absurd ((hon 3 (by kernel_rfl)).symm.trans h0_) (by decide), (by repeat (first | (with_reducible first | exact HK.out | apply KeepBut.set_ | apply keep_drewN | apply keep_drew | apply keep_alloc | refine keep_far ?_ GW254.out _) | exact HK.out)), (by repeat (first | (with_reducible first | exact HB.out | apply below_alloc | apply pw_below_drewN | apply below_drew1 | refine below_set ?_ GE254.out) | exact HB.out)), fun _ h1_ => absurd ((hon 6 (by kernel_rfl)).symm.trans h1_) (by decide), z_HO267, Q_HA_HO267, fun _ h1_ => absurd ((hon 11 (by kernel_rfl)).symm.trans h1_) (by decide), z_HI0_e11, fun _ => (by (with_reducible repeat (first | apply Kd.R_alloc | apply Kd.R_drewN | apply Kd.R_drew)); exact Kd.R_mono HO275.out (fun _ hk => by first | exact hk.2 | exact trivial | (revert hk; simp; done) | (simp_all; done))), fun _ => ⟨_, rfl⟩, z_HI0_e14, z_HI0_e18, z_HO283, Q_HA_HO283, z_HI0_e21, fun h0_ => absurd ((hoff 25 (by kernel_rfl)).symm.trans h0_) (by decide), Q_X7_, fun h0_ => absurd ((hoff 15 (by kernel_rfl)).symm.trans h0_) (by decide), Q_X22_⟩
          refine steps_cons ?_ ?_
          ·rintro b a w' ⟨v266, adz_v266, v274, adz_v274, v282, adz_v282, m7_, m15_, m22_, ha, Q_HO259, Q_BK254, Q_HI0, Q_HK, Q_HB, Q_HI0_e3, Q_HO267, Q_HA_HO267, Q_HI0_e6, Q_HI0_e11, Q_HO275, Q_HA_HO275, Q_HI0_e14, Q_HI0_e18, Q_HO283, Q_HA_HO283, Q_HI0_e21, Q_BK254_e25, Q_X7_, Q_X15_, Q_X22_⟩ hb_ hon hoff
           refine ⟨_, rfl, fun K hK => ?_⟩
           have e24 : a.tmps[24]? = some (.pointer (some ⟨g, 0, none⟩)) := by rw [ha]; exact (putSel_off rfl).trans rfl
           replace ha := Aside0.mk ha
           have HO259 := Aside0.mk Q_HO259
           have BK254 := Aside0.mk (Q_BK254 (hoff 25 (by kernel_rfl)))
           have HK := Aside0.mk Q_HK
           have HB := Aside0.mk Q_HB
           have HI0 := Aside0.mk (Q_HI0_e11 (hon 11 (by kernel_rfl)) hb_)
           refine goes_ Try.func52 (by kernel_rfl) rfl #[.pointer (some ⟨g, 0, none⟩), .int .i64 2] (by rfl) rfl rfl (by first | (simp only [List.map_toArray, List.map_cons, List.map_nil, Act.eval, Array.getD_eq_getD_getElem?, Option.getD_some, e24]; done) | (simp only [List.map_toArray, List.map_cons, List.map_nil, Act.eval, Array.getD_eq_getD_getElem?, Option.getD_some, e24]; rfl)) ?_
           with_reducible refine (spec_l20Rd_pick.calls k g s0_0 t272 2 t276 t277 w0 _ ?side1 ?side2 A11.out).mono ?_
           (case side1 => repeat (first | (with_reducible first | exact HI0.out | apply IsS82.alloc | apply IsS82.drewN | apply IsS82.drew | apply IsS82.set_1 | refine IsS82.far ?_ NB0_254.out _) | exact HI0.out))
           (case side2 => repeat (first | (with_reducible first | exact HB.out | apply below_alloc | apply pw_below_drewN | apply below_drew1 | refine below_set ?_ (IsS82.ge HI0.out) | refine below_set ?_ GE254.out) | exact HB.out))
           rintro e w29 ⟨rfl, hi, hb, hk⟩
           refine ⟨_, rfl, ?_⟩
           have n0_ := Aside0.mk (KeepBut.blk hk (g' := gb254) (o := .cells #[.int .i64 0, .int .i64 0, .int .i64 0, .int .i64 0] 39 (0, 0)) (by (with_reducible repeat (first | refine blk_drewN ?_ _ | refine blk_drew ?_ | refine blk_alloc ?_ _)); exact BK254.out) NB254_0.out (by simp))
           have n1_ := Aside0.mk (Kd.R_mono (Kd.R_keep (IsS82.apart (show IsS82 w0 _ g s0_0 t272 from by repeat (first | (with_reducible first | exact HI0.out | apply IsS82.alloc | apply IsS82.drewN | apply IsS82.drew | apply IsS82.set_1 | refine IsS82.far ?_ NB0_254.out _) | exact HI0.out)) (by (with_reducible repeat (first | apply Kd.R_alloc | apply Kd.R_drewN | apply Kd.R_drew)); exact HO259.out) (by decide)) hk (fun _ h => h.2)) (fun _ h => h.1))
           have n2_ := Aside0.mk (KeepBut.trans (by repeat (first | (with_reducible first | exact HK.out | apply KeepBut.set_ | apply keep_drewN | apply keep_drew | apply keep_alloc | refine keep_far ?_ GW254.out _) | exact HK.out)) hk (.inl rfl))
           have n3_ := Aside0.mk (hb)
           have n4_ := Aside0.mk (hi)
           have z_HO267 := fun (h0_ : b 4 = true) => (show Kd.R (Kd.int .i64) 3 w29 w.heap.size (fun k_ => some k_ ≠ (.slice (some ad262) y257.length co23 : Value).ownBlock) v266 y265 from by first | exact (Kd.R_mono (Kd.R_keep (IsS82.apart (show IsS82 w0 _ g s0_0 t272 from by repeat (first | (with_reducible first | exact HI0.out | apply IsS82.alloc | apply IsS82.drewN | apply IsS82.drew | apply IsS82.set_1 | refine IsS82.far ?_ NB0_254.out _) | exact HI0.out)) (by (with_reducible repeat (first | apply Kd.R_alloc | apply Kd.R_drewN | apply Kd.R_drew)); exact (Q_HO267 h0_)) (by decide)) hk (fun _ h => h.2)) (fun _ h => h.1)) | exact Kd.R_mono (Kd.R_mono (Kd.R_keep (IsS82.apart (show IsS82 w0 _ g s0_0 t272 from by repeat (first | (with_reducible first | exact HI0.out | apply IsS82.alloc | apply IsS82.drewN | apply IsS82.drew | apply IsS82.set_1 | refine IsS82.far ?_ NB0_254.out _) | exact HI0.out)) (by (with_reducible repeat (first | apply Kd.R_alloc | apply Kd.R_drewN | apply Kd.R_drew)); exact (Q_HO267 h0_)) (by decide)) hk (fun _ h => h.2)) (fun _ h => h.1)) (fun _ h_ => by first | trivial | exact h_ | exact h_.1))
           have z_HO275 := fun (h0_ : b 12 = true) => (show Kd.R (Kd.int .i64) 3 w29 w.heap.size (fun k_ => some k_ ≠ (.slice (some ad262) y257.length co23 : Value).ownBlock) v274 y273 from by first | exact (Kd.R_mono (Kd.R_keep (IsS82.apart (show IsS82 w0 _ g s0_0 t272 from by repeat (first | (with_reducible first | exact HI0.out | apply IsS82.alloc | apply IsS82.drewN | apply IsS82.drew | apply IsS82.set_1 | refine IsS82.far ?_ NB0_254.out _) | exact HI0.out)) (by (with_reducible repeat (first | apply Kd.R_alloc | apply Kd.R_drewN | apply Kd.R_drew)); exact (Q_HO275 h0_)) (by decide)) hk (fun _ h => h.2)) (fun _ h => h.1)) | exact Kd.R_mono (Kd.R_mono (Kd.R_keep (IsS82.apart (show IsS82 w0 _ g s0_0 t272 from by repeat (first | (with_reducible first | exact HI0.out | apply IsS82.alloc | apply IsS82.drewN | apply IsS82.drew | apply IsS82.set_1 | refine IsS82.far ?_ NB0_254.out _) | exact HI0.out)) (by (with_reducible repeat (first | apply Kd.R_alloc | apply Kd.R_drewN | apply Kd.R_drew)); exact (Q_HO275 h0_)) (by decide)) hk (fun _ h => h.2)) (fun _ h => h.1)) (fun _ h_ => by first | trivial | exact h_ | exact h_.1))
           clear BK254
           clear HO259
           clear HK
           clear HB
           clear HI0
           have BK254 := n0_
           have HO259 := n1_
           have HK := n2_
           have HB := n3_
           have HI0 := n4_
           clear n0_ n1_ n2_ n3_ n4_
           (try clear hb)
           (try clear hb2)
           (try clear hk)
           (try clear hi)
           refine hK.out _ _ ⟨v266, adz_v266, v274, adz_v274, v282, adz_v282, m7_, m15_, m22_, (by rw [ha.out]; exact putSel_upk 7 hb_ rfl rfl rfl), (by (with_reducible repeat (first | apply Kd.R_alloc | apply Kd.R_drewN | apply Kd.R_drew)); exact HO259.out), fun _ => (by (with_reducible repeat (first | refine blk_drewN ?_ _ | refine blk_drew ?_ | refine blk_alloc ?_ _)); exact BK254.out), fun h0_ => absurd ((hon 3 (by kernel_rfl)).symm.trans h0_) (by decide), (by repeat (first | (with_reducible first | exact HK.out | apply KeepBut.set_ | apply keep_drewN | apply keep_drew | apply keep_alloc | refine keep_far ?_ GW254.out _) | exact HK.out)), (by repeat (first | (with_reducible first | exact HB.out | apply below_alloc | apply pw_below_drewN | apply below_drew1 | refine below_set ?_ (IsS82.ge HI0.out) | refine below_set ?_ GE254.out) | exact HB.out)), fun _ h1_ => absurd ((hon 6 (by kernel_rfl)).symm.trans h1_) (by decide), z_HO267, Q_HA_HO267, fun _ h1_ => absurd ((hon 11 (by kernel_rfl)).symm.trans h1_) (by decide), fun _ h1_ => absurd ((up_self b 14).symm.trans h1_) (by decide), z_HO275, Q_HA_HO275, fun _ _ => (by repeat (first | (with_reducible first | exact HI0.out | apply IsS82.alloc | apply IsS82.drewN | apply IsS82.drew | apply IsS82.set_1 | refine IsS82.far ?_ NB0_254.out _) | exact HI0.out)), fun h0_ _ => absurd ((hoff 18 (by kernel_rfl)).symm.trans h0_) (by decide), fun h0_ => absurd ((hoff 19 (by kernel_rfl)).symm.trans h0_) (by decide), fun h0_ => absurd ((hoff 19 (by kernel_rfl)).symm.trans h0_) (by decide), fun h0_ => absurd ((hoff 21 (by kernel_rfl)).symm.trans h0_) (by decide), fun h0_ => absurd ((hoff 25 (by kernel_rfl)).symm.trans h0_) (by decide), Q_X7_, fun h0_ => absurd ((hoff 15 (by kernel_rfl)).symm.trans h0_) (by decide), fun h0_ => absurd ((hoff 22 (by kernel_rfl)).symm.trans h0_) (by decide)⟩
          refine steps_cons ?_ ?_
          ·rintro b a w' ⟨v266, adz_v266, v274, adz_v274, v282, adz_v282, m7_, m15_, m22_, ha, Q_HO259, Q_BK254, Q_HI0, Q_HK, Q_HB, Q_HI0_e3, Q_HO267, Q_HA_HO267, Q_HI0_e6, Q_HI0_e11, Q_HO275, Q_HA_HO275, Q_HI0_e14, Q_HI0_e18, Q_HO283, Q_HA_HO283, Q_HI0_e21, Q_BK254_e25, Q_X7_, Q_X15_, Q_X22_⟩ hb_ hon hoff
           refine ⟨_, rfl, fun K hK => ?_⟩
           have e23 : a.tmps[23]? = some (v274) := by rw [ha]; exact putSel_on (e := (12, 23, v274)) 6 rfl rfl (hon 12 (by kernel_rfl)) rfl
           have e25 : a.tmps[25]? = some (.int .i64 t276) := by rw [ha]; exact putSel_on (e := (14, 25, .int .i64 t276)) 7 rfl rfl (hon 14 (by kernel_rfl)) rfl
           replace ha := Aside0.mk ha
           have HO259 := Aside0.mk Q_HO259
           have BK254 := Aside0.mk (Q_BK254 (hoff 25 (by kernel_rfl)))
           have HK := Aside0.mk Q_HK
           have HB := Aside0.mk Q_HB
           have HO275 := Aside0.mk (Q_HO275 (hon 12 (by kernel_rfl)))
           have HA_HO275 := Aside0.mk (Q_HA_HO275 (hon 12 (by kernel_rfl)))
           obtain ⟨c_, hv_⟩ := HA_HO275.out
           rw [hv_] at e23
           refine value_ (w1 := w') (v := .pointer (some (adz_v274.add (t276).toNat))) (by rfl) rfl ?_ ?_
           ·go_simp
            (try simp only [i64_w])
            try rfl
           refine hK.out _ _ ⟨v266, adz_v266, v274, adz_v274, v282, adz_v282, m7_, (.pointer (some (adz_v274.add (t276).toNat))), m22_, (by rw [ha.out]; exact putSel_upk 8 hb_ rfl rfl rfl), Q_HO259, Q_BK254, fun h0_ => absurd ((hon 3 (by kernel_rfl)).symm.trans h0_) (by decide), Q_HK, Q_HB, fun _ h1_ => absurd ((hon 6 (by kernel_rfl)).symm.trans h1_) (by decide), Q_HO267, Q_HA_HO267, fun _ h1_ => absurd ((hon 11 (by kernel_rfl)).symm.trans h1_) (by decide), fun _ h1_ => absurd ((hon 14 (by kernel_rfl)).symm.trans h1_) (by decide), Q_HO275, Q_HA_HO275, Q_HI0_e14, Q_HI0_e18, Q_HO283, Q_HA_HO283, Q_HI0_e21, fun h0_ => absurd ((hoff 25 (by kernel_rfl)).symm.trans h0_) (by decide), Q_X7_, fun _ => rfl, Q_X22_⟩
          refine steps_cons ?_ ?_
          ·rintro b a w' ⟨v266, adz_v266, v274, adz_v274, v282, adz_v282, m7_, m15_, m22_, ha, Q_HO259, Q_BK254, Q_HI0, Q_HK, Q_HB, Q_HI0_e3, Q_HO267, Q_HA_HO267, Q_HI0_e6, Q_HI0_e11, Q_HO275, Q_HA_HO275, Q_HI0_e14, Q_HI0_e18, Q_HO283, Q_HA_HO283, Q_HI0_e21, Q_BK254_e25, Q_X7_, Q_X15_, Q_X22_⟩ hb_ hon hoff
           refine ⟨_, rfl, fun K hK => ?_⟩
           have e26 : a.tmps[26]? = some (m15_) := by rw [ha]; exact putSel_on (e := (15, 26, m15_)) 8 rfl rfl (hon 15 (by kernel_rfl)) rfl
           rw [Q_X15_ (hon 15 (by kernel_rfl))] at e26
           replace ha := Aside0.mk ha
           have HO259 := Aside0.mk Q_HO259
           have BK254 := Aside0.mk (Q_BK254 (hoff 25 (by kernel_rfl)))
           have HK := Aside0.mk Q_HK
           have HB := Aside0.mk Q_HB
           have HO275 := Aside0.mk (Q_HO275 (hon 12 (by kernel_rfl)))
           have HA_HO275 := Aside0.mk (Q_HA_HO275 (hon 12 (by kernel_rfl)))
           obtain ⟨c_, hv_⟩ := HA_HO275.out
           have hF_ := HO275.out
           rw [hv_] at hF_
           obtain ⟨ad_, ea_, hx_⟩ := Kd.at_int (Kd.R_reads' hF_).2.2 t276 (of_eq_true pi278) (of_eq_true qi278)
           cases ea_
           refine value_ (w1 := w') (v := .int .i64 (rd y273 t276)) (by rfl) rfl ?_ ?_
           ·go_simp
            (try simp only [i64_w])
            try rfl
           refine hK.out _ _ ⟨v266, adz_v266, v274, adz_v274, v282, adz_v282, m7_, m15_, m22_, (by rw [ha.out]; exact putSel_upk 9 hb_ rfl rfl rfl), Q_HO259, Q_BK254, fun h0_ => absurd ((hon 3 (by kernel_rfl)).symm.trans h0_) (by decide), Q_HK, Q_HB, fun _ h1_ => absurd ((hon 6 (by kernel_rfl)).symm.trans h1_) (by decide), Q_HO267, Q_HA_HO267, fun _ h1_ => absurd ((hon 11 (by kernel_rfl)).symm.trans h1_) (by decide), fun _ h1_ => absurd ((hon 14 (by kernel_rfl)).symm.trans h1_) (by decide), Q_HO275, Q_HA_HO275, Q_HI0_e14, Q_HI0_e18, Q_HO283, Q_HA_HO283, Q_HI0_e21, fun h0_ => absurd ((hoff 25 (by kernel_rfl)).symm.trans h0_) (by decide), Q_X7_, Q_X15_, Q_X22_⟩
          refine steps_cons ?_ ?_
          ·rintro b a w' ⟨v266, adz_v266, v274, adz_v274, v282, adz_v282, m7_, m15_, m22_, ha, Q_HO259, Q_BK254, Q_HI0, Q_HK, Q_HB, Q_HI0_e3, Q_HO267, Q_HA_HO267, Q_HI0_e6, Q_HI0_e11, Q_HO275, Q_HA_HO275, Q_HI0_e14, Q_HI0_e18, Q_HO283, Q_HA_HO283, Q_HI0_e21, Q_BK254_e25, Q_X7_, Q_X15_, Q_X22_⟩ hb_ hon hoff
           refine ⟨_, rfl, fun K hK => ?_⟩
           have e28 : a.tmps[28]? = some (.pointer (some ⟨g, 0, none⟩)) := by rw [ha]; exact (putSel_off rfl).trans rfl
           replace ha := Aside0.mk ha
           have HO259 := Aside0.mk Q_HO259
           have BK254 := Aside0.mk (Q_BK254 (hoff 25 (by kernel_rfl)))
           have HK := Aside0.mk Q_HK
           have HB := Aside0.mk Q_HB
           have HI0 := Aside0.mk (Q_HI0_e14 (hon 14 (by kernel_rfl)) hb_)
           refine goes_ Try.func52 (by kernel_rfl) rfl #[.pointer (some ⟨g, 0, none⟩), .int .i64 256] (by rfl) rfl rfl (by first | (simp only [List.map_toArray, List.map_cons, List.map_nil, Act.eval, Array.getD_eq_getD_getElem?, Option.getD_some, e28]; done) | (simp only [List.map_toArray, List.map_cons, List.map_nil, Act.eval, Array.getD_eq_getD_getElem?, Option.getD_some, e28]; rfl)) ?_
           with_reducible refine (spec_l20Rd_pick.calls k g s0_0 t277 256 t279 t280 w0 _ ?side1 ?side2 A14.out).mono ?_
           (case side1 => repeat (first | (with_reducible first | exact HI0.out | apply IsS82.alloc | apply IsS82.drewN | apply IsS82.drew | apply IsS82.set_1 | refine IsS82.far ?_ NB0_254.out _) | exact HI0.out))
           (case side2 => repeat (first | (with_reducible first | exact HB.out | apply below_alloc | apply pw_below_drewN | apply below_drew1 | refine below_set ?_ (IsS82.ge HI0.out) | refine below_set ?_ GE254.out) | exact HB.out))
           rintro e w30 ⟨rfl, hi, hb, hk⟩
           refine ⟨_, rfl, ?_⟩
           have n0_ := Aside0.mk (KeepBut.blk hk (g' := gb254) (o := .cells #[.int .i64 0, .int .i64 0, .int .i64 0, .int .i64 0] 39 (0, 0)) (by (with_reducible repeat (first | refine blk_drewN ?_ _ | refine blk_drew ?_ | refine blk_alloc ?_ _)); exact BK254.out) NB254_0.out (by simp))
           have n1_ := Aside0.mk (Kd.R_mono (Kd.R_keep (IsS82.apart (show IsS82 w0 _ g s0_0 t277 from by repeat (first | (with_reducible first | exact HI0.out | apply IsS82.alloc | apply IsS82.drewN | apply IsS82.drew | apply IsS82.set_1 | refine IsS82.far ?_ NB0_254.out _) | exact HI0.out)) (by (with_reducible repeat (first | apply Kd.R_alloc | apply Kd.R_drewN | apply Kd.R_drew)); exact HO259.out) (by decide)) hk (fun _ h => h.2)) (fun _ h => h.1))
           have n2_ := Aside0.mk (KeepBut.trans (by repeat (first | (with_reducible first | exact HK.out | apply KeepBut.set_ | apply keep_drewN | apply keep_drew | apply keep_alloc | refine keep_far ?_ GW254.out _) | exact HK.out)) hk (.inl rfl))
           have n3_ := Aside0.mk (hb)
           have n4_ := Aside0.mk (hi)
           have z_HO267 := fun (h0_ : b 4 = true) => (show Kd.R (Kd.int .i64) 3 w30 w.heap.size (fun k_ => some k_ ≠ (.slice (some ad262) y257.length co23 : Value).ownBlock) v266 y265 from by first | exact (Kd.R_mono (Kd.R_keep (IsS82.apart (show IsS82 w0 _ g s0_0 t277 from by repeat (first | (with_reducible first | exact HI0.out | apply IsS82.alloc | apply IsS82.drewN | apply IsS82.drew | apply IsS82.set_1 | refine IsS82.far ?_ NB0_254.out _) | exact HI0.out)) (by (with_reducible repeat (first | apply Kd.R_alloc | apply Kd.R_drewN | apply Kd.R_drew)); exact (Q_HO267 h0_)) (by decide)) hk (fun _ h => h.2)) (fun _ h => h.1)) | exact Kd.R_mono (Kd.R_mono (Kd.R_keep (IsS82.apart (show IsS82 w0 _ g s0_0 t277 from by repeat (first | (with_reducible first | exact HI0.out | apply IsS82.alloc | apply IsS82.drewN | apply IsS82.drew | apply IsS82.set_1 | refine IsS82.far ?_ NB0_254.out _) | exact HI0.out)) (by (with_reducible repeat (first | apply Kd.R_alloc | apply Kd.R_drewN | apply Kd.R_drew)); exact (Q_HO267 h0_)) (by decide)) hk (fun _ h => h.2)) (fun _ h => h.1)) (fun _ h_ => by first | trivial | exact h_ | exact h_.1))
           have z_HO275 := fun (h0_ : b 12 = true) => (show Kd.R (Kd.int .i64) 3 w30 w.heap.size (fun k_ => some k_ ≠ (.slice (some ad262) y257.length co23 : Value).ownBlock) v274 y273 from by first | exact (Kd.R_mono (Kd.R_keep (IsS82.apart (show IsS82 w0 _ g s0_0 t277 from by repeat (first | (with_reducible first | exact HI0.out | apply IsS82.alloc | apply IsS82.drewN | apply IsS82.drew | apply IsS82.set_1 | refine IsS82.far ?_ NB0_254.out _) | exact HI0.out)) (by (with_reducible repeat (first | apply Kd.R_alloc | apply Kd.R_drewN | apply Kd.R_drew)); exact (Q_HO275 h0_)) (by decide)) hk (fun _ h => h.2)) (fun _ h => h.1)) | exact Kd.R_mono (Kd.R_mono (Kd.R_keep (IsS82.apart (show IsS82 w0 _ g s0_0 t277 from by repeat (first | (with_reducible first | exact HI0.out | apply IsS82.alloc | apply IsS82.drewN | apply IsS82.drew | apply IsS82.set_1 | refine IsS82.far ?_ NB0_254.out _) | exact HI0.out)) (by (with_reducible repeat (first | apply Kd.R_alloc | apply Kd.R_drewN | apply Kd.R_drew)); exact (Q_HO275 h0_)) (by decide)) hk (fun _ h => h.2)) (fun _ h => h.1)) (fun _ h_ => by first | trivial | exact h_ | exact h_.1))
           clear BK254
           clear HO259
           clear HK
           clear HB
           clear HI0
           have BK254 := n0_
           have HO259 := n1_
           have HK := n2_
           have HB := n3_
           have HI0 := n4_
           clear n0_ n1_ n2_ n3_ n4_
           (try clear hb)
           (try clear hb2)
           (try clear hk)
           (try clear hi)
           refine hK.out _ _ ⟨v266, adz_v266, v274, adz_v274, v282, adz_v282, m7_, m15_, m22_, (by rw [ha.out]; exact putSel_upk 10 hb_ rfl rfl rfl), (by (with_reducible repeat (first | apply Kd.R_alloc | apply Kd.R_drewN | apply Kd.R_drew)); exact HO259.out), fun _ => (by (with_reducible repeat (first | refine blk_drewN ?_ _ | refine blk_drew ?_ | refine blk_alloc ?_ _)); exact BK254.out), fun h0_ => absurd ((hon 3 (by kernel_rfl)).symm.trans h0_) (by decide), (by repeat (first | (with_reducible first | exact HK.out | apply KeepBut.set_ | apply keep_drewN | apply keep_drew | apply keep_alloc | refine keep_far ?_ GW254.out _) | exact HK.out)), (by repeat (first | (with_reducible first | exact HB.out | apply below_alloc | apply pw_below_drewN | apply below_drew1 | refine below_set ?_ (IsS82.ge HI0.out) | refine below_set ?_ GE254.out) | exact HB.out)), fun _ h1_ => absurd ((hon 6 (by kernel_rfl)).symm.trans h1_) (by decide), z_HO267, Q_HA_HO267, fun _ h1_ => absurd ((hon 11 (by kernel_rfl)).symm.trans h1_) (by decide), fun _ h1_ => absurd ((hon 14 (by kernel_rfl)).symm.trans h1_) (by decide), z_HO275, Q_HA_HO275, fun _ h1_ => absurd ((up_self b 18).symm.trans h1_) (by decide), fun _ _ => (by repeat (first | (with_reducible first | exact HI0.out | apply IsS82.alloc | apply IsS82.drewN | apply IsS82.drew | apply IsS82.set_1 | refine IsS82.far ?_ NB0_254.out _) | exact HI0.out)), fun h0_ => absurd ((hoff 19 (by kernel_rfl)).symm.trans h0_) (by decide), fun h0_ => absurd ((hoff 19 (by kernel_rfl)).symm.trans h0_) (by decide), fun h0_ => absurd ((hoff 21 (by kernel_rfl)).symm.trans h0_) (by decide), fun h0_ => absurd ((hoff 25 (by kernel_rfl)).symm.trans h0_) (by decide), Q_X7_, Q_X15_, fun h0_ => absurd ((hoff 22 (by kernel_rfl)).symm.trans h0_) (by decide)⟩
          refine steps_cons ?_ ?_
          ·rintro b a w' ⟨v266, adz_v266, v274, adz_v274, v282, adz_v282, m7_, m15_, m22_, ha, Q_HO259, Q_BK254, Q_HI0, Q_HK, Q_HB, Q_HI0_e3, Q_HO267, Q_HA_HO267, Q_HI0_e6, Q_HI0_e11, Q_HO275, Q_HA_HO275, Q_HI0_e14, Q_HI0_e18, Q_HO283, Q_HA_HO283, Q_HI0_e21, Q_BK254_e25, Q_X7_, Q_X15_, Q_X22_⟩ hb_ hon hoff
           refine ⟨_, rfl, fun K hK => ?_⟩
           have e29 : a.tmps[29]? = some (.int .i64 t279) := by rw [ha]; exact putSel_on (e := (18, 29, .int .i64 t279)) 10 rfl rfl (hon 18 (by kernel_rfl)) rfl
           replace ha := Aside0.mk ha
           have HO259 := Aside0.mk Q_HO259
           have BK254 := Aside0.mk (Q_BK254 (hoff 25 (by kernel_rfl)))
           have HK := Aside0.mk Q_HK
           have HB := Aside0.mk Q_HB
           refine Kd.R_lit_step (Kd.int .i64) _ 3 ?hg (N := 30) ?hd (xs := ([255, 255, 0, t279] : List Int)) (inner := [.int .i64 255, .int .i64 255, .int .i64 0, .int .i64 t279]) (ok := fun _ => True) (okp := fun _ => True) ?hr ?hp (fun _ hk => hk) trivial (Below.refl _ _) (Nat.le_refl _) (by simp) ?_; (case hd => rfl); (case hg => rfl); (case hr => first | (go_simp; done) | (go_simp; rfl)); (case hp => exact (Reps.one (show Kd.M (Kd.int .i64) _ _ _ 255 [.int .i64 255] from rfl) (Reps.one (show Kd.M (Kd.int .i64) _ _ _ 255 [.int .i64 255] from rfl) (Reps.one (show Kd.M (Kd.int .i64) _ _ _ 0 [.int .i64 0] from rfl) (Reps.one (show Kd.M (Kd.int .i64) _ _ _ t279 [.int .i64 t279] from rfl) (Reps.none _ _))))))
           intro v282 w31 ho32 hb hg_ hnew_
           clear hg_ hnew_
           (first | rw [← Ny281.out] at ho32 | (simp only [Int.reduceToNat] at ho32; rw [← Ny281.out] at ho32))
           have n0_ := Aside0.mk (Kd.R_elder' (by (with_reducible repeat (first | apply Kd.R_alloc | apply Kd.R_drewN | apply Kd.R_drew)); exact HO259.out) (Kd.R_base ho32) hb)
           have n1_ := Aside0.mk (Kd.R_lower (Kd.R_new' ho32 (Kd.R_lt (by (with_reducible repeat (first | apply Kd.R_alloc | apply Kd.R_drewN | apply Kd.R_drew)); exact HO259.out))) (keep_size (w := w) (g := g) (row := none) (by repeat (first | (with_reducible first | exact HK.out | apply KeepBut.set_ | apply keep_drewN | apply keep_drew | apply keep_alloc | refine keep_far ?_ GW254.out _) | exact HK.out))))
           have n3_ := Aside0.mk (blk_below (g := gb254) (o := .cells #[.int .i64 0, .int .i64 0, .int .i64 0, .int .i64 0] 39 (0, 0)) (by (with_reducible repeat (first | refine blk_drewN ?_ _ | refine blk_drew ?_ | refine blk_alloc ?_ _)); exact BK254.out) hb)
           have n4_ := Aside0.mk (KeepBut.trans (by repeat (first | (with_reducible first | exact HK.out | apply KeepBut.set_ | apply keep_drewN | apply keep_drew | apply keep_alloc | refine keep_far ?_ GW254.out _) | exact HK.out)) (KeepBut.of_below hb g none) (.inl rfl))
           have n5_ := Aside0.mk (below_step (by repeat (first | (with_reducible first | exact HB.out | apply below_alloc | apply pw_below_drewN | apply below_drew1 | refine below_set ?_ GE254.out) | exact HB.out)) hb)
           have z_HO267 := fun (h0_ : b 4 = true) => (show Kd.R (Kd.int .i64) 3 w31 w.heap.size (fun k_ => some k_ ≠ (.slice (some ad262) y257.length co23 : Value).ownBlock) v266 y265 from by first | exact (Kd.R_elder' (by (with_reducible repeat (first | apply Kd.R_alloc | apply Kd.R_drewN | apply Kd.R_drew)); exact (Q_HO267 h0_)) (Kd.R_base ho32) hb) | exact Kd.R_mono (Kd.R_elder' (by (with_reducible repeat (first | apply Kd.R_alloc | apply Kd.R_drewN | apply Kd.R_drew)); exact (Q_HO267 h0_)) (Kd.R_base ho32) hb) (fun _ h_ => by first | trivial | exact h_ | exact h_.1))
           have z_HO275 := fun (h0_ : b 12 = true) => (show Kd.R (Kd.int .i64) 3 w31 w.heap.size (fun k_ => some k_ ≠ (.slice (some ad262) y257.length co23 : Value).ownBlock) v274 y273 from by first | exact (Kd.R_elder' (by (with_reducible repeat (first | apply Kd.R_alloc | apply Kd.R_drewN | apply Kd.R_drew)); exact (Q_HO275 h0_)) (Kd.R_base ho32) hb) | exact Kd.R_mono (Kd.R_elder' (by (with_reducible repeat (first | apply Kd.R_alloc | apply Kd.R_drewN | apply Kd.R_drew)); exact (Q_HO275 h0_)) (Kd.R_base ho32) hb) (fun _ h_ => by first | trivial | exact h_ | exact h_.1))
           have z_HI0_e18 := fun (h0_ : b 18 = true) (h1_ : b 21 = false) => (show IsS82 w0 w31 g s0_0 t280 from by first | exact (IsS82.below (by repeat (first | (with_reducible first | exact (Q_HI0_e18 h0_ h1_) | apply IsS82.alloc | apply IsS82.drewN | apply IsS82.drew | apply IsS82.set_1 | refine IsS82.far ?_ NB0_254.out _) | exact (Q_HI0_e18 h0_ h1_))) hb))
           have z_HI0_e21 := fun (h0_ : b 21 = true) => (show IsS82 w0 w31 g s0_0 t285 from by first | exact (IsS82.below (by repeat (first | (with_reducible first | exact (Q_HI0_e21 h0_) | apply IsS82.alloc | apply IsS82.drewN | apply IsS82.drew | apply IsS82.set_1 | refine IsS82.far ?_ NB0_254.out _) | exact (Q_HI0_e21 h0_))) hb))
           clear HO259
           clear BK254
           clear HK
           clear HB
           have HO259 := n0_
           have HO283 := n1_
           have BK254 := n3_
           have HK := n4_
           have HB := n5_
           clear n0_ n1_ n3_ n4_ n5_
           clear hb ho32
           obtain ⟨Ao33, co33, eo33⟩ := Kd.R_slice HO283.out
           subst eo33
           obtain ⟨ado33, fo33, _⟩ := Kd.at_int (Kd.R_reads' HO283.out).2.2 0 (by decide) (by rw [Ny281.out]; simp)
           cases fo33
           refine hK.out _ _ ⟨v266, adz_v266, v274, adz_v274, .slice (some ado33) y281.length co33, ado33, m7_, m15_, m22_, (by rw [ha.out]; exact putSel_upk 11 hb_ rfl rfl rfl), (by (with_reducible repeat (first | apply Kd.R_alloc | apply Kd.R_drewN | apply Kd.R_drew)); exact Kd.R_mono HO259.out (fun _ hk => by first | exact hk.2 | exact trivial | (revert hk; simp; done) | (simp_all; done))), fun _ => (by (with_reducible repeat (first | refine blk_drewN ?_ _ | refine blk_drew ?_ | refine blk_alloc ?_ _)); exact BK254.out), fun h0_ => absurd ((hon 3 (by kernel_rfl)).symm.trans h0_) (by decide), (by repeat (first | (with_reducible first | exact HK.out | apply KeepBut.set_ | apply keep_drewN | apply keep_drew | apply keep_alloc | refine keep_far ?_ GW254.out _) | exact HK.out)), (by repeat (first | (with_reducible first | exact HB.out | apply below_alloc | apply pw_below_drewN | apply below_drew1 | refine below_set ?_ GE254.out) | exact HB.out)), fun _ h1_ => absurd ((hon 6 (by kernel_rfl)).symm.trans h1_) (by decide), z_HO267, Q_HA_HO267, fun _ h1_ => absurd ((hon 11 (by kernel_rfl)).symm.trans h1_) (by decide), fun _ h1_ => absurd ((hon 14 (by kernel_rfl)).symm.trans h1_) (by decide), z_HO275, Q_HA_HO275, fun _ h1_ => absurd ((hon 18 (by kernel_rfl)).symm.trans h1_) (by decide), z_HI0_e18, fun _ => (by (with_reducible repeat (first | apply Kd.R_alloc | apply Kd.R_drewN | apply Kd.R_drew)); exact Kd.R_mono HO283.out (fun _ hk => by first | exact hk.2 | exact trivial | (revert hk; simp; done) | (simp_all; done))), fun _ => ⟨_, rfl⟩, z_HI0_e21, fun h0_ => absurd ((hoff 25 (by kernel_rfl)).symm.trans h0_) (by decide), Q_X7_, Q_X15_, fun h0_ => absurd ((hoff 22 (by kernel_rfl)).symm.trans h0_) (by decide)⟩
          refine steps_cons ?_ ?_
          ·rintro b a w' ⟨v266, adz_v266, v274, adz_v274, v282, adz_v282, m7_, m15_, m22_, ha, Q_HO259, Q_BK254, Q_HI0, Q_HK, Q_HB, Q_HI0_e3, Q_HO267, Q_HA_HO267, Q_HI0_e6, Q_HI0_e11, Q_HO275, Q_HA_HO275, Q_HI0_e14, Q_HI0_e18, Q_HO283, Q_HA_HO283, Q_HI0_e21, Q_BK254_e25, Q_X7_, Q_X15_, Q_X22_⟩ hb_ hon hoff
           refine ⟨_, rfl, fun K hK => ?_⟩
           have e31 : a.tmps[31]? = some (.pointer (some ⟨g, 0, none⟩)) := by rw [ha]; exact (putSel_off rfl).trans rfl
           replace ha := Aside0.mk ha
           have HO259 := Aside0.mk Q_HO259
           have BK254 := Aside0.mk (Q_BK254 (hoff 25 (by kernel_rfl)))
           have HK := Aside0.mk Q_HK
           have HB := Aside0.mk Q_HB
           have HI0 := Aside0.mk (Q_HI0_e18 (hon 18 (by kernel_rfl)) hb_)
           refine goes_ Try.func52 (by kernel_rfl) rfl #[.pointer (some ⟨g, 0, none⟩), .int .i64 4] (by rfl) rfl rfl (by first | (simp only [List.map_toArray, List.map_cons, List.map_nil, Act.eval, Array.getD_eq_getD_getElem?, Option.getD_some, e31]; done) | (simp only [List.map_toArray, List.map_cons, List.map_nil, Act.eval, Array.getD_eq_getD_getElem?, Option.getD_some, e31]; rfl)) ?_
           with_reducible refine (spec_l20Rd_pick.calls k g s0_0 t280 4 t284 t285 w0 _ ?side1 ?side2 A15.out).mono ?_
           (case side1 => repeat (first | (with_reducible first | exact HI0.out | apply IsS82.alloc | apply IsS82.drewN | apply IsS82.drew | apply IsS82.set_1 | refine IsS82.far ?_ NB0_254.out _) | exact HI0.out))
           (case side2 => repeat (first | (with_reducible first | exact HB.out | apply below_alloc | apply pw_below_drewN | apply below_drew1 | refine below_set ?_ (IsS82.ge HI0.out) | refine below_set ?_ GE254.out) | exact HB.out))
           rintro e w31 ⟨rfl, hi, hb, hk⟩
           refine ⟨_, rfl, ?_⟩
           have n0_ := Aside0.mk (KeepBut.blk hk (g' := gb254) (o := .cells #[.int .i64 0, .int .i64 0, .int .i64 0, .int .i64 0] 39 (0, 0)) (by (with_reducible repeat (first | refine blk_drewN ?_ _ | refine blk_drew ?_ | refine blk_alloc ?_ _)); exact BK254.out) NB254_0.out (by simp))
           have n1_ := Aside0.mk (Kd.R_mono (Kd.R_keep (IsS82.apart (show IsS82 w0 _ g s0_0 t280 from by repeat (first | (with_reducible first | exact HI0.out | apply IsS82.alloc | apply IsS82.drewN | apply IsS82.drew | apply IsS82.set_1 | refine IsS82.far ?_ NB0_254.out _) | exact HI0.out)) (by (with_reducible repeat (first | apply Kd.R_alloc | apply Kd.R_drewN | apply Kd.R_drew)); exact HO259.out) (by decide)) hk (fun _ h => h.2)) (fun _ h => h.1))
           have n2_ := Aside0.mk (KeepBut.trans (by repeat (first | (with_reducible first | exact HK.out | apply KeepBut.set_ | apply keep_drewN | apply keep_drew | apply keep_alloc | refine keep_far ?_ GW254.out _) | exact HK.out)) hk (.inl rfl))
           have n3_ := Aside0.mk (hb)
           have n4_ := Aside0.mk (hi)
           have z_HO267 := fun (h0_ : b 4 = true) => (show Kd.R (Kd.int .i64) 3 w31 w.heap.size (fun k_ => some k_ ≠ (.slice (some ad262) y257.length co23 : Value).ownBlock) v266 y265 from by first | exact (Kd.R_mono (Kd.R_keep (IsS82.apart (show IsS82 w0 _ g s0_0 t280 from by repeat (first | (with_reducible first | exact HI0.out | apply IsS82.alloc | apply IsS82.drewN | apply IsS82.drew | apply IsS82.set_1 | refine IsS82.far ?_ NB0_254.out _) | exact HI0.out)) (by (with_reducible repeat (first | apply Kd.R_alloc | apply Kd.R_drewN | apply Kd.R_drew)); exact (Q_HO267 h0_)) (by decide)) hk (fun _ h => h.2)) (fun _ h => h.1)) | exact Kd.R_mono (Kd.R_mono (Kd.R_keep (IsS82.apart (show IsS82 w0 _ g s0_0 t280 from by repeat (first | (with_reducible first | exact HI0.out | apply IsS82.alloc | apply IsS82.drewN | apply IsS82.drew | apply IsS82.set_1 | refine IsS82.far ?_ NB0_254.out _) | exact HI0.out)) (by (with_reducible repeat (first | apply Kd.R_alloc | apply Kd.R_drewN | apply Kd.R_drew)); exact (Q_HO267 h0_)) (by decide)) hk (fun _ h => h.2)) (fun _ h => h.1)) (fun _ h_ => by first | trivial | exact h_ | exact h_.1))
           have z_HO275 := fun (h0_ : b 12 = true) => (show Kd.R (Kd.int .i64) 3 w31 w.heap.size (fun k_ => some k_ ≠ (.slice (some ad262) y257.length co23 : Value).ownBlock) v274 y273 from by first | exact (Kd.R_mono (Kd.R_keep (IsS82.apart (show IsS82 w0 _ g s0_0 t280 from by repeat (first | (with_reducible first | exact HI0.out | apply IsS82.alloc | apply IsS82.drewN | apply IsS82.drew | apply IsS82.set_1 | refine IsS82.far ?_ NB0_254.out _) | exact HI0.out)) (by (with_reducible repeat (first | apply Kd.R_alloc | apply Kd.R_drewN | apply Kd.R_drew)); exact (Q_HO275 h0_)) (by decide)) hk (fun _ h => h.2)) (fun _ h => h.1)) | exact Kd.R_mono (Kd.R_mono (Kd.R_keep (IsS82.apart (show IsS82 w0 _ g s0_0 t280 from by repeat (first | (with_reducible first | exact HI0.out | apply IsS82.alloc | apply IsS82.drewN | apply IsS82.drew | apply IsS82.set_1 | refine IsS82.far ?_ NB0_254.out _) | exact HI0.out)) (by (with_reducible repeat (first | apply Kd.R_alloc | apply Kd.R_drewN | apply Kd.R_drew)); exact (Q_HO275 h0_)) (by decide)) hk (fun _ h => h.2)) (fun _ h => h.1)) (fun _ h_ => by first | trivial | exact h_ | exact h_.1))
           have z_HO283 := fun (h0_ : b 19 = true) => (show Kd.R (Kd.int .i64) 3 w31 w.heap.size (fun k_ => some k_ ≠ (.slice (some ad262) y257.length co23 : Value).ownBlock) v282 y281 from by first | exact (Kd.R_mono (Kd.R_keep (IsS82.apart (show IsS82 w0 _ g s0_0 t280 from by repeat (first | (with_reducible first | exact HI0.out | apply IsS82.alloc | apply IsS82.drewN | apply IsS82.drew | apply IsS82.set_1 | refine IsS82.far ?_ NB0_254.out _) | exact HI0.out)) (by (with_reducible repeat (first | apply Kd.R_alloc | apply Kd.R_drewN | apply Kd.R_drew)); exact (Q_HO283 h0_)) (by decide)) hk (fun _ h => h.2)) (fun _ h => h.1)) | exact Kd.R_mono (Kd.R_mono (Kd.R_keep (IsS82.apart (show IsS82 w0 _ g s0_0 t280 from by repeat (first | (with_reducible first | exact HI0.out | apply IsS82.alloc | apply IsS82.drewN | apply IsS82.drew | apply IsS82.set_1 | refine IsS82.far ?_ NB0_254.out _) | exact HI0.out)) (by (with_reducible repeat (first | apply Kd.R_alloc | apply Kd.R_drewN | apply Kd.R_drew)); exact (Q_HO283 h0_)) (by decide)) hk (fun _ h => h.2)) (fun _ h => h.1)) (fun _ h_ => by first | trivial | exact h_ | exact h_.1))
           clear BK254
           clear HO259
           clear HK
           clear HB
           clear HI0
           have BK254 := n0_
           have HO259 := n1_
           have HK := n2_
           have HB := n3_
           have HI0 := n4_
           clear n0_ n1_ n2_ n3_ n4_
           (try clear hb)
           (try clear hb2)
           (try clear hk)
           (try clear hi)
           refine hK.out _ _ ⟨v266, adz_v266, v274, adz_v274, v282, adz_v282, m7_, m15_, m22_, (by rw [ha.out]; exact putSel_upk 12 hb_ rfl rfl rfl), (by (with_reducible repeat (first | apply Kd.R_alloc | apply Kd.R_drewN | apply Kd.R_drew)); exact HO259.out), fun _ => (by (with_reducible repeat (first | refine blk_drewN ?_ _ | refine blk_drew ?_ | refine blk_alloc ?_ _)); exact BK254.out), fun h0_ => absurd ((hon 3 (by kernel_rfl)).symm.trans h0_) (by decide), (by repeat (first | (with_reducible first | exact HK.out | apply KeepBut.set_ | apply keep_drewN | apply keep_drew | apply keep_alloc | refine keep_far ?_ GW254.out _) | exact HK.out)), (by repeat (first | (with_reducible first | exact HB.out | apply below_alloc | apply pw_below_drewN | apply below_drew1 | refine below_set ?_ (IsS82.ge HI0.out) | refine below_set ?_ GE254.out) | exact HB.out)), fun _ h1_ => absurd ((hon 6 (by kernel_rfl)).symm.trans h1_) (by decide), z_HO267, Q_HA_HO267, fun _ h1_ => absurd ((hon 11 (by kernel_rfl)).symm.trans h1_) (by decide), fun _ h1_ => absurd ((hon 14 (by kernel_rfl)).symm.trans h1_) (by decide), z_HO275, Q_HA_HO275, fun _ h1_ => absurd ((hon 18 (by kernel_rfl)).symm.trans h1_) (by decide), fun _ h1_ => absurd ((up_self b 21).symm.trans h1_) (by decide), z_HO283, Q_HA_HO283, fun _ => (by repeat (first | (with_reducible first | exact HI0.out | apply IsS82.alloc | apply IsS82.drewN | apply IsS82.drew | apply IsS82.set_1 | refine IsS82.far ?_ NB0_254.out _) | exact HI0.out)), fun h0_ => absurd ((hoff 25 (by kernel_rfl)).symm.trans h0_) (by decide), Q_X7_, Q_X15_, fun h0_ => absurd ((hoff 22 (by kernel_rfl)).symm.trans h0_) (by decide)⟩
          refine steps_cons ?_ ?_
          ·rintro b a w' ⟨v266, adz_v266, v274, adz_v274, v282, adz_v282, m7_, m15_, m22_, ha, Q_HO259, Q_BK254, Q_HI0, Q_HK, Q_HB, Q_HI0_e3, Q_HO267, Q_HA_HO267, Q_HI0_e6, Q_HI0_e11, Q_HO275, Q_HA_HO275, Q_HI0_e14, Q_HI0_e18, Q_HO283, Q_HA_HO283, Q_HI0_e21, Q_BK254_e25, Q_X7_, Q_X15_, Q_X22_⟩ hb_ hon hoff
           refine ⟨_, rfl, fun K hK => ?_⟩
           have e30 : a.tmps[30]? = some (v282) := by rw [ha]; exact putSel_on (e := (19, 30, v282)) 11 rfl rfl (hon 19 (by kernel_rfl)) rfl
           have e32 : a.tmps[32]? = some (.int .i64 t284) := by rw [ha]; exact putSel_on (e := (21, 32, .int .i64 t284)) 12 rfl rfl (hon 21 (by kernel_rfl)) rfl
           replace ha := Aside0.mk ha
           have HO259 := Aside0.mk Q_HO259
           have BK254 := Aside0.mk (Q_BK254 (hoff 25 (by kernel_rfl)))
           have HK := Aside0.mk Q_HK
           have HB := Aside0.mk Q_HB
           have HO283 := Aside0.mk (Q_HO283 (hon 19 (by kernel_rfl)))
           have HA_HO283 := Aside0.mk (Q_HA_HO283 (hon 19 (by kernel_rfl)))
           have HI0 := Aside0.mk (Q_HI0_e21 (hon 21 (by kernel_rfl)))
           obtain ⟨c_, hv_⟩ := HA_HO283.out
           rw [hv_] at e30
           refine value_ (w1 := w') (v := .pointer (some (adz_v282.add (t284).toNat))) (by rfl) rfl ?_ ?_
           ·go_simp
            (try simp only [i64_w])
            try rfl
           refine hK.out _ _ ⟨v266, adz_v266, v274, adz_v274, v282, adz_v282, m7_, m15_, (.pointer (some (adz_v282.add (t284).toNat))), (by rw [ha.out]; exact putSel_upk 13 hb_ rfl rfl rfl), Q_HO259, Q_BK254, fun h0_ => absurd ((hon 3 (by kernel_rfl)).symm.trans h0_) (by decide), Q_HK, Q_HB, fun _ h1_ => absurd ((hon 6 (by kernel_rfl)).symm.trans h1_) (by decide), Q_HO267, Q_HA_HO267, fun _ h1_ => absurd ((hon 11 (by kernel_rfl)).symm.trans h1_) (by decide), fun _ h1_ => absurd ((hon 14 (by kernel_rfl)).symm.trans h1_) (by decide), Q_HO275, Q_HA_HO275, fun _ h1_ => absurd ((hon 18 (by kernel_rfl)).symm.trans h1_) (by decide), fun _ h1_ => absurd ((hon 21 (by kernel_rfl)).symm.trans h1_) (by decide), Q_HO283, Q_HA_HO283, Q_HI0_e21, fun h0_ => absurd ((hoff 25 (by kernel_rfl)).symm.trans h0_) (by decide), Q_X7_, Q_X15_, fun _ => rfl⟩
          refine steps_cons ?_ ?_
          ·rintro b a w' ⟨v266, adz_v266, v274, adz_v274, v282, adz_v282, m7_, m15_, m22_, ha, Q_HO259, Q_BK254, Q_HI0, Q_HK, Q_HB, Q_HI0_e3, Q_HO267, Q_HA_HO267, Q_HI0_e6, Q_HI0_e11, Q_HO275, Q_HA_HO275, Q_HI0_e14, Q_HI0_e18, Q_HO283, Q_HA_HO283, Q_HI0_e21, Q_BK254_e25, Q_X7_, Q_X15_, Q_X22_⟩ hb_ hon hoff
           refine ⟨_, rfl, fun K hK => ?_⟩
           have e33 : a.tmps[33]? = some (m22_) := by rw [ha]; exact putSel_on (e := (22, 33, m22_)) 13 rfl rfl (hon 22 (by kernel_rfl)) rfl
           rw [Q_X22_ (hon 22 (by kernel_rfl))] at e33
           replace ha := Aside0.mk ha
           have HO259 := Aside0.mk Q_HO259
           have BK254 := Aside0.mk (Q_BK254 (hoff 25 (by kernel_rfl)))
           have HK := Aside0.mk Q_HK
           have HB := Aside0.mk Q_HB
           have HO283 := Aside0.mk (Q_HO283 (hon 19 (by kernel_rfl)))
           have HA_HO283 := Aside0.mk (Q_HA_HO283 (hon 19 (by kernel_rfl)))
           have HI0 := Aside0.mk (Q_HI0_e21 (hon 21 (by kernel_rfl)))
           obtain ⟨c_, hv_⟩ := HA_HO283.out
           have hF_ := HO283.out
           rw [hv_] at hF_
           obtain ⟨ad_, ea_, hx_⟩ := Kd.at_int (Kd.R_reads' hF_).2.2 t284 (of_eq_true pi286) (of_eq_true qi286)
           cases ea_
           refine value_ (w1 := w') (v := .int .i64 (rd y281 t284)) (by rfl) rfl ?_ ?_
           ·go_simp
            (try simp only [i64_w])
            try rfl
           refine hK.out _ _ ⟨v266, adz_v266, v274, adz_v274, v282, adz_v282, m7_, m15_, m22_, (by rw [ha.out]; exact putSel_upk 14 hb_ rfl rfl rfl), Q_HO259, Q_BK254, fun h0_ => absurd ((hon 3 (by kernel_rfl)).symm.trans h0_) (by decide), Q_HK, Q_HB, fun _ h1_ => absurd ((hon 6 (by kernel_rfl)).symm.trans h1_) (by decide), Q_HO267, Q_HA_HO267, fun _ h1_ => absurd ((hon 11 (by kernel_rfl)).symm.trans h1_) (by decide), fun _ h1_ => absurd ((hon 14 (by kernel_rfl)).symm.trans h1_) (by decide), Q_HO275, Q_HA_HO275, fun _ h1_ => absurd ((hon 18 (by kernel_rfl)).symm.trans h1_) (by decide), fun _ h1_ => absurd ((hon 21 (by kernel_rfl)).symm.trans h1_) (by decide), Q_HO283, Q_HA_HO283, Q_HI0_e21, fun h0_ => absurd ((hoff 25 (by kernel_rfl)).symm.trans h0_) (by decide), Q_X7_, Q_X15_, Q_X22_⟩
          refine steps_cons ?_ ?_
          ·rintro b a w' ⟨v266, adz_v266, v274, adz_v274, v282, adz_v282, m7_, m15_, m22_, ha, Q_HO259, Q_BK254, Q_HI0, Q_HK, Q_HB, Q_HI0_e3, Q_HO267, Q_HA_HO267, Q_HI0_e6, Q_HI0_e11, Q_HO275, Q_HA_HO275, Q_HI0_e14, Q_HI0_e18, Q_HO283, Q_HA_HO283, Q_HI0_e21, Q_BK254_e25, Q_X7_, Q_X15_, Q_X22_⟩ hb_ hon hoff
           refine ⟨_, rfl, fun K hK => ?_⟩
           have e11 : a.tmps[11]? = some (.int .i64 (rd y257 t260)) := by rw [ha]; exact (putSel_off rfl).trans rfl
           have e19 : a.tmps[19]? = some (.int .i64 (rd y265 t268)) := by rw [ha]; exact putSel_on (e := (8, 19, .int .i64 (rd y265 t268))) 4 rfl rfl (hon 8 (by kernel_rfl)) rfl
           have e27 : a.tmps[27]? = some (.int .i64 (rd y273 t276)) := by rw [ha]; exact putSel_on (e := (16, 27, .int .i64 (rd y273 t276))) 9 rfl rfl (hon 16 (by kernel_rfl)) rfl
           have e34 : a.tmps[34]? = some (.int .i64 (rd y281 t284)) := by rw [ha]; exact putSel_on (e := (23, 34, .int .i64 (rd y281 t284))) 14 rfl rfl (hon 23 (by kernel_rfl)) rfl
           replace ha := Aside0.mk ha
           have HO259 := Aside0.mk Q_HO259
           have BK254 := Aside0.mk (Q_BK254 (hoff 25 (by kernel_rfl)))
           have HK := Aside0.mk Q_HK
           have HB := Aside0.mk Q_HB
           have HO267 := Aside0.mk (Q_HO267 (hon 4 (by kernel_rfl)))
           have HA_HO267 := Aside0.mk (Q_HA_HO267 (hon 4 (by kernel_rfl)))
           have HO275 := Aside0.mk (Q_HO275 (hon 12 (by kernel_rfl)))
           have HA_HO275 := Aside0.mk (Q_HA_HO275 (hon 12 (by kernel_rfl)))
           have HO283 := Aside0.mk (Q_HO283 (hon 19 (by kernel_rfl)))
           have HA_HO283 := Aside0.mk (Q_HA_HO283 (hon 19 (by kernel_rfl)))
           have HI0 := Aside0.mk (Q_HI0_e21 (hon 21 (by kernel_rfl)))
           refine value_ (w1 := w') (v := .agg #[.int .i64 (rd y257 t260), .int .i64 (rd y265 t268), .int .i64 (rd y273 t276), .int .i64 (rd y281 t284)]) (by rfl) rfl ?_ ?_
           ·go_simp
            (try simp only [i64_w])
            try rfl
           refine hK.out _ _ ⟨v266, adz_v266, v274, adz_v274, v282, adz_v282, m7_, m15_, m22_, (by rw [ha.out]; exact putSel_upk 15 hb_ rfl rfl rfl), Q_HO259, Q_BK254, fun h0_ => absurd ((hon 3 (by kernel_rfl)).symm.trans h0_) (by decide), Q_HK, Q_HB, fun _ h1_ => absurd ((hon 6 (by kernel_rfl)).symm.trans h1_) (by decide), Q_HO267, Q_HA_HO267, fun _ h1_ => absurd ((hon 11 (by kernel_rfl)).symm.trans h1_) (by decide), fun _ h1_ => absurd ((hon 14 (by kernel_rfl)).symm.trans h1_) (by decide), Q_HO275, Q_HA_HO275, fun _ h1_ => absurd ((hon 18 (by kernel_rfl)).symm.trans h1_) (by decide), fun _ h1_ => absurd ((hon 21 (by kernel_rfl)).symm.trans h1_) (by decide), Q_HO283, Q_HA_HO283, Q_HI0_e21, fun h0_ => absurd ((hoff 25 (by kernel_rfl)).symm.trans h0_) (by decide), Q_X7_, Q_X15_, Q_X22_⟩
          refine steps_cons ?_ ?_
          ·rintro b a w' ⟨v266, adz_v266, v274, adz_v274, v282, adz_v282, m7_, m15_, m22_, ha, Q_HO259, Q_BK254, Q_HI0, Q_HK, Q_HB, Q_HI0_e3, Q_HO267, Q_HA_HO267, Q_HI0_e6, Q_HI0_e11, Q_HO275, Q_HA_HO275, Q_HI0_e14, Q_HI0_e18, Q_HO283, Q_HA_HO283, Q_HI0_e21, Q_BK254_e25, Q_X7_, Q_X15_, Q_X22_⟩ hb_ hon hoff
           refine ⟨_, rfl, fun K hK => ?_⟩
           have e2 : a.tmps[2]? = some (.pointer (some ⟨gb254, 0, none⟩)) := by rw [ha]; exact (putSel_off rfl).trans rfl
           have e35 : a.tmps[35]? = some (.agg #[.int .i64 (rd y257 t260), .int .i64 (rd y265 t268), .int .i64 (rd y273 t276), .int .i64 (rd y281 t284)]) := by rw [ha]; exact putSel_on (e := (24, 35, .agg #[.int .i64 (rd y257 t260), .int .i64 (rd y265 t268), .int .i64 (rd y273 t276), .int .i64 (rd y281 t284)])) 15 rfl rfl (hon 24 (by kernel_rfl)) rfl
           replace ha := Aside0.mk ha
           have HO259 := Aside0.mk Q_HO259
           have BK254 := Aside0.mk (Q_BK254 hb_)
           have HK := Aside0.mk Q_HK
           have HB := Aside0.mk Q_HB
           have HO267 := Aside0.mk (Q_HO267 (hon 4 (by kernel_rfl)))
           have HA_HO267 := Aside0.mk (Q_HA_HO267 (hon 4 (by kernel_rfl)))
           have HO275 := Aside0.mk (Q_HO275 (hon 12 (by kernel_rfl)))
           have HA_HO275 := Aside0.mk (Q_HA_HO275 (hon 12 (by kernel_rfl)))
           have HO283 := Aside0.mk (Q_HO283 (hon 19 (by kernel_rfl)))
           have HA_HO283 := Aside0.mk (Q_HA_HO283 (hon 19 (by kernel_rfl)))
           have HI0 := Aside0.mk (Q_HI0_e21 (hon 21 (by kernel_rfl)))
           obtain ⟨co41, eo41⟩ := HA_HO267.out
           clear HA_HO267
           subst eo41
           obtain ⟨co42, eo42⟩ := HA_HO275.out
           clear HA_HO275
           subst eo42
           obtain ⟨co43, eo43⟩ := HA_HO283.out
           clear HA_HO283
           subst eo43
           have hs44 : w'.cell? ⟨gb254, 0, none⟩ = some (.int .i64 0) := (blk_cell BK254.out 0).trans rfl
           have hfs44 := blk_frozen BK254.out 0
           have hs45 : w'.cell? ⟨gb254, 1, none⟩ = some (.int .i64 0) := (blk_cell BK254.out 1).trans rfl
           have hfs45 := blk_frozen BK254.out 1
           have hs46 : w'.cell? ⟨gb254, 2, none⟩ = some (.int .i64 0) := (blk_cell BK254.out 2).trans rfl
           have hfs46 := blk_frozen BK254.out 2
           have hs47 : w'.cell? ⟨gb254, 3, none⟩ = some (.int .i64 0) := (blk_cell BK254.out 3).trans rfl
           have hfs47 := blk_frozen BK254.out 3
           refine skip_ (w1 := ?_) (by rfl) rfl ?_ ?_
           rotate_left
           ·go_simp
            rfl
           refine hK.out _ _ ⟨.slice (some adz_v266) y265.length co41, adz_v266, .slice (some adz_v274) y273.length co42, adz_v274, .slice (some adz_v282) y281.length co43, adz_v282, m7_, m15_, m22_, (by rw [ha.out]; exact putSel_none (v := undef) rfl), (by (with_reducible repeat (first | apply Kd.R_alloc | apply Kd.R_drewN | apply Kd.R_drew)); exact Kd.R_mono (Kd.R_far (p := ⟨gb254, 3, none⟩) (Kd.R_far (p := ⟨gb254, 2, none⟩) (Kd.R_far (p := ⟨gb254, 1, none⟩) (Kd.R_far (p := ⟨gb254, 0, none⟩) (Kd.R_types HO259.out BK254.out (by decide)) (fun _ hk => by first | exact hk.2 | exact trivial | (revert hk; simp; done) | (simp_all; done)) (.int .i64 (rd y257 t260))) (fun _ hk => by first | exact hk.2 | exact trivial | (revert hk; simp; done) | (simp_all; done)) (.int .i64 (rd y265 t268))) (fun _ hk => by first | exact hk.2 | exact trivial | (revert hk; simp; done) | (simp_all; done)) (.int .i64 (rd y273 t276))) (fun _ hk => by first | exact hk.2 | exact trivial | (revert hk; simp; done) | (simp_all; done)) (.int .i64 (rd y281 t284))) (fun _ hk => by first | exact ⟨hk.1.1, ⟨hk.1.2.1, hk.1.2.2⟩⟩ | exact trivial | (revert hk; simp; done) | (simp_all; done))), fun h0_ => absurd ((up_self b 25).symm.trans h0_) (by decide), fun h0_ => absurd ((hon 3 (by kernel_rfl)).symm.trans h0_) (by decide), (by repeat (first | (with_reducible first | exact HK.out | apply KeepBut.set_ | apply keep_drewN | apply keep_drew | apply keep_alloc | refine keep_far ?_ GW254.out _) | exact HK.out)), (by repeat (first | (with_reducible first | exact HB.out | apply below_alloc | apply pw_below_drewN | apply below_drew1 | refine below_set ?_ (IsS82.ge HI0.out) | refine below_set ?_ GE254.out) | exact HB.out)), fun _ h1_ => absurd ((hon 6 (by kernel_rfl)).symm.trans h1_) (by decide), fun _ => (by (with_reducible repeat (first | apply Kd.R_alloc | apply Kd.R_drewN | apply Kd.R_drew)); exact Kd.R_mono (Kd.R_far (p := ⟨gb254, 3, none⟩) (Kd.R_far (p := ⟨gb254, 2, none⟩) (Kd.R_far (p := ⟨gb254, 1, none⟩) (Kd.R_far (p := ⟨gb254, 0, none⟩) (Kd.R_types HO267.out BK254.out (by decide)) (fun _ hk => by first | exact hk.2 | exact trivial | (revert hk; simp; done) | (simp_all; done)) (.int .i64 (rd y257 t260))) (fun _ hk => by first | exact hk.2 | exact trivial | (revert hk; simp; done) | (simp_all; done)) (.int .i64 (rd y265 t268))) (fun _ hk => by first | exact hk.2 | exact trivial | (revert hk; simp; done) | (simp_all; done)) (.int .i64 (rd y273 t276))) (fun _ hk => by first | exact hk.2 | exact trivial | (revert hk; simp; done) | (simp_all; done)) (.int .i64 (rd y281 t284))) (fun _ hk => by first | exact ⟨hk.1.1, ⟨hk.1.2.1, hk.1.2.2⟩⟩ | exact trivial | (revert hk; simp; done) | (simp_all; done))), fun _ => ⟨_, rfl⟩, fun _ h1_ => absurd ((hon 11 (by kernel_rfl)).symm.trans h1_) (by decide), fun _ h1_ => absurd ((hon 14 (by kernel_rfl)).symm.trans h1_) (by decide), fun _ => (by (with_reducible repeat (first | apply Kd.R_alloc | apply Kd.R_drewN | apply Kd.R_drew)); exact Kd.R_mono (Kd.R_far (p := ⟨gb254, 3, none⟩) (Kd.R_far (p := ⟨gb254, 2, none⟩) (Kd.R_far (p := ⟨gb254, 1, none⟩) (Kd.R_far (p := ⟨gb254, 0, none⟩) (Kd.R_types HO275.out BK254.out (by decide)) (fun _ hk => by first | exact hk.2 | exact trivial | (revert hk; simp; done) | (simp_all; done)) (.int .i64 (rd y257 t260))) (fun _ hk => by first | exact hk.2 | exact trivial | (revert hk; simp; done) | (simp_all; done)) (.int .i64 (rd y265 t268))) (fun _ hk => by first | exact hk.2 | exact trivial | (revert hk; simp; done) | (simp_all; done)) (.int .i64 (rd y273 t276))) (fun _ hk => by first | exact hk.2 | exact trivial | (revert hk; simp; done) | (simp_all; done)) (.int .i64 (rd y281 t284))) (fun _ hk => by first | exact ⟨hk.1.1, ⟨hk.1.2.1, hk.1.2.2⟩⟩ | exact trivial | (revert hk; simp; done) | (simp_all; done))), fun _ => ⟨_, rfl⟩, fun _ h1_ => absurd ((hon 18 (by kernel_rfl)).symm.trans h1_) (by decide), fun _ h1_ => absurd ((hon 21 (by kernel_rfl)).symm.trans h1_) (by decide), fun _ => (by (with_reducible repeat (first | apply Kd.R_alloc | apply Kd.R_drewN | apply Kd.R_drew)); exact Kd.R_mono (Kd.R_far (p := ⟨gb254, 3, none⟩) (Kd.R_far (p := ⟨gb254, 2, none⟩) (Kd.R_far (p := ⟨gb254, 1, none⟩) (Kd.R_far (p := ⟨gb254, 0, none⟩) (Kd.R_types HO283.out BK254.out (by decide)) (fun _ hk => by first | exact hk.2 | exact trivial | (revert hk; simp; done) | (simp_all; done)) (.int .i64 (rd y257 t260))) (fun _ hk => by first | exact hk.2 | exact trivial | (revert hk; simp; done) | (simp_all; done)) (.int .i64 (rd y265 t268))) (fun _ hk => by first | exact hk.2 | exact trivial | (revert hk; simp; done) | (simp_all; done)) (.int .i64 (rd y273 t276))) (fun _ hk => by first | exact hk.2 | exact trivial | (revert hk; simp; done) | (simp_all; done)) (.int .i64 (rd y281 t284))) (fun _ hk => by first | exact ⟨hk.1.1, ⟨hk.1.2.1, hk.1.2.2⟩⟩ | exact trivial | (revert hk; simp; done) | (simp_all; done))), fun _ => ⟨_, rfl⟩, fun _ => (by repeat (first | (with_reducible first | exact HI0.out | apply IsS82.alloc | apply IsS82.drewN | apply IsS82.drew | apply IsS82.set_1 | refine IsS82.far ?_ NB0_254.out _) | exact HI0.out)), fun _ => (by (with_reducible repeat (first | refine blk_drewN ?_ _ | refine blk_drew ?_ | refine blk_alloc ?_ _)); refine blk_put (cs := #[.int .i64 (rd y257 t260), .int .i64 (rd y265 t268), .int .i64 (rd y273 t276), .int .i64 0]) ?_ 3 _ rfl; (with_reducible repeat (first | refine blk_drewN ?_ _ | refine blk_drew ?_ | refine blk_alloc ?_ _)); refine blk_put (cs := #[.int .i64 (rd y257 t260), .int .i64 (rd y265 t268), .int .i64 0, .int .i64 0]) ?_ 2 _ rfl; (with_reducible repeat (first | refine blk_drewN ?_ _ | refine blk_drew ?_ | refine blk_alloc ?_ _)); refine blk_put (cs := #[.int .i64 (rd y257 t260), .int .i64 0, .int .i64 0, .int .i64 0]) ?_ 1 _ rfl; (with_reducible repeat (first | refine blk_drewN ?_ _ | refine blk_drew ?_ | refine blk_alloc ?_ _)); refine blk_put (cs := #[.int .i64 0, .int .i64 0, .int .i64 0, .int .i64 0]) ?_ 0 _ rfl; (with_reducible repeat (first | refine blk_drewN ?_ _ | refine blk_drew ?_ | refine blk_alloc ?_ _)); exact BK254.out), Q_X7_, Q_X15_, Q_X22_⟩
          exact steps_nil
         rintro b a w44 hall ⟨v266, adz_v266, v274, adz_v274, v282, adz_v282, m7_, m15_, m22_, ha, Q_HO259, Q_BK254, Q_HI0, Q_HK, Q_HB, Q_HI0_e3, Q_HO267, Q_HA_HO267, Q_HI0_e6, Q_HI0_e11, Q_HO275, Q_HA_HO275, Q_HI0_e14, Q_HI0_e18, Q_HO283, Q_HA_HO283, Q_HI0_e21, Q_BK254_e25, Q_X7_, Q_X15_, Q_X22_⟩
         clear BK254 HB HI0 HK HO259
         have hb3_ := hall 3 (by kernel_rfl)
         have hb4_ := hall 4 (by kernel_rfl)
         have hb6_ := hall 6 (by kernel_rfl)
         have hb7_ := hall 7 (by kernel_rfl)
         have hb8_ := hall 8 (by kernel_rfl)
         have hb11_ := hall 11 (by kernel_rfl)
         have hb12_ := hall 12 (by kernel_rfl)
         have hb14_ := hall 14 (by kernel_rfl)
         have hb15_ := hall 15 (by kernel_rfl)
         have hb16_ := hall 16 (by kernel_rfl)
         have hb18_ := hall 18 (by kernel_rfl)
         have hb19_ := hall 19 (by kernel_rfl)
         have hb21_ := hall 21 (by kernel_rfl)
         have hb22_ := hall 22 (by kernel_rfl)
         have hb23_ := hall 23 (by kernel_rfl)
         have hb24_ := hall 24 (by kernel_rfl)
         have hb25_ := hall 25 (by kernel_rfl)
         subst ha
         obtain rfl := Q_X7_ hb7_
         obtain rfl := Q_X15_ hb15_
         obtain rfl := Q_X22_ hb22_
         simp only [putSel, hb3_, hb4_, hb6_, hb7_, hb8_, hb11_, hb12_, hb14_, hb15_, hb16_, hb18_, hb19_, hb21_, hb22_, hb23_, hb24_, hb25_, if_true, Act.put, List.setIfInBounds_toArray, List.set_cons_zero, List.set_cons_succ]
         have HO259 := Aside0.mk Q_HO259
         clear Q_HO259
         clear Q_BK254
         clear Q_HI0
         have HK := Aside0.mk Q_HK
         clear Q_HK
         have HB := Aside0.mk Q_HB
         clear Q_HB
         clear Q_HI0_e3
         have HO267 := Aside0.mk (Q_HO267 hb4_)
         clear Q_HO267
         have HA_HO267 := Aside0.mk (Q_HA_HO267 hb4_)
         clear Q_HA_HO267
         clear Q_HI0_e6
         clear Q_HI0_e11
         have HO275 := Aside0.mk (Q_HO275 hb12_)
         clear Q_HO275
         have HA_HO275 := Aside0.mk (Q_HA_HO275 hb12_)
         clear Q_HA_HO275
         clear Q_HI0_e14
         clear Q_HI0_e18
         have HO283 := Aside0.mk (Q_HO283 hb19_)
         clear Q_HO283
         have HA_HO283 := Aside0.mk (Q_HA_HO283 hb19_)
         clear Q_HA_HO283
         have HI0 := Aside0.mk (Q_HI0_e21 hb21_)
         clear Q_HI0_e21
         have BK254 := Aside0.mk (Q_BK254_e25 hb25_)
         clear Q_BK254_e25
         clear hall hb3_ hb4_ hb6_ hb7_ hb8_ hb11_ hb12_ hb14_ hb15_ hb16_ hb18_ hb19_ hb21_ hb22_ hb23_ hb24_ hb25_
         obtain ⟨co45, eo45⟩ := HA_HO267.out
         clear HA_HO267
         subst eo45
         obtain ⟨co46, eo46⟩ := HA_HO275.out
         clear HA_HO275
         subst eo46
         obtain ⟨co47, eo47⟩ := HA_HO283.out
         clear HA_HO283
         subst eo47
         try go_wp2
         refine bodyPost_ret (results_cell_row rfl _ _ gb254 39 #[.int .i64 (rd y257 t260), .int .i64 (rd y265 t268), .int .i64 (rd y273 t276), .int .i64 (rd y281 t284)] (0, 0) _ rfl (by (with_reducible repeat (first | refine blk_drewN ?_ _ | refine blk_drew ?_ | refine blk_alloc ?_ _)); exact BK254.out) Try.underlying39 rfl (by kernel_rfl)) rfl ?_
         exact ⟨by first | rfl | (simp [errW_none, errW_some] <;> rfl) | (simp [*, errW_none, errW_some] <;> rfl), by repeat (first | (with_reducible first | exact HI0.out | apply IsS82.alloc | apply IsS82.drewN | apply IsS82.drew | apply IsS82.set_1 | refine IsS82.far ?_ NB0_254.out _) | exact HI0.out), by repeat (first | (with_reducible first | exact HB.out | apply below_alloc | apply pw_below_drewN | apply below_drew1 | refine below_set ?_ (IsS82.ge HI0.out) | refine below_set ?_ GE254.out) | exact HB.out), by repeat (first | (with_reducible first | exact HK.out | apply KeepBut.set_ | apply keep_drewN | apply keep_drew | apply keep_alloc | refine keep_far ?_ GW254.out _) | exact HK.out)⟩
        ·rw [if_neg c17] at H
         exact absurd H (by simp)
       ·rw [if_neg c16] at H
        exact absurd H (by simp)
      ·rw [if_neg c13] at H
       exact absurd H (by simp)
     ·rw [if_neg c12] at H
      exact absurd H (by simp)
    ·rw [if_neg c9] at H
     exact absurd H (by simp)
   ·rw [if_neg c8] at H
    exact absurd H (by simp)
  ·rw [if_neg c5] at H
   exact absurd H (by simp)
 ·rw [if_neg c4] at H
  exact absurd H (by simp)

end Go.Proofs.Ytmkiajoanblkbaa.X
