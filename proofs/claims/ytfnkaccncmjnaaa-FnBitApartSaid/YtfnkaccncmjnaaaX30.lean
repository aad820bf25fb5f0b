/- Functions of the given program as plain Lean functions, and for each the proof that the machine's call comes to what its function says. No condition but what each theorem states. Written by a program of this session. -/
import Derived.Test.YtfnkaccncmjnaaaX0
import Derived.Test.YtfnkaccncmjnaaaX4
import Derived.Test.YtfnkaccncmjnaaaX10
import Derived.Test.YtfnkaccncmjnaaaX22
import Derived.Test.YtfnkaccncmjnaaaX23
import Derived.Test.YtfnkaccncmjnaaaX26
namespace Go.Proofs.Ytfnkaccncmjnaaa.X
open Go.RowKit Go.Proofs.YtfnkaccncmjnaaaW.PrintWords Go.Proofs.YtfnkaccncmjnaaaW.PrintLast Go.Proofs.YtfnkaccncmjnaaaW.PrintMore
attribute [local go_sem] max2_int min2_int max_two min_two max_three min_three max_four min_four   -- for this text's walks alone
set_option linter.unusedVariables false
set_option linter.unusedSimpArgs false

/-! ### laws_FnBitApart: function 5 -/
def laws_FnBitApart.j0 : Nat → List Int → List Int → Bool → Option (Bool)
 | 0, _, _, _ => none
 | k + 1, x0, x1, x16 => if x16 = true then (some true) else ((spec_DrawBitPut.f k x0).bind fun t270 => ((impl_BitPut.f k t270).bind fun t273 => ((spec_BitPut.f k t270).bind fun t276 => ((laws_eaBytes.f t273 t276).bind fun t279 => (if t279 = true then (if (t273.length : Int) = 0 then ((laws_eaOk.f).bind fun t280 => (some t280)) else (if (t270.length : Int) = 0 then (none) else ((some (([] : List (S36)) : List (S36))).bind fun y281 => (if y281.length + t270.length < 8796093022208 then ((some (y281 ++ t270 : List (S36))).bind fun y284 => (if 0 ≤ ((x1.length : Int) % (t270.length : Int)) then (if ((x1.length : Int) % (t270.length : Int)) < (t270.length : Int) then (if 0 ≤ ((rd_T36 t270 ((x1.length : Int) % (t270.length : Int))).f1) then (if (shl .i64 1 ((rd_T36 t270 ((x1.length : Int) % (t270.length : Int))).f1)) = 0 then (none) else (if ((x1.length : Int) % (t270.length : Int)) < (y284.length : Int) then ((some (y284.set (((x1.length : Int) % (t270.length : Int)) : Int).toNat (⟨Int.tmod (wrap64 ((wrap64 (((rd_T36 t270 ((x1.length : Int) % (t270.length : Int))).f0) + 1)) + ((x1.length : Int) % 3))) (shl .i64 1 ((rd_T36 t270 ((x1.length : Int) % (t270.length : Int))).f1)), (rd_T36 y284 ((x1.length : Int) % (t270.length : Int))).f1⟩ : S36) : List (S36))).bind fun y289 => ((impl_BitPut.f k y289).bind fun t290 => ((laws_eaBytes.f t290 t273).bind fun t293 => (some (t293 == (((rd_T36 y289 ((x1.length : Int) % (t270.length : Int))).f0) == ((rd_T36 t270 ((x1.length : Int) % (t270.length : Int))).f0))))))) else (none))) else (none)) else (none)) else (none))) else (none))))) else (none))))))
def laws_FnBitApart.f (k : Nat) (l0 : List Int) (l1 : List Int) : Option (Bool) := if (l0.length : Int) > 1048576 then (laws_FnBitApart.j0 k l0 l1 true) else (laws_FnBitApart.j0 k l0 l1 (decide ((l1.length : Int) > 1048576)))
theorem laws_FnBitApart.mono_l : ∀ k, (∀ y0 y1 y2, LeO (laws_FnBitApart.j0 k y0 y1 y2) (laws_FnBitApart.j0 (k + 1) y0 y1 y2))
 | 0 => (fun _ _ _ r h => nomatch (show none = some r from h))
 | k + 1 => by
  have ih0 := laws_FnBitApart.mono_l k
  ·intro y0 y1 y2
   unfold laws_FnBitApart.j0
   repeat' first
   | (with_reducible exact ih0 _ _ _)
   | (with_reducible exact impl_BitPut.mono _ _)
   | (with_reducible exact spec_BitPut.mono _ _)
   | (with_reducible exact spec_DrawBitPut.mono _ _)
   | (with_reducible exact LeO.refl _)
   | (with_reducible exact LeO.none _)
   | (with_reducible refine LeO.ite ?_ ?_)
   | (with_reducible refine LeO.bind ?_ (fun _ => ?_))
   | exact ih0 _ _ _
   | exact impl_BitPut.mono _ _
   | exact spec_BitPut.mono _ _
   | exact spec_DrawBitPut.mono _ _
   | exact LeO.none _
   | refine LeO.ite ?_ ?_
   | refine LeO.bind ?_ (fun _ => ?_)
theorem laws_FnBitApart.mono : ∀ a0 a1 k, LeO (laws_FnBitApart.f k a0 a1) (laws_FnBitApart.f (k + 1) a0 a1) := by
 intro a0 a1 k
 have ih0 := laws_FnBitApart.mono_l k
 unfold laws_FnBitApart.f
 repeat' first
   | (with_reducible exact ih0 _ _ _)
   | (with_reducible exact impl_BitPut.mono _ _)
   | (with_reducible exact spec_BitPut.mono _ _)
   | (with_reducible exact spec_DrawBitPut.mono _ _)
   | (with_reducible exact LeO.refl _)
   | (with_reducible exact LeO.none _)
   | (with_reducible refine LeO.ite ?_ ?_)
   | (with_reducible refine LeO.bind ?_ (fun _ => ?_))
   | exact ih0 _ _ _
   | exact impl_BitPut.mono _ _
   | exact spec_BitPut.mono _ _
   | exact spec_DrawBitPut.mono _ _
   | exact LeO.none _
   | refine LeO.ite ?_ ?_
   | refine LeO.bind ?_ (fun _ => ?_)
def laws_FnBitApart.T11 : Bool × List (List Nat × List Nat) := (true, [([], []), ([], []), ([], []), ([], []), ([2, 3], [2, 3]), ([4], [4]), ([5], [5]), ([6], [6]), ([], []), ([8], [8]), ([9], [9]), ([7, 10], [7, 10]), ([], []), ([], []), ([12, 13], [12, 13]), ([14], [14]), ([15], [15]), ([16], [16]), ([11, 17], [11, 17]), ([0, 1, 0, 1, 2, 3, 4, 5, 6, 7, 8, 9, 10, 11, 12, 13, 14, 15, 16, 17, 18], [0, 1]), ([19, 0, 1, 2, 3, 4, 5, 6, 7, 8, 9, 10, 11, 12, 13, 14, 15, 16, 17, 18], [19]), ([20, 18, 0, 1, 2, 3, 4, 5, 6, 7, 8, 9, 10, 11, 12, 13, 14, 15, 16, 17, 18], [18, 20])])
def laws_FnBitApart.B11 : List Nat := [0, 0, 0, 0, 12, 28, 60, 124, 0, 256, 768, 2044, 0, 0, 12288, 28672, 61440, 126976, 262140, 524287, 1048575, 2097151]
theorem laws_FnBitApart.tab11 : rtab .any (opsOf Try.f5 11) = laws_FnBitApart.T11 := by kernel_rfl
theorem laws_FnBitApart.bits11 : waitsOk laws_FnBitApart.T11.2 laws_FnBitApart.B11 = true := by kernel_rfl
def laws_FnBitApart.T12 : Bool × List (List Nat × List Nat) := (true, [([], []), ([0], [0]), ([], []), ([1, 2, 1], [1, 2]), ([], []), ([], []), ([4, 5], [4, 5]), ([6], [6]), ([7], [7]), ([], []), ([], []), ([9, 10], [9, 10]), ([11], [11]), ([12], [12]), ([8, 13], [8, 13]), ([3, 14], [3, 14]), ([15, 3, 0, 1, 2, 3, 4, 5, 6, 7, 8, 9, 10, 11, 12, 13, 14, 15], [15])])
def laws_FnBitApart.B12 : List Nat := [0, 1, 0, 7, 0, 0, 48, 112, 240, 0, 0, 1536, 3584, 7680, 16368, 32767, 65535]
theorem laws_FnBitApart.tab12 : rtab .any (opsOf Try.f5 12) = laws_FnBitApart.T12 := by kernel_rfl
theorem laws_FnBitApart.bits12 : waitsOk laws_FnBitApart.T12.2 laws_FnBitApart.B12 = true := by kernel_rfl
set_option maxHeartbeats 8000000 in
set_option maxRecDepth 100000 in
theorem laws_FnBitApart.calls (k : Nat) (A0 : Option Addr) (c0 : Nat) (l0 : List Int) (A1 : Option Addr) (c1 : Nat) (l1 : List Int) (r : Bool) (w : World) (hr0 : Kd.C (Kd.int .u8) w A0 l0.length l0) (hc0 : l0.length ≤ c0) (hr1 : Kd.C (Kd.int .u8) w A1 l1.length l1) (hc1 : l1.length ≤ c1) (h : laws_FnBitApart.f k l0 l1 = some r) :
  Calls Try.prog 5 #[.slice A0 l0.length c0, .slice A1 l1.length c1] w fun e w' => e = .returned (.bool r) ∧ Below w.heap.size w w' := by
 have HR0 := Aside0.mk hr0
 have HC0 := Aside0.mk hc0
 clear hr0 hc0
 have HR1 := Aside0.mk hr1
 have HC1 := Aside0.mk hc1
 clear hr1 hc1
 have HB := Aside0.mk (Below.refl w.heap.size w)
 have H : (if (l0.length : Int) > 1048576 then (laws_FnBitApart.j0 k l0 l1 true) else (laws_FnBitApart.j0 k l0 l1 (decide ((l1.length : Int) > 1048576)))) = some r := h
 clear h
 have HC3 := Aside0.mk H
 clear H
 go_enter Try.func5, Try.ntmps5
 go_upto_region 1 with (fail)
 go_cut [16] (fun v16 wc => ∃ (kq : Nat) (x16_2 : Bool), v16 = .bool x16_2 ∧ Aside0 (laws_FnBitApart.j0 kq l0 l1 x16_2 = some r) ∧ Aside0 (kq ≤ k) ∧ Aside0 (Below w.heap.size w wc))
 case first =>
  have H := HC3.out
  clear HC3
  by_cases c4 : (l0.length : Int) > 1048576
  ·rw [if_pos c4] at H
   have c4b0 : decide (1048576 < (l0.length : Int)) = true := decide_eq_true c4
   have c4b1 : decide (1048576 < l0.length) = true := decide_eq_true (by omega)
   clear c4
   (first | rw [c4b0] | (simp only [i64_w, i32_w]; rw [c4b0]) | skip)
   have H' := Aside0.mk H
   clear H
   go_wp2
   go_meet
   case rel => exact ⟨_, (true), (by first | rfl | (simp; done) | (simp [*]; done)), H', ⟨by first | omega | exact Nat.le_refl _⟩, ⟨by repeat (first | (with_reducible first | exact HB.out | apply below_alloc | apply pw_below_drewN | apply below_drew1) | exact HB.out)⟩⟩
  ·rw [if_neg c4] at H
   have c4b0 : decide (1048576 < (l0.length : Int)) = false := decide_eq_false c4
   have c4b1 : decide (1048576 < l0.length) = false := decide_eq_false (by omega)
   clear c4
   (first | rw [c4b0] | (simp only [i64_w, i32_w]; rw [c4b0]) | skip)
   have H' := Aside0.mk H
   clear H
   go_wp2
   go_meet
   case rel => exact ⟨_, (decide ((l1.length : Int) > 1048576)), (by first | rfl | (simp; done) | (simp [*]; done)), H', ⟨by first | omega | exact Nat.le_refl _⟩, ⟨by repeat (first | (with_reducible first | exact HB.out | apply below_alloc | apply pw_below_drewN | apply below_drew1) | exact HB.out)⟩⟩
 case rest =>
  clear HC3
  try clear c1
  try clear p2
  try clear c4
  try clear c4b0
  try clear c4b1
  obtain ⟨kq, x16_2, rfl, HA, HJ2, HB⟩ := hcut
  cases kq with
  | zero => exact nomatch (show none = some _ from HA.out)
  | succ kj2 =>
   have H := HA.out
   clear HA
   simp only [laws_FnBitApart.j0] at H
   by_cases c5 : x16_2 = true
   ·subst c5
    have H1 : (some true) = some r := by rw [if_pos rfl] at H; exact H
    clear H
    have H := H1
    clear H1
    obtain rfl := Option.some.inj H
    go_wp2
    go_ret
    exact ⟨by first | rfl | (simp [errW_none, errW_some] <;> rfl) | (simp [*, errW_none, errW_some] <;> rfl), by repeat (first | (with_reducible first | exact HB.out | apply below_alloc | apply pw_below_drewN | apply below_drew1) | exact HB.out)⟩
   ·replace c5 := Bool.eq_false_iff.mpr c5
    subst c5
    have H1 : ((spec_DrawBitPut.f kj2 l0).bind fun t270 => ((impl_BitPut.f kj2 t270).bind fun t273 => ((spec_BitPut.f kj2 t270).bind fun t276 => ((laws_eaBytes.f t273 t276).bind fun t279 => (if t279 = true then (if (t273.length : Int) = 0 then ((laws_eaOk.f).bind fun t280 => (some t280)) else (if (t270.length : Int) = 0 then (none) else ((some (([] : List (S36)) : List (S36))).bind fun y281 => (if y281.length + t270.length < 8796093022208 then ((some (y281 ++ t270 : List (S36))).bind fun y284 => (if 0 ≤ ((l1.length : Int) % (t270.length : Int)) then (if ((l1.length : Int) % (t270.length : Int)) < (t270.length : Int) then (if 0 ≤ ((rd_T36 t270 ((l1.length : Int) % (t270.length : Int))).f1) then (if (shl .i64 1 ((rd_T36 t270 ((l1.length : Int) % (t270.length : Int))).f1)) = 0 then (none) else (if ((l1.length : Int) % (t270.length : Int)) < (y284.length : Int) then ((some (y284.set (((l1.length : Int) % (t270.length : Int)) : Int).toNat (⟨Int.tmod (wrap64 ((wrap64 (((rd_T36 t270 ((l1.length : Int) % (t270.length : Int))).f0) + 1)) + ((l1.length : Int) % 3))) (shl .i64 1 ((rd_T36 t270 ((l1.length : Int) % (t270.length : Int))).f1)), (rd_T36 y284 ((l1.length : Int) % (t270.length : Int))).f1⟩ : S36) : List (S36))).bind fun y289 => ((impl_BitPut.f kj2 y289).bind fun t290 => ((laws_eaBytes.f t290 t273).bind fun t293 => (some (t293 == (((rd_T36 y289 ((l1.length : Int) % (t270.length : Int))).f0) == ((rd_T36 t270 ((l1.length : Int) % (t270.length : Int))).f0))))))) else (none))) else (none)) else (none)) else (none))) else (none))))) else (none)))))) = some r := by rw [if_neg (show ¬ (false = true) by decide)] at H; exact H
    clear H
    have H := H1
    clear H1
    replace H := Option.bind_eq_some_iff.mp H
    obtain ⟨t270, A60, H⟩ := H
    replace H : ((impl_BitPut.f kj2 t270).bind fun t273 => ((spec_BitPut.f kj2 t270).bind fun t276 => ((laws_eaBytes.f t273 t276).bind fun t279 => (if t279 = true then (if (t273.length : Int) = 0 then ((laws_eaOk.f).bind fun t280 => (some t280)) else (if (t270.length : Int) = 0 then (none) else ((some (([] : List (S36)) : List (S36))).bind fun y281 => (if y281.length + t270.length < 8796093022208 then ((some (y281 ++ t270 : List (S36))).bind fun y284 => (if 0 ≤ ((l1.length : Int) % (t270.length : Int)) then (if ((l1.length : Int) % (t270.length : Int)) < (t270.length : Int) then (if 0 ≤ ((rd_T36 t270 ((l1.length : Int) % (t270.length : Int))).f1) then (if (shl .i64 1 ((rd_T36 t270 ((l1.length : Int) % (t270.length : Int))).f1)) = 0 then (none) else (if ((l1.length : Int) % (t270.length : Int)) < (y284.length : Int) then ((some (y284.set (((l1.length : Int) % (t270.length : Int)) : Int).toNat (⟨Int.tmod (wrap64 ((wrap64 (((rd_T36 t270 ((l1.length : Int) % (t270.length : Int))).f0) + 1)) + ((l1.length : Int) % 3))) (shl .i64 1 ((rd_T36 t270 ((l1.length : Int) % (t270.length : Int))).f1)), (rd_T36 y284 ((l1.length : Int) % (t270.length : Int))).f1⟩ : S36) : List (S36))).bind fun y289 => ((impl_BitPut.f kj2 y289).bind fun t290 => ((laws_eaBytes.f t290 t273).bind fun t293 => (some (t293 == (((rd_T36 y289 ((l1.length : Int) % (t270.length : Int))).f0) == ((rd_T36 t270 ((l1.length : Int) % (t270.length : Int))).f0))))))) else (none))) else (none)) else (none)) else (none))) else (none))))) else (none))))) = some r := H
    have A6 := Aside0.mk A60
    clear A60
    replace H := Option.bind_eq_some_iff.mp H
    obtain ⟨t273, A70, H⟩ := H
    replace H : ((spec_BitPut.f kj2 t270).bind fun t276 => ((laws_eaBytes.f t273 t276).bind fun t279 => (if t279 = true then (if (t273.length : Int) = 0 then ((laws_eaOk.f).bind fun t280 => (some t280)) else (if (t270.length : Int) = 0 then (none) else ((some (([] : List (S36)) : List (S36))).bind fun y281 => (if y281.length + t270.length < 8796093022208 then ((some (y281 ++ t270 : List (S36))).bind fun y284 => (if 0 ≤ ((l1.length : Int) % (t270.length : Int)) then (if ((l1.length : Int) % (t270.length : Int)) < (t270.length : Int) then (if 0 ≤ ((rd_T36 t270 ((l1.length : Int) % (t270.length : Int))).f1) then (if (shl .i64 1 ((rd_T36 t270 ((l1.length : Int) % (t270.length : Int))).f1)) = 0 then (none) else (if ((l1.length : Int) % (t270.length : Int)) < (y284.length : Int) then ((some (y284.set (((l1.length : Int) % (t270.length : Int)) : Int).toNat (⟨Int.tmod (wrap64 ((wrap64 (((rd_T36 t270 ((l1.length : Int) % (t270.length : Int))).f0) + 1)) + ((l1.length : Int) % 3))) (shl .i64 1 ((rd_T36 t270 ((l1.length : Int) % (t270.length : Int))).f1)), (rd_T36 y284 ((l1.length : Int) % (t270.length : Int))).f1⟩ : S36) : List (S36))).bind fun y289 => ((impl_BitPut.f kj2 y289).bind fun t290 => ((laws_eaBytes.f t290 t273).bind fun t293 => (some (t293 == (((rd_T36 y289 ((l1.length : Int) % (t270.length : Int))).f0) == ((rd_T36 t270 ((l1.length : Int) % (t270.length : Int))).f0))))))) else (none))) else (none)) else (none)) else (none))) else (none))))) else (none)))) = some r := H
    have A7 := Aside0.mk A70
    clear A70
    replace H := Option.bind_eq_some_iff.mp H
    obtain ⟨t276, A80, H⟩ := H
    replace H : ((laws_eaBytes.f t273 t276).bind fun t279 => (if t279 = true then (if (t273.length : Int) = 0 then ((laws_eaOk.f).bind fun t280 => (some t280)) else (if (t270.length : Int) = 0 then (none) else ((some (([] : List (S36)) : List (S36))).bind fun y281 => (if y281.length + t270.length < 8796093022208 then ((some (y281 ++ t270 : List (S36))).bind fun y284 => (if 0 ≤ ((l1.length : Int) % (t270.length : Int)) then (if ((l1.length : Int) % (t270.length : Int)) < (t270.length : Int) then (if 0 ≤ ((rd_T36 t270 ((l1.length : Int) % (t270.length : Int))).f1) then (if (shl .i64 1 ((rd_T36 t270 ((l1.length : Int) % (t270.length : Int))).f1)) = 0 then (none) else (if ((l1.length : Int) % (t270.length : Int)) < (y284.length : Int) then ((some (y284.set (((l1.length : Int) % (t270.length : Int)) : Int).toNat (⟨Int.tmod (wrap64 ((wrap64 (((rd_T36 t270 ((l1.length : Int) % (t270.length : Int))).f0) + 1)) + ((l1.length : Int) % 3))) (shl .i64 1 ((rd_T36 t270 ((l1.length : Int) % (t270.length : Int))).f1)), (rd_T36 y284 ((l1.length : Int) % (t270.length : Int))).f1⟩ : S36) : List (S36))).bind fun y289 => ((impl_BitPut.f kj2 y289).bind fun t290 => ((laws_eaBytes.f t290 t273).bind fun t293 => (some (t293 == (((rd_T36 y289 ((l1.length : Int) % (t270.length : Int))).f0) == ((rd_T36 t270 ((l1.length : Int) % (t270.length : Int))).f0))))))) else (none))) else (none)) else (none)) else (none))) else (none))))) else (none))) = some r := H
    have A8 := Aside0.mk A80
    clear A80
    replace H := Option.bind_eq_some_iff.mp H
    obtain ⟨t279, A90, H⟩ := H
    replace H : (if t279 = true then (if (t273.length : Int) = 0 then ((laws_eaOk.f).bind fun t280 => (some t280)) else (if (t270.length : Int) = 0 then (none) else ((some (([] : List (S36)) : List (S36))).bind fun y281 => (if y281.length + t270.length < 8796093022208 then ((some (y281 ++ t270 : List (S36))).bind fun y284 => (if 0 ≤ ((l1.length : Int) % (t270.length : Int)) then (if ((l1.length : Int) % (t270.length : Int)) < (t270.length : Int) then (if 0 ≤ ((rd_T36 t270 ((l1.length : Int) % (t270.length : Int))).f1) then (if (shl .i64 1 ((rd_T36 t270 ((l1.length : Int) % (t270.length : Int))).f1)) = 0 then (none) else (if ((l1.length : Int) % (t270.length : Int)) < (y284.length : Int) then ((some (y284.set (((l1.length : Int) % (t270.length : Int)) : Int).toNat (⟨Int.tmod (wrap64 ((wrap64 (((rd_T36 t270 ((l1.length : Int) % (t270.length : Int))).f0) + 1)) + ((l1.length : Int) % 3))) (shl .i64 1 ((rd_T36 t270 ((l1.length : Int) % (t270.length : Int))).f1)), (rd_T36 y284 ((l1.length : Int) % (t270.length : Int))).f1⟩ : S36) : List (S36))).bind fun y289 => ((impl_BitPut.f kj2 y289).bind fun t290 => ((laws_eaBytes.f t290 t273).bind fun t293 => (some (t293 == (((rd_T36 y289 ((l1.length : Int) % (t270.length : Int))).f0) == ((rd_T36 t270 ((l1.length : Int) % (t270.length : Int))).f0))))))) else (none))) else (none)) else (none)) else (none))) else (none))))) else (none)) = some r := H
    have A9 := Aside0.mk A90
    clear A90
    by_cases c10 : t279 = true
    ·subst c10
     have H1 : (if (t273.length : Int) = 0 then ((laws_eaOk.f).bind fun t280 => (some t280)) else (if (t270.length : Int) = 0 then (none) else ((some (([] : List (S36)) : List (S36))).bind fun y281 => (if y281.length + t270.length < 8796093022208 then ((some (y281 ++ t270 : List (S36))).bind fun y284 => (if 0 ≤ ((l1.length : Int) % (t270.length : Int)) then (if ((l1.length : Int) % (t270.length : Int)) < (t270.length : Int) then (if 0 ≤ ((rd_T36 t270 ((l1.length : Int) % (t270.length : Int))).f1) then (if (shl .i64 1 ((rd_T36 t270 ((l1.length : Int) % (t270.length : Int))).f1)) = 0 then (none) else (if ((l1.length : Int) % (t270.length : Int)) < (y284.length : Int) then ((some (y284.set (((l1.length : Int) % (t270.length : Int)) : Int).toNat (⟨Int.tmod (wrap64 ((wrap64 (((rd_T36 t270 ((l1.length : Int) % (t270.length : Int))).f0) + 1)) + ((l1.length : Int) % 3))) (shl .i64 1 ((rd_T36 t270 ((l1.length : Int) % (t270.length : Int))).f1)), (rd_T36 y284 ((l1.length : Int) % (t270.length : Int))).f1⟩ : S36) : List (S36))).bind fun y289 => ((impl_BitPut.f kj2 y289).bind fun t290 => ((laws_eaBytes.f t290 t273).bind fun t293 => (some (t293 == (((rd_T36 y289 ((l1.length : Int) % (t270.length : Int))).f0) == ((rd_T36 t270 ((l1.length : Int) % (t270.length : Int))).f0))))))) else (none))) else (none)) else (none)) else (none))) else (none))))) = some r := by rw [if_pos rfl] at H; exact H
     clear H
     have H := H1
     clear H1
     by_cases c11 : (t273.length : Int) = 0
     ·rw [if_pos c11] at H
      have c11b0 : ((t273.length : Int) == 0) = true := beq_iff_eq.mpr c11
      have c11b1 : ((t273.length : Int) != 0) = false := bne_eq_false_iff_eq.mpr c11
      clear c11
      replace H := Option.bind_eq_some_iff.mp H
      obtain ⟨t280, A120, H⟩ := H
      replace H : (some t280) = some r := H
      have A12 := Aside0.mk A120
      clear A120
      obtain rfl := Option.some.inj H
      go_wp2_with (first | ((with_reducible refine gate_callee (f := 22) rfl ?_); refine goesL_ (some 18) rfl rfl Try.func22 (by kernel_rfl) rfl #[.slice A0 l0.length c0] rfl (by (try simp only [List.map_toArray, List.map_cons, List.map_nil]); first | done | rfl | (simp only [List.length_drop, List.length_take]; rfl)) ?_; (with_reducible refine (spec_DrawBitPut.calls kj2 _ _ l0 t270 _ ?side1 ?side2 A6.out).mono ?_); (case side1 => repeat (first | exact (Kd.C_below HR0.out HB.out) | (with_reducible refine Kd.C_alloc ?_ _) | (with_reducible refine Kd.C_drewN ?_ _) | (with_reducible refine Kd.C_drew ?_))); (case side2 => exact HC0.out); rintro e w13 ⟨v271, rfl, ho0, hb⟩; refine ⟨_, rfl, ?_⟩; have n0_ := Aside0.mk (Kd.R_lower ho0 (below_size (by repeat (first | (with_reducible first | exact HB.out | apply below_alloc | apply pw_below_drewN | apply below_drew1) | exact HB.out)))); have n1_ := Aside0.mk (below_step (by repeat (first | (with_reducible first | exact HB.out | apply below_alloc | apply pw_below_drewN | apply below_drew1) | exact HB.out)) hb); clear HB; have HO272 := n0_; have HB := n1_; clear n0_ n1_; (try clear hb); (try clear hb2); (try clear hk); (try clear hi); (try clear ho0); obtain ⟨Ao14, co14, eo14⟩ := Kd.R_slice HO272.out; subst eo14) | ((with_reducible refine gate_callee (f := 16) rfl ?_); refine goesL_ (some 20) rfl rfl Try.func16 (by kernel_rfl) rfl #[.slice Ao14 t270.length co14] rfl (by (try simp only [List.map_toArray, List.map_cons, List.map_nil]); first | done | rfl | (simp only [List.length_drop, List.length_take]; rfl)) ?_; (with_reducible refine (impl_BitPut.calls kj2 _ _ t270 t273 _ ?side1 ?side2 A7.out).mono ?_); (case side1 => repeat (first | exact (Kd.R_reads' HO272.out).2.2 | (with_reducible refine Kd.C_alloc ?_ _) | (with_reducible refine Kd.C_drewN ?_ _) | (with_reducible refine Kd.C_drew ?_))); (case side2 => exact (Kd.R_reads' HO272.out).2.1); rintro e w15 ⟨v274, rfl, ho0, hb⟩; refine ⟨_, rfl, ?_⟩; have n0_ := Aside0.mk (Kd.R_below (by (with_reducible repeat (first | apply Kd.R_alloc | apply Kd.R_drewN | apply Kd.R_drew)); exact HO272.out) hb); have n1_ := Aside0.mk (Kd.R_lower ho0 (below_size (by repeat (first | (with_reducible first | exact HB.out | apply below_alloc | apply pw_below_drewN | apply below_drew1) | exact HB.out)))); have n2_ := Aside0.mk (below_step (by repeat (first | (with_reducible first | exact HB.out | apply below_alloc | apply pw_below_drewN | apply below_drew1) | exact HB.out)) hb); clear HO272; clear HB; have HO272 := n0_; have HO275 := n1_; have HB := n2_; clear n0_ n1_ n2_; (try clear hb); (try clear hb2); (try clear hk); (try clear hi); (try clear ho0)) | ((with_reducible refine gate_callee (f := 14) rfl ?_); refine goesL_ (some 23) rfl rfl Try.func14 (by kernel_rfl) rfl #[.slice Ao14 t270.length co14] rfl (by (try simp only [List.map_toArray, List.map_cons, List.map_nil]); first | done | rfl | (simp only [List.length_drop, List.length_take]; rfl)) ?_; (with_reducible refine (spec_BitPut.calls kj2 _ _ t270 t276 _ ?side1 ?side2 A8.out).mono ?_); (case side1 => repeat (first | exact (Kd.R_reads' HO272.out).2.2 | (with_reducible refine Kd.C_alloc ?_ _) | (with_reducible refine Kd.C_drewN ?_ _) | (with_reducible refine Kd.C_drew ?_))); (case side2 => exact (Kd.R_reads' HO272.out).2.1); rintro e w16 ⟨v277, rfl, ho0, hb⟩; refine ⟨_, rfl, ?_⟩; have n0_ := Aside0.mk (Kd.R_below (by (with_reducible repeat (first | apply Kd.R_alloc | apply Kd.R_drewN | apply Kd.R_drew)); exact HO272.out) hb); have n1_ := Aside0.mk (Kd.R_elder' (by (with_reducible repeat (first | apply Kd.R_alloc | apply Kd.R_drewN | apply Kd.R_drew)); exact HO275.out) (Kd.R_base ho0) hb); have n2_ := Aside0.mk (Kd.R_lower (Kd.R_new' ho0 (Kd.R_lt (by (with_reducible repeat (first | apply Kd.R_alloc | apply Kd.R_drewN | apply Kd.R_drew)); exact HO275.out))) (below_size (by repeat (first | (with_reducible first | exact HB.out | apply below_alloc | apply pw_below_drewN | apply below_drew1) | exact HB.out)))); have n3_ := Aside0.mk (below_step (by repeat (first | (with_reducible first | exact HB.out | apply below_alloc | apply pw_below_drewN | apply below_drew1) | exact HB.out)) hb); clear HO272; clear HO275; clear HB; have HO272 := n0_; have HO275 := n1_; have HO278 := n2_; have HB := n3_; clear n0_ n1_ n2_ n3_; (try clear hb); (try clear hb2); (try clear hk); (try clear hi); (try clear ho0); obtain ⟨Ao17, co17, eo17⟩ := Kd.R_slice HO275.out; subst eo17; obtain ⟨Ao18, co18, eo18⟩ := Kd.R_slice HO278.out; subst eo18) | ((with_reducible refine gate_callee (f := 23) rfl ?_); refine goesL_ (some 24) rfl rfl Try.func23 (by kernel_rfl) rfl #[.slice Ao17 t273.length co17, .slice Ao18 t276.length co18] rfl (by (try simp only [List.map_toArray, List.map_cons, List.map_nil]); first | done | rfl | (simp only [List.length_drop, List.length_take]; rfl)) ?_; (with_reducible refine (laws_eaBytes.calls _ _ t273 _ _ t276 true _ ?side1 ?side2 ?side3 ?side4 A9.out).mono ?_); (case side1 => repeat (first | exact (Kd.R_reads' HO275.out).2.2 | (with_reducible refine Kd.C_alloc ?_ _) | (with_reducible refine Kd.C_drewN ?_ _) | (with_reducible refine Kd.C_drew ?_))); (case side2 => exact (Kd.R_reads' HO275.out).2.1); (case side3 => repeat (first | exact (Kd.R_reads' HO278.out).2.2 | (with_reducible refine Kd.C_alloc ?_ _) | (with_reducible refine Kd.C_drewN ?_ _) | (with_reducible refine Kd.C_drew ?_))); (case side4 => exact (Kd.R_reads' HO278.out).2.1); rintro e w' ⟨rfl, ⟨nd, rfl⟩⟩; refine ⟨_, rfl, ?_⟩) | ((with_reducible refine gate_callee (f := 25) rfl ?_); refine goesL_ (some 29) rfl rfl Try.func25 (by kernel_rfl) rfl #[] rfl (by (try simp only [List.map_toArray, List.map_cons, List.map_nil]); first | done | rfl | (simp only [List.length_drop, List.length_take]; rfl)) ?_; (with_reducible refine (laws_eaOk.calls  t280 _ A12.out).mono ?_); rintro e w19 ⟨rfl, hb⟩; refine ⟨_, rfl, ?_⟩; have n0_ := Aside0.mk (Kd.R_below (by (with_reducible repeat (first | apply Kd.R_alloc | apply Kd.R_drewN | apply Kd.R_drew)); exact HO272.out) hb); have n1_ := Aside0.mk (Kd.R_below (by (with_reducible repeat (first | apply Kd.R_alloc | apply Kd.R_drewN | apply Kd.R_drew)); exact HO275.out) hb); have n2_ := Aside0.mk (Kd.R_below (by (with_reducible repeat (first | apply Kd.R_alloc | apply Kd.R_drewN | apply Kd.R_drew)); exact HO278.out) hb); have n3_ := Aside0.mk (below_step (by repeat (first | (with_reducible first | exact HB.out | apply below_alloc | apply pw_below_drewN | apply below_drew1) | exact HB.out)) hb); clear HO272; clear HO275; clear HO278; clear HB; have HO272 := n0_; have HO275 := n1_; have HO278 := n2_; have HB := n3_; clear n0_ n1_ n2_ n3_; (try clear hb); (try clear hb2); (try clear hk); (try clear hi)))
      go_ret
      exact ⟨by first | rfl | (simp [errW_none, errW_some] <;> rfl) | (simp [*, errW_none, errW_some] <;> rfl), by repeat (first | (with_reducible first | exact HB.out | apply below_alloc | apply pw_below_drewN | apply below_drew1) | exact HB.out)⟩
     ·rw [if_neg c11] at H
      have c11b0 : ((t273.length : Int) == 0) = false := beq_eq_false_iff_ne.mpr c11
      have c11b1 : ((t273.length : Int) != 0) = true := bne_iff_ne.mpr c11
      have c11b2 : ¬ (t273 = []) := fun h_ => c11 (by rw [h_]; rfl)
      by_cases c20 : (t270.length : Int) = 0
      ·rw [if_pos c20] at H
       exact absurd H (by simp)
      ·rw [if_neg c20] at H
       have c20b0 : ((t270.length : Int) == 0) = false := beq_eq_false_iff_ne.mpr c20
       have c20b1 : ((t270.length : Int) != 0) = true := bne_iff_ne.mpr c20
       have c20b2 : ¬ (t270 = []) := fun h_ => c20 (by rw [h_]; rfl)
       obtain ⟨y281, hy281⟩ : ∃ y_ : List (S36), y_ = (([] : List (S36))) := ⟨_, rfl⟩
       replace H : (if y281.length + t270.length < 8796093022208 then ((some (y281 ++ t270 : List (S36))).bind fun y284 => (if 0 ≤ ((l1.length : Int) % (t270.length : Int)) then (if ((l1.length : Int) % (t270.length : Int)) < (t270.length : Int) then (if 0 ≤ ((rd_T36 t270 ((l1.length : Int) % (t270.length : Int))).f1) then (if (shl .i64 1 ((rd_T36 t270 ((l1.length : Int) % (t270.length : Int))).f1)) = 0 then (none) else (if ((l1.length : Int) % (t270.length : Int)) < (y284.length : Int) then ((some (y284.set (((l1.length : Int) % (t270.length : Int)) : Int).toNat (⟨Int.tmod (wrap64 ((wrap64 (((rd_T36 t270 ((l1.length : Int) % (t270.length : Int))).f0) + 1)) + ((l1.length : Int) % 3))) (shl .i64 1 ((rd_T36 t270 ((l1.length : Int) % (t270.length : Int))).f1)), (rd_T36 y284 ((l1.length : Int) % (t270.length : Int))).f1⟩ : S36) : List (S36))).bind fun y289 => ((impl_BitPut.f kj2 y289).bind fun t290 => ((laws_eaBytes.f t290 t273).bind fun t293 => (some (t293 == (((rd_T36 y289 ((l1.length : Int) % (t270.length : Int))).f0) == ((rd_T36 t270 ((l1.length : Int) % (t270.length : Int))).f0))))))) else (none))) else (none)) else (none)) else (none))) else (none)) = some r := by first | (rw [hy281]; with_reducible exact H) | (have H2_ := (Option.bind_some _ _).symm.trans H; rw [hy281]; with_reducible exact H2_) | (have H2_ := (Option.bind_some _ _).symm.trans H; with_reducible exact H2_) | with_reducible exact H | (rw [hy281]; exact H) | exact H
       have Ny281 := Aside0.mk hy281
       clear hy281
       by_cases c21 : y281.length + t270.length < 8796093022208
       ·rw [if_pos c21] at H
        have LMc21 := Aside0.mk c21
        clear c21
        obtain ⟨y284, hy284⟩ : ∃ y_ : List (S36), y_ = (y281 ++ t270) := ⟨_, rfl⟩
        replace H : (if 0 ≤ ((l1.length : Int) % (t270.length : Int)) then (if ((l1.length : Int) % (t270.length : Int)) < (t270.length : Int) then (if 0 ≤ ((rd_T36 t270 ((l1.length : Int) % (t270.length : Int))).f1) then (if (shl .i64 1 ((rd_T36 t270 ((l1.length : Int) % (t270.length : Int))).f1)) = 0 then (none) else (if ((l1.length : Int) % (t270.length : Int)) < (y284.length : Int) then ((some (y284.set (((l1.length : Int) % (t270.length : Int)) : Int).toNat (⟨Int.tmod (wrap64 ((wrap64 (((rd_T36 t270 ((l1.length : Int) % (t270.length : Int))).f0) + 1)) + ((l1.length : Int) % 3))) (shl .i64 1 ((rd_T36 t270 ((l1.length : Int) % (t270.length : Int))).f1)), (rd_T36 y284 ((l1.length : Int) % (t270.length : Int))).f1⟩ : S36) : List (S36))).bind fun y289 => ((impl_BitPut.f kj2 y289).bind fun t290 => ((laws_eaBytes.f t290 t273).bind fun t293 => (some (t293 == (((rd_T36 y289 ((l1.length : Int) % (t270.length : Int))).f0) == ((rd_T36 t270 ((l1.length : Int) % (t270.length : Int))).f0))))))) else (none))) else (none)) else (none)) else (none)) = some r := by first | (rw [hy284]; with_reducible exact H) | (have H2_ := (Option.bind_some _ _).symm.trans H; rw [hy284]; with_reducible exact H2_) | (have H2_ := (Option.bind_some _ _).symm.trans H; with_reducible exact H2_) | with_reducible exact H | (rw [hy284]; exact H) | exact H
        have Ny284 := Aside0.mk hy284
        clear hy284
        obtain ⟨ji22, hji22⟩ : ∃ j_ : Int, ((l1.length : Int) % (t270.length : Int)) = j_ := ⟨_, rfl⟩
        have hm3 : Int.tmod (l1.length : Int) 3 = (l1.length : Int) % 3 := Int.tmod_eq_emod_of_nonneg (by omega)
        have hji22t : Int.tmod (l1.length : Int) (t270.length : Int) = ji22 := by rw [Int.tmod_eq_emod_of_nonneg (by omega)]; exact hji22
        replace H : (if 0 ≤ (ji22) then (if (ji22) < (t270.length : Int) then (if 0 ≤ ((rd_T36 t270 (ji22)).f1) then (if (shl .i64 1 ((rd_T36 t270 (ji22)).f1)) = 0 then (none) else (if (ji22) < (y284.length : Int) then ((some (y284.set ((ji22) : Int).toNat (⟨Int.tmod (wrap64 ((wrap64 (((rd_T36 t270 (ji22)).f0) + 1)) + ((l1.length : Int) % 3))) (shl .i64 1 ((rd_T36 t270 (ji22)).f1)), (rd_T36 y284 (ji22)).f1⟩ : S36) : List (S36))).bind fun y289 => ((impl_BitPut.f kj2 y289).bind fun t290 => ((laws_eaBytes.f t290 t273).bind fun t293 => (some (t293 == (((rd_T36 y289 (ji22)).f0) == ((rd_T36 t270 (ji22)).f0))))))) else (none))) else (none)) else (none)) else (none)) = some r := by first | (rw [hji22] at H; exact H) | (simp only [hji22] at H ⊢; exact H)
        (try rw [hji22] at A6)
        (try rw [hji22] at A7)
        (try rw [hji22] at A8)
        (try rw [hji22] at A9)
        by_cases c23 : 0 ≤ (ji22)
        ·rw [if_pos c23] at H
         have c23b0 : decide (0 ≤ (ji22)) = true := decide_eq_true c23
         clear c23
         by_cases c24 : (ji22) < (t270.length : Int)
         ·rw [if_pos c24] at H
          have c24b0 : decide ((ji22) < (t270.length : Int)) = true := decide_eq_true c24
          clear c24
          by_cases c25 : 0 ≤ ((rd_T36 t270 (ji22)).f1)
          ·rw [if_pos c25] at H
           have c25b0 := eq_true c25
           have c25b1 : decide (0 ≤ ((rd_T36 t270 (ji22)).f1)) = true := decide_eq_true c25
           clear c25
           obtain ⟨ji26, hji26⟩ : ∃ j_ : Int, (shl .i64 1 ((rd_T36 t270 (ji22)).f1)) = j_ := ⟨_, rfl⟩
           replace H : (if (ji26) = 0 then (none) else (if (ji22) < (y284.length : Int) then ((some (y284.set ((ji22) : Int).toNat (⟨Int.tmod (wrap64 ((wrap64 (((rd_T36 t270 (ji22)).f0) + 1)) + ((l1.length : Int) % 3))) (ji26), (rd_T36 y284 (ji22)).f1⟩ : S36) : List (S36))).bind fun y289 => ((impl_BitPut.f kj2 y289).bind fun t290 => ((laws_eaBytes.f t290 t273).bind fun t293 => (some (t293 == (((rd_T36 y289 (ji22)).f0) == ((rd_T36 t270 (ji22)).f0))))))) else (none))) = some r := by first | (rw [hji26] at H; exact H) | (simp only [hji26] at H ⊢; exact H)
           (try rw [hji26] at A6)
           (try rw [hji26] at A7)
           (try rw [hji26] at A8)
           (try rw [hji26] at A9)
           have hji26_ : (IntKind.i64.wrap (1 * 2 ^ min ((rd_T36 t270 (ji22)).f1).toNat 64)) = ji26 := hji26
           have hji26z : ((rd_T36 t270 (ji22)).f1) ≤ 64 → (IntKind.i64.wrap (1 * 2 ^ ((rd_T36 t270 (ji22)).f1).toNat)) = ji26 := shl_small hji26
           have hji26u : (IntKind.i64.wrap (2 ^ min ((rd_T36 t270 (ji22)).f1).toNat 64)) = ji26 := by have h_ := hji26_; rw [Int.one_mul] at h_; exact h_
           have hji26v : ((rd_T36 t270 (ji22)).f1) ≤ 64 → (IntKind.i64.wrap (2 ^ ((rd_T36 t270 (ji22)).f1).toNat)) = ji26 := fun hle_ => by have h_ := hji26z hle_; rw [Int.one_mul] at h_; exact h_
           have hji26y : (wrap64 (1 * 2 ^ min ((rd_T36 t270 (ji22)).f1).toNat 64)) = ji26 := (i64_w _).symm.trans hji26_
           have hji26x : ((rd_T36 t270 (ji22)).f1) ≤ 64 → (wrap64 (1 * 2 ^ ((rd_T36 t270 (ji22)).f1).toNat)) = ji26 := fun h_ => (i64_w _).symm.trans (hji26z h_)
           by_cases c27 : (ji26) = 0
           ·rw [if_pos c27] at H
            exact absurd H (by simp)
           ·rw [if_neg c27] at H
            have c27b0 : ((ji26) == 0) = false := beq_eq_false_iff_ne.mpr c27
            have c27b1 : ((ji26) != 0) = true := bne_iff_ne.mpr c27
            by_cases c28 : (ji22) < (y284.length : Int)
            ·rw [if_pos c28] at H
             have c28b0 : decide ((ji22) < (y284.length : Int)) = true := decide_eq_true c28
             clear c28
             obtain ⟨y289, hy289⟩ : ∃ y_ : List (S36), y_ = (y284.set ((ji22) : Int).toNat (⟨Int.tmod (wrap64 ((wrap64 (((rd_T36 t270 (ji22)).f0) + 1)) + ((l1.length : Int) % 3))) (ji26), (rd_T36 y284 (ji22)).f1⟩ : S36)) := ⟨_, rfl⟩
             replace H : ((impl_BitPut.f kj2 y289).bind fun t290 => ((laws_eaBytes.f t290 t273).bind fun t293 => (some (t293 == (((rd_T36 y289 (ji22)).f0) == ((rd_T36 t270 (ji22)).f0)))))) = some r := by first | (rw [hy289]; with_reducible exact H) | (have H2_ := (Option.bind_some _ _).symm.trans H; rw [hy289]; with_reducible exact H2_) | (have H2_ := (Option.bind_some _ _).symm.trans H; with_reducible exact H2_) | with_reducible exact H | (rw [hy289]; exact H) | exact H
             have Ny289 := Aside0.mk hy289
             clear hy289
             replace H := Option.bind_eq_some_iff.mp H
             obtain ⟨t290, A300, H⟩ := H
             replace H : ((laws_eaBytes.f t290 t273).bind fun t293 => (some (t293 == (((rd_T36 y289 (ji22)).f0) == ((rd_T36 t270 (ji22)).f0))))) = some r := H
             have A30 := Aside0.mk A300
             clear A300
             replace H := Option.bind_eq_some_iff.mp H
             obtain ⟨t293, A310, H⟩ := H
             replace H : (some (t293 == (((rd_T36 y289 (ji22)).f0) == ((rd_T36 t270 (ji22)).f0)))) = some r := H
             have A31 := Aside0.mk A310
             clear A310
             obtain rfl := Option.some.inj H
             try go_wp2_with (first | ((with_reducible refine gate_callee (f := 22) rfl ?_); refine goesL_ (some 18) rfl rfl Try.func22 (by kernel_rfl) rfl #[.slice A0 l0.length c0] rfl (by (try simp only [List.map_toArray, List.map_cons, List.map_nil]); first | done | rfl | (simp only [List.length_drop, List.length_take]; rfl)) ?_; (with_reducible refine (spec_DrawBitPut.calls kj2 _ _ l0 t270 _ ?side1 ?side2 A6.out).mono ?_); (case side1 => repeat (first | exact (Kd.C_below HR0.out HB.out) | (with_reducible refine Kd.C_alloc ?_ _) | (with_reducible refine Kd.C_drewN ?_ _) | (with_reducible refine Kd.C_drew ?_))); (case side2 => exact HC0.out); rintro e w32 ⟨v271, rfl, ho0, hb⟩; refine ⟨_, rfl, ?_⟩; have n0_ := Aside0.mk (Kd.R_lower ho0 (below_size (by repeat (first | (with_reducible first | exact HB.out | apply below_alloc | apply pw_below_drewN | apply below_drew1) | exact HB.out)))); have n1_ := Aside0.mk (below_step (by repeat (first | (with_reducible first | exact HB.out | apply below_alloc | apply pw_below_drewN | apply below_drew1) | exact HB.out)) hb); clear HB; have HO272 := n0_; have HB := n1_; clear n0_ n1_; (try clear hb); (try clear hb2); (try clear hk); (try clear hi); (try clear ho0); obtain ⟨Ao33, co33, eo33⟩ := Kd.R_slice HO272.out; subst eo33) | ((with_reducible refine gate_callee (f := 16) rfl ?_); refine goesL_ (some 20) rfl rfl Try.func16 (by kernel_rfl) rfl #[.slice Ao33 t270.length co33] rfl (by (try simp only [List.map_toArray, List.map_cons, List.map_nil]); first | done | rfl | (simp only [List.length_drop, List.length_take]; rfl)) ?_; (with_reducible refine (impl_BitPut.calls kj2 _ _ t270 t273 _ ?side1 ?side2 A7.out).mono ?_); (case side1 => repeat (first | exact (Kd.R_reads' HO272.out).2.2 | (with_reducible refine Kd.C_alloc ?_ _) | (with_reducible refine Kd.C_drewN ?_ _) | (with_reducible refine Kd.C_drew ?_))); (case side2 => exact (Kd.R_reads' HO272.out).2.1); rintro e w34 ⟨v274, rfl, ho0, hb⟩; refine ⟨_, rfl, ?_⟩; have n0_ := Aside0.mk (Kd.R_below (by (with_reducible repeat (first | apply Kd.R_alloc | apply Kd.R_drewN | apply Kd.R_drew)); exact HO272.out) hb); have n1_ := Aside0.mk (Kd.R_lower ho0 (below_size (by repeat (first | (with_reducible first | exact HB.out | apply below_alloc | apply pw_below_drewN | apply below_drew1) | exact HB.out)))); have n2_ := Aside0.mk (below_step (by repeat (first | (with_reducible first | exact HB.out | apply below_alloc | apply pw_below_drewN | apply below_drew1) | exact HB.out)) hb); clear HO272; clear HB; have HO272 := n0_; have HO275 := n1_; have HB := n2_; clear n0_ n1_ n2_; (try clear hb); (try clear hb2); (try clear hk); (try clear hi); (try clear ho0)) | ((with_reducible refine gate_callee (f := 14) rfl ?_); refine goesL_ (some 23) rfl rfl Try.func14 (by kernel_rfl) rfl #[.slice Ao33 t270.length co33] rfl (by (try simp only [List.map_toArray, List.map_cons, List.map_nil]); first | done | rfl | (simp only [List.length_drop, List.length_take]; rfl)) ?_; (with_reducible refine (spec_BitPut.calls kj2 _ _ t270 t276 _ ?side1 ?side2 A8.out).mono ?_); (case side1 => repeat (first | exact (Kd.R_reads' HO272.out).2.2 | (with_reducible refine Kd.C_alloc ?_ _) | (with_reducible refine Kd.C_drewN ?_ _) | (with_reducible refine Kd.C_drew ?_))); (case side2 => exact (Kd.R_reads' HO272.out).2.1); rintro e w35 ⟨v277, rfl, ho0, hb⟩; refine ⟨_, rfl, ?_⟩; have n0_ := Aside0.mk (Kd.R_below (by (with_reducible repeat (first | apply Kd.R_alloc | apply Kd.R_drewN | apply Kd.R_drew)); exact HO272.out) hb); have n1_ := Aside0.mk (Kd.R_elder' (by (with_reducible repeat (first | apply Kd.R_alloc | apply Kd.R_drewN | apply Kd.R_drew)); exact HO275.out) (Kd.R_base ho0) hb); have n2_ := Aside0.mk (Kd.R_lower (Kd.R_new' ho0 (Kd.R_lt (by (with_reducible repeat (first | apply Kd.R_alloc | apply Kd.R_drewN | apply Kd.R_drew)); exact HO275.out))) (below_size (by repeat (first | (with_reducible first | exact HB.out | apply below_alloc | apply pw_below_drewN | apply below_drew1) | exact HB.out)))); have n3_ := Aside0.mk (below_step (by repeat (first | (with_reducible first | exact HB.out | apply below_alloc | apply pw_below_drewN | apply below_drew1) | exact HB.out)) hb); clear HO272; clear HO275; clear HB; have HO272 := n0_; have HO275 := n1_; have HO278 := n2_; have HB := n3_; clear n0_ n1_ n2_ n3_; (try clear hb); (try clear hb2); (try clear hk); (try clear hi); (try clear ho0); obtain ⟨Ao36, co36, eo36⟩ := Kd.R_slice HO275.out; subst eo36; obtain ⟨Ao37, co37, eo37⟩ := Kd.R_slice HO278.out; subst eo37) | ((with_reducible refine gate_callee (f := 23) rfl ?_); refine goesL_ (some 24) rfl rfl Try.func23 (by kernel_rfl) rfl #[.slice Ao36 t273.length co36, .slice Ao37 t276.length co37] rfl (by (try simp only [List.map_toArray, List.map_cons, List.map_nil]); first | done | rfl | (simp only [List.length_drop, List.length_take]; rfl)) ?_; (with_reducible refine (laws_eaBytes.calls _ _ t273 _ _ t276 true _ ?side1 ?side2 ?side3 ?side4 A9.out).mono ?_); (case side1 => repeat (first | exact (Kd.R_reads' HO275.out).2.2 | (with_reducible refine Kd.C_alloc ?_ _) | (with_reducible refine Kd.C_drewN ?_ _) | (with_reducible refine Kd.C_drew ?_))); (case side2 => exact (Kd.R_reads' HO275.out).2.1); (case side3 => repeat (first | exact (Kd.R_reads' HO278.out).2.2 | (with_reducible refine Kd.C_alloc ?_ _) | (with_reducible refine Kd.C_drewN ?_ _) | (with_reducible refine Kd.C_drew ?_))); (case side4 => exact (Kd.R_reads' HO278.out).2.1); rintro e w' ⟨rfl, ⟨nd, rfl⟩⟩; refine ⟨_, rfl, ?_⟩; (try (rw [drewN_self w35]; generalize hq_ : World.drewN w35 _ = w35; have n0_ : Aside0 (Kd.R k36 36 w35 w.heap.size (fun _ => True) (.slice Ao33 t270.length co33) t270) := ⟨by rw [← hq_]; exact (by (with_reducible repeat (first | apply Kd.R_alloc | apply Kd.R_drewN | apply Kd.R_drew)); exact HO272.out)⟩; have n1_ : Aside0 (Kd.R (Kd.int .u8) 5 w35 w.heap.size (fun k_ => some k_ ≠ (.slice Ao37 t276.length co37 : Value).ownBlock) (.slice Ao36 t273.length co36) t273) := ⟨by rw [← hq_]; exact (by (with_reducible repeat (first | apply Kd.R_alloc | apply Kd.R_drewN | apply Kd.R_drew)); exact Kd.R_mono HO275.out (fun _ hk => by first | exact hk.2 | exact trivial | (revert hk; simp; done) | (simp_all; done)))⟩; have n2_ : Aside0 (Kd.R (Kd.int .u8) 5 w35 w.heap.size (fun k_ => some k_ ≠ (.slice Ao36 t273.length co36 : Value).ownBlock) (.slice Ao37 t276.length co37) t276) := ⟨by rw [← hq_]; exact (by (with_reducible repeat (first | apply Kd.R_alloc | apply Kd.R_drewN | apply Kd.R_drew)); exact Kd.R_mono HO278.out (fun _ hk => by first | exact hk.2 | exact trivial | (revert hk; simp; done) | (simp_all; done)))⟩; have n3_ : Aside0 (Below w.heap.size w w35) := ⟨by rw [← hq_]; exact (by repeat (first | (with_reducible first | exact HB.out | apply below_alloc | apply pw_below_drewN | apply below_drew1) | exact HB.out))⟩; clear HO272 HO275 HO278 HB hq_; have HO272 := n0_; have HO275 := n1_; have HO278 := n2_; have HB := n3_; clear n0_ n1_ n2_ n3_))) | ((with_reducible refine gate_dst (N := 35) rfl ?_); (try (refine gate_guard (by rfl) ?_; dsimp only)); refine Kd.R_lit k36 _ 36 ?hg (N := 35) ?hd (xs := ([] : List (S36))) (inner := []) (ok := fun _ => True) (okp := fun _ => True) ?hr ?hp (fun _ hk => hk) trivial (Below.refl _ _) (Nat.le_refl _) (by simp) ?_; (case hd => rfl); (case hg => rfl); (case hr => first | (go_simp; done) | (go_simp; rfl)); (case hp => exact (Reps.none _ _)); intro v282 w38 ho39 hb hg_ hnew_; clear hg_ hnew_; (first | rw [← Ny281.out] at ho39 | (simp only [Int.reduceToNat] at ho39; rw [← Ny281.out] at ho39)); have n0_ := Aside0.mk (Kd.R_elder' (by (with_reducible repeat (first | apply Kd.R_alloc | apply Kd.R_drewN | apply Kd.R_drew)); exact HO272.out) (Kd.R_base ho39) hb); have n1_ := Aside0.mk (Kd.R_below (by (with_reducible repeat (first | apply Kd.R_alloc | apply Kd.R_drewN | apply Kd.R_drew)); exact HO275.out) hb); have n2_ := Aside0.mk (Kd.R_below (by (with_reducible repeat (first | apply Kd.R_alloc | apply Kd.R_drewN | apply Kd.R_drew)); exact HO278.out) hb); have n3_ := Aside0.mk (Kd.R_lower (Kd.R_new' ho39 (Kd.R_lt (by (with_reducible repeat (first | apply Kd.R_alloc | apply Kd.R_drewN | apply Kd.R_drew)); exact HO272.out))) (below_size (by repeat (first | (with_reducible first | exact HB.out | apply below_alloc | apply pw_below_drewN | apply below_drew1) | exact HB.out)))); have n4_ := Aside0.mk (below_step (by repeat (first | (with_reducible first | exact HB.out | apply below_alloc | apply pw_below_drewN | apply below_drew1) | exact HB.out)) hb); clear HO272; clear HO275; clear HO278; clear HB; have HO272 := n0_; have HO275 := n1_; have HO278 := n2_; have HO283 := n3_; have HB := n4_; clear n0_ n1_ n2_ n3_ n4_; clear hb ho39) | ((with_reducible refine gate_builtin (b := .append) (xs := #[.tmp 35, .tmp 36]) rfl ?_); (try (refine gate_guard (by rfl) ?_; dsimp only)); at_builtin; refine Kd.R_append_rows k36 (w0 := w) w.heap.size rfl (.tmp 35) (.tmp 36) 26 36 (.agg #[(.int .i64 0), (.int .i64 0)]) 16 rfl Try.underlying26 info36 rfl (by decide) (by omega) v282 y281 t270 _ _ _ (fun k_ => some k_ ≠ (.slice Ao33 t270.length co33 : Value).ownBlock) (fun _ => False) rfl rfl ?aO ?aR (fun _ _ h => h) (fun _ h => h.elim) ?aF ?aB ?aS ?aL ?_; (case aR => repeat (first | exact (Kd.R_reads' HO272.out).2.2 | (with_reducible refine Kd.C_alloc ?_ _) | (with_reducible refine Kd.C_drewN ?_ _) | (with_reducible refine Kd.C_drew ?_))); (case aB => exact (by repeat (first | (with_reducible first | exact HB.out | apply below_alloc | apply pw_below_drewN | apply below_drew1) | exact HB.out))); (case aF => exact (fun k_ hk => Kd.fresh' (Kd.R_lt (by (with_reducible repeat (first | apply Kd.R_alloc | apply Kd.R_drewN | apply Kd.R_drew)); exact HO272.out)) k_ hk)); (case aO => exact (by (with_reducible repeat (first | apply Kd.R_alloc | apply Kd.R_drewN | apply Kd.R_drew)); exact Kd.R_mono HO283.out (fun _ hk => by first | exact hk.2 | exact trivial | (revert hk; simp; done) | (simp_all; done)))); (case aS => exact (below_size (by repeat (first | (with_reducible first | exact HB.out | apply below_alloc | apply pw_below_drewN | apply below_drew1) | exact HB.out)))); (case aL => have := LMc21.out; omega); intro v285 w40 ho hb hg hat; rw [← Ny284.out] at ho; have n0_ := Aside0.mk (Kd.R_after (ok := (fun _ => True)) (by (with_reducible repeat (first | apply Kd.R_alloc | apply Kd.R_drewN | apply Kd.R_drew)); exact HO272.out) hg hat); have n1_ := Aside0.mk (Kd.R_over' (by (with_reducible repeat (first | apply Kd.R_alloc | apply Kd.R_drewN | apply Kd.R_drew)); exact HO275.out) (Kd.R_typed (by (with_reducible repeat (first | apply Kd.R_alloc | apply Kd.R_drewN | apply Kd.R_drew)); exact HO283.out)) (by decide) hg); have n2_ := Aside0.mk (Kd.R_over' (by (with_reducible repeat (first | apply Kd.R_alloc | apply Kd.R_drewN | apply Kd.R_drew)); exact HO278.out) (Kd.R_typed (by (with_reducible repeat (first | apply Kd.R_alloc | apply Kd.R_drewN | apply Kd.R_drew)); exact HO283.out)) (by decide) hg); have n3_ := Aside0.mk (hb); have n4_ := Aside0.mk (ho); clear HO272; clear HO275; clear HO278; clear HB; clear HO283; have HO272 := n0_; have HO275 := n1_; have HO278 := n2_; have HB := n3_; have HO286 := n4_; clear n0_ n1_ n2_ n3_ n4_; clear ho hb hg hat))
             have n0_ := Aside0.mk (Kd.R_drew HO272.out)
             have n1_ := Aside0.mk (Kd.R_drew HO275.out)
             have n2_ := Aside0.mk (Kd.R_drew HO278.out)
             have n3_ := Aside0.mk (Kd.R_drew HO286.out)
             have n4_ := Aside0.mk (below_drew1 HB.out)
             clear HO272
             clear HO275
             clear HO278
             clear HO286
             clear HB
             have HO272 := n0_
             have HO275 := n1_
             have HO278 := n2_
             have HO286 := n3_
             have HB := n4_
             clear n0_ n1_ n2_ n3_ n4_
             have p287 : 0 ≤ ((ji22) : Int) := of_decide_eq_true (by first | (with_reducible assumption) | assumption)
             have q287 : (ji22) < (t270.length : Int) := of_decide_eq_true (by first | (with_reducible assumption) | assumption)
             obtain ⟨ad287, e287, hx287_0, hx287_1⟩ := at_T36 (Kd.R_reads' HO272.out).2.2 (ji22) p287 q287
             cases e287
             replace p287 := eq_true p287
             replace q287 := eq_true q287
             have p288 : 0 ≤ ((ji22) : Int) := of_decide_eq_true (by first | (with_reducible assumption) | assumption)
             have q288 : (ji22) < (t270.length : Int) := of_decide_eq_true (by first | (with_reducible assumption) | assumption)
             obtain ⟨ad288, e288, hx288_0, hx288_1⟩ := at_T36 (Kd.R_reads' HO272.out).2.2 (ji22) p288 q288
             obtain rfl : ad287 = ad288 := (by injection e288)
             replace p288 := eq_true p288
             replace q288 := eq_true q288
             have p29 : 0 ≤ ((ji22) : Int) := of_decide_eq_true (by first | (with_reducible assumption) | assumption)
             have q29 : ((ji22) : Int) < ((y284.length : Int) : Int) := of_decide_eq_true (by first | (with_reducible assumption) | assumption)
             obtain ⟨go29, co29, eo29, gb29, gl29, cl29, HG29⟩ := Kd.R_form HO286.out (by omega)
             (first | cases eo29 | (injection eo29 with ea_ en_ ec_; (first | subst ea_ | (injection ea_ with ea_; subst ea_)); subst ec_; clear en_))
             have GB29 := Aside0.mk gb29
             have GG29 := Aside0.mk HG29
             clear gb29 gl29 HG29
             obtain ⟨ce29, hcl29, hM29, hcc29, hfr29⟩ := Kd.R_elem HO286.out z36 ((ji22) : Int) p29 q29
             obtain rfl := k36_openM hM29
             have hx29_0 : World.cell? _ ⟨go29, ((ji22) : Int).toNat * 2, none⟩ = some (.int .i64 ((rd_T36 y284 (ji22)).f0)) := hcc29 0 _ rfl
             have hx29_1 : World.cell? _ ⟨go29, ((ji22) : Int).toNat * 2 + 1, none⟩ = some (.int .i64 ((rd_T36 y284 (ji22)).f1)) := hcc29 1 _ rfl
             have hf29_0 : World.frozen? _ ⟨go29, ((ji22) : Int).toNat * 2, none⟩ = false := hfr29 0
             have hf29_1 : World.frozen? _ ⟨go29, ((ji22) : Int).toNat * 2 + 1, none⟩ = false := hfr29 1
             clear hcl29 hcc29 hfr29 hM29
             replace p29 := eq_true p29
             replace q29 := eq_true q29
             obtain ⟨ce42, hcl42, hM42, hcc42, hfr42⟩ := Kd.R_elem HO286.out z36 ((ji22) : Int) (of_decide_eq_true (by first | (with_reducible assumption) | assumption)) (by have h_ : ((ji22) : Int) < ((y284.length : Int) : Int) := of_decide_eq_true (by first | (with_reducible assumption) | assumption); first | exact h_ | (have e_ := (Kd.R_reads' HO286.out).1; omega) | simpa using h_)
             obtain rfl := k36_openM hM42
             have HP42 := (Kd.R_seg HO286.out ((ji22) : Int) (of_decide_eq_true (by first | (with_reducible assumption) | assumption)) (by have h_ : ((ji22) : Int) < ((y284.length : Int) : Int) := of_decide_eq_true (by first | (with_reducible assumption) | assumption); first | exact h_ | (have e_ := (Kd.R_reads' HO286.out).1; omega) | simpa using h_) (seg := [.int .i64 (Int.tmod (wrap64 ((wrap64 (((rd_T36 t270 (ji22)).f0) + 1)) + ((l1.length : Int) % 3))) (ji26))]) (j := 0) hcl42 hcc42 (show 1 ≤ 2 from by decide) (x' := (⟨Int.tmod (wrap64 ((wrap64 (((rd_T36 t270 (ji22)).f0) + 1)) + ((l1.length : Int) % 3))) (ji26), (rd_T36 y284 (ji22)).f1⟩ : S36)) (k36_mkM _ _ _ (⟨Int.tmod (wrap64 ((wrap64 (((rd_T36 t270 (ji22)).f0) + 1)) + ((l1.length : Int) % 3))) (ji26), (rd_T36 y284 (ji22)).f1⟩ : S36) ) (fun _ hk => hk)).1
             rw [← Ny289.out] at HP42
             have HQ42 := Aside0.mk HP42
             clear hcl42 hcc42 hfr42 hM42 HP42
             refine start_ (n := 22) (S := fun w' => w'.cell? (ad287.add (((ji22)).toNat * 2)) = some (.int .i64 ((rd_T36 t270 (ji22)).f0)) ∧ w'.cell? ⟨(ad287.add (((ji22)).toNat * 2)).block, (ad287.add (((ji22)).toNat * 2)).off + 1, none⟩ = some (.int .i64 ((rd_T36 t270 (ji22)).f1)) ∧ w'.cell? (ad287.add (((ji22)).toNat * 2)) = some (.int .i64 ((rd_T36 t270 (ji22)).f0)) ∧ w'.cell? ⟨(ad287.add (((ji22)).toNat * 2)).block, (ad287.add (((ji22)).toNat * 2)).off + 1, none⟩ = some (.int .i64 ((rd_T36 t270 (ji22)).f1))) (ds := [21]) #[false, false, false, false, false, false, false, false, false, false, false, false, false, false, false, false, false, false, false, false, false, false] (by kernel_rfl) rfl rfl ⟨hx287_0, hx287_1, hx288_0, hx288_1⟩ (fun hHeld => ?_); refine with_tabW laws_FnBitApart.tab11 laws_FnBitApart.bits11 (fun HT_ HW_ => ?_)
             generalize w40.drew = w41 at HO272 HO275 HO278 HO286 HB GG29 HQ42 hf29_0 hf29_1 hx287_0 hx287_1 hx288_0 hx288_1 hx29_0 hx29_1 hHeld ⊢
             refine pure_ (i := 0) (N := some 38) (v := ?_) (a' := ?_) #[true, false, false, false, false, false, false, false, false, false, false, false, false, false, false, false, false, false, false, false, false, false] rfl rfl (any_of HT_.out (by kernel_rfl)) (fun _ _ _ h => h) (Or.inl ⟨by rfl, ?_⟩) ?_ ?_
             rotate_left
             ·intro w'
              go_simp
              (try simp only [hji22t, hm3])
              with_reducible rfl
             rotate_left
             ·simp only [Act.put, List.setIfInBounds_toArray, List.set_cons_zero, List.set_cons_succ, i64_w, i32_w]
              rfl
             refine pure_ (i := 1) (N := some 39) (v := ?_) (a' := ?_) #[true, true, false, false, false, false, false, false, false, false, false, false, false, false, false, false, false, false, false, false, false, false] rfl rfl (any_of HT_.out (by kernel_rfl)) (fun _ _ _ h => h) (Or.inl ⟨by rfl, ?_⟩) ?_ ?_
             rotate_left
             ·intro w'
              go_simp
              (try simp only [hji22t, hm3])
              with_reducible rfl
             rotate_left
             ·simp only [Act.put, List.setIfInBounds_toArray, List.set_cons_zero, List.set_cons_succ, i64_w, i32_w]
              rfl
             refine pure_ (i := 2) (N := some 40) (v := ?_) (a' := ?_) #[true, true, true, false, false, false, false, false, false, false, false, false, false, false, false, false, false, false, false, false, false, false] rfl rfl (any_of HT_.out (by kernel_rfl)) (fun _ _ _ h => h) (Or.inl ⟨by rfl, ?_⟩) ?_ ?_
             rotate_left
             ·intro w'
              go_simp
              (try simp only [hji22t, hm3])
              with_reducible rfl
             rotate_left
             ·simp only [Act.put, List.setIfInBounds_toArray, List.set_cons_zero, List.set_cons_succ, i64_w, i32_w]
              rfl
             refine pure_ (i := 3) (N := some 41) (v := ?_) (a' := ?_) #[true, true, true, true, false, false, false, false, false, false, false, false, false, false, false, false, false, false, false, false, false, false] rfl rfl (any_of HT_.out (by kernel_rfl)) (fun _ _ _ h => h) (Or.inl ⟨by rfl, ?_⟩) ?_ ?_
             rotate_left
             ·intro w'
              go_simp
              (try simp only [hji22t, hm3])
              with_reducible rfl
             rotate_left
             ·simp only [Act.put, List.setIfInBounds_toArray, List.set_cons_zero, List.set_cons_succ, i64_w, i32_w]
              rfl
             refine pure_ (i := 4) (N := some 42) (v := ?_) (a' := ?_) #[true, true, true, true, true, false, false, false, false, false, false, false, false, false, false, false, false, false, false, false, false, false] rfl rfl (any_of HT_.out (by kernel_rfl)) (fun _ _ _ h => h) (Or.inl ⟨by rfl, ?_⟩) ?_ ?_
             rotate_left
             ·intro w'
              go_simp
              (try simp only [hji22t, hm3])
              with_reducible rfl
             rotate_left
             ·simp only [Act.put, List.setIfInBounds_toArray, List.set_cons_zero, List.set_cons_succ, i64_w, i32_w]
              rfl
             refine pure_ (i := 5) (N := some 43) (v := ?_) (a' := ?_) #[true, true, true, true, true, true, false, false, false, false, false, false, false, false, false, false, false, false, false, false, false, false] rfl rfl (any_of HT_.out (by kernel_rfl)) (fun _ _ _ h => h) (Or.inl ⟨by rfl, ?_⟩) ?_ ?_
             rotate_left
             ·intro w'
              go_simp
              (try simp only [hji22t, hm3])
              with_reducible rfl
             rotate_left
             ·simp only [Act.put, List.setIfInBounds_toArray, List.set_cons_zero, List.set_cons_succ, i64_w, i32_w]
              rfl
             refine pure_ (i := 8) (N := some 46) (v := ?_) (a' := ?_) #[true, true, true, true, true, true, false, false, true, false, false, false, false, false, false, false, false, false, false, false, false, false] rfl rfl (any_of HT_.out (by kernel_rfl)) (fun _ _ _ h => h) (Or.inl ⟨by rfl, ?_⟩) ?_ ?_
             rotate_left
             ·intro w'
              go_simp
              (try simp only [hji22t, hm3])
              with_reducible rfl
             rotate_left
             ·simp only [Act.put, List.setIfInBounds_toArray, List.set_cons_zero, List.set_cons_succ, i64_w, i32_w]
              rfl
             refine pure_ (i := 9) (N := some 47) (v := ?_) (a' := ?_) #[true, true, true, true, true, true, false, false, true, true, false, false, false, false, false, false, false, false, false, false, false, false] rfl rfl (any_of HT_.out (by kernel_rfl)) (fun _ _ _ h => h) (Or.inl ⟨by rfl, ?_⟩) ?_ ?_
             rotate_left
             ·intro w'
              go_simp
              (try simp only [hji22t, hm3])
              with_reducible rfl
             rotate_left
             ·simp only [Act.put, List.setIfInBounds_toArray, List.set_cons_zero, List.set_cons_succ, i64_w, i32_w]
              rfl
             refine pure_ (i := 10) (N := some 48) (v := ?_) (a' := ?_) #[true, true, true, true, true, true, false, false, true, true, true, false, false, false, false, false, false, false, false, false, false, false] rfl rfl (any_of HT_.out (by kernel_rfl)) (fun _ _ _ h => h) (Or.inl ⟨by rfl, ?_⟩) ?_ ?_
             rotate_left
             ·intro w'
              go_simp
              (try simp only [hji22t, hm3])
              with_reducible rfl
             rotate_left
             ·simp only [Act.put, List.setIfInBounds_toArray, List.set_cons_zero, List.set_cons_succ, i64_w, i32_w]
              rfl
             refine pure_ (i := 12) (N := some 50) (v := ?_) (a' := ?_) #[true, true, true, true, true, true, false, false, true, true, true, false, true, false, false, false, false, false, false, false, false, false] rfl rfl (any_of HT_.out (by kernel_rfl)) (fun _ _ _ h => h) (Or.inl ⟨by rfl, ?_⟩) ?_ ?_
             rotate_left
             ·intro w'
              go_simp
              (try simp only [hji22t, hm3])
              with_reducible rfl
             rotate_left
             ·simp only [Act.put, List.setIfInBounds_toArray, List.set_cons_zero, List.set_cons_succ, i64_w, i32_w]
              rfl
             refine pure_ (i := 13) (N := some 51) (v := ?_) (a' := ?_) #[true, true, true, true, true, true, false, false, true, true, true, false, true, true, false, false, false, false, false, false, false, false] rfl rfl (any_of HT_.out (by kernel_rfl)) (fun _ _ _ h => h) (Or.inl ⟨by rfl, ?_⟩) ?_ ?_
             rotate_left
             ·intro w'
              go_simp
              (try simp only [hji22t, hm3])
              with_reducible rfl
             rotate_left
             ·simp only [Act.put, List.setIfInBounds_toArray, List.set_cons_zero, List.set_cons_succ, i64_w, i32_w]
              rfl
             refine pure_ (i := 14) (N := some 52) (v := ?_) (a' := ?_) #[true, true, true, true, true, true, false, false, true, true, true, false, true, true, true, false, false, false, false, false, false, false] rfl rfl (any_of HT_.out (by kernel_rfl)) (fun _ _ _ h => h) (Or.inl ⟨by rfl, ?_⟩) ?_ ?_
             rotate_left
             ·intro w'
              go_simp
              (try simp only [hji22t, hm3])
              with_reducible rfl
             rotate_left
             ·simp only [Act.put, List.setIfInBounds_toArray, List.set_cons_zero, List.set_cons_succ, i64_w, i32_w]
              rfl
             refine pure_ (i := 15) (N := some 53) (v := ?_) (a' := ?_) #[true, true, true, true, true, true, false, false, true, true, true, false, true, true, true, true, false, false, false, false, false, false] rfl rfl (any_of HT_.out (by kernel_rfl)) (fun _ _ _ h => h) (Or.inl ⟨by rfl, ?_⟩) ?_ ?_
             rotate_left
             ·intro w'
              go_simp
              (try simp only [hji22t, hm3])
              with_reducible rfl
             rotate_left
             ·simp only [Act.put, List.setIfInBounds_toArray, List.set_cons_zero, List.set_cons_succ, i64_w, i32_w]
              rfl
             refine take_ (i := 6) (N := some 44) (v := ?_) (a' := ?_) #[true, true, true, true, true, true, true, false, true, true, true, false, true, true, true, true, false, false, false, false, false, false] rfl rfl (take_ofW HT_.out HW_.out (by kernel_rfl)) (fun _ _ _ h => h) (Or.inl ⟨by rfl, ?_⟩) hHeld ?_ ?_
             rotate_left
             ·rintro w' ⟨s0, s1, s2, s3⟩
              go_simp
              (try simp only [hji22t, hm3])
              with_reducible rfl
             rotate_left
             ·simp only [Act.put, List.setIfInBounds_toArray, List.set_cons_zero, List.set_cons_succ, i64_w, i32_w]
              rfl
             refine pure_ (i := 7) (N := some 45) (v := ?_) (a' := ?_) #[true, true, true, true, true, true, true, true, true, true, true, false, true, true, true, true, false, false, false, false, false, false] rfl rfl (any_of HT_.out (by kernel_rfl)) (fun _ _ _ h => h) (Or.inl ⟨by rfl, ?_⟩) ?_ ?_
             rotate_left
             ·intro w'
              go_simp
              (try simp only [hji22t, hm3])
              with_reducible rfl
             rotate_left
             ·simp only [Act.put, List.setIfInBounds_toArray, List.set_cons_zero, List.set_cons_succ, i64_w, i32_w]
              rfl
             refine pure_ (i := 11) (N := some 49) (v := ?_) (a' := ?_) #[true, true, true, true, true, true, true, true, true, true, true, true, true, true, true, true, false, false, false, false, false, false] rfl rfl (any_of HT_.out (by kernel_rfl)) (fun _ _ _ h => h) (Or.inl ⟨by rfl, ?_⟩) ?_ ?_
             rotate_left
             ·intro w'
              go_simp
              (try simp only [hji22t, hm3])
              with_reducible rfl
             rotate_left
             ·simp only [Act.put, List.setIfInBounds_toArray, List.set_cons_zero, List.set_cons_succ, i64_w, i32_w]
              rfl
             refine take_ (i := 16) (N := some 54) (v := ?_) (a' := ?_) #[true, true, true, true, true, true, true, true, true, true, true, true, true, true, true, true, true, false, false, false, false, false] rfl rfl (take_ofW HT_.out HW_.out (by kernel_rfl)) (fun _ _ _ h => h) (Or.inl ⟨by rfl, ?_⟩) hHeld ?_ ?_
             rotate_left
             ·rintro w' ⟨s0, s1, s2, s3⟩
              go_simp
              (try simp only [hji22t, hm3])
              with_reducible rfl
             rotate_left
             ·simp only [Act.put, List.setIfInBounds_toArray, List.set_cons_zero, List.set_cons_succ, i64_w, i32_w]
              rfl
             refine pure_ (i := 17) (N := some 55) (v := ?_) (a' := ?_) #[true, true, true, true, true, true, true, true, true, true, true, true, true, true, true, true, true, true, false, false, false, false] rfl rfl (any_of HT_.out (by kernel_rfl)) (fun _ _ _ h => h) (Or.inl ⟨by rfl, ?_⟩) ?_ ?_
             rotate_left
             ·intro w'
              go_simp
              (try simp only [hji22t, hm3])
              with_reducible rfl
             rotate_left
             ·simp only [Act.put, List.setIfInBounds_toArray, List.set_cons_zero, List.set_cons_succ, i64_w, i32_w]
              rfl
             refine pure_ (i := 18) (N := some 56) (v := ?_) (a' := ?_) #[true, true, true, true, true, true, true, true, true, true, true, true, true, true, true, true, true, true, true, false, false, false] rfl rfl (any_of HT_.out (by kernel_rfl)) (fun _ _ _ h => h) (Or.inl ⟨by rfl, ?_⟩) ?_ ?_
             rotate_left
             ·intro w'
              go_simp
              (try simp only [hji22t, hm3])
              with_reducible rfl
             rotate_left
             ·simp only [Act.put, List.setIfInBounds_toArray, List.set_cons_zero, List.set_cons_succ, i64_w, i32_w]
              rfl
             refine pure_ (i := 19) (N := some 57) (v := ?_) (a' := ?_) #[true, true, true, true, true, true, true, true, true, true, true, true, true, true, true, true, true, true, true, true, false, false] rfl rfl (any_of HT_.out (by kernel_rfl)) (fun _ _ _ h => h) (Or.inl ⟨by rfl, ?_⟩) ?_ ?_
             rotate_left
             ·intro w'
              go_simp
              (try simp only [hji22t, hm3])
              with_reducible rfl
             rotate_left
             ·simp only [Act.put, List.setIfInBounds_toArray, List.set_cons_zero, List.set_cons_succ, i64_w, i32_w]
              rfl
             refine pure_ (i := 20) (N := some 58) (v := ?_) (a' := ?_) #[true, true, true, true, true, true, true, true, true, true, true, true, true, true, true, true, true, true, true, true, true, false] rfl rfl (any_of HT_.out (by kernel_rfl)) (fun _ _ _ h => h) (Or.inl ⟨by rfl, ?_⟩) ?_ ?_
             rotate_left
             ·intro w'
              go_simp
              (try simp only [hji22t, hm3])
              with_reducible rfl
             rotate_left
             ·simp only [Act.put, List.setIfInBounds_toArray, List.set_cons_zero, List.set_cons_succ, i64_w, i32_w]
              rfl
             refine last_ (i := 21) (N := none) #[true, true, true, true, true, true, true, true, true, true, true, true, true, true, true, true, true, true, true, true, true, true] rfl rfl (one_of HT_.out (by kernel_rfl)) (by decide) (fun K hK => ?_)
             refine skip_ (w1 := ?_) (by rfl) rfl ?_ ?_
             rotate_left
             ·go_simp
              rfl
             refine hK.out _ _ ?_
             clear hK K
             refine done_ (done_of HT_.out (by kernel_rfl)) ?_
             try go_wp2
             have n0_ : Aside0 (Kd.R k36 36 (w41.setCell ⟨go29, ((ji22) : Int).toNat * 2, none⟩ (.int .i64 (Int.tmod (wrap64 ((wrap64 (((rd_T36 t270 (ji22)).f0) + 1)) + ((l1.length : Int) % 3))) (ji26)))) w.heap.size (fun k_ => some k_ ≠ (.slice (some ⟨go29, 0, none⟩) y284.length co29 : Value).ownBlock) (.slice (some ad287) t270.length co33) t270) := ⟨by (with_reducible repeat (first | apply Kd.R_alloc | apply Kd.R_drewN | apply Kd.R_drew)); exact Kd.R_mono (Kd.R_far (p := ⟨go29, ((ji22) : Int).toNat * 2, none⟩) (Kd.R_mono HO272.out (fun k_ hk => (⟨hk, fun e_ => hk.2 (by rw [e_]; rfl)⟩ : _ ∧ k_ ≠ go29))) (fun _ hk => by first | exact hk.2 | exact trivial | (revert hk; simp; done) | (simp_all; done)) (.int .i64 (Int.tmod (wrap64 ((wrap64 (((rd_T36 t270 (ji22)).f0) + 1)) + ((l1.length : Int) % 3))) (ji26)))) (fun _ hk => by first | exact hk.1.2 | exact trivial | (revert hk; simp; done) | (simp_all; done))⟩
             have n1_ : Aside0 (Kd.R (Kd.int .u8) 5 (w41.setCell ⟨go29, ((ji22) : Int).toNat * 2, none⟩ (.int .i64 (Int.tmod (wrap64 ((wrap64 (((rd_T36 t270 (ji22)).f0) + 1)) + ((l1.length : Int) % 3))) (ji26)))) w.heap.size (fun k_ => some k_ ≠ (.slice Ao37 t276.length co37 : Value).ownBlock) (.slice Ao36 t273.length co36) t273) := ⟨by (with_reducible repeat (first | apply Kd.R_alloc | apply Kd.R_drewN | apply Kd.R_drew)); exact Kd.R_mono (Kd.R_far (p := ⟨go29, ((ji22) : Int).toNat * 2, none⟩) (Kd.R_types HO275.out GG29.out (by decide)) (fun _ hk => by first | exact hk.2 | exact trivial | (revert hk; simp; done) | (simp_all; done)) (.int .i64 (Int.tmod (wrap64 ((wrap64 (((rd_T36 t270 (ji22)).f0) + 1)) + ((l1.length : Int) % 3))) (ji26)))) (fun _ hk => by first | exact hk.1.2 | exact trivial | (revert hk; simp; done) | (simp_all; done))⟩
             have n2_ : Aside0 (Kd.R (Kd.int .u8) 5 (w41.setCell ⟨go29, ((ji22) : Int).toNat * 2, none⟩ (.int .i64 (Int.tmod (wrap64 ((wrap64 (((rd_T36 t270 (ji22)).f0) + 1)) + ((l1.length : Int) % 3))) (ji26)))) w.heap.size (fun k_ => some k_ ≠ (.slice Ao36 t273.length co36 : Value).ownBlock) (.slice Ao37 t276.length co37) t276) := ⟨by (with_reducible repeat (first | apply Kd.R_alloc | apply Kd.R_drewN | apply Kd.R_drew)); exact Kd.R_mono (Kd.R_far (p := ⟨go29, ((ji22) : Int).toNat * 2, none⟩) (Kd.R_types HO278.out GG29.out (by decide)) (fun _ hk => by first | exact hk.2 | exact trivial | (revert hk; simp; done) | (simp_all; done)) (.int .i64 (Int.tmod (wrap64 ((wrap64 (((rd_T36 t270 (ji22)).f0) + 1)) + ((l1.length : Int) % 3))) (ji26)))) (fun _ hk => by first | exact hk.1.2 | exact trivial | (revert hk; simp; done) | (simp_all; done))⟩
             have n3_ : Aside0 (Kd.R k36 36 (w41.setCell ⟨go29, ((ji22) : Int).toNat * 2, none⟩ (.int .i64 (Int.tmod (wrap64 ((wrap64 (((rd_T36 t270 (ji22)).f0) + 1)) + ((l1.length : Int) % 3))) (ji26)))) w.heap.size (fun k_ => some k_ ≠ (.slice (some ad287) t270.length co33 : Value).ownBlock) (.slice (some ⟨go29, 0, none⟩) y284.length co29) y289) := ⟨by (with_reducible repeat (first | apply Kd.R_alloc | apply Kd.R_drewN | apply Kd.R_drew)); exact HQ42.out⟩
             have n4_ : Aside0 (Below w.heap.size w (w41.setCell ⟨go29, ((ji22) : Int).toNat * 2, none⟩ (.int .i64 (Int.tmod (wrap64 ((wrap64 (((rd_T36 t270 (ji22)).f0) + 1)) + ((l1.length : Int) % 3))) (ji26))))) := ⟨by repeat (first | (with_reducible first | exact HB.out | apply below_alloc | apply pw_below_drewN | apply below_drew1 | refine below_set ?_ GB29.out) | exact HB.out)⟩
             (try clear HO272)
             (try clear HO275)
             (try clear HO278)
             (try clear HO286)
             (try clear HB)
             generalize (w41.setCell ⟨go29, ((ji22) : Int).toNat * 2, none⟩ (.int .i64 (Int.tmod (wrap64 ((wrap64 (((rd_T36 t270 (ji22)).f0) + 1)) + ((l1.length : Int) % 3))) (ji26)))) = w43 at n0_ n1_ n2_ n3_ n4_ ⊢
             have HO272 := n0_
             have HO275 := n1_
             have HO278 := n2_
             have HO286 := n3_
             have HB := n4_
             clear n0_ n1_ n2_ n3_ n4_
             have n0_ := Aside0.mk (Kd.R_drew HO272.out)
             have n1_ := Aside0.mk (Kd.R_drew HO275.out)
             have n2_ := Aside0.mk (Kd.R_drew HO278.out)
             have n3_ := Aside0.mk (Kd.R_drew HO286.out)
             have n4_ := Aside0.mk (below_drew1 HB.out)
             clear HO272
             clear HO275
             clear HO278
             clear HO286
             clear HB
             have HO272 := n0_
             have HO275 := n1_
             have HO278 := n2_
             have HO286 := n3_
             have HB := n4_
             clear n0_ n1_ n2_ n3_ n4_
             have p294 : 0 ≤ ((ji22) : Int) := of_decide_eq_true (by first | (with_reducible assumption) | assumption)
             have q294 : (ji22) < (y289.length : Int) := (by have h_ : ((ji22) : Int) < ((y284.length : Int) : Int) := of_decide_eq_true (by first | (with_reducible assumption) | assumption); first | (have e_ := (Kd.R_reads' HO286.out).1; omega) | simpa only [Ny289.out, List.length_set] using h_)
             have ql294 : (((ji22) : Int) < ((y284.length : Int) : Int)) = True := eq_true (of_decide_eq_true (by first | (with_reducible assumption) | assumption))
             obtain ⟨ad294, e294, hx294_0, hx294_1⟩ := at_T36 (Kd.R_reads' HO286.out).2.2 (ji22) p294 q294
             obtain rfl : (⟨go29, 0, none⟩ : Addr) = ad294 := (by injection e294)
             (first | simp only [add_plain] at hx294_0 | simp only [add_at] at hx294_0 | simp only [Addr.add, Nat.zero_add] at hx294_0 | skip)
             (first | simp only [add_plain] at hx294_1 | simp only [add_at] at hx294_1 | simp only [Addr.add, Nat.zero_add] at hx294_1 | skip)
             replace p294 := eq_true p294
             replace q294 := eq_true q294
             have p295 : 0 ≤ ((ji22) : Int) := of_decide_eq_true (by first | (with_reducible assumption) | assumption)
             have q295 : (ji22) < (t270.length : Int) := of_decide_eq_true (by first | (with_reducible assumption) | assumption)
             obtain ⟨ad295, e295, hx295_0, hx295_1⟩ := at_T36 (Kd.R_reads' HO272.out).2.2 (ji22) p295 q295
             obtain rfl : ad287 = ad295 := (by injection e295)
             replace p295 := eq_true p295
             replace q295 := eq_true q295
             refine start_ (n := 17) (S := fun w' => w'.cell? ⟨go29, ((ji22)).toNat * 2, none⟩ = some (.int .i64 ((rd_T36 y289 (ji22)).f0)) ∧ w'.cell? ⟨go29, ((ji22)).toNat * 2 + 1, none⟩ = some (.int .i64 ((rd_T36 y289 (ji22)).f1)) ∧ w'.cell? (ad287.add (((ji22)).toNat * 2)) = some (.int .i64 ((rd_T36 t270 (ji22)).f0)) ∧ w'.cell? ⟨(ad287.add (((ji22)).toNat * 2)).block, (ad287.add (((ji22)).toNat * 2)).off + 1, none⟩ = some (.int .i64 ((rd_T36 t270 (ji22)).f1))) (ds := []) #[false, false, false, false, false, false, false, false, false, false, false, false, false, false, false, false, false] (by kernel_rfl) rfl rfl ⟨hx294_0, hx294_1, hx295_0, hx295_1⟩ (fun hHeld => ?_); refine with_tabW laws_FnBitApart.tab12 laws_FnBitApart.bits12 (fun HT_ HW_ => ?_)
             generalize w43.drew = w44 at HO272 HO275 HO278 HO286 HB HQ42 hx294_0 hx294_1 hx295_0 hx295_1 hHeld ⊢
             refine pure_ (i := 0) (N := some 59) (v := ?_) (a' := ?_) #[true, false, false, false, false, false, false, false, false, false, false, false, false, false, false, false, false] rfl rfl (any_of HT_.out (by kernel_rfl)) (fun _ _ _ h => h) (Or.inl ⟨by rfl, ?_⟩) ?_ ?_
             rotate_left
             ·intro w'
              go_simp
              (try simp only [hji22t, hm3])
              with_reducible rfl
             rotate_left
             ·simp only [Act.put, List.setIfInBounds_toArray, List.set_cons_zero, List.set_cons_succ, i64_w, i32_w]
              rfl
             refine pure_ (i := 2) (N := some 61) (v := ?_) (a' := ?_) #[true, false, true, false, false, false, false, false, false, false, false, false, false, false, false, false, false] rfl rfl (any_of HT_.out (by kernel_rfl)) (fun _ _ _ h => h) (Or.inl ⟨by rfl, ?_⟩) ?_ ?_
             rotate_left
             ·intro w'
              go_simp
              (try simp only [hji22t, hm3])
              with_reducible rfl
             rotate_left
             ·simp only [Act.put, List.setIfInBounds_toArray, List.set_cons_zero, List.set_cons_succ, i64_w, i32_w]
              rfl
             refine pure_ (i := 4) (N := some 63) (v := ?_) (a' := ?_) #[true, false, true, false, true, false, false, false, false, false, false, false, false, false, false, false, false] rfl rfl (any_of HT_.out (by kernel_rfl)) (fun _ _ _ h => h) (Or.inl ⟨by rfl, ?_⟩) ?_ ?_
             rotate_left
             ·intro w'
              go_simp
              (try simp only [hji22t, hm3])
              with_reducible rfl
             rotate_left
             ·simp only [Act.put, List.setIfInBounds_toArray, List.set_cons_zero, List.set_cons_succ, i64_w, i32_w]
              rfl
             refine pure_ (i := 5) (N := some 64) (v := ?_) (a' := ?_) #[true, false, true, false, true, true, false, false, false, false, false, false, false, false, false, false, false] rfl rfl (any_of HT_.out (by kernel_rfl)) (fun _ _ _ h => h) (Or.inl ⟨by rfl, ?_⟩) ?_ ?_
             rotate_left
             ·intro w'
              go_simp
              (try simp only [hji22t, hm3])
              with_reducible rfl
             rotate_left
             ·simp only [Act.put, List.setIfInBounds_toArray, List.set_cons_zero, List.set_cons_succ, i64_w, i32_w]
              rfl
             refine pure_ (i := 6) (N := some 65) (v := ?_) (a' := ?_) #[true, false, true, false, true, true, true, false, false, false, false, false, false, false, false, false, false] rfl rfl (any_of HT_.out (by kernel_rfl)) (fun _ _ _ h => h) (Or.inl ⟨by rfl, ?_⟩) ?_ ?_
             rotate_left
             ·intro w'
              go_simp
              (try simp only [hji22t, hm3])
              with_reducible rfl
             rotate_left
             ·simp only [Act.put, List.setIfInBounds_toArray, List.set_cons_zero, List.set_cons_succ, i64_w, i32_w]
              rfl
             refine pure_ (i := 7) (N := some 66) (v := ?_) (a' := ?_) #[true, false, true, false, true, true, true, true, false, false, false, false, false, false, false, false, false] rfl rfl (any_of HT_.out (by kernel_rfl)) (fun _ _ _ h => h) (Or.inl ⟨by rfl, ?_⟩) ?_ ?_
             rotate_left
             ·intro w'
              go_simp
              (try simp only [hji22t, hm3])
              with_reducible rfl
             rotate_left
             ·simp only [Act.put, List.setIfInBounds_toArray, List.set_cons_zero, List.set_cons_succ, i64_w, i32_w]
              rfl
             refine pure_ (i := 9) (N := some 68) (v := ?_) (a' := ?_) #[true, false, true, false, true, true, true, true, false, true, false, false, false, false, false, false, false] rfl rfl (any_of HT_.out (by kernel_rfl)) (fun _ _ _ h => h) (Or.inl ⟨by rfl, ?_⟩) ?_ ?_
             rotate_left
             ·intro w'
              go_simp
              (try simp only [hji22t, hm3])
              with_reducible rfl
             rotate_left
             ·simp only [Act.put, List.setIfInBounds_toArray, List.set_cons_zero, List.set_cons_succ, i64_w, i32_w]
              rfl
             refine pure_ (i := 10) (N := some 69) (v := ?_) (a' := ?_) #[true, false, true, false, true, true, true, true, false, true, true, false, false, false, false, false, false] rfl rfl (any_of HT_.out (by kernel_rfl)) (fun _ _ _ h => h) (Or.inl ⟨by rfl, ?_⟩) ?_ ?_
             rotate_left
             ·intro w'
              go_simp
              (try simp only [hji22t, hm3])
              with_reducible rfl
             rotate_left
             ·simp only [Act.put, List.setIfInBounds_toArray, List.set_cons_zero, List.set_cons_succ, i64_w, i32_w]
              rfl
             refine pure_ (i := 11) (N := some 70) (v := ?_) (a' := ?_) #[true, false, true, false, true, true, true, true, false, true, true, true, false, false, false, false, false] rfl rfl (any_of HT_.out (by kernel_rfl)) (fun _ _ _ h => h) (Or.inl ⟨by rfl, ?_⟩) ?_ ?_
             rotate_left
             ·intro w'
              go_simp
              (try simp only [hji22t, hm3])
              with_reducible rfl
             rotate_left
             ·simp only [Act.put, List.setIfInBounds_toArray, List.set_cons_zero, List.set_cons_succ, i64_w, i32_w]
              rfl
             refine pure_ (i := 12) (N := some 71) (v := ?_) (a' := ?_) #[true, false, true, false, true, true, true, true, false, true, true, true, true, false, false, false, false] rfl rfl (any_of HT_.out (by kernel_rfl)) (fun _ _ _ h => h) (Or.inl ⟨by rfl, ?_⟩) ?_ ?_
             rotate_left
             ·intro w'
              go_simp
              (try simp only [hji22t, hm3])
              with_reducible rfl
             rotate_left
             ·simp only [Act.put, List.setIfInBounds_toArray, List.set_cons_zero, List.set_cons_succ, i64_w, i32_w]
              rfl
             refine take_ (i := 8) (N := some 67) (v := ?_) (a' := ?_) #[true, false, true, false, true, true, true, true, true, true, true, true, true, false, false, false, false] rfl rfl (take_ofW HT_.out HW_.out (by kernel_rfl)) (fun _ _ _ h => h) (Or.inl ⟨by rfl, ?_⟩) hHeld ?_ ?_
             rotate_left
             ·rintro w' ⟨s0, s1, s2, s3⟩
              go_simp
              (try simp only [hji22t, hm3])
              with_reducible rfl
             rotate_left
             ·simp only [Act.put, List.setIfInBounds_toArray, List.set_cons_zero, List.set_cons_succ, i64_w, i32_w]
              rfl
             refine take_ (i := 13) (N := some 72) (v := ?_) (a' := ?_) #[true, false, true, false, true, true, true, true, true, true, true, true, true, true, false, false, false] rfl rfl (take_ofW HT_.out HW_.out (by kernel_rfl)) (fun _ _ _ h => h) (Or.inl ⟨by rfl, ?_⟩) hHeld ?_ ?_
             rotate_left
             ·rintro w' ⟨s0, s1, s2, s3⟩
              go_simp
              (try simp only [hji22t, hm3])
              with_reducible rfl
             rotate_left
             ·simp only [Act.put, List.setIfInBounds_toArray, List.set_cons_zero, List.set_cons_succ, i64_w, i32_w]
              rfl
             refine pure_ (i := 14) (N := some 73) (v := ?_) (a' := ?_) #[true, false, true, false, true, true, true, true, true, true, true, true, true, true, true, false, false] rfl rfl (any_of HT_.out (by kernel_rfl)) (fun _ _ _ h => h) (Or.inl ⟨by rfl, ?_⟩) ?_ ?_
             rotate_left
             ·intro w'
              go_simp
              (try simp only [hji22t, hm3])
              with_reducible rfl
             rotate_left
             ·simp only [Act.put, List.setIfInBounds_toArray, List.set_cons_zero, List.set_cons_succ, i64_w, i32_w]
              rfl
             refine one_ (i := 1) (N := some 60) #[true, true, true, false, true, true, true, true, true, true, true, true, true, true, true, false, false] rfl rfl (one_of HT_.out (by kernel_rfl)) (by decide) (fun K hK => ?_)
             refine goes_ Try.func16 (by kernel_rfl) rfl #[.slice (some ⟨go29, 0, none⟩) y289.length co29] (by rfl) rfl rfl (by (try simp only [List.map_toArray, List.map_cons, List.map_nil]); first | done | (rw [show y289.length = y284.length from (Kd.R_reads' HO286.out).1.symm] <;> rfl) | rfl | (simp only [List.length_drop, List.length_take]; rfl)) ?_
             with_reducible refine (impl_BitPut.calls kj2 _ _ y289 t290 _ ?side1 ?side2 A30.out).mono ?_
             (case side1 => repeat (first | exact (Kd.R_reads' HO286.out).2.2 | (with_reducible refine Kd.C_alloc ?_ _) | (with_reducible refine Kd.C_drewN ?_ _) | (with_reducible refine Kd.C_drew ?_)))
             (case side2 => rw [show y289.length = y284.length from (Kd.R_reads' HO286.out).1.symm]; exact (Kd.R_reads' HO286.out).2.1)
             rintro e w45 ⟨v291, rfl, ho0, hb⟩
             have HS0_ := (hb.cell (World.block_lt_of_cell? _ _ (hHeld.1))).trans (hHeld.1)
             have HS1_ := (hb.cell (World.block_lt_of_cell? _ _ (hHeld.2.1))).trans (hHeld.2.1)
             have HS2_ := (hb.cell (World.block_lt_of_cell? _ _ (hHeld.2.2.1))).trans (hHeld.2.2.1)
             have HS3_ := (hb.cell (World.block_lt_of_cell? _ _ (hHeld.2.2.2))).trans (hHeld.2.2.2)
             refine ⟨_, rfl, ?_⟩
             have n0_ := Aside0.mk (Kd.R_below (by (with_reducible repeat (first | apply Kd.R_alloc | apply Kd.R_drewN | apply Kd.R_drew)); exact HO272.out) hb)
             have n1_ := Aside0.mk (Kd.R_elder' (by (with_reducible repeat (first | apply Kd.R_alloc | apply Kd.R_drewN | apply Kd.R_drew)); exact HO275.out) (Kd.R_base ho0) hb)
             have n2_ := Aside0.mk (Kd.R_elder' (by (with_reducible repeat (first | apply Kd.R_alloc | apply Kd.R_drewN | apply Kd.R_drew)); exact HO278.out) (Kd.R_base ho0) hb)
             have n3_ := Aside0.mk (Kd.R_below (by (with_reducible repeat (first | apply Kd.R_alloc | apply Kd.R_drewN | apply Kd.R_drew)); exact HO286.out) hb)
             have n4_ := Aside0.mk (Kd.R_lower (Kd.R_new' (Kd.R_new' ho0 (Kd.R_lt (by (with_reducible repeat (first | apply Kd.R_alloc | apply Kd.R_drewN | apply Kd.R_drew)); exact HO275.out))) (Kd.R_lt (by (with_reducible repeat (first | apply Kd.R_alloc | apply Kd.R_drewN | apply Kd.R_drew)); exact HO278.out))) (below_size (by repeat (first | (with_reducible first | exact HB.out | apply below_alloc | apply pw_below_drewN | apply below_drew1) | exact HB.out))))
             have n5_ := Aside0.mk (below_step (by repeat (first | (with_reducible first | exact HB.out | apply below_alloc | apply pw_below_drewN | apply below_drew1) | exact HB.out)) hb)
             clear HO272
             clear HO275
             clear HO278
             clear HO286
             clear HB
             have HO272 := n0_
             have HO275 := n1_
             have HO278 := n2_
             have HO286 := n3_
             have HO292 := n4_
             have HB := n5_
             clear n0_ n1_ n2_ n3_ n4_ n5_
             (try clear hb)
             (try clear hb2)
             (try clear hk)
             (try clear hi)
             (try clear ho0)
             obtain ⟨Ao46, co46, eo46⟩ := Kd.R_slice HO292.out
             (first | subst eo46 | (injection eo46 with f1_ f2_ f3_; have f4_ := f1_.symm; have f5_ := f3_.symm; clear f1_ f2_ f3_; subst f4_; subst f5_))
             refine hK.out _ _ ⟨HS0_, HS1_, HS2_, HS3_⟩ (fun hHeld => ?_)
             clear hK K
             refine norm_ (a' := ?_) ?_ ?_
             rotate_left
             ·show Act.put _ (some 60) _ = _
              simp only [Act.put, List.setIfInBounds_toArray, List.set_cons_zero, List.set_cons_succ, i64_w, i32_w]
              rfl
             refine one_ (i := 3) (N := some 62) #[true, true, true, true, true, true, true, true, true, true, true, true, true, true, true, false, false] rfl rfl (one_of HT_.out (by kernel_rfl)) (by decide) (fun K hK => ?_)
             refine goes_ Try.func23 (by kernel_rfl) rfl #[.slice Ao46 t290.length co46, .slice Ao36 t273.length co36] (by rfl) rfl rfl (by (try simp only [List.map_toArray, List.map_cons, List.map_nil]); first | done | rfl | (simp only [List.length_drop, List.length_take]; rfl)) ?_
             with_reducible refine (laws_eaBytes.calls _ _ t290 _ _ t273 t293 _ ?side1 ?side2 ?side3 ?side4 A31.out).mono ?_
             (case side1 => repeat (first | exact (Kd.R_reads' HO292.out).2.2 | (with_reducible refine Kd.C_alloc ?_ _) | (with_reducible refine Kd.C_drewN ?_ _) | (with_reducible refine Kd.C_drew ?_)))
             (case side2 => exact (Kd.R_reads' HO292.out).2.1)
             (case side3 => repeat (first | exact (Kd.R_reads' HO275.out).2.2 | (with_reducible refine Kd.C_alloc ?_ _) | (with_reducible refine Kd.C_drewN ?_ _) | (with_reducible refine Kd.C_drew ?_)))
             (case side4 => exact (Kd.R_reads' HO275.out).2.1)
             rintro e w' ⟨rfl, ⟨nd, rfl⟩⟩
             refine ⟨_, rfl, ?_⟩
             refine hK.out _ _ ⟨hHeld.1, hHeld.2.1, hHeld.2.2.1, hHeld.2.2.2⟩ (fun hHeld => ?_)
             clear hK K
             refine norm_ (a' := ?_) ?_ ?_
             rotate_left
             ·show Act.put _ (some 62) _ = _
              simp only [Act.put, List.setIfInBounds_toArray, List.set_cons_zero, List.set_cons_succ, i64_w, i32_w]
              rfl
             refine pure_ (i := 15) (N := some 74) (v := ?_) (a' := ?_) #[true, true, true, true, true, true, true, true, true, true, true, true, true, true, true, true, false] rfl rfl (any_of HT_.out (by kernel_rfl)) (fun _ _ _ h => h) (Or.inl ⟨by rfl, ?_⟩) ?_ ?_
             rotate_left
             ·intro w'
              go_simp
              (try simp only [hji22t, hm3])
              with_reducible rfl
             rotate_left
             ·simp only [Act.put, List.setIfInBounds_toArray, List.set_cons_zero, List.set_cons_succ, i64_w, i32_w]
              rfl
             refine pure_ (i := 16) (N := some 4) (v := ?_) (a' := ?_) #[true, true, true, true, true, true, true, true, true, true, true, true, true, true, true, true, true] rfl rfl (any_of HT_.out (by kernel_rfl)) (fun _ _ _ h => h) (Or.inl ⟨by rfl, ?_⟩) ?_ ?_
             rotate_left
             ·intro w'
              go_simp
              (try simp only [hji22t, hm3])
              with_reducible rfl
             rotate_left
             ·simp only [Act.put, List.setIfInBounds_toArray, List.set_cons_zero, List.set_cons_succ, i64_w, i32_w]
              rfl
             refine done_ (done_of HT_.out (by kernel_rfl)) ?_
             try go_wp2
             go_ret
             exact ⟨by first | rfl | (simp [errW_none, errW_some] <;> rfl) | (simp only [← hji22, ← hji26]; first | rfl | (simp [errW_none, errW_some] <;> rfl)) | (simp [*, errW_none, errW_some] <;> rfl), by repeat (first | (with_reducible first | exact HB.out | apply below_alloc | apply pw_below_drewN | apply below_drew1) | exact HB.out)⟩
            ·rw [if_neg c28] at H
             exact absurd H (by simp)
          ·rw [if_neg c25] at H
           exact absurd H (by simp)
         ·rw [if_neg c24] at H
          exact absurd H (by simp)
        ·rw [if_neg c23] at H
         exact absurd H (by simp)
       ·rw [if_neg c21] at H
        exact absurd H (by simp)
    ·replace c10 := Bool.eq_false_iff.mpr c10
     subst c10
     have H1 : (none) = some r := by rw [if_neg (show ¬ (false = true) by decide)] at H; exact H
     clear H
     have H := H1
     clear H1
     exact absurd H (by simp)

/-- THE ONE PURE STATEMENT of laws_FnBitApart: yours. -/
def laws_FnBitApart.Pure : Prop := ∀ (l0 : List Int) (l1 : List Int), l0.length ≤ maxLen → l0.length * 1 ≤ 140737488351232 → (∀ x ∈ l0, (Lit.int .u8 x).wf = true) → l1.length ≤ maxLen → l1.length * 1 ≤ 140737488351232 → (∀ x ∈ l1, (Lit.int .u8 x).wf = true) → ∃ k, laws_FnBitApart.f k l0 l1 = some true
theorem laws_FnBitApart.walk (P : laws_FnBitApart.Pure) (a0 : Option Addr) (len0 cap0 : Nat) (z0 : List Int) (a1 : Option Addr) (len1 cap1 : Nat) (z1 : List Int) (w : World) (w0 : (a0 = none ∧ len0 = 0 ∧ cap0 = 0 ∧ z0 = []) ∨ ∃ x, a0 = some x ∧ len0 ≤ cap0 ∧ cap0 ≤ maxLen ∧ z0.length = cap0 ∧ (∀ i, i < z0.length → w.cell? (x.add i) = some (.int .u8 (z0.getD i 0))) ∧ ∀ n ∈ z0, (Lit.int .u8 n).wf = true) (y0 : len0 * 1 ≤ 140737488351232) (w1 : (a1 = none ∧ len1 = 0 ∧ cap1 = 0 ∧ z1 = []) ∨ ∃ x, a1 = some x ∧ len1 ≤ cap1 ∧ cap1 ≤ maxLen ∧ z1.length = cap1 ∧ (∀ i, i < z1.length → w.cell? (x.add i) = some (.int .u8 (z1.getD i 0))) ∧ ∀ n ∈ z1, (Lit.int .u8 n).wf = true) (y1 : len1 * 1 ≤ 140737488351232) :
  Calls Try.prog 5 #[.slice a0 len0 cap0, .slice a1 len1 cap1] w fun e w' => e = .returned (.bool true) ∧ Below w.heap.size w w' := by
 obtain ⟨l0, rfl, hr0, hm0, hw0, hc0⟩ := ReadsInt.ofRowC w0
 obtain ⟨l1, rfl, hr1, hm1, hw1, hc1⟩ := ReadsInt.ofRowC w1
 obtain ⟨k, h⟩ := P l0 l1 hm0 y0 hw0 hm1 y1 hw1
 refine (laws_FnBitApart.calls k _ _ l0 _ _ l1 true w (Kd.C_of_reads (d := (0 : Int)) (h1 := fun _ => rfl) hr0) hc0 (Kd.C_of_reads (d := (0 : Int)) (h1 := fun _ => rfl) hr1) hc1 h).mono ?_
 rintro e w' ⟨rfl, hd⟩
 exact ⟨rfl, hd⟩

end Go.Proofs.Ytfnkaccncmjnaaa.X
