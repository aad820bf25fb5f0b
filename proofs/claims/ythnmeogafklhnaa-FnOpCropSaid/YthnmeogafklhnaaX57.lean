/- Functions of the given program as plain Lean functions, and for each the proof that the machine's call comes to what its function says. No condition but what each theorem states. Written by a program of this session. -/
import Derived.Test.YthnmeogafklhnaaX0
import Derived.Test.YthnmeogafklhnaaX2
import Derived.Test.YthnmeogafklhnaaX9
import Derived.Test.YthnmeogafklhnaaX15
import Derived.Test.YthnmeogafklhnaaX32
import Derived.Test.YthnmeogafklhnaaX44
import Derived.Test.YthnmeogafklhnaaX45
import Derived.Test.YthnmeogafklhnaaX48
import Derived.Test.YthnmeogafklhnaaX51
namespace Go.Proofs.Ythnmeogafklhnaa.X
open Go.RowKit Go.Proofs.YthnmeogafklhnaaW.PrintWords Go.Proofs.YthnmeogafklhnaaW.PrintLast Go.Proofs.YthnmeogafklhnaaW.PrintMore Go.Proofs.Ythnmeogafklhnaa.Hyb
attribute [local go_sem] max2_int min2_int max_two min_two max_three min_three max_four min_four   -- for this text's walks alone
set_option linter.unusedVariables false
set_option linter.unusedSimpArgs false

attribute [local go_sem high] eqA38
/-! ### laws_FnOpCrop: function 11 -/
mutual
def laws_FnOpCrop.j0 : Nat → List Int → List Int → Bool → Option (Bool)
 | 0, _, _, _ => none
 | k + 1, x0, x1, x26 => if x26 = true then (some true) else ((spec_DrawOpDo.f k x0).bind fun bt912 => ((spec_RasOk.f k bt912.1 bt912.2.1 bt912.2.2.1).bind fun t924 => (if t924 = true then (if bt912.1 = 0 then (none) else (if bt912.2.1 = 0 then (none) else (if (wrap64 (bt912.1 - ((x1.length : Int) % bt912.1))) = 0 then (none) else (if (wrap64 (bt912.2.1 - (Int.tmod (wrap64 ((x1.length : Int) / 7)) bt912.2.1))) = 0 then (none) else ((laws_eaDo.f k bt912.1 bt912.2.1 bt912.2.2.1 (([(⟨1, (x1.length : Int) % bt912.1, Int.tmod (wrap64 ((x1.length : Int) / 7)) bt912.2.1, wrap64 (1 + (Int.tmod (wrap64 ((x1.length : Int) / 3)) (wrap64 (bt912.1 - ((x1.length : Int) % bt912.1))))), wrap64 (1 + (Int.tmod (wrap64 ((x1.length : Int) / 5)) (wrap64 (bt912.2.1 - (Int.tmod (wrap64 ((x1.length : Int) / 7)) bt912.2.1)))))⟩ : S27)] : List (S27)))).bind fun bt930 => (laws_FnOpCrop.l0 k (x1.length : Int) ((x1.length : Int) % bt912.1) (Int.tmod (wrap64 ((x1.length : Int) / 7)) bt912.2.1) (wrap64 (1 + (Int.tmod (wrap64 ((x1.length : Int) / 3)) (wrap64 (bt912.1 - ((x1.length : Int) % bt912.1)))))) (wrap64 (1 + (Int.tmod (wrap64 ((x1.length : Int) / 5)) (wrap64 (bt912.2.1 - (Int.tmod (wrap64 ((x1.length : Int) / 7)) bt912.2.1)))))) 0 bt912.1 bt912.2.1 bt912.2.2.1 bt930.1 bt930.2.1 bt930.2.2)))))) else ((impl_RasOk.f k bt912.1 bt912.2.1 bt912.2.2.1).bind fun t925 => (if t925 = true then (none) else ((laws_eaOk.f).bind fun t926 => (some t926)))))))
def laws_FnOpCrop.l0 : Nat → Int → Int → Int → Int → Int → Int → Int → Int → List (S38) → Int → Int → List (S38) → Option (Bool)
 | 0, _, _, _, _, _, _, _, _, _, _, _, _ => none
 | k + 1, x7, x8, x9, x10, x11, x13, x923000, x923001, x923002, x936000, x936001, x936002 => if x13 < x11 then (laws_FnOpCrop.l1 k x7 x8 x9 x10 x11 x13 0 x923000 x923001 x923002 x936000 x936001 x936002) else (if x10 = 0 then (none) else (if x11 = 0 then (none) else ((laws_eaDo.f k x936000 x936001 x936002 (([(⟨1, Int.tmod (wrap64 (Int.tdiv x7 11)) x10, Int.tmod (wrap64 (Int.tdiv x7 13)) x11, wrap64 (x10 - (Int.tmod (wrap64 (Int.tdiv x7 11)) x10)), wrap64 (x11 - (Int.tmod (wrap64 (Int.tdiv x7 13)) x11))⟩ : S27)] : List (S27)))).bind fun bt947 => ((laws_eaDo.f k x923000 x923001 x923002 (([(⟨1, wrap64 (x8 + (Int.tmod (wrap64 (Int.tdiv x7 11)) x10)), wrap64 (x9 + (Int.tmod (wrap64 (Int.tdiv x7 13)) x11)), wrap64 (x10 - (Int.tmod (wrap64 (Int.tdiv x7 11)) x10)), wrap64 (x11 - (Int.tmod (wrap64 (Int.tdiv x7 13)) x11))⟩ : S27)] : List (S27)))).bind fun bt956 => ((impl_RasOk.f k x936000 x936001 x936002).bind fun t962 => (if t962 = true then ((laws_eaRas.f k bt947.1 bt947.2.1 bt947.2.2 bt956.1 bt956.2.1 bt956.2.2).bind fun t963 => (if t963 = true then ((laws_eaDo.f k x923000 x923001 x923002 (([(⟨1, 0, 0, x923000, x923001⟩ : S27)] : List (S27)))).bind fun bt967 => ((laws_eaRas.f k bt967.1 bt967.2.1 bt967.2.2 x923000 x923001 x923002).bind fun t972 => (some t972))) else (none))) else (none)))))))
def laws_FnOpCrop.l1 : Nat → Int → Int → Int → Int → Int → Int → Int → Int → Int → List (S38) → Int → Int → List (S38) → Option (Bool)
 | 0, _, _, _, _, _, _, _, _, _, _, _, _, _ => none
 | k + 1, x7, x8, x9, x10, x11, x13, x14, x923000, x923001, x923002, x936000, x936001, x936002 => if x14 < x10 then ((impl_RasAt.f k x936000 x936001 x936002 x14 x13).bind fun bt936 => ((impl_RasAt.f k x923000 x923001 x923002 (wrap64 (x8 + x14)) (wrap64 (x9 + x13))).bind fun bt940 => (if (!(bt936.1 == bt940.1) || (!(bt936.2.1 == bt940.2.1) || (!(bt936.2.2.1 == bt940.2.2.1) || (!(bt936.2.2.2 == bt940.2.2.2))))) = true then (none) else (laws_FnOpCrop.l1 k x7 x8 x9 x10 x11 x13 (wrap64 (x14 + 1)) x923000 x923001 x923002 x936000 x936001 x936002)))) else (laws_FnOpCrop.l0 k x7 x8 x9 x10 x11 (wrap64 (x13 + 1)) x923000 x923001 x923002 x936000 x936001 x936002)
end
def laws_FnOpCrop.f (k : Nat) (l0 : List Int) (l1 : List Int) : Option (Bool) := if (l0.length : Int) > 1048576 then (laws_FnOpCrop.j0 k l0 l1 true) else (laws_FnOpCrop.j0 k l0 l1 (decide ((l1.length : Int) > 1048576)))
theorem laws_FnOpCrop.mono_l : ∀ k, (∀ y0 y1 y2, LeO (laws_FnOpCrop.j0 k y0 y1 y2) (laws_FnOpCrop.j0 (k + 1) y0 y1 y2)) ∧ (∀ y0 y1 y2 y3 y4 y5 y6 y7 y8 y9 y10 y11, LeO (laws_FnOpCrop.l0 k y0 y1 y2 y3 y4 y5 y6 y7 y8 y9 y10 y11) (laws_FnOpCrop.l0 (k + 1) y0 y1 y2 y3 y4 y5 y6 y7 y8 y9 y10 y11)) ∧ (∀ y0 y1 y2 y3 y4 y5 y6 y7 y8 y9 y10 y11 y12, LeO (laws_FnOpCrop.l1 k y0 y1 y2 y3 y4 y5 y6 y7 y8 y9 y10 y11 y12) (laws_FnOpCrop.l1 (k + 1) y0 y1 y2 y3 y4 y5 y6 y7 y8 y9 y10 y11 y12))
 | 0 => ⟨(fun _ _ _ r h => nomatch (show none = some r from h)), (fun _ _ _ _ _ _ _ _ _ _ _ _ r h => nomatch (show none = some r from h)), (fun _ _ _ _ _ _ _ _ _ _ _ _ _ r h => nomatch (show none = some r from h))⟩
 | k + 1 => by
  obtain ⟨ih0, ih1, ih2⟩ := laws_FnOpCrop.mono_l k
  refine ⟨?_, ?_, ?_⟩
  ·intro y0 y1 y2
   unfold laws_FnOpCrop.j0
   repeat' first
   | (with_reducible exact ih0 _ _ _)
   | (with_reducible exact ih1 _ _ _ _ _ _ _ _ _ _ _ _)
   | (with_reducible exact ih2 _ _ _ _ _ _ _ _ _ _ _ _ _)
   | (with_reducible exact impl_RasAt.mono _ _ _ _ _ _)
   | (with_reducible exact impl_RasOk.mono _ _ _ _)
   | (with_reducible exact laws_eaDo.mono _ _ _ _ _)
   | (with_reducible exact laws_eaRas.mono _ _ _ _ _ _ _)
   | (with_reducible exact spec_DrawOpDo.mono _ _)
   | (with_reducible exact spec_RasOk.mono _ _ _ _)
   | (with_reducible exact LeO.refl _)
   | (with_reducible exact LeO.none _)
   | (with_reducible refine LeO.ite ?_ ?_)
   | (with_reducible refine LeO.bind ?_ (fun _ => ?_))
   | exact ih0 _ _ _
   | exact ih1 _ _ _ _ _ _ _ _ _ _ _ _
   | exact ih2 _ _ _ _ _ _ _ _ _ _ _ _ _
   | exact impl_RasAt.mono _ _ _ _ _ _
   | exact impl_RasOk.mono _ _ _ _
   | exact laws_eaDo.mono _ _ _ _ _
   | exact laws_eaRas.mono _ _ _ _ _ _ _
   | exact spec_DrawOpDo.mono _ _
   | exact spec_RasOk.mono _ _ _ _
   | exact LeO.none _
   | refine LeO.ite ?_ ?_
   | refine LeO.bind ?_ (fun _ => ?_)
  ·intro y0 y1 y2 y3 y4 y5 y6 y7 y8 y9 y10 y11
   unfold laws_FnOpCrop.l0
   repeat' first
   | (with_reducible exact ih0 _ _ _)
   | (with_reducible exact ih1 _ _ _ _ _ _ _ _ _ _ _ _)
   | (with_reducible exact ih2 _ _ _ _ _ _ _ _ _ _ _ _ _)
   | (with_reducible exact impl_RasAt.mono _ _ _ _ _ _)
   | (with_reducible exact impl_RasOk.mono _ _ _ _)
   | (with_reducible exact laws_eaDo.mono _ _ _ _ _)
   | (with_reducible exact laws_eaRas.mono _ _ _ _ _ _ _)
   | (with_reducible exact spec_DrawOpDo.mono _ _)
   | (with_reducible exact spec_RasOk.mono _ _ _ _)
   | (with_reducible exact LeO.refl _)
   | (with_reducible exact LeO.none _)
   | (with_reducible refine LeO.ite ?_ ?_)
   | (with_reducible refine LeO.bind ?_ (fun _ => ?_))
   | exact ih0 _ _ _
   | exact ih1 _ _ _ _ _ _ _ _ _ _ _ _
   | exact ih2 _ _ _ _ _ _ _ _ _ _ _ _ _
   | exact impl_RasAt.mono _ _ _ _ _ _
   | exact impl_RasOk.mono _ _ _ _
   | exact laws_eaDo.mono _ _ _ _ _
   | exact laws_eaRas.mono _ _ _ _ _ _ _
   | exact spec_DrawOpDo.mono _ _
   | exact spec_RasOk.mono _ _ _ _
   | exact LeO.none _
   | refine LeO.ite ?_ ?_
   | refine LeO.bind ?_ (fun _ => ?_)
  ·intro y0 y1 y2 y3 y4 y5 y6 y7 y8 y9 y10 y11 y12
   unfold laws_FnOpCrop.l1
   repeat' first
   | (with_reducible exact ih0 _ _ _)
   | (with_reducible exact ih1 _ _ _ _ _ _ _ _ _ _ _ _)
   | (with_reducible exact ih2 _ _ _ _ _ _ _ _ _ _ _ _ _)
   | (with_reducible exact impl_RasAt.mono _ _ _ _ _ _)
   | (with_reducible exact impl_RasOk.mono _ _ _ _)
   | (with_reducible exact laws_eaDo.mono _ _ _ _ _)
   | (with_reducible exact laws_eaRas.mono _ _ _ _ _ _ _)
   | (with_reducible exact spec_DrawOpDo.mono _ _)
   | (with_reducible exact spec_RasOk.mono _ _ _ _)
   | (with_reducible exact LeO.refl _)
   | (with_reducible exact LeO.none _)
   | (with_reducible refine LeO.ite ?_ ?_)
   | (with_reducible refine LeO.bind ?_ (fun _ => ?_))
   | exact ih0 _ _ _
   | exact ih1 _ _ _ _ _ _ _ _ _ _ _ _
   | exact ih2 _ _ _ _ _ _ _ _ _ _ _ _ _
   | exact impl_RasAt.mono _ _ _ _ _ _
   | exact impl_RasOk.mono _ _ _ _
   | exact laws_eaDo.mono _ _ _ _ _
   | exact laws_eaRas.mono _ _ _ _ _ _ _
   | exact spec_DrawOpDo.mono _ _
   | exact spec_RasOk.mono _ _ _ _
   | exact LeO.none _
   | refine LeO.ite ?_ ?_
   | refine LeO.bind ?_ (fun _ => ?_)
theorem laws_FnOpCrop.mono : ∀ a0 a1 k, LeO (laws_FnOpCrop.f k a0 a1) (laws_FnOpCrop.f (k + 1) a0 a1) := by
 intro a0 a1 k
 obtain ⟨ih0, ih1, ih2⟩ := laws_FnOpCrop.mono_l k
 unfold laws_FnOpCrop.f
 repeat' first
   | (with_reducible exact ih0 _ _ _)
   | (with_reducible exact ih1 _ _ _ _ _ _ _ _ _ _ _ _)
   | (with_reducible exact ih2 _ _ _ _ _ _ _ _ _ _ _ _ _)
   | (with_reducible exact impl_RasAt.mono _ _ _ _ _ _)
   | (with_reducible exact impl_RasOk.mono _ _ _ _)
   | (with_reducible exact laws_eaDo.mono _ _ _ _ _)
   | (with_reducible exact laws_eaRas.mono _ _ _ _ _ _ _)
   | (with_reducible exact spec_DrawOpDo.mono _ _)
   | (with_reducible exact spec_RasOk.mono _ _ _ _)
   | (with_reducible exact LeO.refl _)
   | (with_reducible exact LeO.none _)
   | (with_reducible refine LeO.ite ?_ ?_)
   | (with_reducible refine LeO.bind ?_ (fun _ => ?_))
   | exact ih0 _ _ _
   | exact ih1 _ _ _ _ _ _ _ _ _ _ _ _
   | exact ih2 _ _ _ _ _ _ _ _ _ _ _ _ _
   | exact impl_RasAt.mono _ _ _ _ _ _
   | exact impl_RasOk.mono _ _ _ _
   | exact laws_eaDo.mono _ _ _ _ _
   | exact laws_eaRas.mono _ _ _ _ _ _ _
   | exact spec_DrawOpDo.mono _ _
   | exact spec_RasOk.mono _ _ _ _
   | exact LeO.none _
   | refine LeO.ite ?_ ?_
   | refine LeO.bind ?_ (fun _ => ?_)
def laws_FnOpCrop.T18 : Bool × List (List Nat × List Nat) := (true, [([], []), ([], []), ([], []), ([0, 1, 2], [0, 1, 2]), ([], []), ([], []), ([], []), ([5, 6], [5, 6]), ([], []), ([], []), ([8, 9], [8, 9]), ([4, 7, 10, 3], [4, 7, 10]), ([3, 11], [3, 11])])
def laws_FnOpCrop.B18 : List Nat := [0, 0, 0, 7, 0, 0, 0, 96, 0, 0, 768, 2047, 4095]
theorem laws_FnOpCrop.tab18 : rtab .any (opsOf Try.f11 18) = laws_FnOpCrop.T18 := by kernel_rfl
theorem laws_FnOpCrop.bits18 : waitsOk laws_FnOpCrop.T18.2 laws_FnOpCrop.B18 = true := by kernel_rfl
def laws_FnOpCrop.T24 : Bool × List (List Nat × List Nat) := (true, [([], []), ([0], [0]), ([1, 1], [1]), ([2], [2]), ([2], [2]), ([3, 4, 2, 2], [2, 3, 4]), ([2, 5], [2, 5]), ([6, 5], [6]), ([7], [7]), ([7], [7]), ([9, 7], [7, 9]), ([7], [7]), ([11, 7], [7, 11]), ([10, 12, 7], [7, 10, 12]), ([13, 7], [7, 13]), ([8, 14, 7, 7], [7, 8, 14]), ([7], [7]), ([15, 16, 15, 7], [7, 15, 16]), ([7, 17], [7, 17]), ([18, 17, 0, 1, 2, 3, 4, 5, 6, 7, 8, 9, 10, 11, 12, 13, 14, 15, 16, 17, 18], [18])])
def laws_FnOpCrop.B24 : List Nat := [0, 1, 3, 7, 7, 31, 63, 127, 255, 255, 767, 255, 2303, 7935, 16127, 32767, 255, 131071, 262143, 524287]
theorem laws_FnOpCrop.tab24 : rtab .any (opsOf Try.f11 24) = laws_FnOpCrop.T24 := by kernel_rfl
theorem laws_FnOpCrop.bits24 : waitsOk laws_FnOpCrop.T24.2 laws_FnOpCrop.B24 = true := by kernel_rfl
set_option maxHeartbeats 8000000 in
set_option maxRecDepth 100000 in
theorem laws_FnOpCrop.calls (k : Nat) (A0 : Option Addr) (c0 : Nat) (l0 : List Int) (A1 : Option Addr) (c1 : Nat) (l1 : List Int) (r : Bool) (w : World) (hr0 : Kd.C (Kd.int .u8) w A0 l0.length l0) (hc0 : l0.length ≤ c0) (hr1 : Kd.C (Kd.int .u8) w A1 l1.length l1) (hc1 : l1.length ≤ c1) (h : laws_FnOpCrop.f k l0 l1 = some r) :
  Calls Try.prog 11 #[.slice A0 l0.length c0, .slice A1 l1.length c1] w fun e w' => e = .returned (.bool r) ∧ Below w.heap.size w w' := by
 have hu25 := Try.underlying25
 have hu27 := Try.underlying27
 have HR0 := Aside0.mk hr0
 have HC0 := Aside0.mk hc0
 clear hr0 hc0
 have HR1 := Aside0.mk hr1
 have HC1 := Aside0.mk hc1
 clear hr1 hc1
 have HB := Aside0.mk (Below.refl w.heap.size w)
 have H : (if (l0.length : Int) > 1048576 then (laws_FnOpCrop.j0 k l0 l1 true) else (laws_FnOpCrop.j0 k l0 l1 (decide ((l1.length : Int) > 1048576)))) = some r := h
 clear h
 have HC3 := Aside0.mk H
 clear H
 go_enter Try.func11, Try.ntmps11
 go_upto_region 1 with (fail)
 go_cut [26] (fun v26 wc => ∃ (kq : Nat) (x26_2 : Bool), v26 = .bool x26_2 ∧ Aside0 (laws_FnOpCrop.j0 kq l0 l1 x26_2 = some r) ∧ Aside0 (kq ≤ k) ∧ Aside0 (Below w.heap.size w wc))
 case first =>
  have H := HC3.out
  clear HC3
  by_cases c4 : (l0.length : Int) > 1048576
  ·rw [if_pos c4] at H
   have c4b0 : decide (1048576 < (l0.length : Int)) = true := decide_eq_true c4
   have c4b1 : decide (1048576 < l0.length) = true := decide_eq_true (by omega)
   clear c4
   (first | rw [c4b0] | (simp only [i64_w, i32_w]; rw [c4b0]) | skip)
   have H' := Aside0.mk H
   clear H
   go_wp2
   go_meet
   case rel => exact ⟨_, (true), (by first | rfl | (simp; done) | (simp [*]; done)), H', ⟨(by first | omega | exact Nat.le_refl _)⟩, ⟨(oB HB)⟩⟩
  ·rw [if_neg c4] at H
   have c4b0 : decide (1048576 < (l0.length : Int)) = false := decide_eq_false c4
   have c4b1 : decide (1048576 < l0.length) = false := decide_eq_false (by omega)
   clear c4
   (first | rw [c4b0] | (simp only [i64_w, i32_w]; rw [c4b0]) | skip)
   have H' := Aside0.mk H
   clear H
   go_wp2
   go_meet
   case rel => exact ⟨_, (decide ((l1.length : Int) > 1048576)), (by first | rfl | (simp; done) | (simp [*]; done)), H', ⟨(by first | omega | exact Nat.le_refl _)⟩, ⟨(oB HB)⟩⟩
 case rest =>
  clear HC3
  try clear c1
  try clear p2
  try clear c4
  try clear c4b0
  try clear c4b1
  obtain ⟨kq, x26_2, rfl, HA, HJ2, HB⟩ := hcut
  cases kq with
  | zero => exact nomatch (show none = some _ from HA.out)
  | succ kj2 =>
   have H := HA.out
   clear HA
   simp only [laws_FnOpCrop.j0] at H
   by_cases c5 : x26_2 = true
   ·subst c5
    rw [if_pos rfl] at H
    obtain rfl := Option.some.inj H
    go_wp2
    go_ret
    exact ⟨by first | rfl | (simp [errW_none, errW_some] <;> rfl) | (simp [*, errW_none, errW_some] <;> rfl), oB HB⟩
   ·replace c5 := Bool.eq_false_iff.mpr c5
    subst c5
    rw [if_neg (show ¬ (false = true) by decide)] at H
    replace H := Option.bind_eq_some_iff.mp H
    obtain ⟨⟨t912, t913, t914, t917, t918, t919, t920, t921⟩, A60, H⟩ := H
    (try dsimp only at H)
    have A6 := Aside0.mk A60
    clear A60
    replace H := Option.bind_eq_some_iff.mp H
    obtain ⟨t924, A70, H⟩ := H
    (try dsimp only at H)
    have A7 := Aside0.mk A70
    clear A70
    by_cases c8 : t924 = true
    ·subst c8
     rw [if_pos rfl] at H
     by_cases c9 : t912 = 0
     ·rw [if_pos c9] at H
      exact absurd H (by simp)
     ·rw [if_neg c9] at H
      have c9b0 : (t912 == 0) = false := beq_eq_false_iff_ne.mpr c9
      have c9b1 : (t912 != 0) = true := bne_iff_ne.mpr c9
      by_cases c10 : t913 = 0
      ·rw [if_pos c10] at H
       exact absurd H (by simp)
      ·rw [if_neg c10] at H
       have c10b0 : (t913 == 0) = false := beq_eq_false_iff_ne.mpr c10
       have c10b1 : (t913 != 0) = true := bne_iff_ne.mpr c10
       by_cases c11 : (wrap64 (t912 - ((l1.length : Int) % t912))) = 0
       ·rw [if_pos c11] at H
        exact absurd H (by simp)
       ·rw [if_neg c11] at H
        have c11b0 : ((wrap64 (t912 - ((l1.length : Int) % t912))) == 0) = false := beq_eq_false_iff_ne.mpr c11
        have c11b1 : ((wrap64 (t912 - ((l1.length : Int) % t912))) != 0) = true := bne_iff_ne.mpr c11
        by_cases c12 : (wrap64 (t913 - (Int.tmod (wrap64 ((l1.length : Int) / 7)) t913))) = 0
        ·rw [if_pos c12] at H
         exact absurd H (by simp)
        ·rw [if_neg c12] at H
         have c12b0 : ((wrap64 (t913 - (Int.tmod (wrap64 ((l1.length : Int) / 7)) t913))) == 0) = false := beq_eq_false_iff_ne.mpr c12
         have c12b1 : ((wrap64 (t913 - (Int.tmod (wrap64 ((l1.length : Int) / 7)) t913))) != 0) = true := bne_iff_ne.mpr c12
         obtain ⟨y927, hy927⟩ : ∃ y_ : List (S27), y_ = (([(⟨1, (l1.length : Int) % t912, Int.tmod (wrap64 ((l1.length : Int) / 7)) t913, wrap64 (1 + (Int.tmod (wrap64 ((l1.length : Int) / 3)) (wrap64 (t912 - ((l1.length : Int) % t912))))), wrap64 (1 + (Int.tmod (wrap64 ((l1.length : Int) / 5)) (wrap64 (t913 - (Int.tmod (wrap64 ((l1.length : Int) / 7)) t913)))))⟩ : S27)] : List (S27))) := ⟨_, rfl⟩
         replace H : ((laws_eaDo.f kj2 t912 t913 t914 y927).bind fun bt930 => (laws_FnOpCrop.l0 kj2 (l1.length : Int) ((l1.length : Int) % t912) (Int.tmod (wrap64 ((l1.length : Int) / 7)) t913) (wrap64 (1 + (Int.tmod (wrap64 ((l1.length : Int) / 3)) (wrap64 (t912 - ((l1.length : Int) % t912)))))) (wrap64 (1 + (Int.tmod (wrap64 ((l1.length : Int) / 5)) (wrap64 (t913 - (Int.tmod (wrap64 ((l1.length : Int) / 7)) t913)))))) 0 t912 t913 t914 bt930.1 bt930.2.1 bt930.2.2)) = some r := by first | (rw [hy927]; with_reducible exact H) | (have H2_ := (Option.bind_some _ _).symm.trans H; rw [hy927]; with_reducible exact H2_) | (have H2_ := (Option.bind_some _ _).symm.trans H; with_reducible exact H2_) | with_reducible exact H | (rw [hy927]; exact H) | exact H
         have Ny927 := Aside0.mk hy927
         clear hy927
         replace H := Option.bind_eq_some_iff.mp H
         obtain ⟨⟨t930, t931, t932⟩, A130, H⟩ := H
         (try dsimp only at H)
         have A13 := Aside0.mk A130
         clear A130
         have H' := Aside0.mk H
         clear H
         go_wp2_with (first | ((with_reducible refine gate_callee (f := 18) rfl ?_); refine goesL_ (some 29) rfl rfl Try.func18 oK rfl #[.slice A0 l0.length c0] rfl oA ?_; (with_reducible refine (spec_DrawOpDo.calls kj2 _ _ l0 t912 t913 t914 t917 t918 t919 t920 t921 _ ?side1 ?side2 A6.out).mono ?_); (case side1 => repeat (first | exact (Kd.C_below HR0.out HB.out) | (with_reducible refine Kd.C_alloc ?_ _) | (with_reducible refine Kd.C_drewN ?_ _) | (with_reducible refine Kd.C_drew ?_))); (case side2 => exact HC0.out); rintro e w14 ⟨v915, rfl, ho0, hb⟩; refine ⟨_, rfl, ?_⟩; have n_ := o2_ (Kd.Q_lower ho0 (below_size (oB HB))) (o1_ (below_step (oB HB) hb)); clear HB; obtain ⟨HO916, HB⟩ := n_; (try clear hb); (try clear hb2); (try clear hk); (try clear hi); (try clear ho0)) | ((with_reducible refine gate_dst (N := 5) rfl ?_); (try (refine gate_guard (by rfl) ?_; dsimp only)); refine box_event ?hg (N := 5) ?hd (cs := #[.int .i64 0, .int .i64 0, .slice none 0 0]) (t := 25) ?hr ?_; (case hd => rfl); (case hg => rfl); (case hr => first | (go_simp; done) | (go_simp; rfl)); intro gb922 hg w15 hbox hb; have n_ := o2_ (Kd.Q_below (oQ HO916) hb) (o2_ (below_step (oB HB) hb) (o2_ (hbox) (o2_ ((oG hg (below_size (oB HB)) : w.heap.size ≤ gb922)) (o1_ ((oG hg (below_size (oB HB)) : w.heap.size ≤ gb922)))))); clear HO916 HB; obtain ⟨HO916, HB, BK922, GW922, GE922⟩ := n_; clear hb hbox hg) | ((with_reducible refine gate_dst (N := 6) rfl ?_); (try (refine gate_guard (by rfl) ?_; dsimp only)); refine box_event ?hg (N := 6) ?hd (cs := #[.int .i64 0, .int .i64 0, .int .i64 0, .int .i64 0, .int .i64 0]) (t := 27) ?hr ?_; (case hd => rfl); (case hg => rfl); (case hr => first | (go_simp; done) | (go_simp; rfl)); intro gb923 hg w16 hbox hb; have n_ := o2_ (Kd.Q_below (oQ HO916) hb) (o2_ (blk_below (oP BK922) hb) (o2_ (below_step (oB HB) hb) (o2_ (hbox) (o2_ ((oG hg (below_size (oB HB)) : w.heap.size ≤ gb923)) (o2_ ((oG hg (below_size (oB HB)) : w.heap.size ≤ gb923)) (o2_ ((oL hg (blk_lt (oP BK922)))) (o1_ ((oN hg (blk_lt (oP BK922))))))))))); clear HO916 BK922 HB; obtain ⟨HO916, BK922, HB, BK923, GW923, GE923, NB922_923, NB923_922⟩ := n_; clear hb hbox hg; have hnb17 := NB922_923.out; have hnc17 := NB923_922.out; have hcz18_0 : w16.cell? ⟨gb922, 0, none⟩ = some (.int .i64 0) := (blk_cell BK922.out 0).trans rfl; have hcz18_1 : w16.cell? ⟨gb922, 1, none⟩ = some (.int .i64 0) := (blk_cell BK922.out 1).trans rfl; have hcz18_2 : w16.cell? ⟨gb922, 2, none⟩ = some (.slice none 0 0) := (blk_cell BK922.out 2).trans rfl; have hfz18_0 := blk_frozen BK922.out 0; have hfz18_1 := blk_frozen BK922.out 1; have hfz18_2 := blk_frozen BK922.out 2; obtain ⟨Ao19, co19, eo19, _⟩ := Kd.Q_slice HO916.out; subst eo19; have hcz20_0 : w16.cell? ⟨gb923, 0, none⟩ = some (.int .i64 0) := (blk_cell BK923.out 0).trans rfl; have hcz20_1 : w16.cell? ⟨gb923, 1, none⟩ = some (.int .i64 0) := (blk_cell BK923.out 1).trans rfl; have hcz20_2 : w16.cell? ⟨gb923, 2, none⟩ = some (.int .i64 0) := (blk_cell BK923.out 2).trans rfl; have hcz20_3 : w16.cell? ⟨gb923, 3, none⟩ = some (.int .i64 0) := (blk_cell BK923.out 3).trans rfl; have hcz20_4 : w16.cell? ⟨gb923, 4, none⟩ = some (.int .i64 0) := (blk_cell BK923.out 4).trans rfl; have hfz20_0 := blk_frozen BK923.out 0; have hfz20_1 := blk_frozen BK923.out 1; have hfz20_2 := blk_frozen BK923.out 2; have hfz20_3 := blk_frozen BK923.out 3; have hfz20_4 := blk_frozen BK923.out 4) | ((with_reducible refine gate_callee (f := 24) rfl ?_); refine goesL_ (some 33) rfl rfl Try.func24 oK rfl #[.agg #[.int .i64 t912, .int .i64 t913, .slice Ao19 t914.length co19]] rfl oA ?_; (with_reducible refine (spec_RasOk.calls kj2 t912 t913 _ _ t914 true _ ?side1 ?side2 A7.out).mono ?_); (case side1 => refine (Kd.Q_reads' (e := 38) (base := w.heap.size) (ok := fun k_ => True) (n := t914.length) (c := co19) ?_).2.2; exact (by (with_reducible repeat (first | apply Kd.Q_alloc | apply Kd.Q_drewN | apply Kd.Q_drew)); exact (Kd.Q_mono (Kd.Q_mono (Kd.Q_far (p := ⟨gb923, 4, none⟩) (Kd.Q_far (p := ⟨gb923, 3, none⟩) (Kd.Q_far (p := ⟨gb923, 2, none⟩) (Kd.Q_far (p := ⟨gb923, 1, none⟩) (Kd.Q_far (p := ⟨gb923, 0, none⟩) (Kd.Q_far (p := ⟨gb922, 2, none⟩) (Kd.Q_far (p := ⟨gb922, 1, none⟩) (Kd.Q_far (p := ⟨gb922, 0, none⟩) (Kd.Q_types (Kd.Q_types HO916.out BK922.out oD) BK923.out oD) (fun _ hk => hk.1.2) (.int .i64 t912)) (fun _ hk => hk.1.2) (.int .i64 t913)) (fun _ hk => hk.1.2) (.slice Ao19 t914.length co19)) (fun _ hk => hk.2) (.int .i64 t917)) (fun _ hk => hk.2) (.int .i64 t918)) (fun _ hk => hk.2) (.int .i64 t919)) (fun _ hk => hk.2) (.int .i64 t920)) (fun _ hk => hk.2) (.int .i64 t921)) (fun _ h_ => h_.1)) (fun _ h_ => h_.1)))); (case side2 => exact (Kd.Q_reads' HO916.out).2.1); rintro e w21 ⟨rfl, hb⟩; refine ⟨_, rfl, ?_⟩; have n_ := o2_ (Kd.Q_below (by (with_reducible repeat (first | apply Kd.Q_alloc | apply Kd.Q_drewN | apply Kd.Q_drew)); exact (Kd.Q_mono (Kd.Q_mono (Kd.Q_far (p := ⟨gb923, 4, none⟩) (Kd.Q_far (p := ⟨gb923, 3, none⟩) (Kd.Q_far (p := ⟨gb923, 2, none⟩) (Kd.Q_far (p := ⟨gb923, 1, none⟩) (Kd.Q_far (p := ⟨gb923, 0, none⟩) (Kd.Q_far (p := ⟨gb922, 2, none⟩) (Kd.Q_far (p := ⟨gb922, 1, none⟩) (Kd.Q_far (p := ⟨gb922, 0, none⟩) (Kd.Q_types (Kd.Q_types HO916.out BK922.out oD) BK923.out oD) (fun _ hk => hk.1.2) (.int .i64 t912)) (fun _ hk => hk.1.2) (.int .i64 t913)) (fun _ hk => hk.1.2) (.slice Ao19 t914.length co19)) (fun _ hk => hk.2) (.int .i64 t917)) (fun _ hk => hk.2) (.int .i64 t918)) (fun _ hk => hk.2) (.int .i64 t919)) (fun _ hk => hk.2) (.int .i64 t920)) (fun _ hk => hk.2) (.int .i64 t921)) (fun _ h_ => h_.1)) (fun _ h_ => h_.1))) hb) (o2_ (blk_below (g := gb922) (o := .cells #[.int .i64 t912, .int .i64 t913, .slice Ao19 t914.length co19] 25 (0, 0)) (by (with_reducible repeat (first | refine blk_drewN ?_ _ | refine blk_drew ?_ | refine blk_alloc ?_ _)); refine blk_far ?_ NB922_923.out _; (with_reducible repeat (first | refine blk_drewN ?_ _ | refine blk_drew ?_ | refine blk_alloc ?_ _)); refine blk_far ?_ NB922_923.out _; (with_reducible repeat (first | refine blk_drewN ?_ _ | refine blk_drew ?_ | refine blk_alloc ?_ _)); refine blk_far ?_ NB922_923.out _; (with_reducible repeat (first | refine blk_drewN ?_ _ | refine blk_drew ?_ | refine blk_alloc ?_ _)); refine blk_far ?_ NB922_923.out _; (with_reducible repeat (first | refine blk_drewN ?_ _ | refine blk_drew ?_ | refine blk_alloc ?_ _)); refine blk_far ?_ NB922_923.out _; (with_reducible repeat (first | refine blk_drewN ?_ _ | refine blk_drew ?_ | refine blk_alloc ?_ _)); refine blk_put (cs := #[.int .i64 t912, .int .i64 t913, .slice none 0 0]) ?_ 2 _ rfl; (with_reducible repeat (first | refine blk_drewN ?_ _ | refine blk_drew ?_ | refine blk_alloc ?_ _)); refine blk_put (cs := #[.int .i64 t912, .int .i64 0, .slice none 0 0]) ?_ 1 _ rfl; (with_reducible repeat (first | refine blk_drewN ?_ _ | refine blk_drew ?_ | refine blk_alloc ?_ _)); refine blk_put (cs := #[.int .i64 0, .int .i64 0, .slice none 0 0]) ?_ 0 _ rfl; (with_reducible repeat (first | refine blk_drewN ?_ _ | refine blk_drew ?_ | refine blk_alloc ?_ _)); exact BK922.out) hb) (o2_ (blk_below (g := gb923) (o := .cells #[.int .i64 t917, .int .i64 t918, .int .i64 t919, .int .i64 t920, .int .i64 t921] 27 (0, 0)) (by (with_reducible repeat (first | refine blk_drewN ?_ _ | refine blk_drew ?_ | refine blk_alloc ?_ _)); refine blk_put (cs := #[.int .i64 t917, .int .i64 t918, .int .i64 t919, .int .i64 t920, .int .i64 0]) ?_ 4 _ rfl; (with_reducible repeat (first | refine blk_drewN ?_ _ | refine blk_drew ?_ | refine blk_alloc ?_ _)); refine blk_put (cs := #[.int .i64 t917, .int .i64 t918, .int .i64 t919, .int .i64 0, .int .i64 0]) ?_ 3 _ rfl; (with_reducible repeat (first | refine blk_drewN ?_ _ | refine blk_drew ?_ | refine blk_alloc ?_ _)); refine blk_put (cs := #[.int .i64 t917, .int .i64 t918, .int .i64 0, .int .i64 0, .int .i64 0]) ?_ 2 _ rfl; (with_reducible repeat (first | refine blk_drewN ?_ _ | refine blk_drew ?_ | refine blk_alloc ?_ _)); refine blk_put (cs := #[.int .i64 t917, .int .i64 0, .int .i64 0, .int .i64 0, .int .i64 0]) ?_ 1 _ rfl; (with_reducible repeat (first | refine blk_drewN ?_ _ | refine blk_drew ?_ | refine blk_alloc ?_ _)); refine blk_put (cs := #[.int .i64 0, .int .i64 0, .int .i64 0, .int .i64 0, .int .i64 0]) ?_ 0 _ rfl; (with_reducible repeat (first | refine blk_drewN ?_ _ | refine blk_drew ?_ | refine blk_alloc ?_ _)); refine blk_far ?_ NB923_922.out _; (with_reducible repeat (first | refine blk_drewN ?_ _ | refine blk_drew ?_ | refine blk_alloc ?_ _)); refine blk_far ?_ NB923_922.out _; (with_reducible repeat (first | refine blk_drewN ?_ _ | refine blk_drew ?_ | refine blk_alloc ?_ _)); refine blk_far ?_ NB923_922.out _; (with_reducible repeat (first | refine blk_drewN ?_ _ | refine blk_drew ?_ | refine blk_alloc ?_ _)); exact BK923.out) hb) (o1_ (below_step (oB HB) hb)))); clear HO916 BK922 BK923 HB; obtain ⟨HO916, BK922, BK923, HB⟩ := n_; (try clear hb); (try clear hb2); (try clear hk); (try clear hi); have hcz22_0 : w21.cell? ⟨gb922, 0, none⟩ = some (.int .i64 t912) := (blk_cell BK922.out 0).trans rfl; have hcz22_1 : w21.cell? ⟨gb922, 1, none⟩ = some (.int .i64 t913) := (blk_cell BK922.out 1).trans rfl; have hcz22_2 : w21.cell? ⟨gb922, 2, none⟩ = some (.slice Ao19 t914.length co19) := (blk_cell BK922.out 2).trans rfl; have hfz22_0 := blk_frozen BK922.out 0; have hfz22_1 := blk_frozen BK922.out 1; have hfz22_2 := blk_frozen BK922.out 2) | ((with_reducible refine gate_dst (N := 74) rfl ?_); (try (refine gate_guard (by rfl) ?_; dsimp only)); refine Kd.R_lit k27 _ 27 ?hg (N := 74) ?hd (xs := ([(⟨1, (l1.length : Int) % t912, Int.tmod (wrap64 ((l1.length : Int) / 7)) t913, wrap64 (1 + (Int.tmod (wrap64 ((l1.length : Int) / 3)) (wrap64 (t912 - ((l1.length : Int) % t912))))), wrap64 (1 + (Int.tmod (wrap64 ((l1.length : Int) / 5)) (wrap64 (t913 - (Int.tmod (wrap64 ((l1.length : Int) / 7)) t913)))))⟩ : S27)] : List (S27))) (inner := [.int .i64 1, .int .i64 ((l1.length : Int) % t912), .int .i64 (Int.tmod (wrap64 ((l1.length : Int) / 7)) t913), .int .i64 (wrap64 (1 + (Int.tmod (wrap64 ((l1.length : Int) / 3)) (wrap64 (t912 - ((l1.length : Int) % t912)))))), .int .i64 (wrap64 (1 + (Int.tmod (wrap64 ((l1.length : Int) / 5)) (wrap64 (t913 - (Int.tmod (wrap64 ((l1.length : Int) / 7)) t913))))))]) (ok := fun _ => True) (okp := fun _ => True) ?hr ?hp (fun _ hk => hk) trivial (Below.refl _ _) (Nat.le_refl _) (by simp) ?_; (case hd => rfl); (case hg => rfl); (case hr => first | (go_simp; done) | (go_simp; rfl)); (case hp => exact (Reps.c5 (show Kd.M k27 _ _ _ (⟨1, (l1.length : Int) % t912, Int.tmod (wrap64 ((l1.length : Int) / 7)) t913, wrap64 (1 + (Int.tmod (wrap64 ((l1.length : Int) / 3)) (wrap64 (t912 - ((l1.length : Int) % t912))))), wrap64 (1 + (Int.tmod (wrap64 ((l1.length : Int) / 5)) (wrap64 (t913 - (Int.tmod (wrap64 ((l1.length : Int) / 7)) t913)))))⟩ : S27) [.int .i64 1, .int .i64 ((l1.length : Int) % t912), .int .i64 (Int.tmod (wrap64 ((l1.length : Int) / 7)) t913), .int .i64 (wrap64 (1 + (Int.tmod (wrap64 ((l1.length : Int) / 3)) (wrap64 (t912 - ((l1.length : Int) % t912)))))), .int .i64 (wrap64 (1 + (Int.tmod (wrap64 ((l1.length : Int) / 5)) (wrap64 (t913 - (Int.tmod (wrap64 ((l1.length : Int) / 7)) t913))))))] from (k27_mkM _ _ _ (⟨1, (l1.length : Int) % t912, Int.tmod (wrap64 ((l1.length : Int) / 7)) t913, wrap64 (1 + (Int.tmod (wrap64 ((l1.length : Int) / 3)) (wrap64 (t912 - ((l1.length : Int) % t912))))), wrap64 (1 + (Int.tmod (wrap64 ((l1.length : Int) / 5)) (wrap64 (t913 - (Int.tmod (wrap64 ((l1.length : Int) / 7)) t913)))))⟩ : S27) )) (Reps.none _ _))); intro v928 w23 ho24 hb hg_ hnew_; clear hg_ hnew_; (first | rw [← Ny927.out] at ho24 | (simp only [Int.reduceToNat] at ho24; rw [← Ny927.out] at ho24)); have n_ := o2_ (Kd.Q_below (oQ HO916) hb) (o2_ (Kd.R_lower (Kd.R_newB ho24 (oP BK923)) (below_size (oB HB))) (o2_ (blk_below (oP BK922) hb) (o2_ (blk_below (oP BK923) hb) (o1_ (below_step (oB HB) hb))))); clear HO916 BK922 BK923 HB; obtain ⟨HO916, HO929, BK922, BK923, HB⟩ := n_; clear hb ho24; obtain ⟨Ao25, co25, eo25⟩ := Kd.R_slice HO929.out; subst eo25) | ((with_reducible refine gate_callee (f := 27) rfl ?_); refine goesL_ (some 75) rfl rfl Try.func27 oK rfl #[.agg #[.int .i64 t912, .int .i64 t913, .slice Ao19 t914.length co19], .slice Ao25 y927.length co25] rfl oA ?_; (with_reducible refine (laws_eaDo.calls kj2 t912 t913 (fun k_ => some k_ = (.slice Ao19 t914.length co19 : Value).ownBlock) _ _ t914 _ _ y927 t930 t931 t932 _ ?side1 ?side2 ?side3 A13.out).mono ?_); (case side1 => exact Kd.Q_V (Kd.Q_tight rfl (Kd.Q_types (Kd.Q_types (Kd.Q_apart' (HO916.out) (Kd.R_typed HO929.out) oD) BK922.out oD) BK923.out oD))); (case side2 => repeat (first | exact (Kd.R_reads' HO929.out).2.2 | (with_reducible refine Kd.C_alloc ?_ _) | (with_reducible refine Kd.C_drewN ?_ _) | (with_reducible refine Kd.C_drew ?_))); (case side3 => exact (Kd.R_reads' HO929.out).2.1); rintro e w26 ⟨v933, rfl, ho0, hb⟩; refine ⟨_, rfl, ?_⟩; have hq_ := (Kd.Q_types (Kd.Q_types (Kd.Q_apart' (HO916.out) (Kd.R_typed HO929.out) oD) BK922.out oD) BK923.out oD); have n_ := o2_ (Kd.Q_below (oQ HO916) hb) (o2_ (Kd.V_lower (Kd.V_mono (ok' := fun k_ => some k_ ≠ (.slice Ao25 y927.length co25 : Value).ownBlock ∧ k_ ≠ gb922 ∧ k_ ≠ gb923) ho0 (fun k_ hk_ => ⟨Or.elim hk_ (fun hs_ => (hq_.1 k_ hs_.symm).1.1.2) (fun hn_ => (Kd.fresh' (Kd.R_lt (oR HO929)) k_ hn_)), Or.elim hk_ (fun hs_ => (hq_.1 k_ hs_.symm).1.2) (fun hn_ => (Kd.freshB (oP BK922) k_ hn_)), Or.elim hk_ (fun hs_ => (hq_.1 k_ hs_.symm).2) (fun hn_ => (Kd.freshB (oP BK923) k_ hn_))⟩)) (below_size (oB HB))) (o2_ (blk_below (oP BK922) hb) (o2_ (blk_below (oP BK923) hb) (o1_ (below_step (oB HB) hb))))); clear HO916 BK922 BK923 HB; obtain ⟨HO916, HO934, BK922, BK923, HB⟩ := n_; clear hq_; (try clear hb); (try clear hb2); (try clear hk); (try clear hi); (try clear ho0)) | ((with_reducible refine gate_dst (N := 12) rfl ?_); (try (refine gate_guard (by rfl) ?_; dsimp only)); refine box_event ?hg (N := 12) ?hd (cs := #[.int .i64 0, .int .i64 0, .slice none 0 0]) (t := 25) ?hr ?_; (case hd => rfl); (case hg => rfl); (case hr => first | (go_simp; done) | (go_simp; rfl)); intro gb935 hg w27 hbox hb; have n_ := o2_ (Kd.Q_below (oQ HO916) hb) (o2_ (Kd.V_below (Kd.V_elderB (oV HO934) gb935 (Nat.le_of_eq hg.symm)) hb) (o2_ (blk_below (oP BK922) hb) (o2_ (blk_below (oP BK923) hb) (o2_ (below_step (oB HB) hb) (o2_ (hbox) (o2_ ((oG hg (below_size (oB HB)) : w.heap.size ≤ gb935)) (o2_ ((oG hg (below_size (oB HB)) : w.heap.size ≤ gb935)) (o2_ ((oL hg (blk_lt (oP BK922)))) (o2_ ((oN hg (blk_lt (oP BK922)))) (o2_ ((oL hg (blk_lt (oP BK923)))) (o1_ ((oN hg (blk_lt (oP BK923))))))))))))))); clear HO916 HO934 BK922 BK923 HB; obtain ⟨HO916, HO934, BK922, BK923, HB, BK935, GW935, GE935, NB922_935, NB935_922, NB923_935, NB935_923⟩ := n_; clear hb hbox hg; have hnb28 := NB935_922.out; have hnc28 := NB922_935.out; have hnb29 := NB935_923.out; have hnc29 := NB923_935.out; have hcz30_0 : w27.cell? ⟨gb935, 0, none⟩ = some (.int .i64 0) := (blk_cell BK935.out 0).trans rfl; have hcz30_1 : w27.cell? ⟨gb935, 1, none⟩ = some (.int .i64 0) := (blk_cell BK935.out 1).trans rfl; have hcz30_2 : w27.cell? ⟨gb935, 2, none⟩ = some (.slice none 0 0) := (blk_cell BK935.out 2).trans rfl; have hfz30_0 := blk_frozen BK935.out 0; have hfz30_1 := blk_frozen BK935.out 1; have hfz30_2 := blk_frozen BK935.out 2; obtain ⟨Ao31, co31, eo31⟩ := Kd.V_slice HO934.out; subst eo31))
         go_loopg [13] kj2 (fun kq v13 w' => ∃ (x13_2 : Int), v13 = .int .i64 x13_2 ∧ Aside0 (laws_FnOpCrop.l0 kq (l1.length : Int) ((l1.length : Int) % t912) (Int.tmod (wrap64 ((l1.length : Int) / 7)) t913) (wrap64 (1 + (Int.tmod (wrap64 ((l1.length : Int) / 3)) (wrap64 (t912 - ((l1.length : Int) % t912)))))) (wrap64 (1 + (Int.tmod (wrap64 ((l1.length : Int) / 5)) (wrap64 (t913 - (Int.tmod (wrap64 ((l1.length : Int) / 7)) t913)))))) x13_2 t912 t913 t914 t930 t931 t932 = some r) ∧ Aside0 (kq ≤ kj2) ∧ Aside0 (Kd.Q k38 38 w' w.heap.size (fun _ => True) (.slice Ao19 t914.length co19) t914) ∧ Aside0 (Kd.V k38 38 w' w.heap.size (fun k_ => k_ ≠ gb922 ∧ k_ ≠ gb923 ∧ k_ ≠ gb935) (.slice Ao31 t932.length co31) t932) ∧ Aside0 (w'.heap[gb922]? = some (.cells #[.int .i64 t912, .int .i64 t913, (.slice Ao19 t914.length co19)] 25 (0, 0))) ∧ Aside0 (w'.heap[gb923]? = some (.cells #[.int .i64 t917, .int .i64 t918, .int .i64 t919, .int .i64 t920, .int .i64 t921] 27 (0, 0))) ∧ Aside0 (w'.heap[gb935]? = some (.cells #[.int .i64 t930, .int .i64 t931, (.slice Ao31 t932.length co31)] 25 (0, 0))) ∧ Aside0 (Below w.heap.size w w'))
         case atStart => exact ⟨(0), (by first | rfl | (simp; done) | (simp [*]; done)), H', ⟨Nat.le_refl _⟩, ⟨(by (with_reducible repeat (first | apply Kd.Q_alloc | apply Kd.Q_drewN | apply Kd.Q_drew)); exact Kd.Q_mono (Kd.Q_far (p := ⟨gb935, 2, none⟩) (Kd.Q_far (p := ⟨gb935, 1, none⟩) (Kd.Q_far (p := ⟨gb935, 0, none⟩) (Kd.Q_types HO916.out BK935.out oD) (fun _ hk => hk.2) (.int .i64 t930)) (fun _ hk => hk.2) (.int .i64 t931)) (fun _ hk => hk.2) (.slice Ao31 t932.length co31)) (fun _ hk => trivial))⟩, ⟨(by (with_reducible repeat (first | apply Kd.V_alloc | apply Kd.V_drewN | apply Kd.V_drew)); exact Kd.V_mono (Kd.V_far (p := ⟨gb935, 2, none⟩) (Kd.V_far (p := ⟨gb935, 1, none⟩) (Kd.V_far (p := ⟨gb935, 0, none⟩) (Kd.V_mono HO934.out (fun k_ hk => (⟨hk, hk.2⟩ : _ ∧ k_ ≠ gb935))) (fun _ hk => hk.2) (.int .i64 t930)) (fun _ hk => hk.2) (.int .i64 t931)) (fun _ hk => hk.2) (.slice Ao31 t932.length co31)) (fun _ hk => ⟨hk.1.1.2.1, ⟨hk.1.1.2.2, hk.1.2⟩⟩))⟩, ⟨(oP BK922)⟩, ⟨(oP BK923)⟩, ⟨(blk_put (blk_put (blk_put BK935.out 0 _ rfl) 1 _ rfl) 2 _ rfl)⟩, ⟨(oB HB)⟩⟩
         case round =>
          clear H'
          try clear c1
          try clear c2
          try clear p2
          try clear c4
          try clear c4b0
          try clear c4b1
          try clear c5
          try clear p6
          try clear c8
          try clear c9
          try clear c9b0
          try clear c9b1
          try clear c10
          try clear c10b0
          try clear c10b1
          try clear c11
          try clear c11b0
          try clear c11b1
          try clear c12
          try clear c12b0
          try clear c12b1
          try clear c17
          try clear c18
          try clear c24
          try clear c27
          try clear c28
          try clear c29
          try clear hcz18_0
          try clear hcz18_1
          try clear hcz18_2
          try clear hcz20_0
          try clear hcz20_1
          try clear hcz20_2
          try clear hcz20_3
          try clear hcz20_4
          try clear hcz22_0
          try clear hcz22_1
          try clear hcz22_2
          try clear hcz30_0
          try clear hcz30_1
          try clear hcz30_2
          try clear hfz18_0
          try clear hfz18_1
          try clear hfz18_2
          try clear hfz20_0
          try clear hfz20_1
          try clear hfz20_2
          try clear hfz20_3
          try clear hfz20_4
          try clear hfz22_0
          try clear hfz22_1
          try clear hfz22_2
          try clear hfz30_0
          try clear hfz30_1
          try clear hfz30_2
          try clear p2
          obtain ⟨x13_2, rfl, HA, HK2, HO_923002, HO_936002, BK922, BK923, BK935, HB⟩ := hrel
          cases gk with
          | zero => exact nomatch (show none = some _ from HA.out)
          | succ k2 =>
           have H := HA.out
           clear HA
           simp only [laws_FnOpCrop.l0] at H
           by_cases c32 : x13_2 < (wrap64 (1 + (Int.tmod (wrap64 ((l1.length : Int) / 5)) (wrap64 (t913 - (Int.tmod (wrap64 ((l1.length : Int) / 7)) t913))))))
           ·rw [if_pos c32] at H
            have c32b0 : decide (x13_2 < (wrap64 (1 + (Int.tmod (wrap64 ((l1.length : Int) / 5)) (wrap64 (t913 - (Int.tmod (wrap64 ((l1.length : Int) / 7)) t913))))))) = true := decide_eq_true c32
            clear c32
            have H' := Aside0.mk H
            clear H
            go_wp2
            go_loopg [14] k2 (fun kq v14 w' => ∃ (x14_3 : Int), v14 = .int .i64 x14_3 ∧ Aside0 (laws_FnOpCrop.l1 kq (l1.length : Int) ((l1.length : Int) % t912) (Int.tmod (wrap64 ((l1.length : Int) / 7)) t913) (wrap64 (1 + (Int.tmod (wrap64 ((l1.length : Int) / 3)) (wrap64 (t912 - ((l1.length : Int) % t912)))))) (wrap64 (1 + (Int.tmod (wrap64 ((l1.length : Int) / 5)) (wrap64 (t913 - (Int.tmod (wrap64 ((l1.length : Int) / 7)) t913)))))) x13_2 x14_3 t912 t913 t914 t930 t931 t932 = some r) ∧ Aside0 (kq ≤ k2) ∧ Aside0 (Kd.Q k38 38 w' w.heap.size (fun _ => True) (.slice Ao19 t914.length co19) t914) ∧ Aside0 (Kd.V k38 38 w' w.heap.size (fun k_ => k_ ≠ gb922 ∧ k_ ≠ gb923 ∧ k_ ≠ gb935) (.slice Ao31 t932.length co31) t932) ∧ Aside0 (w'.heap[gb922]? = some (.cells #[.int .i64 t912, .int .i64 t913, (.slice Ao19 t914.length co19)] 25 (0, 0))) ∧ Aside0 (w'.heap[gb923]? = some (.cells #[.int .i64 t917, .int .i64 t918, .int .i64 t919, .int .i64 t920, .int .i64 t921] 27 (0, 0))) ∧ Aside0 (w'.heap[gb935]? = some (.cells #[.int .i64 t930, .int .i64 t931, (.slice Ao31 t932.length co31)] 25 (0, 0))) ∧ Aside0 (Below w.heap.size w w'))
            case atStart => exact ⟨(0), (by first | rfl | (simp; done) | (simp [*]; done)), H', ⟨Nat.le_refl _⟩, ⟨(oQ HO_923002)⟩, ⟨(oV HO_936002)⟩, ⟨(oP BK922)⟩, ⟨(oP BK923)⟩, ⟨(oP BK935)⟩, ⟨(oB HB)⟩⟩
            case round =>
             clear H'
             try clear c1
             try clear c2
             try clear p2
             try clear c3
             try clear c4
             try clear c4b0
             try clear c4b1
             try clear c5
             try clear p6
             try clear c8
             try clear c9
             try clear c9b0
             try clear c9b1
             try clear c10
             try clear c10b0
             try clear c10b1
             try clear c11
             try clear c11b0
             try clear c11b1
             try clear c12
             try clear c12b0
             try clear c12b1
             try clear c17
             try clear c18
             try clear c24
             try clear c27
             try clear c28
             try clear c29
             try clear c32
             try clear c32b0
             try clear hcz18_0
             try clear hcz18_1
             try clear hcz18_2
             try clear hcz20_0
             try clear hcz20_1
             try clear hcz20_2
             try clear hcz20_3
             try clear hcz20_4
             try clear hcz22_0
             try clear hcz22_1
             try clear hcz22_2
             try clear hcz30_0
             try clear hcz30_1
             try clear hcz30_2
             try clear hfz18_0
             try clear hfz18_1
             try clear hfz18_2
             try clear hfz20_0
             try clear hfz20_1
             try clear hfz20_2
             try clear hfz20_3
             try clear hfz20_4
             try clear hfz22_0
             try clear hfz22_1
             try clear hfz22_2
             try clear hfz30_0
             try clear hfz30_1
             try clear hfz30_2
             try clear p2
             try clear p6
             obtain ⟨x14_3, rfl, HA, HK3, HO_923002, HO_936002, BK922, BK923, BK935, HB⟩ := hrel
             cases gk with
             | zero => exact nomatch (show none = some _ from HA.out)
             | succ k3 =>
              have H := HA.out
              clear HA
              simp only [laws_FnOpCrop.l1] at H
              by_cases c33 : x14_3 < (wrap64 (1 + (Int.tmod (wrap64 ((l1.length : Int) / 3)) (wrap64 (t912 - ((l1.length : Int) % t912))))))
              ·rw [if_pos c33] at H
               have c33b0 : decide (x14_3 < (wrap64 (1 + (Int.tmod (wrap64 ((l1.length : Int) / 3)) (wrap64 (t912 - ((l1.length : Int) % t912))))))) = true := decide_eq_true c33
               clear c33
               replace H := Option.bind_eq_some_iff.mp H
               obtain ⟨⟨t936, t937, t938, t939⟩, A340, H⟩ := H
               (try dsimp only at H)
               have A34 := Aside0.mk A340
               clear A340
               replace H := Option.bind_eq_some_iff.mp H
               obtain ⟨⟨t940, t941, t942, t943⟩, A350, H⟩ := H
               (try dsimp only at H)
               have A35 := Aside0.mk A350
               clear A350
               by_cases c36 : (!(t936 == t940) || (!(t937 == t941) || (!(t938 == t942) || (!(t939 == t943))))) = true
               ·rw [if_pos c36] at H
                exact absurd H (by simp)
               ·rw [if_neg c36] at H
                have c36b0 : (!(t936 == t940) || (!(t937 == t941) || (!(t938 == t942) || (!(t939 == t943))))) = false := by simpa using c36
                clear c36
                have H' := Aside0.mk H
                clear H
                try go_wp2
                have n_ := o2_ (Kd.Q_drew HO_923002.out) (o2_ (Kd.V_drew HO_936002.out) (o2_ (blk_drew BK922.out) (o2_ (blk_drew BK923.out) (o2_ (blk_drew BK935.out) (o1_ (below_drew1 HB.out))))))
                clear HO_923002 HO_936002 BK922 BK923 BK935 HB
                obtain ⟨HO_923002, HO_936002, BK922, BK923, BK935, HB⟩ := n_
                refine start_ (n := 13) (S := fun w' => w'.cell? ⟨gb935, 0, none⟩ = some (.int .i64 t930) ∧ w'.cell? ⟨gb935, 1, none⟩ = some (.int .i64 t931) ∧ w'.cell? ⟨gb935, 2, none⟩ = some (.slice Ao31 t932.length co31) ∧ w'.cell? ⟨gb922, 0, none⟩ = some (.int .i64 t912) ∧ w'.cell? ⟨gb922, 1, none⟩ = some (.int .i64 t913) ∧ w'.cell? ⟨gb922, 2, none⟩ = some (.slice Ao19 t914.length co19)) (ds := []) #[false, false, false, false, false, false, false, false, false, false, false, false, false] oK rfl rfl ⟨(blk_cell BK935.out 0).trans rfl, (blk_cell BK935.out 1).trans rfl, (blk_cell BK935.out 2).trans rfl, (blk_cell BK922.out 0).trans rfl, (blk_cell BK922.out 1).trans rfl, (blk_cell BK922.out 2).trans rfl⟩ (fun hHeld => ?_); refine with_tabW laws_FnOpCrop.tab18 laws_FnOpCrop.bits18 (fun HT_ HW_ => ?_)
                generalize wr.drew = w37 at HO_923002 HO_936002 BK922 BK923 BK935 HB hHeld ⊢
                refine pure_ (i := 1) (N := some 87) (v := ?_) (a' := ?_) #[false, true, false, false, false, false, false, false, false, false, false, false, false] rfl rfl (any_of HT_.out oK) (fun _ _ _ h => h) (Or.inl ⟨by rfl, ?_⟩) ?_ ?_
                rotate_left
                ·intro w'
                 go_simp
                 with_reducible rfl
                rotate_left
                ·simp only [Act.put, List.setIfInBounds_toArray, List.set_cons_zero, List.set_cons_succ, i64_w, i32_w]
                 rfl
                refine pure_ (i := 2) (N := some 88) (v := ?_) (a' := ?_) #[false, true, true, false, false, false, false, false, false, false, false, false, false] rfl rfl (any_of HT_.out oK) (fun _ _ _ h => h) (Or.inl ⟨by rfl, ?_⟩) ?_ ?_
                rotate_left
                ·intro w'
                 go_simp
                 with_reducible rfl
                rotate_left
                ·simp only [Act.put, List.setIfInBounds_toArray, List.set_cons_zero, List.set_cons_succ, i64_w, i32_w]
                 rfl
                refine pure_ (i := 5) (N := some 91) (v := ?_) (a' := ?_) #[false, true, true, false, false, true, false, false, false, false, false, false, false] rfl rfl (any_of HT_.out oK) (fun _ _ _ h => h) (Or.inl ⟨by rfl, ?_⟩) ?_ ?_
                rotate_left
                ·intro w'
                 go_simp
                 with_reducible rfl
                rotate_left
                ·simp only [Act.put, List.setIfInBounds_toArray, List.set_cons_zero, List.set_cons_succ, i64_w, i32_w]
                 rfl
                refine pure_ (i := 6) (N := some 92) (v := ?_) (a' := ?_) #[false, true, true, false, false, true, true, false, false, false, false, false, false] rfl rfl (any_of HT_.out oK) (fun _ _ _ h => h) (Or.inl ⟨by rfl, ?_⟩) ?_ ?_
                rotate_left
                ·intro w'
                 go_simp
                 with_reducible rfl
                rotate_left
                ·simp only [Act.put, List.setIfInBounds_toArray, List.set_cons_zero, List.set_cons_succ, i64_w, i32_w]
                 rfl
                refine pure_ (i := 7) (N := some 93) (v := ?_) (a' := ?_) #[false, true, true, false, false, true, true, true, false, false, false, false, false] rfl rfl (any_of HT_.out oK) (fun _ _ _ h => h) (Or.inl ⟨by rfl, ?_⟩) ?_ ?_
                rotate_left
                ·intro w'
                 go_simp
                 with_reducible rfl
                rotate_left
                ·simp only [Act.put, List.setIfInBounds_toArray, List.set_cons_zero, List.set_cons_succ, i64_w, i32_w]
                 rfl
                refine pure_ (i := 8) (N := some 94) (v := ?_) (a' := ?_) #[false, true, true, false, false, true, true, true, true, false, false, false, false] rfl rfl (any_of HT_.out oK) (fun _ _ _ h => h) (Or.inl ⟨by rfl, ?_⟩) ?_ ?_
                rotate_left
                ·intro w'
                 go_simp
                 with_reducible rfl
                rotate_left
                ·simp only [Act.put, List.setIfInBounds_toArray, List.set_cons_zero, List.set_cons_succ, i64_w, i32_w]
                 rfl
                refine pure_ (i := 9) (N := some 95) (v := ?_) (a' := ?_) #[false, true, true, false, false, true, true, true, true, true, false, false, false] rfl rfl (any_of HT_.out oK) (fun _ _ _ h => h) (Or.inl ⟨by rfl, ?_⟩) ?_ ?_
                rotate_left
                ·intro w'
                 go_simp
                 with_reducible rfl
                rotate_left
                ·simp only [Act.put, List.setIfInBounds_toArray, List.set_cons_zero, List.set_cons_succ, i64_w, i32_w]
                 rfl
                refine pure_ (i := 10) (N := some 96) (v := ?_) (a' := ?_) #[false, true, true, false, false, true, true, true, true, true, true, false, false] rfl rfl (any_of HT_.out oK) (fun _ _ _ h => h) (Or.inl ⟨by rfl, ?_⟩) ?_ ?_
                rotate_left
                ·intro w'
                 go_simp
                 with_reducible rfl
                rotate_left
                ·simp only [Act.put, List.setIfInBounds_toArray, List.set_cons_zero, List.set_cons_succ, i64_w, i32_w]
                 rfl
                refine take_ (i := 0) (N := some 86) (v := ?_) (a' := ?_) #[true, true, true, false, false, true, true, true, true, true, true, false, false] rfl rfl (take_ofW HT_.out HW_.out oK) (fun _ _ _ h => h) (Or.inl ⟨by rfl, ?_⟩) hHeld ?_ ?_
                rotate_left
                ·rintro w' ⟨s0, s1, s2, s3, s4, s5⟩
                 go_simp
                 with_reducible rfl
                rotate_left
                ·simp only [Act.put, List.setIfInBounds_toArray, List.set_cons_zero, List.set_cons_succ, i64_w, i32_w]
                 rfl
                refine take_ (i := 4) (N := some 90) (v := ?_) (a' := ?_) #[true, true, true, false, true, true, true, true, true, true, true, false, false] rfl rfl (take_ofW HT_.out HW_.out oK) (fun _ _ _ h => h) (Or.inl ⟨by rfl, ?_⟩) hHeld ?_ ?_
                rotate_left
                ·rintro w' ⟨s0, s1, s2, s3, s4, s5⟩
                 go_simp
                 with_reducible rfl
                rotate_left
                ·simp only [Act.put, List.setIfInBounds_toArray, List.set_cons_zero, List.set_cons_succ, i64_w, i32_w]
                 rfl
                refine one_ (i := 3) (N := some 89) #[true, true, true, true, true, true, true, true, true, true, true, false, false] rfl rfl (one_of HT_.out oK) oD (fun K hK => ?_)
                refine goes_ Try.func28 oK rfl #[.agg #[.int .i64 t930, .int .i64 t931, .slice Ao31 t932.length co31], .int .i64 x14_3, .int .i64 x13_2] (by rfl) rfl rfl oA ?_
                with_reducible refine (impl_RasAt.calls k3 t930 t931 _ _ t932 x14_3 x13_2 t936 t937 t938 t939 _ ?side1 ?side2 A34.out).mono ?_
                (case side1 => repeat (first | exact (Kd.V_reads' HO_936002.out).2.2 | (with_reducible refine Kd.C_alloc ?_ _) | (with_reducible refine Kd.C_drewN ?_ _) | (with_reducible refine Kd.C_drew ?_)))
                (case side2 => exact (Kd.V_reads' HO_936002.out).2.1)
                rintro e w38 ⟨rfl, hb⟩
                refine ⟨_, rfl, ?_⟩
                have n_ := o2_ (Kd.Q_below (oQ HO_923002) hb) (o2_ (Kd.V_below (oV HO_936002) hb) (o2_ (blk_below (oP BK922) hb) (o2_ (blk_below (oP BK923) hb) (o2_ (blk_below (oP BK935) hb) (o1_ (below_step (oB HB) hb))))))
                clear HO_923002 HO_936002 BK922 BK923 BK935 HB
                obtain ⟨HO_923002, HO_936002, BK922, BK923, BK935, HB⟩ := n_
                (try clear hb)
                (try clear hb2)
                (try clear hk)
                (try clear hi)
                refine hK.out _ _ ⟨(blk_cell BK935.out 0).trans rfl, (blk_cell BK935.out 1).trans rfl, (blk_cell BK935.out 2).trans rfl, (blk_cell BK922.out 0).trans rfl, (blk_cell BK922.out 1).trans rfl, (blk_cell BK922.out 2).trans rfl⟩ (fun hHeld => ?_)
                clear hK K
                refine norm_ (a' := ?_) ?_ ?_
                rotate_left
                ·show Act.put _ (some 89) _ = _
                 simp only [Act.put, List.setIfInBounds_toArray, List.set_cons_zero, List.set_cons_succ, i64_w, i32_w]
                 rfl
                refine one_ (i := 11) (N := some 97) #[true, true, true, true, true, true, true, true, true, true, true, true, false] rfl rfl (one_of HT_.out oK) oD (fun K hK => ?_)
                refine goes_ Try.func28 oK rfl #[.agg #[.int .i64 t912, .int .i64 t913, .slice Ao19 t914.length co19], .int .i64 (wrap64 (((l1.length : Int) % t912) + x14_3)), .int .i64 (wrap64 ((Int.tmod (wrap64 ((l1.length : Int) / 7)) t913) + x13_2))] (by rfl) rfl rfl oA ?_
                with_reducible refine (impl_RasAt.calls k3 t912 t913 _ _ t914 (wrap64 (((l1.length : Int) % t912) + x14_3)) (wrap64 ((Int.tmod (wrap64 ((l1.length : Int) / 7)) t913) + x13_2)) t940 t941 t942 t943 _ ?side1 ?side2 A35.out).mono ?_
                (case side1 => repeat (first | exact (Kd.Q_reads' HO_923002.out).2.2 | (with_reducible refine Kd.C_alloc ?_ _) | (with_reducible refine Kd.C_drewN ?_ _) | (with_reducible refine Kd.C_drew ?_)))
                (case side2 => exact (Kd.Q_reads' HO_923002.out).2.1)
                rintro e w39 ⟨rfl, hb⟩
                refine ⟨_, rfl, ?_⟩
                have n_ := o2_ (Kd.Q_below (oQ HO_923002) hb) (o2_ (Kd.V_below (oV HO_936002) hb) (o2_ (blk_below (oP BK922) hb) (o2_ (blk_below (oP BK923) hb) (o2_ (blk_below (oP BK935) hb) (o1_ (below_step (oB HB) hb))))))
                clear HO_923002 HO_936002 BK922 BK923 BK935 HB
                obtain ⟨HO_923002, HO_936002, BK922, BK923, BK935, HB⟩ := n_
                (try clear hb)
                (try clear hb2)
                (try clear hk)
                (try clear hi)
                refine hK.out _ _ ⟨(blk_cell BK935.out 0).trans rfl, (blk_cell BK935.out 1).trans rfl, (blk_cell BK935.out 2).trans rfl, (blk_cell BK922.out 0).trans rfl, (blk_cell BK922.out 1).trans rfl, (blk_cell BK922.out 2).trans rfl⟩ (fun hHeld => ?_)
                clear hK K
                refine norm_ (a' := ?_) ?_ ?_
                rotate_left
                ·show Act.put _ (some 97) _ = _
                 simp only [Act.put, List.setIfInBounds_toArray, List.set_cons_zero, List.set_cons_succ, i64_w, i32_w]
                 rfl
                refine pure_ (i := 12) (N := some 98) (v := ?_) (a' := ?_) #[true, true, true, true, true, true, true, true, true, true, true, true, true] rfl rfl (any_of HT_.out oK) (fun _ _ _ h => h) (Or.inl ⟨by rfl, ?_⟩) ?_ ?_
                rotate_left
                ·intro w'
                 go_simp
                 with_reducible rfl
                rotate_left
                ·simp only [Act.put, List.setIfInBounds_toArray, List.set_cons_zero, List.set_cons_succ, i64_w, i32_w]
                 rfl
                refine done_ (done_of HT_.out oK) ?_
                try go_wp2
                go_roundg k3
                case measure => have := HJ2.out; have := HK2.out; have := HK3.out; omega
                case rel => exact ⟨(wrap64 (x14_3 + 1)), (by first | rfl | (simp; done) | (simp [*]; done)), H', ⟨(by have := HJ2.out; have := HK2.out; have := HK3.out; omega)⟩, ⟨(oQ HO_923002)⟩, ⟨(oV HO_936002)⟩, ⟨(oP BK922)⟩, ⟨(oP BK923)⟩, ⟨(oP BK935)⟩, ⟨(oB HB)⟩⟩
              ·rw [if_neg c33] at H
               have c33b0 : decide (x14_3 < (wrap64 (1 + (Int.tmod (wrap64 ((l1.length : Int) / 3)) (wrap64 (t912 - ((l1.length : Int) % t912))))))) = false := decide_eq_false c33
               clear c33
               have H' := Aside0.mk H
               clear H
               go_wp2
               go_roundg k3
               case measure => have := HJ2.out; have := HK2.out; have := HK3.out; omega
               case rel => exact ⟨(wrap64 (x13_2 + 1)), (by first | rfl | (simp; done) | (simp [*]; done)), H', ⟨(by have := HJ2.out; have := HK2.out; have := HK3.out; omega)⟩, ⟨(oQ HO_923002)⟩, ⟨(oV HO_936002)⟩, ⟨(oP BK922)⟩, ⟨(oP BK923)⟩, ⟨(oP BK935)⟩, ⟨(oB HB)⟩⟩
           ·rw [if_neg c32] at H
            have c32b0 : decide (x13_2 < (wrap64 (1 + (Int.tmod (wrap64 ((l1.length : Int) / 5)) (wrap64 (t913 - (Int.tmod (wrap64 ((l1.length : Int) / 7)) t913))))))) = false := decide_eq_false c32
            clear c32
            by_cases c40 : (wrap64 (1 + (Int.tmod (wrap64 ((l1.length : Int) / 3)) (wrap64 (t912 - ((l1.length : Int) % t912)))))) = 0
            ·rw [if_pos c40] at H
             exact absurd H (by simp)
            ·rw [if_neg c40] at H
             have c40b0 : ((wrap64 (1 + (Int.tmod (wrap64 ((l1.length : Int) / 3)) (wrap64 (t912 - ((l1.length : Int) % t912)))))) == 0) = false := beq_eq_false_iff_ne.mpr c40
             have c40b1 : ((wrap64 (1 + (Int.tmod (wrap64 ((l1.length : Int) / 3)) (wrap64 (t912 - ((l1.length : Int) % t912)))))) != 0) = true := bne_iff_ne.mpr c40
             by_cases c41 : (wrap64 (1 + (Int.tmod (wrap64 ((l1.length : Int) / 5)) (wrap64 (t913 - (Int.tmod (wrap64 ((l1.length : Int) / 7)) t913)))))) = 0
             ·rw [if_pos c41] at H
              exact absurd H (by simp)
             ·rw [if_neg c41] at H
              have c41b0 : ((wrap64 (1 + (Int.tmod (wrap64 ((l1.length : Int) / 5)) (wrap64 (t913 - (Int.tmod (wrap64 ((l1.length : Int) / 7)) t913)))))) == 0) = false := beq_eq_false_iff_ne.mpr c41
              have c41b1 : ((wrap64 (1 + (Int.tmod (wrap64 ((l1.length : Int) / 5)) (wrap64 (t913 - (Int.tmod (wrap64 ((l1.length : Int) / 7)) t913)))))) != 0) = true := bne_iff_ne.mpr c41
              obtain ⟨y944, hy944⟩ : ∃ y_ : List (S27), y_ = (([(⟨1, Int.tmod (wrap64 (Int.tdiv (l1.length : Int) 11)) (wrap64 (1 + (Int.tmod (wrap64 ((l1.length : Int) / 3)) (wrap64 (t912 - ((l1.length : Int) % t912)))))), Int.tmod (wrap64 (Int.tdiv (l1.length : Int) 13)) (wrap64 (1 + (Int.tmod (wrap64 ((l1.length : Int) / 5)) (wrap64 (t913 - (Int.tmod (wrap64 ((l1.length : Int) / 7)) t913)))))), wrap64 ((wrap64 (1 + (Int.tmod (wrap64 ((l1.length : Int) / 3)) (wrap64 (t912 - ((l1.length : Int) % t912)))))) - (Int.tmod (wrap64 (Int.tdiv (l1.length : Int) 11)) (wrap64 (1 + (Int.tmod (wrap64 ((l1.length : Int) / 3)) (wrap64 (t912 - ((l1.length : Int) % t912)))))))), wrap64 ((wrap64 (1 + (Int.tmod (wrap64 ((l1.length : Int) / 5)) (wrap64 (t913 - (Int.tmod (wrap64 ((l1.length : Int) / 7)) t913)))))) - (Int.tmod (wrap64 (Int.tdiv (l1.length : Int) 13)) (wrap64 (1 + (Int.tmod (wrap64 ((l1.length : Int) / 5)) (wrap64 (t913 - (Int.tmod (wrap64 ((l1.length : Int) / 7)) t913))))))))⟩ : S27)] : List (S27))) := ⟨_, rfl⟩
              replace H : ((laws_eaDo.f k2 t930 t931 t932 y944).bind fun bt947 => ((laws_eaDo.f k2 t912 t913 t914 (([(⟨1, wrap64 (((l1.length : Int) % t912) + (Int.tmod (wrap64 (Int.tdiv (l1.length : Int) 11)) (wrap64 (1 + (Int.tmod (wrap64 ((l1.length : Int) / 3)) (wrap64 (t912 - ((l1.length : Int) % t912)))))))), wrap64 ((Int.tmod (wrap64 ((l1.length : Int) / 7)) t913) + (Int.tmod (wrap64 (Int.tdiv (l1.length : Int) 13)) (wrap64 (1 + (Int.tmod (wrap64 ((l1.length : Int) / 5)) (wrap64 (t913 - (Int.tmod (wrap64 ((l1.length : Int) / 7)) t913)))))))), wrap64 ((wrap64 (1 + (Int.tmod (wrap64 ((l1.length : Int) / 3)) (wrap64 (t912 - ((l1.length : Int) % t912)))))) - (Int.tmod (wrap64 (Int.tdiv (l1.length : Int) 11)) (wrap64 (1 + (Int.tmod (wrap64 ((l1.length : Int) / 3)) (wrap64 (t912 - ((l1.length : Int) % t912)))))))), wrap64 ((wrap64 (1 + (Int.tmod (wrap64 ((l1.length : Int) / 5)) (wrap64 (t913 - (Int.tmod (wrap64 ((l1.length : Int) / 7)) t913)))))) - (Int.tmod (wrap64 (Int.tdiv (l1.length : Int) 13)) (wrap64 (1 + (Int.tmod (wrap64 ((l1.length : Int) / 5)) (wrap64 (t913 - (Int.tmod (wrap64 ((l1.length : Int) / 7)) t913))))))))⟩ : S27)] : List (S27)))).bind fun bt956 => ((impl_RasOk.f k2 t930 t931 t932).bind fun t962 => (if t962 = true then ((laws_eaRas.f k2 bt947.1 bt947.2.1 bt947.2.2 bt956.1 bt956.2.1 bt956.2.2).bind fun t963 => (if t963 = true then ((laws_eaDo.f k2 t912 t913 t914 (([(⟨1, 0, 0, t912, t913⟩ : S27)] : List (S27)))).bind fun bt967 => ((laws_eaRas.f k2 bt967.1 bt967.2.1 bt967.2.2 t912 t913 t914).bind fun t972 => (some t972))) else (none))) else (none))))) = some r := by first | (rw [hy944]; with_reducible exact H) | (have H2_ := (Option.bind_some _ _).symm.trans H; rw [hy944]; with_reducible exact H2_) | (have H2_ := (Option.bind_some _ _).symm.trans H; with_reducible exact H2_) | with_reducible exact H | (rw [hy944]; exact H) | exact H
              have Ny944 := Aside0.mk hy944
              clear hy944
              replace H := Option.bind_eq_some_iff.mp H
              obtain ⟨⟨t947, t948, t949⟩, A420, H⟩ := H
              (try dsimp only at H)
              have A42 := Aside0.mk A420
              clear A420
              obtain ⟨y953, hy953⟩ : ∃ y_ : List (S27), y_ = (([(⟨1, wrap64 (((l1.length : Int) % t912) + (Int.tmod (wrap64 (Int.tdiv (l1.length : Int) 11)) (wrap64 (1 + (Int.tmod (wrap64 ((l1.length : Int) / 3)) (wrap64 (t912 - ((l1.length : Int) % t912)))))))), wrap64 ((Int.tmod (wrap64 ((l1.length : Int) / 7)) t913) + (Int.tmod (wrap64 (Int.tdiv (l1.length : Int) 13)) (wrap64 (1 + (Int.tmod (wrap64 ((l1.length : Int) / 5)) (wrap64 (t913 - (Int.tmod (wrap64 ((l1.length : Int) / 7)) t913)))))))), wrap64 ((wrap64 (1 + (Int.tmod (wrap64 ((l1.length : Int) / 3)) (wrap64 (t912 - ((l1.length : Int) % t912)))))) - (Int.tmod (wrap64 (Int.tdiv (l1.length : Int) 11)) (wrap64 (1 + (Int.tmod (wrap64 ((l1.length : Int) / 3)) (wrap64 (t912 - ((l1.length : Int) % t912)))))))), wrap64 ((wrap64 (1 + (Int.tmod (wrap64 ((l1.length : Int) / 5)) (wrap64 (t913 - (Int.tmod (wrap64 ((l1.length : Int) / 7)) t913)))))) - (Int.tmod (wrap64 (Int.tdiv (l1.length : Int) 13)) (wrap64 (1 + (Int.tmod (wrap64 ((l1.length : Int) / 5)) (wrap64 (t913 - (Int.tmod (wrap64 ((l1.length : Int) / 7)) t913))))))))⟩ : S27)] : List (S27))) := ⟨_, rfl⟩
              replace H : ((laws_eaDo.f k2 t912 t913 t914 y953).bind fun bt956 => ((impl_RasOk.f k2 t930 t931 t932).bind fun t962 => (if t962 = true then ((laws_eaRas.f k2 t947 t948 t949 bt956.1 bt956.2.1 bt956.2.2).bind fun t963 => (if t963 = true then ((laws_eaDo.f k2 t912 t913 t914 (([(⟨1, 0, 0, t912, t913⟩ : S27)] : List (S27)))).bind fun bt967 => ((laws_eaRas.f k2 bt967.1 bt967.2.1 bt967.2.2 t912 t913 t914).bind fun t972 => (some t972))) else (none))) else (none)))) = some r := by first | (rw [hy953]; with_reducible exact H) | (have H2_ := (Option.bind_some _ _).symm.trans H; rw [hy953]; with_reducible exact H2_) | (have H2_ := (Option.bind_some _ _).symm.trans H; with_reducible exact H2_) | with_reducible exact H | (rw [hy953]; exact H) | exact H
              have Ny953 := Aside0.mk hy953
              clear hy953
              replace H := Option.bind_eq_some_iff.mp H
              obtain ⟨⟨t956, t957, t958⟩, A430, H⟩ := H
              (try dsimp only at H)
              have A43 := Aside0.mk A430
              clear A430
              replace H := Option.bind_eq_some_iff.mp H
              obtain ⟨t962, A440, H⟩ := H
              (try dsimp only at H)
              have A44 := Aside0.mk A440
              clear A440
              by_cases c45 : t962 = true
              ·subst c45
               rw [if_pos rfl] at H
               replace H := Option.bind_eq_some_iff.mp H
               obtain ⟨t963, A460, H⟩ := H
               (try dsimp only at H)
               have A46 := Aside0.mk A460
               clear A460
               by_cases c47 : t963 = true
               ·subst c47
                rw [if_pos rfl] at H
                obtain ⟨y964, hy964⟩ : ∃ y_ : List (S27), y_ = (([(⟨1, 0, 0, t912, t913⟩ : S27)] : List (S27))) := ⟨_, rfl⟩
                replace H : ((laws_eaDo.f k2 t912 t913 t914 y964).bind fun bt967 => ((laws_eaRas.f k2 bt967.1 bt967.2.1 bt967.2.2 t912 t913 t914).bind fun t972 => (some t972))) = some r := by first | (rw [hy964]; with_reducible exact H) | (have H2_ := (Option.bind_some _ _).symm.trans H; rw [hy964]; with_reducible exact H2_) | (have H2_ := (Option.bind_some _ _).symm.trans H; with_reducible exact H2_) | with_reducible exact H | (rw [hy964]; exact H) | exact H
                have Ny964 := Aside0.mk hy964
                clear hy964
                replace H := Option.bind_eq_some_iff.mp H
                obtain ⟨⟨t967, t968, t969⟩, A480, H⟩ := H
                (try dsimp only at H)
                have A48 := Aside0.mk A480
                clear A480
                replace H := Option.bind_eq_some_iff.mp H
                obtain ⟨t972, A490, H⟩ := H
                (try dsimp only at H)
                have A49 := Aside0.mk A490
                clear A490
                obtain rfl := Option.some.inj H
                have hnb50 := NB935_922.out
                have hnc50 := NB922_935.out
                have hnb51 := NB935_923.out
                have hnc51 := NB923_935.out
                have hcz52_0 : wr.cell? ⟨gb935, 0, none⟩ = some (.int .i64 t930) := (blk_cell BK935.out 0).trans rfl
                have hcz52_1 : wr.cell? ⟨gb935, 1, none⟩ = some (.int .i64 t931) := (blk_cell BK935.out 1).trans rfl
                have hcz52_2 : wr.cell? ⟨gb935, 2, none⟩ = some (.slice Ao31 t932.length co31) := (blk_cell BK935.out 2).trans rfl
                have hfz52_0 := blk_frozen BK935.out 0
                have hfz52_1 := blk_frozen BK935.out 1
                have hfz52_2 := blk_frozen BK935.out 2
                try go_wp2_with (first | ((with_reducible refine gate_dst (N := 117) rfl ?_); (try (refine gate_guard (by rfl) ?_; dsimp only)); refine Kd.R_lit k27 _ 27 ?hg (N := 117) ?hd (xs := ([(⟨1, Int.tmod (wrap64 (Int.tdiv (l1.length : Int) 11)) (wrap64 (1 + (Int.tmod (wrap64 ((l1.length : Int) / 3)) (wrap64 (t912 - ((l1.length : Int) % t912)))))), Int.tmod (wrap64 (Int.tdiv (l1.length : Int) 13)) (wrap64 (1 + (Int.tmod (wrap64 ((l1.length : Int) / 5)) (wrap64 (t913 - (Int.tmod (wrap64 ((l1.length : Int) / 7)) t913)))))), wrap64 ((wrap64 (1 + (Int.tmod (wrap64 ((l1.length : Int) / 3)) (wrap64 (t912 - ((l1.length : Int) % t912)))))) - (Int.tmod (wrap64 (Int.tdiv (l1.length : Int) 11)) (wrap64 (1 + (Int.tmod (wrap64 ((l1.length : Int) / 3)) (wrap64 (t912 - ((l1.length : Int) % t912)))))))), wrap64 ((wrap64 (1 + (Int.tmod (wrap64 ((l1.length : Int) / 5)) (wrap64 (t913 - (Int.tmod (wrap64 ((l1.length : Int) / 7)) t913)))))) - (Int.tmod (wrap64 (Int.tdiv (l1.length : Int) 13)) (wrap64 (1 + (Int.tmod (wrap64 ((l1.length : Int) / 5)) (wrap64 (t913 - (Int.tmod (wrap64 ((l1.length : Int) / 7)) t913))))))))⟩ : S27)] : List (S27))) (inner := [.int .i64 1, .int .i64 (Int.tmod (wrap64 (Int.tdiv (l1.length : Int) 11)) (wrap64 (1 + (Int.tmod (wrap64 ((l1.length : Int) / 3)) (wrap64 (t912 - ((l1.length : Int) % t912))))))), .int .i64 (Int.tmod (wrap64 (Int.tdiv (l1.length : Int) 13)) (wrap64 (1 + (Int.tmod (wrap64 ((l1.length : Int) / 5)) (wrap64 (t913 - (Int.tmod (wrap64 ((l1.length : Int) / 7)) t913))))))), .int .i64 (wrap64 ((wrap64 (1 + (Int.tmod (wrap64 ((l1.length : Int) / 3)) (wrap64 (t912 - ((l1.length : Int) % t912)))))) - (Int.tmod (wrap64 (Int.tdiv (l1.length : Int) 11)) (wrap64 (1 + (Int.tmod (wrap64 ((l1.length : Int) / 3)) (wrap64 (t912 - ((l1.length : Int) % t912))))))))), .int .i64 (wrap64 ((wrap64 (1 + (Int.tmod (wrap64 ((l1.length : Int) / 5)) (wrap64 (t913 - (Int.tmod (wrap64 ((l1.length : Int) / 7)) t913)))))) - (Int.tmod (wrap64 (Int.tdiv (l1.length : Int) 13)) (wrap64 (1 + (Int.tmod (wrap64 ((l1.length : Int) / 5)) (wrap64 (t913 - (Int.tmod (wrap64 ((l1.length : Int) / 7)) t913)))))))))]) (ok := fun _ => True) (okp := fun _ => True) ?hr ?hp (fun _ hk => hk) trivial (Below.refl _ _) (Nat.le_refl _) (by simp) ?_; (case hd => rfl); (case hg => rfl); (case hr => first | (go_simp; done) | (go_simp; rfl)); (case hp => exact (Reps.c5 (show Kd.M k27 _ _ _ (⟨1, Int.tmod (wrap64 (Int.tdiv (l1.length : Int) 11)) (wrap64 (1 + (Int.tmod (wrap64 ((l1.length : Int) / 3)) (wrap64 (t912 - ((l1.length : Int) % t912)))))), Int.tmod (wrap64 (Int.tdiv (l1.length : Int) 13)) (wrap64 (1 + (Int.tmod (wrap64 ((l1.length : Int) / 5)) (wrap64 (t913 - (Int.tmod (wrap64 ((l1.length : Int) / 7)) t913)))))), wrap64 ((wrap64 (1 + (Int.tmod (wrap64 ((l1.length : Int) / 3)) (wrap64 (t912 - ((l1.length : Int) % t912)))))) - (Int.tmod (wrap64 (Int.tdiv (l1.length : Int) 11)) (wrap64 (1 + (Int.tmod (wrap64 ((l1.length : Int) / 3)) (wrap64 (t912 - ((l1.length : Int) % t912)))))))), wrap64 ((wrap64 (1 + (Int.tmod (wrap64 ((l1.length : Int) / 5)) (wrap64 (t913 - (Int.tmod (wrap64 ((l1.length : Int) / 7)) t913)))))) - (Int.tmod (wrap64 (Int.tdiv (l1.length : Int) 13)) (wrap64 (1 + (Int.tmod (wrap64 ((l1.length : Int) / 5)) (wrap64 (t913 - (Int.tmod (wrap64 ((l1.length : Int) / 7)) t913))))))))⟩ : S27) [.int .i64 1, .int .i64 (Int.tmod (wrap64 (Int.tdiv (l1.length : Int) 11)) (wrap64 (1 + (Int.tmod (wrap64 ((l1.length : Int) / 3)) (wrap64 (t912 - ((l1.length : Int) % t912))))))), .int .i64 (Int.tmod (wrap64 (Int.tdiv (l1.length : Int) 13)) (wrap64 (1 + (Int.tmod (wrap64 ((l1.length : Int) / 5)) (wrap64 (t913 - (Int.tmod (wrap64 ((l1.length : Int) / 7)) t913))))))), .int .i64 (wrap64 ((wrap64 (1 + (Int.tmod (wrap64 ((l1.length : Int) / 3)) (wrap64 (t912 - ((l1.length : Int) % t912)))))) - (Int.tmod (wrap64 (Int.tdiv (l1.length : Int) 11)) (wrap64 (1 + (Int.tmod (wrap64 ((l1.length : Int) / 3)) (wrap64 (t912 - ((l1.length : Int) % t912))))))))), .int .i64 (wrap64 ((wrap64 (1 + (Int.tmod (wrap64 ((l1.length : Int) / 5)) (wrap64 (t913 - (Int.tmod (wrap64 ((l1.length : Int) / 7)) t913)))))) - (Int.tmod (wrap64 (Int.tdiv (l1.length : Int) 13)) (wrap64 (1 + (Int.tmod (wrap64 ((l1.length : Int) / 5)) (wrap64 (t913 - (Int.tmod (wrap64 ((l1.length : Int) / 7)) t913)))))))))] from (k27_mkM _ _ _ (⟨1, Int.tmod (wrap64 (Int.tdiv (l1.length : Int) 11)) (wrap64 (1 + (Int.tmod (wrap64 ((l1.length : Int) / 3)) (wrap64 (t912 - ((l1.length : Int) % t912)))))), Int.tmod (wrap64 (Int.tdiv (l1.length : Int) 13)) (wrap64 (1 + (Int.tmod (wrap64 ((l1.length : Int) / 5)) (wrap64 (t913 - (Int.tmod (wrap64 ((l1.length : Int) / 7)) t913)))))), wrap64 ((wrap64 (1 + (Int.tmod (wrap64 ((l1.length : Int) / 3)) (wrap64 (t912 - ((l1.length : Int) % t912)))))) - (Int.tmod (wrap64 (Int.tdiv (l1.length : Int) 11)) (wrap64 (1 + (Int.tmod (wrap64 ((l1.length : Int) / 3)) (wrap64 (t912 - ((l1.length : Int) % t912)))))))), wrap64 ((wrap64 (1 + (Int.tmod (wrap64 ((l1.length : Int) / 5)) (wrap64 (t913 - (Int.tmod (wrap64 ((l1.length : Int) / 7)) t913)))))) - (Int.tmod (wrap64 (Int.tdiv (l1.length : Int) 13)) (wrap64 (1 + (Int.tmod (wrap64 ((l1.length : Int) / 5)) (wrap64 (t913 - (Int.tmod (wrap64 ((l1.length : Int) / 7)) t913))))))))⟩ : S27) )) (Reps.none _ _))); intro v945 w53 ho54 hb hg_ hnew_; clear hg_ hnew_; (first | rw [← Ny944.out] at ho54 | (simp only [Int.reduceToNat] at ho54; rw [← Ny944.out] at ho54)); have n_ := o2_ (Kd.Q_below (oQ HO_923002) hb) (o2_ (Kd.V_elder' (oV HO_936002) (Kd.R_base ho54) hb) (o2_ (Kd.R_lower (Kd.R_newB ho54 (oP BK923)) (below_size (oB HB))) (o2_ (blk_below (oP BK922) hb) (o2_ (blk_below (oP BK923) hb) (o2_ (blk_below (oP BK935) hb) (o1_ (below_step (oB HB) hb))))))); clear HO_923002 HO_936002 BK922 BK923 BK935 HB; obtain ⟨HO_923002, HO_936002, HO946, BK922, BK923, BK935, HB⟩ := n_; clear hb ho54; obtain ⟨Ao55, co55, eo55⟩ := Kd.R_slice HO946.out; subst eo55) | ((with_reducible refine gate_callee (f := 27) rfl ?_); refine goesL_ (some 118) rfl rfl Try.func27 oK rfl #[.agg #[.int .i64 t930, .int .i64 t931, .slice Ao31 t932.length co31], .slice Ao55 y944.length co55] rfl oA ?_; (with_reducible refine (laws_eaDo.calls k2 t930 t931 (fun k_ => ((k_ ≠ gb922 ∧ (k_ ≠ gb923 ∧ k_ ≠ gb935)) ∧ some k_ ≠ (.slice Ao55 y944.length co55 : Value).ownBlock)) _ _ t932 _ _ y944 t947 t948 t949 _ ?side1 ?side2 ?side3 A42.out).mono ?_); (case side1 => exact HO_936002.out); (case side2 => repeat (first | exact (Kd.R_reads' HO946.out).2.2 | (with_reducible refine Kd.C_alloc ?_ _) | (with_reducible refine Kd.C_drewN ?_ _) | (with_reducible refine Kd.C_drew ?_))); (case side3 => exact (Kd.R_reads' HO946.out).2.1); rintro e w56 ⟨v950, rfl, ho0, hb⟩; refine ⟨_, rfl, ?_⟩; have n_ := o2_ (Kd.Q_below (oQ HO_923002) hb) (o2_ (Kd.V_below (oV HO_936002) hb) (o2_ (Kd.R_below (oR HO946) hb) (o2_ (Kd.V_lower (Kd.V_mono (ok' := fun k_ => some k_ ≠ (.slice Ao55 y944.length co55 : Value).ownBlock ∧ k_ ≠ gb922 ∧ k_ ≠ gb923 ∧ k_ ≠ gb935) ho0 (fun k_ hk_ => ⟨Or.elim hk_ (fun hs_ => hs_.2) (fun hn_ => (Kd.fresh' (Kd.R_lt (oR HO946)) k_ hn_)), Or.elim hk_ (fun hs_ => hs_.1.1) (fun hn_ => (Kd.freshB (oP BK922) k_ hn_)), Or.elim hk_ (fun hs_ => hs_.1.2.1) (fun hn_ => (Kd.freshB (oP BK923) k_ hn_)), Or.elim hk_ (fun hs_ => hs_.1.2.2) (fun hn_ => (Kd.freshB (oP BK935) k_ hn_))⟩)) (below_size (oB HB))) (o2_ (blk_below (oP BK922) hb) (o2_ (blk_below (oP BK923) hb) (o2_ (blk_below (oP BK935) hb) (o1_ (below_step (oB HB) hb)))))))); clear HO_923002 HO_936002 HO946 BK922 BK923 BK935 HB; obtain ⟨HO_923002, HO_936002, HO946, HO951, BK922, BK923, BK935, HB⟩ := n_; (try clear hb); (try clear hb2); (try clear hk); (try clear hi); (try clear ho0)) | ((with_reducible refine gate_dst (N := 17) rfl ?_); (try (refine gate_guard (by rfl) ?_; dsimp only)); refine box_event ?hg (N := 17) ?hd (cs := #[.int .i64 0, .int .i64 0, .slice none 0 0]) (t := 25) ?hr ?_; (case hd => rfl); (case hg => rfl); (case hr => first | (go_simp; done) | (go_simp; rfl)); intro gb952 hg w57 hbox hb; have n_ := o2_ (Kd.Q_below (oQ HO_923002) hb) (o2_ (Kd.V_below (Kd.V_elderB (oV HO_936002) gb952 (Nat.le_of_eq hg.symm)) hb) (o2_ (Kd.R_below (oR HO946) hb) (o2_ (Kd.V_below (Kd.V_elderB (oV HO951) gb952 (Nat.le_of_eq hg.symm)) hb) (o2_ (blk_below (oP BK922) hb) (o2_ (blk_below (oP BK923) hb) (o2_ (blk_below (oP BK935) hb) (o2_ (below_step (oB HB) hb) (o2_ (hbox) (o2_ ((oG hg (below_size (oB HB)) : w.heap.size ≤ gb952)) (o2_ ((oG hg (below_size (oB HB)) : w.heap.size ≤ gb952)) (o2_ ((oL hg (blk_lt (oP BK922)))) (o2_ ((oN hg (blk_lt (oP BK922)))) (o2_ ((oL hg (blk_lt (oP BK923)))) (o2_ ((oN hg (blk_lt (oP BK923)))) (o2_ ((oL hg (blk_lt (oP BK935)))) (o1_ ((oN hg (blk_lt (oP BK935)))))))))))))))))))); clear HO_923002 HO_936002 HO946 HO951 BK922 BK923 BK935 HB; obtain ⟨HO_923002, HO_936002, HO946, HO951, BK922, BK923, BK935, HB, BK952, GW952, GE952, NB922_952, NB952_922, NB923_952, NB952_923, NB935_952, NB952_935⟩ := n_; clear hb hbox hg; have hnb58 := NB952_922.out; have hnc58 := NB922_952.out; have hnb59 := NB952_923.out; have hnc59 := NB923_952.out; have hnb60 := NB952_935.out; have hnc60 := NB935_952.out; have hcz61_0 : w57.cell? ⟨gb952, 0, none⟩ = some (.int .i64 0) := (blk_cell BK952.out 0).trans rfl; have hcz61_1 : w57.cell? ⟨gb952, 1, none⟩ = some (.int .i64 0) := (blk_cell BK952.out 1).trans rfl; have hcz61_2 : w57.cell? ⟨gb952, 2, none⟩ = some (.slice none 0 0) := (blk_cell BK952.out 2).trans rfl; have hfz61_0 := blk_frozen BK952.out 0; have hfz61_1 := blk_frozen BK952.out 1; have hfz61_2 := blk_frozen BK952.out 2; obtain ⟨Ao62, co62, eo62⟩ := Kd.V_slice HO951.out; subst eo62; have hnb63 := NB922_923.out; have hnc63 := NB923_922.out; have hcz64_0 : w57.cell? ⟨gb922, 0, none⟩ = some (.int .i64 t912) := (blk_cell BK922.out 0).trans rfl; have hcz64_1 : w57.cell? ⟨gb922, 1, none⟩ = some (.int .i64 t913) := (blk_cell BK922.out 1).trans rfl; have hcz64_2 : w57.cell? ⟨gb922, 2, none⟩ = some (.slice Ao19 t914.length co19) := (blk_cell BK922.out 2).trans rfl; have hfz64_0 := blk_frozen BK922.out 0; have hfz64_1 := blk_frozen BK922.out 1; have hfz64_2 := blk_frozen BK922.out 2) | ((with_reducible refine gate_dst (N := 133) rfl ?_); (try (refine gate_guard (by rfl) ?_; dsimp only)); refine Kd.R_lit k27 _ 27 ?hg (N := 133) ?hd (xs := ([(⟨1, wrap64 (((l1.length : Int) % t912) + (Int.tmod (wrap64 (Int.tdiv (l1.length : Int) 11)) (wrap64 (1 + (Int.tmod (wrap64 ((l1.length : Int) / 3)) (wrap64 (t912 - ((l1.length : Int) % t912)))))))), wrap64 ((Int.tmod (wrap64 ((l1.length : Int) / 7)) t913) + (Int.tmod (wrap64 (Int.tdiv (l1.length : Int) 13)) (wrap64 (1 + (Int.tmod (wrap64 ((l1.length : Int) / 5)) (wrap64 (t913 - (Int.tmod (wrap64 ((l1.length : Int) / 7)) t913)))))))), wrap64 ((wrap64 (1 + (Int.tmod (wrap64 ((l1.length : Int) / 3)) (wrap64 (t912 - ((l1.length : Int) % t912)))))) - (Int.tmod (wrap64 (Int.tdiv (l1.length : Int) 11)) (wrap64 (1 + (Int.tmod (wrap64 ((l1.length : Int) / 3)) (wrap64 (t912 - ((l1.length : Int) % t912)))))))), wrap64 ((wrap64 (1 + (Int.tmod (wrap64 ((l1.length : Int) / 5)) (wrap64 (t913 - (Int.tmod (wrap64 ((l1.length : Int) / 7)) t913)))))) - (Int.tmod (wrap64 (Int.tdiv (l1.length : Int) 13)) (wrap64 (1 + (Int.tmod (wrap64 ((l1.length : Int) / 5)) (wrap64 (t913 - (Int.tmod (wrap64 ((l1.length : Int) / 7)) t913))))))))⟩ : S27)] : List (S27))) (inner := [.int .i64 1, .int .i64 (wrap64 (((l1.length : Int) % t912) + (Int.tmod (wrap64 (Int.tdiv (l1.length : Int) 11)) (wrap64 (1 + (Int.tmod (wrap64 ((l1.length : Int) / 3)) (wrap64 (t912 - ((l1.length : Int) % t912))))))))), .int .i64 (wrap64 ((Int.tmod (wrap64 ((l1.length : Int) / 7)) t913) + (Int.tmod (wrap64 (Int.tdiv (l1.length : Int) 13)) (wrap64 (1 + (Int.tmod (wrap64 ((l1.length : Int) / 5)) (wrap64 (t913 - (Int.tmod (wrap64 ((l1.length : Int) / 7)) t913))))))))), .int .i64 (wrap64 ((wrap64 (1 + (Int.tmod (wrap64 ((l1.length : Int) / 3)) (wrap64 (t912 - ((l1.length : Int) % t912)))))) - (Int.tmod (wrap64 (Int.tdiv (l1.length : Int) 11)) (wrap64 (1 + (Int.tmod (wrap64 ((l1.length : Int) / 3)) (wrap64 (t912 - ((l1.length : Int) % t912))))))))), .int .i64 (wrap64 ((wrap64 (1 + (Int.tmod (wrap64 ((l1.length : Int) / 5)) (wrap64 (t913 - (Int.tmod (wrap64 ((l1.length : Int) / 7)) t913)))))) - (Int.tmod (wrap64 (Int.tdiv (l1.length : Int) 13)) (wrap64 (1 + (Int.tmod (wrap64 ((l1.length : Int) / 5)) (wrap64 (t913 - (Int.tmod (wrap64 ((l1.length : Int) / 7)) t913)))))))))]) (ok := fun _ => True) (okp := fun _ => True) ?hr ?hp (fun _ hk => hk) trivial (Below.refl _ _) (Nat.le_refl _) (by simp) ?_; (case hd => rfl); (case hg => rfl); (case hr => first | (go_simp; done) | (go_simp; rfl)); (case hp => exact (Reps.c5 (show Kd.M k27 _ _ _ (⟨1, wrap64 (((l1.length : Int) % t912) + (Int.tmod (wrap64 (Int.tdiv (l1.length : Int) 11)) (wrap64 (1 + (Int.tmod (wrap64 ((l1.length : Int) / 3)) (wrap64 (t912 - ((l1.length : Int) % t912)))))))), wrap64 ((Int.tmod (wrap64 ((l1.length : Int) / 7)) t913) + (Int.tmod (wrap64 (Int.tdiv (l1.length : Int) 13)) (wrap64 (1 + (Int.tmod (wrap64 ((l1.length : Int) / 5)) (wrap64 (t913 - (Int.tmod (wrap64 ((l1.length : Int) / 7)) t913)))))))), wrap64 ((wrap64 (1 + (Int.tmod (wrap64 ((l1.length : Int) / 3)) (wrap64 (t912 - ((l1.length : Int) % t912)))))) - (Int.tmod (wrap64 (Int.tdiv (l1.length : Int) 11)) (wrap64 (1 + (Int.tmod (wrap64 ((l1.length : Int) / 3)) (wrap64 (t912 - ((l1.length : Int) % t912)))))))), wrap64 ((wrap64 (1 + (Int.tmod (wrap64 ((l1.length : Int) / 5)) (wrap64 (t913 - (Int.tmod (wrap64 ((l1.length : Int) / 7)) t913)))))) - (Int.tmod (wrap64 (Int.tdiv (l1.length : Int) 13)) (wrap64 (1 + (Int.tmod (wrap64 ((l1.length : Int) / 5)) (wrap64 (t913 - (Int.tmod (wrap64 ((l1.length : Int) / 7)) t913))))))))⟩ : S27) [.int .i64 1, .int .i64 (wrap64 (((l1.length : Int) % t912) + (Int.tmod (wrap64 (Int.tdiv (l1.length : Int) 11)) (wrap64 (1 + (Int.tmod (wrap64 ((l1.length : Int) / 3)) (wrap64 (t912 - ((l1.length : Int) % t912))))))))), .int .i64 (wrap64 ((Int.tmod (wrap64 ((l1.length : Int) / 7)) t913) + (Int.tmod (wrap64 (Int.tdiv (l1.length : Int) 13)) (wrap64 (1 + (Int.tmod (wrap64 ((l1.length : Int) / 5)) (wrap64 (t913 - (Int.tmod (wrap64 ((l1.length : Int) / 7)) t913))))))))), .int .i64 (wrap64 ((wrap64 (1 + (Int.tmod (wrap64 ((l1.length : Int) / 3)) (wrap64 (t912 - ((l1.length : Int) % t912)))))) - (Int.tmod (wrap64 (Int.tdiv (l1.length : Int) 11)) (wrap64 (1 + (Int.tmod (wrap64 ((l1.length : Int) / 3)) (wrap64 (t912 - ((l1.length : Int) % t912))))))))), .int .i64 (wrap64 ((wrap64 (1 + (Int.tmod (wrap64 ((l1.length : Int) / 5)) (wrap64 (t913 - (Int.tmod (wrap64 ((l1.length : Int) / 7)) t913)))))) - (Int.tmod (wrap64 (Int.tdiv (l1.length : Int) 13)) (wrap64 (1 + (Int.tmod (wrap64 ((l1.length : Int) / 5)) (wrap64 (t913 - (Int.tmod (wrap64 ((l1.length : Int) / 7)) t913)))))))))] from (k27_mkM _ _ _ (⟨1, wrap64 (((l1.length : Int) % t912) + (Int.tmod (wrap64 (Int.tdiv (l1.length : Int) 11)) (wrap64 (1 + (Int.tmod (wrap64 ((l1.length : Int) / 3)) (wrap64 (t912 - ((l1.length : Int) % t912)))))))), wrap64 ((Int.tmod (wrap64 ((l1.length : Int) / 7)) t913) + (Int.tmod (wrap64 (Int.tdiv (l1.length : Int) 13)) (wrap64 (1 + (Int.tmod (wrap64 ((l1.length : Int) / 5)) (wrap64 (t913 - (Int.tmod (wrap64 ((l1.length : Int) / 7)) t913)))))))), wrap64 ((wrap64 (1 + (Int.tmod (wrap64 ((l1.length : Int) / 3)) (wrap64 (t912 - ((l1.length : Int) % t912)))))) - (Int.tmod (wrap64 (Int.tdiv (l1.length : Int) 11)) (wrap64 (1 + (Int.tmod (wrap64 ((l1.length : Int) / 3)) (wrap64 (t912 - ((l1.length : Int) % t912)))))))), wrap64 ((wrap64 (1 + (Int.tmod (wrap64 ((l1.length : Int) / 5)) (wrap64 (t913 - (Int.tmod (wrap64 ((l1.length : Int) / 7)) t913)))))) - (Int.tmod (wrap64 (Int.tdiv (l1.length : Int) 13)) (wrap64 (1 + (Int.tmod (wrap64 ((l1.length : Int) / 5)) (wrap64 (t913 - (Int.tmod (wrap64 ((l1.length : Int) / 7)) t913))))))))⟩ : S27) )) (Reps.none _ _))); intro v954 w65 ho66 hb hg_ hnew_; clear hg_ hnew_; (first | rw [← Ny953.out] at ho66 | (simp only [Int.reduceToNat] at ho66; rw [← Ny953.out] at ho66)); have n_ := o2_ (Kd.Q_below (by (with_reducible repeat (first | apply Kd.Q_alloc | apply Kd.Q_drewN | apply Kd.Q_drew)); exact (Kd.Q_mono (Kd.Q_far (p := ⟨gb952, 2, none⟩) (Kd.Q_far (p := ⟨gb952, 1, none⟩) (Kd.Q_far (p := ⟨gb952, 0, none⟩) (Kd.Q_types HO_923002.out BK952.out oD) (fun _ hk => hk.2) (.int .i64 t947)) (fun _ hk => hk.2) (.int .i64 t948)) (fun _ hk => hk.2) (.slice Ao62 t949.length co62)) (fun _ h_ => h_.1))) hb) (o2_ (Kd.V_elder' (by (with_reducible repeat (first | apply Kd.V_alloc | apply Kd.V_drewN | apply Kd.V_drew)); exact (Kd.V_mono (Kd.V_far (p := ⟨gb952, 2, none⟩) (Kd.V_far (p := ⟨gb952, 1, none⟩) (Kd.V_far (p := ⟨gb952, 0, none⟩) (Kd.V_mono HO_936002.out (fun k_ hk => (⟨hk, hk.2⟩ : _ ∧ k_ ≠ gb952))) (fun _ hk => hk.2) (.int .i64 t947)) (fun _ hk => hk.2) (.int .i64 t948)) (fun _ hk => hk.2) (.slice Ao62 t949.length co62)) (fun _ h_ => h_.1))) (Kd.R_base ho66) hb) (o2_ (Kd.R_elder' (by (with_reducible repeat (first | apply Kd.R_alloc | apply Kd.R_drewN | apply Kd.R_drew)); exact (Kd.R_mono (Kd.R_far (p := ⟨gb952, 2, none⟩) (Kd.R_far (p := ⟨gb952, 1, none⟩) (Kd.R_far (p := ⟨gb952, 0, none⟩) (Kd.R_types HO946.out BK952.out oD) (fun _ hk => hk.2) (.int .i64 t947)) (fun _ hk => hk.2) (.int .i64 t948)) (fun _ hk => hk.2) (.slice Ao62 t949.length co62)) (fun _ h_ => h_.1))) (Kd.R_base ho66) hb) (o2_ (Kd.V_elder' (by (with_reducible repeat (first | apply Kd.V_alloc | apply Kd.V_drewN | apply Kd.V_drew)); exact (Kd.V_mono (Kd.V_far (p := ⟨gb952, 2, none⟩) (Kd.V_far (p := ⟨gb952, 1, none⟩) (Kd.V_far (p := ⟨gb952, 0, none⟩) (Kd.V_mono HO951.out (fun k_ hk => (⟨hk, hk.2⟩ : _ ∧ k_ ≠ gb952))) (fun _ hk => hk.2) (.int .i64 t947)) (fun _ hk => hk.2) (.int .i64 t948)) (fun _ hk => hk.2) (.slice Ao62 t949.length co62)) (fun _ h_ => h_.1))) (Kd.R_base ho66) hb) (o2_ (Kd.R_lower (Kd.R_newB (Kd.R_new' ho66 (Kd.R_lt (by (with_reducible repeat (first | apply Kd.R_alloc | apply Kd.R_drewN | apply Kd.R_drew)); exact (Kd.R_mono (Kd.R_far (p := ⟨gb952, 2, none⟩) (Kd.R_far (p := ⟨gb952, 1, none⟩) (Kd.R_far (p := ⟨gb952, 0, none⟩) (Kd.R_types HO946.out BK952.out oD) (fun _ hk => hk.2) (.int .i64 t947)) (fun _ hk => hk.2) (.int .i64 t948)) (fun _ hk => hk.2) (.slice Ao62 t949.length co62)) (fun _ h_ => h_.1))))) (oP BK923)) (below_size (oB HB))) (o2_ (blk_below (oP BK922) hb) (o2_ (blk_below (oP BK923) hb) (o2_ (blk_below (oP BK935) hb) (o2_ (blk_below (g := gb952) (o := .cells #[.int .i64 t947, .int .i64 t948, .slice Ao62 t949.length co62] 25 (0, 0)) (blk_put (blk_put (blk_put BK952.out 0 _ rfl) 1 _ rfl) 2 _ rfl) hb) (o1_ (below_step (oB HB) hb)))))))))); clear HO_923002 HO_936002 HO946 HO951 BK922 BK923 BK935 BK952 HB; obtain ⟨HO_923002, HO_936002, HO946, HO951, HO955, BK922, BK923, BK935, BK952, HB⟩ := n_; clear hb ho66; obtain ⟨Ao67, co67, eo67⟩ := Kd.R_slice HO955.out; subst eo67) | ((with_reducible refine gate_callee (f := 27) rfl ?_); refine goesL_ (some 134) rfl rfl Try.func27 oK rfl #[.agg #[.int .i64 t912, .int .i64 t913, .slice Ao19 t914.length co19], .slice Ao67 y953.length co67] rfl oA ?_; (with_reducible refine (laws_eaDo.calls k2 t912 t913 (fun k_ => some k_ = (.slice Ao19 t914.length co19 : Value).ownBlock) _ _ t914 _ _ y953 t956 t957 t958 _ ?side1 ?side2 ?side3 A43.out).mono ?_); (case side1 => exact Kd.Q_V (Kd.Q_tight rfl (Kd.Q_types (Kd.Q_types (Kd.Q_types (Kd.Q_types (Kd.Q_apart' (Kd.Q_apart' (HO_923002.out) (Kd.R_typed HO946.out) oD) (Kd.R_typed HO955.out) oD) BK922.out oD) BK923.out oD) BK935.out oD) BK952.out oD))); (case side2 => repeat (first | exact (Kd.R_reads' HO955.out).2.2 | (with_reducible refine Kd.C_alloc ?_ _) | (with_reducible refine Kd.C_drewN ?_ _) | (with_reducible refine Kd.C_drew ?_))); (case side3 => exact (Kd.R_reads' HO955.out).2.1); rintro e w68 ⟨v959, rfl, ho0, hb⟩; refine ⟨_, rfl, ?_⟩; have hq_ := (Kd.Q_types (Kd.Q_types (Kd.Q_types (Kd.Q_types (Kd.Q_apart' (Kd.Q_apart' (HO_923002.out) (Kd.R_typed HO946.out) oD) (Kd.R_typed HO955.out) oD) BK922.out oD) BK923.out oD) BK935.out oD) BK952.out oD); have n_ := o2_ (Kd.Q_below (oQ HO_923002) hb) (o2_ (Kd.V_below (oV HO_936002) hb) (o2_ (Kd.R_below (oR HO946) hb) (o2_ (Kd.V_below (oV HO951) hb) (o2_ (Kd.R_below (oR HO955) hb) (o2_ (Kd.V_lower (Kd.V_mono (ok' := fun k_ => some k_ ≠ (.slice Ao55 y944.length co55 : Value).ownBlock ∧ some k_ ≠ (.slice Ao67 y953.length co67 : Value).ownBlock ∧ k_ ≠ gb922 ∧ k_ ≠ gb923 ∧ k_ ≠ gb935 ∧ k_ ≠ gb952) ho0 (fun k_ hk_ => ⟨Or.elim hk_ (fun hs_ => (hq_.1 k_ hs_.symm).1.1.1.1.1.2) (fun hn_ => (Kd.fresh' (Kd.R_lt (oR HO946)) k_ hn_)), Or.elim hk_ (fun hs_ => (hq_.1 k_ hs_.symm).1.1.1.1.2) (fun hn_ => (Kd.fresh' (Kd.R_lt (oR HO955)) k_ hn_)), Or.elim hk_ (fun hs_ => (hq_.1 k_ hs_.symm).1.1.1.2) (fun hn_ => (Kd.freshB (oP BK922) k_ hn_)), Or.elim hk_ (fun hs_ => (hq_.1 k_ hs_.symm).1.1.2) (fun hn_ => (Kd.freshB (oP BK923) k_ hn_)), Or.elim hk_ (fun hs_ => (hq_.1 k_ hs_.symm).1.2) (fun hn_ => (Kd.freshB (oP BK935) k_ hn_)), Or.elim hk_ (fun hs_ => (hq_.1 k_ hs_.symm).2) (fun hn_ => (Kd.freshB (oP BK952) k_ hn_))⟩)) (below_size (oB HB))) (o2_ (blk_below (oP BK922) hb) (o2_ (blk_below (oP BK923) hb) (o2_ (blk_below (oP BK935) hb) (o2_ (blk_below (oP BK952) hb) (o1_ (below_step (oB HB) hb))))))))))); clear HO_923002 HO_936002 HO946 HO951 HO955 BK922 BK923 BK935 BK952 HB; obtain ⟨HO_923002, HO_936002, HO946, HO951, HO955, HO960, BK922, BK923, BK935, BK952, HB⟩ := n_; clear hq_; (try clear hb); (try clear hb2); (try clear hk); (try clear hi); (try clear ho0)) | ((with_reducible refine gate_dst (N := 18) rfl ?_); (try (refine gate_guard (by rfl) ?_; dsimp only)); refine box_event ?hg (N := 18) ?hd (cs := #[.int .i64 0, .int .i64 0, .slice none 0 0]) (t := 25) ?hr ?_; (case hd => rfl); (case hg => rfl); (case hr => first | (go_simp; done) | (go_simp; rfl)); intro gb961 hg w69 hbox hb; have n_ := o2_ (Kd.Q_below (oQ HO_923002) hb) (o2_ (Kd.V_below (Kd.V_elderB (oV HO_936002) gb961 (Nat.le_of_eq hg.symm)) hb) (o2_ (Kd.R_below (oR HO946) hb) (o2_ (Kd.V_below (Kd.V_elderB (oV HO951) gb961 (Nat.le_of_eq hg.symm)) hb) (o2_ (Kd.R_below (oR HO955) hb) (o2_ (Kd.V_below (Kd.V_elderB (oV HO960) gb961 (Nat.le_of_eq hg.symm)) hb) (o2_ (blk_below (oP BK922) hb) (o2_ (blk_below (oP BK923) hb) (o2_ (blk_below (oP BK935) hb) (o2_ (blk_below (oP BK952) hb) (o2_ (below_step (oB HB) hb) (o2_ (hbox) (o2_ ((oG hg (below_size (oB HB)) : w.heap.size ≤ gb961)) (o2_ ((oG hg (below_size (oB HB)) : w.heap.size ≤ gb961)) (o2_ ((oL hg (blk_lt (oP BK922)))) (o2_ ((oN hg (blk_lt (oP BK922)))) (o2_ ((oL hg (blk_lt (oP BK923)))) (o2_ ((oN hg (blk_lt (oP BK923)))) (o2_ ((oL hg (blk_lt (oP BK935)))) (o2_ ((oN hg (blk_lt (oP BK935)))) (o2_ ((oL hg (blk_lt (oP BK952)))) (o1_ ((oN hg (blk_lt (oP BK952))))))))))))))))))))))))); clear HO_923002 HO_936002 HO946 HO951 HO955 HO960 BK922 BK923 BK935 BK952 HB; obtain ⟨HO_923002, HO_936002, HO946, HO951, HO955, HO960, BK922, BK923, BK935, BK952, HB, BK961, GW961, GE961, NB922_961, NB961_922, NB923_961, NB961_923, NB935_961, NB961_935, NB952_961, NB961_952⟩ := n_; clear hb hbox hg; have hnb70 := NB961_922.out; have hnc70 := NB922_961.out; have hnb71 := NB961_923.out; have hnc71 := NB923_961.out; have hnb72 := NB961_935.out; have hnc72 := NB935_961.out; have hnb73 := NB961_952.out; have hnc73 := NB952_961.out; have hcz74_0 : w69.cell? ⟨gb961, 0, none⟩ = some (.int .i64 0) := (blk_cell BK961.out 0).trans rfl; have hcz74_1 : w69.cell? ⟨gb961, 1, none⟩ = some (.int .i64 0) := (blk_cell BK961.out 1).trans rfl; have hcz74_2 : w69.cell? ⟨gb961, 2, none⟩ = some (.slice none 0 0) := (blk_cell BK961.out 2).trans rfl; have hfz74_0 := blk_frozen BK961.out 0; have hfz74_1 := blk_frozen BK961.out 1; have hfz74_2 := blk_frozen BK961.out 2; obtain ⟨Ao75, co75, eo75⟩ := Kd.V_slice HO960.out; subst eo75))
                have n0_ : Aside0 (Kd.Q k38 38 (((w69.setCell ⟨gb961, 0, none⟩ (.int .i64 t956)).setCell ⟨gb961, 1, none⟩ (.int .i64 t957)).setCell ⟨gb961, 2, none⟩ (.slice Ao75 t958.length co75)) w.heap.size (fun _ => True) (.slice Ao19 t914.length co19) t914) := ⟨(by (with_reducible repeat (first | apply Kd.Q_alloc | apply Kd.Q_drewN | apply Kd.Q_drew)); exact Kd.Q_mono (Kd.Q_far (p := ⟨gb961, 2, none⟩) (Kd.Q_far (p := ⟨gb961, 1, none⟩) (Kd.Q_far (p := ⟨gb961, 0, none⟩) (Kd.Q_types HO_923002.out BK961.out oD) (fun _ hk => hk.2) (.int .i64 t956)) (fun _ hk => hk.2) (.int .i64 t957)) (fun _ hk => hk.2) (.slice Ao75 t958.length co75)) (fun _ hk => trivial))⟩
                have n1_ : Aside0 (Kd.V k38 38 (((w69.setCell ⟨gb961, 0, none⟩ (.int .i64 t956)).setCell ⟨gb961, 1, none⟩ (.int .i64 t957)).setCell ⟨gb961, 2, none⟩ (.slice Ao75 t958.length co75)) w.heap.size (fun k_ => some k_ ≠ (.slice Ao55 y944.length co55 : Value).ownBlock ∧ some k_ ≠ (.slice Ao67 y953.length co67 : Value).ownBlock ∧ k_ ≠ gb922 ∧ k_ ≠ gb923 ∧ k_ ≠ gb935 ∧ k_ ≠ gb952 ∧ k_ ≠ gb961) (.slice Ao31 t932.length co31) t932) := ⟨(by (with_reducible repeat (first | apply Kd.V_alloc | apply Kd.V_drewN | apply Kd.V_drew)); exact Kd.V_mono (Kd.V_far (p := ⟨gb961, 2, none⟩) (Kd.V_far (p := ⟨gb961, 1, none⟩) (Kd.V_far (p := ⟨gb961, 0, none⟩) (Kd.V_mono HO_936002.out (fun k_ hk => (⟨hk, hk.2⟩ : _ ∧ k_ ≠ gb961))) (fun _ hk => hk.2) (.int .i64 t956)) (fun _ hk => hk.2) (.int .i64 t957)) (fun _ hk => hk.2) (.slice Ao75 t958.length co75)) (fun _ hk => ⟨hk.1.1.1.1.2, ⟨hk.1.1.2, ⟨hk.1.1.1.1.1.1, ⟨hk.1.1.1.1.1.2.1, ⟨hk.1.1.1.1.1.2.2, ⟨hk.1.1.1.2, hk.1.2⟩⟩⟩⟩⟩⟩))⟩
                have n2_ : Aside0 (Kd.R k27 27 (((w69.setCell ⟨gb961, 0, none⟩ (.int .i64 t956)).setCell ⟨gb961, 1, none⟩ (.int .i64 t957)).setCell ⟨gb961, 2, none⟩ (.slice Ao75 t958.length co75)) w.heap.size (fun k_ => some k_ ≠ (.slice Ao67 y953.length co67 : Value).ownBlock ∧ k_ ≠ gb923) (.slice Ao55 y944.length co55) y944) := ⟨(by (with_reducible repeat (first | apply Kd.R_alloc | apply Kd.R_drewN | apply Kd.R_drew)); exact Kd.R_mono (Kd.R_far (p := ⟨gb961, 2, none⟩) (Kd.R_far (p := ⟨gb961, 1, none⟩) (Kd.R_far (p := ⟨gb961, 0, none⟩) (Kd.R_types HO946.out BK961.out oD) (fun _ hk => hk.2) (.int .i64 t956)) (fun _ hk => hk.2) (.int .i64 t957)) (fun _ hk => hk.2) (.slice Ao75 t958.length co75)) (fun _ hk => ⟨hk.1.2, hk.1.1.2⟩))⟩
                have n3_ : Aside0 (Kd.V k38 38 (((w69.setCell ⟨gb961, 0, none⟩ (.int .i64 t956)).setCell ⟨gb961, 1, none⟩ (.int .i64 t957)).setCell ⟨gb961, 2, none⟩ (.slice Ao75 t958.length co75)) w.heap.size (fun k_ => some k_ ≠ (.slice Ao55 y944.length co55 : Value).ownBlock ∧ some k_ ≠ (.slice Ao67 y953.length co67 : Value).ownBlock ∧ k_ ≠ gb922 ∧ k_ ≠ gb923 ∧ k_ ≠ gb935 ∧ k_ ≠ gb952 ∧ k_ ≠ gb961) (.slice Ao62 t949.length co62) t949) := ⟨(by (with_reducible repeat (first | apply Kd.V_alloc | apply Kd.V_drewN | apply Kd.V_drew)); exact Kd.V_mono (Kd.V_far (p := ⟨gb961, 2, none⟩) (Kd.V_far (p := ⟨gb961, 1, none⟩) (Kd.V_far (p := ⟨gb961, 0, none⟩) (Kd.V_mono HO951.out (fun k_ hk => (⟨hk, hk.2⟩ : _ ∧ k_ ≠ gb961))) (fun _ hk => hk.2) (.int .i64 t956)) (fun _ hk => hk.2) (.int .i64 t957)) (fun _ hk => hk.2) (.slice Ao75 t958.length co75)) (fun _ hk => ⟨hk.1.1.1.1.1, ⟨hk.1.1.2, ⟨hk.1.1.1.1.2.1, ⟨hk.1.1.1.1.2.2.1, ⟨hk.1.1.1.1.2.2.2, ⟨hk.1.1.1.2, hk.1.2⟩⟩⟩⟩⟩⟩))⟩
                have n4_ : Aside0 (Kd.R k27 27 (((w69.setCell ⟨gb961, 0, none⟩ (.int .i64 t956)).setCell ⟨gb961, 1, none⟩ (.int .i64 t957)).setCell ⟨gb961, 2, none⟩ (.slice Ao75 t958.length co75)) w.heap.size (fun k_ => some k_ ≠ (.slice Ao55 y944.length co55 : Value).ownBlock ∧ k_ ≠ gb923) (.slice Ao67 y953.length co67) y953) := ⟨(by (with_reducible repeat (first | apply Kd.R_alloc | apply Kd.R_drewN | apply Kd.R_drew)); exact Kd.R_mono (Kd.R_far (p := ⟨gb961, 2, none⟩) (Kd.R_far (p := ⟨gb961, 1, none⟩) (Kd.R_far (p := ⟨gb961, 0, none⟩) (Kd.R_types HO955.out BK961.out oD) (fun _ hk => hk.2) (.int .i64 t956)) (fun _ hk => hk.2) (.int .i64 t957)) (fun _ hk => hk.2) (.slice Ao75 t958.length co75)) (fun _ hk => ⟨hk.1.1.2, hk.1.2⟩))⟩
                have n5_ : Aside0 (Kd.V k38 38 (((w69.setCell ⟨gb961, 0, none⟩ (.int .i64 t956)).setCell ⟨gb961, 1, none⟩ (.int .i64 t957)).setCell ⟨gb961, 2, none⟩ (.slice Ao75 t958.length co75)) w.heap.size (fun k_ => some k_ ≠ (.slice Ao55 y944.length co55 : Value).ownBlock ∧ some k_ ≠ (.slice Ao67 y953.length co67 : Value).ownBlock ∧ k_ ≠ gb922 ∧ k_ ≠ gb923 ∧ k_ ≠ gb935 ∧ k_ ≠ gb952 ∧ k_ ≠ gb961) (.slice Ao75 t958.length co75) t958) := ⟨(by (with_reducible repeat (first | apply Kd.V_alloc | apply Kd.V_drewN | apply Kd.V_drew)); exact Kd.V_mono (Kd.V_far (p := ⟨gb961, 2, none⟩) (Kd.V_far (p := ⟨gb961, 1, none⟩) (Kd.V_far (p := ⟨gb961, 0, none⟩) (Kd.V_mono HO960.out (fun k_ hk => (⟨hk, hk.2⟩ : _ ∧ k_ ≠ gb961))) (fun _ hk => hk.2) (.int .i64 t956)) (fun _ hk => hk.2) (.int .i64 t957)) (fun _ hk => hk.2) (.slice Ao75 t958.length co75)) (fun _ hk => ⟨hk.1.1.1, ⟨hk.1.1.2.1, ⟨hk.1.1.2.2.1, ⟨hk.1.1.2.2.2.1, ⟨hk.1.1.2.2.2.2.1, ⟨hk.1.1.2.2.2.2.2, hk.1.2⟩⟩⟩⟩⟩⟩))⟩
                have n6_ : Aside0 ((((w69.setCell ⟨gb961, 0, none⟩ (.int .i64 t956)).setCell ⟨gb961, 1, none⟩ (.int .i64 t957)).setCell ⟨gb961, 2, none⟩ (.slice Ao75 t958.length co75)).heap[gb922]? = some (.cells #[.int .i64 t912, .int .i64 t913, .slice Ao19 t914.length co19] 25 (0, 0))) := ⟨(oP BK922)⟩
                have n7_ : Aside0 ((((w69.setCell ⟨gb961, 0, none⟩ (.int .i64 t956)).setCell ⟨gb961, 1, none⟩ (.int .i64 t957)).setCell ⟨gb961, 2, none⟩ (.slice Ao75 t958.length co75)).heap[gb923]? = some (.cells #[.int .i64 t917, .int .i64 t918, .int .i64 t919, .int .i64 t920, .int .i64 t921] 27 (0, 0))) := ⟨(oP BK923)⟩
                have n8_ : Aside0 ((((w69.setCell ⟨gb961, 0, none⟩ (.int .i64 t956)).setCell ⟨gb961, 1, none⟩ (.int .i64 t957)).setCell ⟨gb961, 2, none⟩ (.slice Ao75 t958.length co75)).heap[gb935]? = some (.cells #[.int .i64 t930, .int .i64 t931, .slice Ao31 t932.length co31] 25 (0, 0))) := ⟨(oP BK935)⟩
                have n9_ : Aside0 ((((w69.setCell ⟨gb961, 0, none⟩ (.int .i64 t956)).setCell ⟨gb961, 1, none⟩ (.int .i64 t957)).setCell ⟨gb961, 2, none⟩ (.slice Ao75 t958.length co75)).heap[gb952]? = some (.cells #[.int .i64 t947, .int .i64 t948, .slice Ao62 t949.length co62] 25 (0, 0))) := ⟨(oP BK952)⟩
                have n10_ : Aside0 ((((w69.setCell ⟨gb961, 0, none⟩ (.int .i64 t956)).setCell ⟨gb961, 1, none⟩ (.int .i64 t957)).setCell ⟨gb961, 2, none⟩ (.slice Ao75 t958.length co75)).heap[gb961]? = some (.cells #[.int .i64 t956, .int .i64 t957, .slice Ao75 t958.length co75] 25 (0, 0))) := ⟨(blk_put (blk_put (blk_put BK961.out 0 _ rfl) 1 _ rfl) 2 _ rfl)⟩
                have n11_ : Aside0 (Below w.heap.size w (((w69.setCell ⟨gb961, 0, none⟩ (.int .i64 t956)).setCell ⟨gb961, 1, none⟩ (.int .i64 t957)).setCell ⟨gb961, 2, none⟩ (.slice Ao75 t958.length co75))) := ⟨(oB HB)⟩
                (try clear HO_923002)
                (try clear HO_936002)
                (try clear HO946)
                (try clear HO951)
                (try clear HO955)
                (try clear HO960)
                (try clear BK922)
                (try clear BK923)
                (try clear BK935)
                (try clear BK952)
                (try clear BK961)
                (try clear HB)
                generalize (((w69.setCell ⟨gb961, 0, none⟩ (.int .i64 t956)).setCell ⟨gb961, 1, none⟩ (.int .i64 t957)).setCell ⟨gb961, 2, none⟩ (.slice Ao75 t958.length co75)) = w76 at n0_ n1_ n2_ n3_ n4_ n5_ n6_ n7_ n8_ n9_ n10_ n11_ ⊢
                have HO_923002 := n0_
                have HO_936002 := n1_
                have HO946 := n2_
                have HO951 := n3_
                have HO955 := n4_
                have HO960 := n5_
                have BK922 := n6_
                have BK923 := n7_
                have BK935 := n8_
                have BK952 := n9_
                have BK961 := n10_
                have HB := n11_
                clear n0_ n1_ n2_ n3_ n4_ n5_ n6_ n7_ n8_ n9_ n10_ n11_
                have n_ := o2_ (Kd.Q_drew HO_923002.out) (o2_ (Kd.V_drew HO_936002.out) (o2_ (Kd.R_drew HO946.out) (o2_ (Kd.V_drew HO951.out) (o2_ (Kd.R_drew HO955.out) (o2_ (Kd.V_drew HO960.out) (o2_ (blk_drew BK922.out) (o2_ (blk_drew BK923.out) (o2_ (blk_drew BK935.out) (o2_ (blk_drew BK952.out) (o2_ (blk_drew BK961.out) (o1_ (below_drew1 HB.out))))))))))))
                clear HO_923002 HO_936002 HO946 HO951 HO955 HO960 BK922 BK923 BK935 BK952 BK961 HB
                obtain ⟨HO_923002, HO_936002, HO946, HO951, HO955, HO960, BK922, BK923, BK935, BK952, BK961, HB⟩ := n_
                refine start_ (n := 20) (S := fun w' => w'.cell? ⟨gb935, 0, none⟩ = some (.int .i64 t930) ∧ w'.cell? ⟨gb935, 1, none⟩ = some (.int .i64 t931) ∧ w'.cell? ⟨gb935, 2, none⟩ = some (.slice Ao31 t932.length co31) ∧ w'.cell? ⟨gb952, 0, none⟩ = some (.int .i64 t947) ∧ w'.cell? ⟨gb952, 1, none⟩ = some (.int .i64 t948) ∧ w'.cell? ⟨gb952, 2, none⟩ = some (.slice Ao62 t949.length co62) ∧ w'.cell? ⟨gb961, 0, none⟩ = some (.int .i64 t956) ∧ w'.cell? ⟨gb961, 1, none⟩ = some (.int .i64 t957) ∧ w'.cell? ⟨gb961, 2, none⟩ = some (.slice Ao75 t958.length co75) ∧ w'.cell? ⟨gb922, 0, none⟩ = some (.int .i64 t912) ∧ w'.cell? ⟨gb922, 1, none⟩ = some (.int .i64 t913) ∧ w'.cell? ⟨gb922, 2, none⟩ = some (.slice Ao19 t914.length co19)) (ds := []) #[false, false, false, false, false, false, false, false, false, false, false, false, false, false, false, false, false, false, false, false] oK rfl rfl ⟨(blk_cell BK935.out 0).trans rfl, (blk_cell BK935.out 1).trans rfl, (blk_cell BK935.out 2).trans rfl, (blk_cell BK952.out 0).trans rfl, (blk_cell BK952.out 1).trans rfl, (blk_cell BK952.out 2).trans rfl, (blk_cell BK961.out 0).trans rfl, (blk_cell BK961.out 1).trans rfl, (blk_cell BK961.out 2).trans rfl, (blk_cell BK922.out 0).trans rfl, (blk_cell BK922.out 1).trans rfl, (blk_cell BK922.out 2).trans rfl⟩ (fun hHeld => ?_); refine with_tabW laws_FnOpCrop.tab24 laws_FnOpCrop.bits24 (fun HT_ HW_ => ?_)
                generalize w76.drew = w77 at HO_923002 HO_936002 HO946 HO951 HO955 HO960 BK922 BK923 BK935 BK952 BK961 HB hHeld ⊢
                refine take_ (i := 0) (N := some 135) (v := ?_) (a' := ?_) #[true, false, false, false, false, false, false, false, false, false, false, false, false, false, false, false, false, false, false, false] rfl rfl (take_ofW HT_.out HW_.out oK) (fun _ _ _ h => h) (Or.inl ⟨by rfl, ?_⟩) hHeld ?_ ?_
                rotate_left
                ·rintro w' ⟨s0, s1, s2, s3, s4, s5, s6, s7, s8, s9, s10, s11⟩
                 go_simp
                 with_reducible rfl
                rotate_left
                ·simp only [Act.put, List.setIfInBounds_toArray, List.set_cons_zero, List.set_cons_succ, i64_w, i32_w]
                 rfl
                refine one_ (i := 1) (N := some 136) #[true, true, false, false, false, false, false, false, false, false, false, false, false, false, false, false, false, false, false, false] rfl rfl (one_of HT_.out oK) oD (fun K hK => ?_)
                refine goes_ Try.func26 oK rfl #[.agg #[.int .i64 t930, .int .i64 t931, .slice Ao31 t932.length co31]] (by rfl) rfl rfl oA ?_
                with_reducible refine (impl_RasOk.calls k2 t930 t931 _ _ t932 true _ ?side1 ?side2 A44.out).mono ?_
                (case side1 => repeat (first | exact (Kd.V_reads' HO_936002.out).2.2 | (with_reducible refine Kd.C_alloc ?_ _) | (with_reducible refine Kd.C_drewN ?_ _) | (with_reducible refine Kd.C_drew ?_)))
                (case side2 => exact (Kd.V_reads' HO_936002.out).2.1)
                rintro e w78 ⟨rfl, hb⟩
                refine ⟨_, rfl, ?_⟩
                have n_ := o2_ (Kd.Q_below (oQ HO_923002) hb) (o2_ (Kd.R_below (oR HO946) hb) (o2_ (Kd.V_below (oV HO951) hb) (o2_ (Kd.R_below (oR HO955) hb) (o2_ (Kd.V_below (oV HO960) hb) (o2_ (blk_below (oP BK922) hb) (o2_ (blk_below (oP BK923) hb) (o2_ (blk_below (oP BK935) hb) (o2_ (blk_below (oP BK952) hb) (o2_ (blk_below (oP BK961) hb) (o1_ (below_step (oB HB) hb)))))))))))
                clear HO_923002 HO946 HO951 HO955 HO960 BK922 BK923 BK935 BK952 BK961 HB
                obtain ⟨HO_923002, HO946, HO951, HO955, HO960, BK922, BK923, BK935, BK952, BK961, HB⟩ := n_
                (try clear hb)
                (try clear hb2)
                (try clear hk)
                (try clear hi)
                refine hK.out _ _ ⟨(blk_cell BK935.out 0).trans rfl, (blk_cell BK935.out 1).trans rfl, (blk_cell BK935.out 2).trans rfl, (blk_cell BK952.out 0).trans rfl, (blk_cell BK952.out 1).trans rfl, (blk_cell BK952.out 2).trans rfl, (blk_cell BK961.out 0).trans rfl, (blk_cell BK961.out 1).trans rfl, (blk_cell BK961.out 2).trans rfl, (blk_cell BK922.out 0).trans rfl, (blk_cell BK922.out 1).trans rfl, (blk_cell BK922.out 2).trans rfl⟩ (fun hHeld => ?_)
                clear hK K
                refine norm_ (a' := ?_) ?_ ?_
                rotate_left
                ·show Act.put _ (some 136) _ = _
                 simp only [Act.put, List.setIfInBounds_toArray, List.set_cons_zero, List.set_cons_succ, i64_w, i32_w]
                 rfl
                refine pure_ (i := 2) (N := some 137) (v := ?_) (a' := ?_) #[true, true, true, false, false, false, false, false, false, false, false, false, false, false, false, false, false, false, false, false] rfl rfl (any_of HT_.out oK) (fun _ _ _ h => h) (Or.inl ⟨by rfl, ?_⟩) ?_ ?_
                rotate_left
                ·intro w'
                 go_simp
                 with_reducible rfl
                rotate_left
                ·simp only [Act.put, List.setIfInBounds_toArray, List.set_cons_zero, List.set_cons_succ, i64_w, i32_w]
                 rfl
                refine take_ (i := 3) (N := some 138) (v := ?_) (a' := ?_) #[true, true, true, true, false, false, false, false, false, false, false, false, false, false, false, false, false, false, false, false] rfl rfl (take_ofW HT_.out HW_.out oK) (fun _ _ _ h => h) (Or.inl ⟨by rfl, ?_⟩) hHeld ?_ ?_
                rotate_left
                ·rintro w' ⟨s0, s1, s2, s3, s4, s5, s6, s7, s8, s9, s10, s11⟩
                 go_simp
                 with_reducible rfl
                rotate_left
                ·simp only [Act.put, List.setIfInBounds_toArray, List.set_cons_zero, List.set_cons_succ, i64_w, i32_w]
                 rfl
                refine take_ (i := 4) (N := some 139) (v := ?_) (a' := ?_) #[true, true, true, true, true, false, false, false, false, false, false, false, false, false, false, false, false, false, false, false] rfl rfl (take_ofW HT_.out HW_.out oK) (fun _ _ _ h => h) (Or.inl ⟨by rfl, ?_⟩) hHeld ?_ ?_
                rotate_left
                ·rintro w' ⟨s0, s1, s2, s3, s4, s5, s6, s7, s8, s9, s10, s11⟩
                 go_simp
                 with_reducible rfl
                rotate_left
                ·simp only [Act.put, List.setIfInBounds_toArray, List.set_cons_zero, List.set_cons_succ, i64_w, i32_w]
                 rfl
                refine one_ (i := 5) (N := some 140) #[true, true, true, true, true, true, false, false, false, false, false, false, false, false, false, false, false, false, false, false] rfl rfl (one_of HT_.out oK) oD (fun K hK => ?_)
                refine goes_ Try.func21 oK rfl #[.agg #[.int .i64 t947, .int .i64 t948, .slice Ao62 t949.length co62], .agg #[.int .i64 t956, .int .i64 t957, .slice Ao75 t958.length co75]] (by rfl) rfl rfl oA ?_
                with_reducible refine (laws_eaRas.calls k2 t947 t948 _ _ t949 t956 t957 _ _ t958 true _ ?side1 ?side2 ?side3 ?side4 A46.out).mono ?_
                (case side1 => repeat (first | exact (Kd.V_reads' HO951.out).2.2 | (with_reducible refine Kd.C_alloc ?_ _) | (with_reducible refine Kd.C_drewN ?_ _) | (with_reducible refine Kd.C_drew ?_)))
                (case side2 => exact (Kd.V_reads' HO951.out).2.1)
                (case side3 => repeat (first | exact (Kd.V_reads' HO960.out).2.2 | (with_reducible refine Kd.C_alloc ?_ _) | (with_reducible refine Kd.C_drewN ?_ _) | (with_reducible refine Kd.C_drew ?_)))
                (case side4 => exact (Kd.V_reads' HO960.out).2.1)
                rintro e w79 ⟨rfl, hb⟩
                refine ⟨_, rfl, ?_⟩
                have n_ := o2_ (Kd.Q_below (oQ HO_923002) hb) (o2_ (Kd.R_below (oR HO946) hb) (o2_ (Kd.R_below (oR HO955) hb) (o2_ (blk_below (oP BK922) hb) (o2_ (blk_below (oP BK923) hb) (o2_ (blk_below (oP BK935) hb) (o2_ (blk_below (oP BK952) hb) (o2_ (blk_below (oP BK961) hb) (o1_ (below_step (oB HB) hb)))))))))
                clear HO_923002 HO946 HO955 BK922 BK923 BK935 BK952 BK961 HB
                obtain ⟨HO_923002, HO946, HO955, BK922, BK923, BK935, BK952, BK961, HB⟩ := n_
                (try clear hb)
                (try clear hb2)
                (try clear hk)
                (try clear hi)
                refine hK.out _ _ ⟨(blk_cell BK935.out 0).trans rfl, (blk_cell BK935.out 1).trans rfl, (blk_cell BK935.out 2).trans rfl, (blk_cell BK952.out 0).trans rfl, (blk_cell BK952.out 1).trans rfl, (blk_cell BK952.out 2).trans rfl, (blk_cell BK961.out 0).trans rfl, (blk_cell BK961.out 1).trans rfl, (blk_cell BK961.out 2).trans rfl, (blk_cell BK922.out 0).trans rfl, (blk_cell BK922.out 1).trans rfl, (blk_cell BK922.out 2).trans rfl⟩ (fun hHeld => ?_)
                clear hK K
                refine norm_ (a' := ?_) ?_ ?_
                rotate_left
                ·show Act.put _ (some 140) _ = _
                 simp only [Act.put, List.setIfInBounds_toArray, List.set_cons_zero, List.set_cons_succ, i64_w, i32_w]
                 rfl
                refine pure_ (i := 6) (N := some 141) (v := ?_) (a' := ?_) #[true, true, true, true, true, true, true, false, false, false, false, false, false, false, false, false, false, false, false, false] rfl rfl (any_of HT_.out oK) (fun _ _ _ h => h) (Or.inl ⟨by rfl, ?_⟩) ?_ ?_
                rotate_left
                ·intro w'
                 go_simp
                 with_reducible rfl
                rotate_left
                ·simp only [Act.put, List.setIfInBounds_toArray, List.set_cons_zero, List.set_cons_succ, i64_w, i32_w]
                 rfl
                refine pure_ (i := 7) (N := some 142) (v := ?_) (a' := ?_) #[true, true, true, true, true, true, true, true, false, false, false, false, false, false, false, false, false, false, false, false] rfl rfl (any_of HT_.out oK) (fun _ _ _ h => h) (Or.inl ⟨by rfl, ?_⟩) ?_ ?_
                rotate_left
                ·intro w'
                 go_simp
                 with_reducible rfl
                rotate_left
                ·simp only [Act.put, List.setIfInBounds_toArray, List.set_cons_zero, List.set_cons_succ, i64_w, i32_w]
                 rfl
                refine pure_ (i := 9) (N := some 144) (v := ?_) (a' := ?_) #[true, true, true, true, true, true, true, true, false, true, false, false, false, false, false, false, false, false, false, false] rfl rfl (any_of HT_.out oK) (fun _ _ _ h => h) (Or.inl ⟨by rfl, ?_⟩) ?_ ?_
                rotate_left
                ·intro w'
                 go_simp
                 with_reducible rfl
                rotate_left
                ·simp only [Act.put, List.setIfInBounds_toArray, List.set_cons_zero, List.set_cons_succ, i64_w, i32_w]
                 rfl
                refine pure_ (i := 11) (N := some 146) (v := ?_) (a' := ?_) #[true, true, true, true, true, true, true, true, false, true, false, true, false, false, false, false, false, false, false, false] rfl rfl (any_of HT_.out oK) (fun _ _ _ h => h) (Or.inl ⟨by rfl, ?_⟩) ?_ ?_
                rotate_left
                ·intro w'
                 go_simp
                 with_reducible rfl
                rotate_left
                ·simp only [Act.put, List.setIfInBounds_toArray, List.set_cons_zero, List.set_cons_succ, i64_w, i32_w]
                 rfl
                refine take_ (i := 8) (N := some 143) (v := ?_) (a' := ?_) #[true, true, true, true, true, true, true, true, true, true, false, true, false, false, false, false, false, false, false, false] rfl rfl (take_ofW HT_.out HW_.out oK) (fun _ _ _ h => h) (Or.inl ⟨by rfl, ?_⟩) hHeld ?_ ?_
                rotate_left
                ·rintro w' ⟨s0, s1, s2, s3, s4, s5, s6, s7, s8, s9, s10, s11⟩
                 go_simp
                 with_reducible rfl
                rotate_left
                ·simp only [Act.put, List.setIfInBounds_toArray, List.set_cons_zero, List.set_cons_succ, i64_w, i32_w]
                 rfl
                refine take_ (i := 10) (N := some 145) (v := ?_) (a' := ?_) #[true, true, true, true, true, true, true, true, true, true, true, true, false, false, false, false, false, false, false, false] rfl rfl (take_ofW HT_.out HW_.out oK) (fun _ _ _ h => h) (Or.inl ⟨by rfl, ?_⟩) hHeld ?_ ?_
                rotate_left
                ·rintro w' ⟨s0, s1, s2, s3, s4, s5, s6, s7, s8, s9, s10, s11⟩
                 go_simp
                 with_reducible rfl
                rotate_left
                ·simp only [Act.put, List.setIfInBounds_toArray, List.set_cons_zero, List.set_cons_succ, i64_w, i32_w]
                 rfl
                refine take_ (i := 12) (N := some 147) (v := ?_) (a' := ?_) #[true, true, true, true, true, true, true, true, true, true, true, true, true, false, false, false, false, false, false, false] rfl rfl (take_ofW HT_.out HW_.out oK) (fun _ _ _ h => h) (Or.inl ⟨by rfl, ?_⟩) hHeld ?_ ?_
                rotate_left
                ·rintro w' ⟨s0, s1, s2, s3, s4, s5, s6, s7, s8, s9, s10, s11⟩
                 go_simp
                 with_reducible rfl
                rotate_left
                ·simp only [Act.put, List.setIfInBounds_toArray, List.set_cons_zero, List.set_cons_succ, i64_w, i32_w]
                 rfl
                refine pure_ (i := 13) (N := some 148) (v := ?_) (a' := ?_) #[true, true, true, true, true, true, true, true, true, true, true, true, true, true, false, false, false, false, false, false] rfl rfl (any_of HT_.out oK) (fun _ _ _ h => h) (Or.inl ⟨by rfl, ?_⟩) ?_ ?_
                rotate_left
                ·intro w'
                 go_simp
                 with_reducible rfl
                rotate_left
                ·simp only [Act.put, List.setIfInBounds_toArray, List.set_cons_zero, List.set_cons_succ, i64_w, i32_w]
                 rfl
                refine take_ (i := 16) (N := some 151) (v := ?_) (a' := ?_) #[true, true, true, true, true, true, true, true, true, true, true, true, true, true, false, false, true, false, false, false] rfl rfl (take_ofW HT_.out HW_.out oK) (fun _ _ _ h => h) (Or.inl ⟨by rfl, ?_⟩) hHeld ?_ ?_
                rotate_left
                ·rintro w' ⟨s0, s1, s2, s3, s4, s5, s6, s7, s8, s9, s10, s11⟩
                 go_simp
                 with_reducible rfl
                rotate_left
                ·simp only [Act.put, List.setIfInBounds_toArray, List.set_cons_zero, List.set_cons_succ, i64_w, i32_w]
                 rfl
                refine one_ (i := 14) (N := some 149) #[true, true, true, true, true, true, true, true, true, true, true, true, true, true, true, false, true, false, false, false] rfl rfl (one_of HT_.out oK) oD (fun K hK => ?_)
                refine Kd.R_lit_step k27 _ 27 ?hg (N := 149) ?hd (xs := ([(⟨1, 0, 0, t912, t913⟩ : S27)] : List (S27))) (inner := [.int .i64 1, .int .i64 0, .int .i64 0, .int .i64 t912, .int .i64 t913]) (ok := fun _ => True) (okp := fun _ => True) ?hr ?hp (fun _ hk => hk) trivial (Below.refl _ _) (Nat.le_refl _) (by simp) ?_; (case hd => rfl); (case hg => rfl); (case hr => first | (go_simp; done) | (go_simp; rfl)); (case hp => exact (Reps.c5 (show Kd.M k27 _ _ _ (⟨1, 0, 0, t912, t913⟩ : S27) [.int .i64 1, .int .i64 0, .int .i64 0, .int .i64 t912, .int .i64 t913] from (k27_mkM _ _ _ (⟨1, 0, 0, t912, t913⟩ : S27) )) (Reps.none _ _)))
                intro v965 w80 ho81 hb hg_ hnew_
                clear hg_ hnew_
                (first | rw [← Ny964.out] at ho81 | (simp only [Int.reduceToNat] at ho81; rw [← Ny964.out] at ho81))
                have n_ := o2_ (Kd.Q_below (oQ HO_923002) hb) (o2_ (Kd.R_elder' (oR HO946) (Kd.R_base ho81) hb) (o2_ (Kd.R_elder' (oR HO955) (Kd.R_base ho81) hb) (o2_ (Kd.R_lower (Kd.R_newB (Kd.R_new' (Kd.R_new' ho81 (Kd.R_lt (oR HO946))) (Kd.R_lt (oR HO955))) (oP BK923)) (below_size (oB HB))) (o2_ (blk_below (oP BK922) hb) (o2_ (blk_below (oP BK923) hb) (o2_ (blk_below (oP BK935) hb) (o2_ (blk_below (oP BK952) hb) (o2_ (blk_below (oP BK961) hb) (o1_ (below_step (oB HB) hb))))))))))
                clear HO_923002 HO946 HO955 BK922 BK923 BK935 BK952 BK961 HB
                obtain ⟨HO_923002, HO946, HO955, HO966, BK922, BK923, BK935, BK952, BK961, HB⟩ := n_
                clear hb ho81
                obtain ⟨Ao82, co82, eo82⟩ := Kd.R_slice HO966.out
                (first | subst eo82 | (injection eo82 with f1_ f2_ f3_; have f4_ := f1_.symm; have f5_ := f3_.symm; clear f1_ f2_ f3_; subst f4_; subst f5_))
                refine hK.out _ _ ⟨(blk_cell BK935.out 0).trans rfl, (blk_cell BK935.out 1).trans rfl, (blk_cell BK935.out 2).trans rfl, (blk_cell BK952.out 0).trans rfl, (blk_cell BK952.out 1).trans rfl, (blk_cell BK952.out 2).trans rfl, (blk_cell BK961.out 0).trans rfl, (blk_cell BK961.out 1).trans rfl, (blk_cell BK961.out 2).trans rfl, (blk_cell BK922.out 0).trans rfl, (blk_cell BK922.out 1).trans rfl, (blk_cell BK922.out 2).trans rfl⟩ (fun hHeld => ?_)
                clear hK K
                refine norm_ (a' := ?_) ?_ ?_
                rotate_left
                ·show Act.put _ (some 149) _ = _
                 simp only [Act.put, List.setIfInBounds_toArray, List.set_cons_zero, List.set_cons_succ, i64_w, i32_w]
                 rfl
                refine one_ (i := 15) (N := some 150) #[true, true, true, true, true, true, true, true, true, true, true, true, true, true, true, true, true, false, false, false] rfl rfl (one_of HT_.out oK) oD (fun K hK => ?_)
                refine goes_ Try.func27 oK rfl #[.agg #[.int .i64 t912, .int .i64 t913, .slice Ao19 t914.length co19], .slice Ao82 y964.length co82] (by rfl) rfl rfl oA ?_
                with_reducible refine (laws_eaDo.calls k2 t912 t913 (fun k_ => some k_ = (.slice Ao19 t914.length co19 : Value).ownBlock) _ _ t914 _ _ y964 t967 t968 t969 _ ?side1 ?side2 ?side3 A48.out).mono ?_
                (case side1 => exact Kd.Q_V (Kd.Q_tight rfl (Kd.Q_types (Kd.Q_types (Kd.Q_types (Kd.Q_types (Kd.Q_types (Kd.Q_apart' (Kd.Q_apart' (Kd.Q_apart' (HO_923002.out) (Kd.R_typed HO946.out) oD) (Kd.R_typed HO955.out) oD) (Kd.R_typed HO966.out) oD) BK922.out oD) BK923.out oD) BK935.out oD) BK952.out oD) BK961.out oD)))
                (case side2 => repeat (first | exact (Kd.R_reads' HO966.out).2.2 | (with_reducible refine Kd.C_alloc ?_ _) | (with_reducible refine Kd.C_drewN ?_ _) | (with_reducible refine Kd.C_drew ?_)))
                (case side3 => exact (Kd.R_reads' HO966.out).2.1)
                rintro e w83 ⟨v970, rfl, ho0, hb⟩
                refine ⟨_, rfl, ?_⟩
                have hq_ := (Kd.Q_types (Kd.Q_types (Kd.Q_types (Kd.Q_types (Kd.Q_types (Kd.Q_apart' (Kd.Q_apart' (Kd.Q_apart' (HO_923002.out) (Kd.R_typed HO946.out) oD) (Kd.R_typed HO955.out) oD) (Kd.R_typed HO966.out) oD) BK922.out oD) BK923.out oD) BK935.out oD) BK952.out oD) BK961.out oD)
                have n_ := o2_ (Kd.Q_below (oQ HO_923002) hb) (o2_ (Kd.V_lower (Kd.V_mono (ok' := fun k_ => some k_ ≠ (.slice Ao55 y944.length co55 : Value).ownBlock ∧ some k_ ≠ (.slice Ao67 y953.length co67 : Value).ownBlock ∧ some k_ ≠ (.slice Ao82 y964.length co82 : Value).ownBlock ∧ k_ ≠ gb922 ∧ k_ ≠ gb923 ∧ k_ ≠ gb935 ∧ k_ ≠ gb952 ∧ k_ ≠ gb961) ho0 (fun k_ hk_ => ⟨Or.elim hk_ (fun hs_ => (hq_.1 k_ hs_.symm).1.1.1.1.1.1.1.2) (fun hn_ => (Kd.fresh' (Kd.R_lt (oR HO946)) k_ hn_)), Or.elim hk_ (fun hs_ => (hq_.1 k_ hs_.symm).1.1.1.1.1.1.2) (fun hn_ => (Kd.fresh' (Kd.R_lt (oR HO955)) k_ hn_)), Or.elim hk_ (fun hs_ => (hq_.1 k_ hs_.symm).1.1.1.1.1.2) (fun hn_ => (Kd.fresh' (Kd.R_lt (oR HO966)) k_ hn_)), Or.elim hk_ (fun hs_ => (hq_.1 k_ hs_.symm).1.1.1.1.2) (fun hn_ => (Kd.freshB (oP BK922) k_ hn_)), Or.elim hk_ (fun hs_ => (hq_.1 k_ hs_.symm).1.1.1.2) (fun hn_ => (Kd.freshB (oP BK923) k_ hn_)), Or.elim hk_ (fun hs_ => (hq_.1 k_ hs_.symm).1.1.2) (fun hn_ => (Kd.freshB (oP BK935) k_ hn_)), Or.elim hk_ (fun hs_ => (hq_.1 k_ hs_.symm).1.2) (fun hn_ => (Kd.freshB (oP BK952) k_ hn_)), Or.elim hk_ (fun hs_ => (hq_.1 k_ hs_.symm).2) (fun hn_ => (Kd.freshB (oP BK961) k_ hn_))⟩)) (below_size (oB HB))) (o2_ (blk_below (oP BK922) hb) (o2_ (blk_below (oP BK923) hb) (o2_ (blk_below (oP BK935) hb) (o2_ (blk_below (oP BK952) hb) (o2_ (blk_below (oP BK961) hb) (o1_ (below_step (oB HB) hb))))))))
                clear HO_923002 BK922 BK923 BK935 BK952 BK961 HB
                obtain ⟨HO_923002, HO971, BK922, BK923, BK935, BK952, BK961, HB⟩ := n_
                clear hq_
                (try clear hb)
                (try clear hb2)
                (try clear hk)
                (try clear hi)
                (try clear ho0)
                obtain ⟨Ao84, co84, eo84⟩ := Kd.V_slice HO971.out
                (first | subst eo84 | (injection eo84 with f1_ f2_ f3_; have f4_ := f1_.symm; have f5_ := f3_.symm; clear f1_ f2_ f3_; subst f4_; subst f5_))
                refine hK.out _ _ ⟨(blk_cell BK935.out 0).trans rfl, (blk_cell BK935.out 1).trans rfl, (blk_cell BK935.out 2).trans rfl, (blk_cell BK952.out 0).trans rfl, (blk_cell BK952.out 1).trans rfl, (blk_cell BK952.out 2).trans rfl, (blk_cell BK961.out 0).trans rfl, (blk_cell BK961.out 1).trans rfl, (blk_cell BK961.out 2).trans rfl, (blk_cell BK922.out 0).trans rfl, (blk_cell BK922.out 1).trans rfl, (blk_cell BK922.out 2).trans rfl⟩ (fun hHeld => ?_)
                clear hK K
                refine norm_ (a' := ?_) ?_ ?_
                rotate_left
                ·show Act.put _ (some 150) _ = _
                 simp only [Act.put, List.setIfInBounds_toArray, List.set_cons_zero, List.set_cons_succ, i64_w, i32_w]
                 rfl
                refine one_ (i := 17) (N := some 152) #[true, true, true, true, true, true, true, true, true, true, true, true, true, true, true, true, true, true, false, false] rfl rfl (one_of HT_.out oK) oD (fun K hK => ?_)
                refine goes_ Try.func21 oK rfl #[.agg #[.int .i64 t967, .int .i64 t968, .slice Ao84 t969.length co84], .agg #[.int .i64 t912, .int .i64 t913, .slice Ao19 t914.length co19]] (by rfl) rfl rfl oA ?_
                with_reducible refine (laws_eaRas.calls k2 t967 t968 _ _ t969 t912 t913 _ _ t914 t972 _ ?side1 ?side2 ?side3 ?side4 A49.out).mono ?_
                (case side1 => repeat (first | exact (Kd.V_reads' HO971.out).2.2 | (with_reducible refine Kd.C_alloc ?_ _) | (with_reducible refine Kd.C_drewN ?_ _) | (with_reducible refine Kd.C_drew ?_)))
                (case side2 => exact (Kd.V_reads' HO971.out).2.1)
                (case side3 => repeat (first | exact (Kd.Q_reads' HO_923002.out).2.2 | (with_reducible refine Kd.C_alloc ?_ _) | (with_reducible refine Kd.C_drewN ?_ _) | (with_reducible refine Kd.C_drew ?_)))
                (case side4 => exact (Kd.Q_reads' HO_923002.out).2.1)
                rintro e w85 ⟨rfl, hb⟩
                refine ⟨_, rfl, ?_⟩
                have n_ := o2_ (blk_below (oP BK922) hb) (o2_ (blk_below (oP BK923) hb) (o2_ (blk_below (oP BK935) hb) (o2_ (blk_below (oP BK952) hb) (o2_ (blk_below (oP BK961) hb) (o1_ (below_step (oB HB) hb))))))
                clear BK922 BK923 BK935 BK952 BK961 HB
                obtain ⟨BK922, BK923, BK935, BK952, BK961, HB⟩ := n_
                (try clear hb)
                (try clear hb2)
                (try clear hk)
                (try clear hi)
                refine hK.out _ _ ⟨(blk_cell BK935.out 0).trans rfl, (blk_cell BK935.out 1).trans rfl, (blk_cell BK935.out 2).trans rfl, (blk_cell BK952.out 0).trans rfl, (blk_cell BK952.out 1).trans rfl, (blk_cell BK952.out 2).trans rfl, (blk_cell BK961.out 0).trans rfl, (blk_cell BK961.out 1).trans rfl, (blk_cell BK961.out 2).trans rfl, (blk_cell BK922.out 0).trans rfl, (blk_cell BK922.out 1).trans rfl, (blk_cell BK922.out 2).trans rfl⟩ (fun hHeld => ?_)
                clear hK K
                refine norm_ (a' := ?_) ?_ ?_
                rotate_left
                ·show Act.put _ (some 152) _ = _
                 simp only [Act.put, List.setIfInBounds_toArray, List.set_cons_zero, List.set_cons_succ, i64_w, i32_w]
                 rfl
                refine pure_ (i := 18) (N := some 153) (v := ?_) (a' := ?_) #[true, true, true, true, true, true, true, true, true, true, true, true, true, true, true, true, true, true, true, false] rfl rfl (any_of HT_.out oK) (fun _ _ _ h => h) (Or.inl ⟨by rfl, ?_⟩) ?_ ?_
                rotate_left
                ·intro w'
                 go_simp
                 with_reducible rfl
                rotate_left
                ·simp only [Act.put, List.setIfInBounds_toArray, List.set_cons_zero, List.set_cons_succ, i64_w, i32_w]
                 rfl
                refine pure_ (i := 19) (N := some 4) (v := ?_) (a' := ?_) #[true, true, true, true, true, true, true, true, true, true, true, true, true, true, true, true, true, true, true, true] rfl rfl (any_of HT_.out oK) (fun _ _ _ h => h) (Or.inl ⟨by rfl, ?_⟩) ?_ ?_
                rotate_left
                ·intro w'
                 go_simp
                 with_reducible rfl
                rotate_left
                ·simp only [Act.put, List.setIfInBounds_toArray, List.set_cons_zero, List.set_cons_succ, i64_w, i32_w]
                 rfl
                refine done_ (done_of HT_.out oK) ?_
                try go_wp2
                go_ret
                exact ⟨by first | rfl | (simp [errW_none, errW_some] <;> rfl) | (simp [*, errW_none, errW_some] <;> rfl), oB HB⟩
               ·replace c47 := Bool.eq_false_iff.mpr c47
                subst c47
                rw [if_neg (show ¬ (false = true) by decide)] at H
                exact absurd H (by simp)
              ·replace c45 := Bool.eq_false_iff.mpr c45
               subst c45
               rw [if_neg (show ¬ (false = true) by decide)] at H
               exact absurd H (by simp)
    ·replace c8 := Bool.eq_false_iff.mpr c8
     subst c8
     rw [if_neg (show ¬ (false = true) by decide)] at H
     replace H := Option.bind_eq_some_iff.mp H
     obtain ⟨t925, A860, H⟩ := H
     (try dsimp only at H)
     have A86 := Aside0.mk A860
     clear A860
     by_cases c87 : t925 = true
     ·subst c87
      rw [if_pos rfl] at H
      exact absurd H (by simp)
     ·replace c87 := Bool.eq_false_iff.mpr c87
      subst c87
      rw [if_neg (show ¬ (false = true) by decide)] at H
      replace H := Option.bind_eq_some_iff.mp H
      obtain ⟨t926, A880, H⟩ := H
      (try dsimp only at H)
      have A88 := Aside0.mk A880
      clear A880
      obtain rfl := Option.some.inj H
      go_wp2_with (first | ((with_reducible refine gate_callee (f := 18) rfl ?_); refine goesL_ (some 29) rfl rfl Try.func18 oK rfl #[.slice A0 l0.length c0] rfl oA ?_; (with_reducible refine (spec_DrawOpDo.calls kj2 _ _ l0 t912 t913 t914 t917 t918 t919 t920 t921 _ ?side1 ?side2 A6.out).mono ?_); (case side1 => repeat (first | exact (Kd.C_below HR0.out HB.out) | (with_reducible refine Kd.C_alloc ?_ _) | (with_reducible refine Kd.C_drewN ?_ _) | (with_reducible refine Kd.C_drew ?_))); (case side2 => exact HC0.out); rintro e w89 ⟨v915, rfl, ho0, hb⟩; refine ⟨_, rfl, ?_⟩; have n_ := o2_ (Kd.Q_lower ho0 (below_size (oB HB))) (o1_ (below_step (oB HB) hb)); clear HB; obtain ⟨HO916, HB⟩ := n_; (try clear hb); (try clear hb2); (try clear hk); (try clear hi); (try clear ho0)) | ((with_reducible refine gate_dst (N := 5) rfl ?_); (try (refine gate_guard (by rfl) ?_; dsimp only)); refine box_event ?hg (N := 5) ?hd (cs := #[.int .i64 0, .int .i64 0, .slice none 0 0]) (t := 25) ?hr ?_; (case hd => rfl); (case hg => rfl); (case hr => first | (go_simp; done) | (go_simp; rfl)); intro gb922 hg w90 hbox hb; have n_ := o2_ (Kd.Q_below (oQ HO916) hb) (o2_ (below_step (oB HB) hb) (o2_ (hbox) (o2_ ((oG hg (below_size (oB HB)) : w.heap.size ≤ gb922)) (o1_ ((oG hg (below_size (oB HB)) : w.heap.size ≤ gb922)))))); clear HO916 HB; obtain ⟨HO916, HB, BK922, GW922, GE922⟩ := n_; clear hb hbox hg) | ((with_reducible refine gate_dst (N := 6) rfl ?_); (try (refine gate_guard (by rfl) ?_; dsimp only)); refine box_event ?hg (N := 6) ?hd (cs := #[.int .i64 0, .int .i64 0, .int .i64 0, .int .i64 0, .int .i64 0]) (t := 27) ?hr ?_; (case hd => rfl); (case hg => rfl); (case hr => first | (go_simp; done) | (go_simp; rfl)); intro gb923 hg w91 hbox hb; have n_ := o2_ (Kd.Q_below (oQ HO916) hb) (o2_ (blk_below (oP BK922) hb) (o2_ (below_step (oB HB) hb) (o2_ (hbox) (o2_ ((oG hg (below_size (oB HB)) : w.heap.size ≤ gb923)) (o2_ ((oG hg (below_size (oB HB)) : w.heap.size ≤ gb923)) (o2_ ((oL hg (blk_lt (oP BK922)))) (o1_ ((oN hg (blk_lt (oP BK922))))))))))); clear HO916 BK922 HB; obtain ⟨HO916, BK922, HB, BK923, GW923, GE923, NB922_923, NB923_922⟩ := n_; clear hb hbox hg; have hnb92 := NB922_923.out; have hnc92 := NB923_922.out; have hcz93_0 : w91.cell? ⟨gb922, 0, none⟩ = some (.int .i64 0) := (blk_cell BK922.out 0).trans rfl; have hcz93_1 : w91.cell? ⟨gb922, 1, none⟩ = some (.int .i64 0) := (blk_cell BK922.out 1).trans rfl; have hcz93_2 : w91.cell? ⟨gb922, 2, none⟩ = some (.slice none 0 0) := (blk_cell BK922.out 2).trans rfl; have hfz93_0 := blk_frozen BK922.out 0; have hfz93_1 := blk_frozen BK922.out 1; have hfz93_2 := blk_frozen BK922.out 2; obtain ⟨Ao94, co94, eo94, _⟩ := Kd.Q_slice HO916.out; subst eo94; have hcz95_0 : w91.cell? ⟨gb923, 0, none⟩ = some (.int .i64 0) := (blk_cell BK923.out 0).trans rfl; have hcz95_1 : w91.cell? ⟨gb923, 1, none⟩ = some (.int .i64 0) := (blk_cell BK923.out 1).trans rfl; have hcz95_2 : w91.cell? ⟨gb923, 2, none⟩ = some (.int .i64 0) := (blk_cell BK923.out 2).trans rfl; have hcz95_3 : w91.cell? ⟨gb923, 3, none⟩ = some (.int .i64 0) := (blk_cell BK923.out 3).trans rfl; have hcz95_4 : w91.cell? ⟨gb923, 4, none⟩ = some (.int .i64 0) := (blk_cell BK923.out 4).trans rfl; have hfz95_0 := blk_frozen BK923.out 0; have hfz95_1 := blk_frozen BK923.out 1; have hfz95_2 := blk_frozen BK923.out 2; have hfz95_3 := blk_frozen BK923.out 3; have hfz95_4 := blk_frozen BK923.out 4) | ((with_reducible refine gate_callee (f := 24) rfl ?_); refine goesL_ (some 33) rfl rfl Try.func24 oK rfl #[.agg #[.int .i64 t912, .int .i64 t913, .slice Ao94 t914.length co94]] rfl oA ?_; (with_reducible refine (spec_RasOk.calls kj2 t912 t913 _ _ t914 false _ ?side1 ?side2 A7.out).mono ?_); (case side1 => refine (Kd.Q_reads' (e := 38) (base := w.heap.size) (ok := fun k_ => True) (n := t914.length) (c := co94) ?_).2.2; exact (by (with_reducible repeat (first | apply Kd.Q_alloc | apply Kd.Q_drewN | apply Kd.Q_drew)); exact (Kd.Q_mono (Kd.Q_mono (Kd.Q_far (p := ⟨gb923, 4, none⟩) (Kd.Q_far (p := ⟨gb923, 3, none⟩) (Kd.Q_far (p := ⟨gb923, 2, none⟩) (Kd.Q_far (p := ⟨gb923, 1, none⟩) (Kd.Q_far (p := ⟨gb923, 0, none⟩) (Kd.Q_far (p := ⟨gb922, 2, none⟩) (Kd.Q_far (p := ⟨gb922, 1, none⟩) (Kd.Q_far (p := ⟨gb922, 0, none⟩) (Kd.Q_types (Kd.Q_types HO916.out BK922.out oD) BK923.out oD) (fun _ hk => hk.1.2) (.int .i64 t912)) (fun _ hk => hk.1.2) (.int .i64 t913)) (fun _ hk => hk.1.2) (.slice Ao94 t914.length co94)) (fun _ hk => hk.2) (.int .i64 t917)) (fun _ hk => hk.2) (.int .i64 t918)) (fun _ hk => hk.2) (.int .i64 t919)) (fun _ hk => hk.2) (.int .i64 t920)) (fun _ hk => hk.2) (.int .i64 t921)) (fun _ h_ => h_.1)) (fun _ h_ => h_.1)))); (case side2 => exact (Kd.Q_reads' HO916.out).2.1); rintro e w96 ⟨rfl, hb⟩; refine ⟨_, rfl, ?_⟩; have n_ := o2_ (Kd.Q_below (by (with_reducible repeat (first | apply Kd.Q_alloc | apply Kd.Q_drewN | apply Kd.Q_drew)); exact (Kd.Q_mono (Kd.Q_mono (Kd.Q_far (p := ⟨gb923, 4, none⟩) (Kd.Q_far (p := ⟨gb923, 3, none⟩) (Kd.Q_far (p := ⟨gb923, 2, none⟩) (Kd.Q_far (p := ⟨gb923, 1, none⟩) (Kd.Q_far (p := ⟨gb923, 0, none⟩) (Kd.Q_far (p := ⟨gb922, 2, none⟩) (Kd.Q_far (p := ⟨gb922, 1, none⟩) (Kd.Q_far (p := ⟨gb922, 0, none⟩) (Kd.Q_types (Kd.Q_types HO916.out BK922.out oD) BK923.out oD) (fun _ hk => hk.1.2) (.int .i64 t912)) (fun _ hk => hk.1.2) (.int .i64 t913)) (fun _ hk => hk.1.2) (.slice Ao94 t914.length co94)) (fun _ hk => hk.2) (.int .i64 t917)) (fun _ hk => hk.2) (.int .i64 t918)) (fun _ hk => hk.2) (.int .i64 t919)) (fun _ hk => hk.2) (.int .i64 t920)) (fun _ hk => hk.2) (.int .i64 t921)) (fun _ h_ => h_.1)) (fun _ h_ => h_.1))) hb) (o2_ (blk_below (g := gb922) (o := .cells #[.int .i64 t912, .int .i64 t913, .slice Ao94 t914.length co94] 25 (0, 0)) (by (with_reducible repeat (first | refine blk_drewN ?_ _ | refine blk_drew ?_ | refine blk_alloc ?_ _)); refine blk_far ?_ NB922_923.out _; (with_reducible repeat (first | refine blk_drewN ?_ _ | refine blk_drew ?_ | refine blk_alloc ?_ _)); refine blk_far ?_ NB922_923.out _; (with_reducible repeat (first | refine blk_drewN ?_ _ | refine blk_drew ?_ | refine blk_alloc ?_ _)); refine blk_far ?_ NB922_923.out _; (with_reducible repeat (first | refine blk_drewN ?_ _ | refine blk_drew ?_ | refine blk_alloc ?_ _)); refine blk_far ?_ NB922_923.out _; (with_reducible repeat (first | refine blk_drewN ?_ _ | refine blk_drew ?_ | refine blk_alloc ?_ _)); refine blk_far ?_ NB922_923.out _; (with_reducible repeat (first | refine blk_drewN ?_ _ | refine blk_drew ?_ | refine blk_alloc ?_ _)); refine blk_put (cs := #[.int .i64 t912, .int .i64 t913, .slice none 0 0]) ?_ 2 _ rfl; (with_reducible repeat (first | refine blk_drewN ?_ _ | refine blk_drew ?_ | refine blk_alloc ?_ _)); refine blk_put (cs := #[.int .i64 t912, .int .i64 0, .slice none 0 0]) ?_ 1 _ rfl; (with_reducible repeat (first | refine blk_drewN ?_ _ | refine blk_drew ?_ | refine blk_alloc ?_ _)); refine blk_put (cs := #[.int .i64 0, .int .i64 0, .slice none 0 0]) ?_ 0 _ rfl; (with_reducible repeat (first | refine blk_drewN ?_ _ | refine blk_drew ?_ | refine blk_alloc ?_ _)); exact BK922.out) hb) (o1_ (below_step (oB HB) hb))); clear HO916 BK922 HB; obtain ⟨HO916, BK922, HB⟩ := n_; (try clear hb); (try clear hb2); (try clear hk); (try clear hi); have hcz97_0 : w96.cell? ⟨gb922, 0, none⟩ = some (.int .i64 t912) := (blk_cell BK922.out 0).trans rfl; have hcz97_1 : w96.cell? ⟨gb922, 1, none⟩ = some (.int .i64 t913) := (blk_cell BK922.out 1).trans rfl; have hcz97_2 : w96.cell? ⟨gb922, 2, none⟩ = some (.slice Ao94 t914.length co94) := (blk_cell BK922.out 2).trans rfl; have hfz97_0 := blk_frozen BK922.out 0; have hfz97_1 := blk_frozen BK922.out 1; have hfz97_2 := blk_frozen BK922.out 2) | ((with_reducible refine gate_callee (f := 26) rfl ?_); refine goesL_ (some 36) rfl rfl Try.func26 oK rfl #[.agg #[.int .i64 t912, .int .i64 t913, .slice Ao94 t914.length co94]] rfl oA ?_; (with_reducible refine (impl_RasOk.calls kj2 t912 t913 _ _ t914 false _ ?side1 ?side2 A86.out).mono ?_); (case side1 => repeat (first | exact (Kd.Q_reads' HO916.out).2.2 | (with_reducible refine Kd.C_alloc ?_ _) | (with_reducible refine Kd.C_drewN ?_ _) | (with_reducible refine Kd.C_drew ?_))); (case side2 => exact (Kd.Q_reads' HO916.out).2.1); rintro e w98 ⟨rfl, hb⟩; refine ⟨_, rfl, ?_⟩; replace HB := o1_ (below_step (oB HB) hb); (try clear hb); (try clear hb2); (try clear hk); (try clear hi)) | (go_at_call 25; (with_reducible refine (laws_eaOk.calls  t926 _ A88.out).mono ?_); rintro e w99 ⟨rfl, hb⟩; replace HB := o1_ (below_step (oB HB) hb); (try clear hb); (try clear hb2); (try clear hk); (try clear hi)))
      go_ret
      exact ⟨by first | rfl | (simp [errW_none, errW_some] <;> rfl) | (simp [*, errW_none, errW_some] <;> rfl), oB HB⟩

/-- THE ONE PURE STATEMENT of laws_FnOpCrop: yours. -/
def laws_FnOpCrop.Pure : Prop := ∀ (l0 : List Int) (l1 : List Int), l0.length ≤ maxLen → l0.length * 1 ≤ 140737488351232 → (∀ x ∈ l0, (Lit.int .u8 x).wf = true) → l1.length ≤ maxLen → l1.length * 1 ≤ 140737488351232 → (∀ x ∈ l1, (Lit.int .u8 x).wf = true) → ∃ k, laws_FnOpCrop.f k l0 l1 = some true
theorem laws_FnOpCrop.walk (P : laws_FnOpCrop.Pure) (a0 : Option Addr) (len0 cap0 : Nat) (z0 : List Int) (a1 : Option Addr) (len1 cap1 : Nat) (z1 : List Int) (w : World) (w0 : (a0 = none ∧ len0 = 0 ∧ cap0 = 0 ∧ z0 = []) ∨ ∃ x, a0 = some x ∧ len0 ≤ cap0 ∧ cap0 ≤ maxLen ∧ z0.length = cap0 ∧ (∀ i, i < z0.length → w.cell? (x.add i) = some (.int .u8 (z0.getD i 0))) ∧ ∀ n ∈ z0, (Lit.int .u8 n).wf = true) (y0 : len0 * 1 ≤ 140737488351232) (w1 : (a1 = none ∧ len1 = 0 ∧ cap1 = 0 ∧ z1 = []) ∨ ∃ x, a1 = some x ∧ len1 ≤ cap1 ∧ cap1 ≤ maxLen ∧ z1.length = cap1 ∧ (∀ i, i < z1.length → w.cell? (x.add i) = some (.int .u8 (z1.getD i 0))) ∧ ∀ n ∈ z1, (Lit.int .u8 n).wf = true) (y1 : len1 * 1 ≤ 140737488351232) :
  Calls Try.prog 11 #[.slice a0 len0 cap0, .slice a1 len1 cap1] w fun e w' => e = .returned (.bool true) ∧ Below w.heap.size w w' := by
 obtain ⟨l0, rfl, hr0, hm0, hw0, hc0⟩ := ReadsInt.ofRowC w0
 obtain ⟨l1, rfl, hr1, hm1, hw1, hc1⟩ := ReadsInt.ofRowC w1
 obtain ⟨k, h⟩ := P l0 l1 hm0 y0 hw0 hm1 y1 hw1
 refine (laws_FnOpCrop.calls k _ _ l0 _ _ l1 true w (Kd.C_of_reads (d := (0 : Int)) (h1 := fun _ => rfl) hr0) hc0 (Kd.C_of_reads (d := (0 : Int)) (h1 := fun _ => rfl) hr1) hc1 h).mono ?_
 rintro e w' ⟨rfl, hd⟩
 exact ⟨rfl, hd⟩

end Go.Proofs.Ythnmeogafklhnaa.X
