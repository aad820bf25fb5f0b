/- What functions of the program come to, each with its proof. No condition but what each theorem states. -/
import Derived.Test.YthnmeogafklhnaaX0
import Derived.Test.YthnmeogafklhnaaX9
import Derived.Test.YthnmeogafklhnaaX15
import Derived.Test.YthnmeogafklhnaaX32
import Derived.Test.YthnmeogafklhnaaX44
import Derived.Test.YthnmeogafklhnaaX45
import Derived.Test.YthnmeogafklhnaaX48
namespace Go.Proofs.Ythnmeogafklhnaa.X
open Go.RowKit Go.Proofs.YthnmeogafklhnaaW.PrintWords Go.Proofs.YthnmeogafklhnaaW.PrintLast Go.Proofs.YthnmeogafklhnaaW.PrintMore Go.Proofs.Ythnmeogafklhnaa.Hyb
attribute [local go_sem] max2_int min2_int max_two min_two max_three min_three max_four min_four
set_option linter.unusedVariables false
set_option linter.unusedSimpArgs false
theorem hide_ {G : Prop} (h : ∀ G' : Prop, (G → G') → G') : G := h G id
theorem exVVVVVVVVVVVVVVVVVVVVV_ {p : Value → Value → Value → Value → Value → Value → Value → Value → Value → Value → Value → Value → Value → Value → Value → Value → Value → Value → Value → Value → Value → Prop} {G : Prop} (h : ∃ (x0 : Value) (x1 : Value) (x2 : Value) (x3 : Value) (x4 : Value) (x5 : Value) (x6 : Value) (x7 : Value) (x8 : Value) (x9 : Value) (x10 : Value) (x11 : Value) (x12 : Value) (x13 : Value) (x14 : Value) (x15 : Value) (x16 : Value) (x17 : Value) (x18 : Value) (x19 : Value) (x20 : Value), p x0 x1 x2 x3 x4 x5 x6 x7 x8 x9 x10 x11 x12 x13 x14 x15 x16 x17 x18 x19 x20) (f : ∀ (x0 : Value) (x1 : Value) (x2 : Value) (x3 : Value) (x4 : Value) (x5 : Value) (x6 : Value) (x7 : Value) (x8 : Value) (x9 : Value) (x10 : Value) (x11 : Value) (x12 : Value) (x13 : Value) (x14 : Value) (x15 : Value) (x16 : Value) (x17 : Value) (x18 : Value) (x19 : Value) (x20 : Value), p x0 x1 x2 x3 x4 x5 x6 x7 x8 x9 x10 x11 x12 x13 x14 x15 x16 x17 x18 x19 x20 → G) : G := by obtain ⟨x0, x1, x2, x3, x4, x5, x6, x7, x8, x9, x10, x11, x12, x13, x14, x15, x16, x17, x18, x19, x20, h⟩ := h; exact f x0 x1 x2 x3 x4 x5 x6 x7 x8 x9 x10 x11 x12 x13 x14 x15 x16 x17 x18 x19 x20 h
theorem an33_ {p0 p1 p2 p3 p4 p5 p6 p7 p8 p9 p10 p11 p12 p13 p14 p15 p16 p17 p18 p19 p20 p21 p22 p23 p24 p25 p26 p27 p28 p29 p30 p31 p32 G : Prop} (h : p0 ∧ p1 ∧ p2 ∧ p3 ∧ p4 ∧ p5 ∧ p6 ∧ p7 ∧ p8 ∧ p9 ∧ p10 ∧ p11 ∧ p12 ∧ p13 ∧ p14 ∧ p15 ∧ p16 ∧ p17 ∧ p18 ∧ p19 ∧ p20 ∧ p21 ∧ p22 ∧ p23 ∧ p24 ∧ p25 ∧ p26 ∧ p27 ∧ p28 ∧ p29 ∧ p30 ∧ p31 ∧ p32) (f : p0 → p1 → p2 → p3 → p4 → p5 → p6 → p7 → p8 → p9 → p10 → p11 → p12 → p13 → p14 → p15 → p16 → p17 → p18 → p19 → p20 → p21 → p22 → p23 → p24 → p25 → p26 → p27 → p28 → p29 → p30 → p31 → p32 → G) : G := by obtain ⟨h0, h1, h2, h3, h4, h5, h6, h7, h8, h9, h10, h11, h12, h13, h14, h15, h16, h17, h18, h19, h20, h21, h22, h23, h24, h25, h26, h27, h28, h29, h30, h31, h32⟩ := h; exact f h0 h1 h2 h3 h4 h5 h6 h7 h8 h9 h10 h11 h12 h13 h14 h15 h16 h17 h18 h19 h20 h21 h22 h23 h24 h25 h26 h27 h28 h29 h30 h31 h32

/-! ### laws_FnOpCropFlip: function 7 -/
theorem oY {P Q : Nat → Prop} (h : ∀ k, P k → Q k := by intro _ hk; first | exact trivial | exact hk | exact hk.1 | exact hk.2 | ((repeat cases ‹_ ∧ _›); (repeat' apply And.intro) <;> first | assumption | trivial)) : ∀ k, P k → Q k := h
def laws_FnOpCropFlip.j0 : Nat → List Int → List Int → Bool → Option (Bool)
 | 0, _, _, _ => none
 | k + 1, x0, x1, x26 => if x26 = true then (some true) else ((spec_DrawOpDo.f k x0).bind fun bV => ((spec_RasOk.f k bV.1 bV.2.1 bV.2.2.1).bind fun lR => (if lR = true then (if bV.1 = 0 then (none) else (if bV.2.1 = 0 then (none) else (if (wrap64 (bV.1 - ((x1.length : Int) % bV.1))) = 0 then (none) else (if (wrap64 (bV.2.1 - (Int.tmod (wrap64 ((x1.length : Int) / 7)) bV.2.1))) = 0 then (none) else ((laws_eaDo.f k bV.1 bV.2.1 bV.2.2.1 (([(⟨1, (x1.length : Int) % bV.1, Int.tmod (wrap64 ((x1.length : Int) / 7)) bV.2.1, wrap64 (1 + (Int.tmod (wrap64 ((x1.length : Int) / 3)) (wrap64 (bV.1 - ((x1.length : Int) % bV.1))))), wrap64 (1 + (Int.tmod (wrap64 ((x1.length : Int) / 5)) (wrap64 (bV.2.1 - (Int.tmod (wrap64 ((x1.length : Int) / 7)) bV.2.1)))))⟩ : S27)] : List (S27)))).bind fun eX => ((impl_RasOk.f k eX.1 eX.2.1 eX.2.2).bind fun iW => (if iW = true then ((laws_eaDo.f k bV.1 bV.2.1 bV.2.2.1 (([(⟨1, (x1.length : Int) % bV.1, Int.tmod (wrap64 ((x1.length : Int) / 7)) bV.2.1, wrap64 (1 + (Int.tmod (wrap64 ((x1.length : Int) / 3)) (wrap64 (bV.1 - ((x1.length : Int) % bV.1))))), wrap64 (1 + (Int.tmod (wrap64 ((x1.length : Int) / 5)) (wrap64 (bV.2.1 - (Int.tmod (wrap64 ((x1.length : Int) / 7)) bV.2.1)))))⟩ : S27), (⟨2, 0, 0, 0, 0⟩ : S27)] : List (S27)))).bind fun eF => ((laws_eaDo.f k bV.1 bV.2.1 bV.2.2.1 (([(⟨2, 0, 0, 0, 0⟩ : S27), (⟨1, wrap64 ((wrap64 (bV.1 - ((x1.length : Int) % bV.1))) - (wrap64 (1 + (Int.tmod (wrap64 ((x1.length : Int) / 3)) (wrap64 (bV.1 - ((x1.length : Int) % bV.1))))))), Int.tmod (wrap64 ((x1.length : Int) / 7)) bV.2.1, wrap64 (1 + (Int.tmod (wrap64 ((x1.length : Int) / 3)) (wrap64 (bV.1 - ((x1.length : Int) % bV.1))))), wrap64 (1 + (Int.tmod (wrap64 ((x1.length : Int) / 5)) (wrap64 (bV.2.1 - (Int.tmod (wrap64 ((x1.length : Int) / 7)) bV.2.1)))))⟩ : S27)] : List (S27)))).bind fun dW => ((laws_eaRas.f k eF.1 eF.2.1 eF.2.2 dW.1 dW.2.1 dW.2.2).bind fun fG => (if fG = true then ((laws_eaDo.f k bV.1 bV.2.1 bV.2.2.1 (([(⟨1, (x1.length : Int) % bV.1, Int.tmod (wrap64 ((x1.length : Int) / 7)) bV.2.1, wrap64 (1 + (Int.tmod (wrap64 ((x1.length : Int) / 3)) (wrap64 (bV.1 - ((x1.length : Int) % bV.1))))), wrap64 (1 + (Int.tmod (wrap64 ((x1.length : Int) / 5)) (wrap64 (bV.2.1 - (Int.tmod (wrap64 ((x1.length : Int) / 7)) bV.2.1)))))⟩ : S27), (⟨3, 0, 0, 0, 0⟩ : S27)] : List (S27)))).bind fun dQ => ((laws_eaDo.f k bV.1 bV.2.1 bV.2.2.1 (([(⟨3, 0, 0, 0, 0⟩ : S27), (⟨1, (x1.length : Int) % bV.1, wrap64 ((wrap64 (bV.2.1 - (Int.tmod (wrap64 ((x1.length : Int) / 7)) bV.2.1))) - (wrap64 (1 + (Int.tmod (wrap64 ((x1.length : Int) / 5)) (wrap64 (bV.2.1 - (Int.tmod (wrap64 ((x1.length : Int) / 7)) bV.2.1))))))), wrap64 (1 + (Int.tmod (wrap64 ((x1.length : Int) / 3)) (wrap64 (bV.1 - ((x1.length : Int) % bV.1))))), wrap64 (1 + (Int.tmod (wrap64 ((x1.length : Int) / 5)) (wrap64 (bV.2.1 - (Int.tmod (wrap64 ((x1.length : Int) / 7)) bV.2.1)))))⟩ : S27)] : List (S27)))).bind fun dN => ((laws_eaRas.f k dQ.1 dQ.2.1 dQ.2.2 dN.1 dN.2.1 dN.2.2).bind fun eU => (if eU = true then ((laws_eaDo.f k bV.1 bV.2.1 bV.2.2.1 (([(⟨1, (x1.length : Int) % bV.1, Int.tmod (wrap64 ((x1.length : Int) / 7)) bV.2.1, wrap64 (1 + (Int.tmod (wrap64 ((x1.length : Int) / 3)) (wrap64 (bV.1 - ((x1.length : Int) % bV.1))))), wrap64 (1 + (Int.tmod (wrap64 ((x1.length : Int) / 5)) (wrap64 (bV.2.1 - (Int.tmod (wrap64 ((x1.length : Int) / 7)) bV.2.1)))))⟩ : S27), (⟨4, 0, 0, 0, 0⟩ : S27)] : List (S27)))).bind fun dL => ((laws_eaDo.f k bV.1 bV.2.1 bV.2.2.1 (([(⟨4, 0, 0, 0, 0⟩ : S27), (⟨1, wrap64 ((wrap64 (bV.2.1 - (Int.tmod (wrap64 ((x1.length : Int) / 7)) bV.2.1))) - (wrap64 (1 + (Int.tmod (wrap64 ((x1.length : Int) / 5)) (wrap64 (bV.2.1 - (Int.tmod (wrap64 ((x1.length : Int) / 7)) bV.2.1))))))), (x1.length : Int) % bV.1, wrap64 (1 + (Int.tmod (wrap64 ((x1.length : Int) / 5)) (wrap64 (bV.2.1 - (Int.tmod (wrap64 ((x1.length : Int) / 7)) bV.2.1))))), wrap64 (1 + (Int.tmod (wrap64 ((x1.length : Int) / 3)) (wrap64 (bV.1 - ((x1.length : Int) % bV.1)))))⟩ : S27)] : List (S27)))).bind fun dJ => ((laws_eaRas.f k dL.1 dL.2.1 dL.2.2 dJ.1 dJ.2.1 dJ.2.2).bind fun dV => (some dV)))) else (none))))) else (none))))) else (none)))))))) else ((impl_RasOk.f k bV.1 bV.2.1 bV.2.2.1).bind fun lS => (if lS = true then (none) else ((laws_eaOk.f).bind fun lT => (some lT)))))))
def laws_FnOpCropFlip.f (k : Nat) (l0 : List Int) (l1 : List Int) : Option (Bool) := if (l0.length : Int) > 1048576 then (laws_FnOpCropFlip.j0 k l0 l1 true) else (laws_FnOpCropFlip.j0 k l0 l1 (decide ((l1.length : Int) > 1048576)))
theorem laws_FnOpCropFlip.mono_l : ∀ k, (∀ y0 y1 y2, LeO (laws_FnOpCropFlip.j0 k y0 y1 y2) (laws_FnOpCropFlip.j0 (k + 1) y0 y1 y2))
 | 0 => (fun _ _ _ r h => nomatch (show none = some r from h))
 | k + 1 => by
  have ih0 := laws_FnOpCropFlip.mono_l k
  ·intro y0 y1 y2
   unfold laws_FnOpCropFlip.j0
   repeat' first
   | (with_reducible exact ih0 _ _ _)
   | (with_reducible exact impl_RasOk.mono _ _ _ _)
   | (with_reducible exact laws_eaDo.mono _ _ _ _ _)
   | (with_reducible exact laws_eaRas.mono _ _ _ _ _ _ _)
   | (with_reducible exact spec_DrawOpDo.mono _ _)
   | (with_reducible exact spec_RasOk.mono _ _ _ _)
   | (with_reducible exact LeO.refl _)
   | (with_reducible exact LeO.none _)
   | (with_reducible refine LeO.ite ?_ ?_)
   | (with_reducible refine LeO.bind ?_ (fun _ => ?_))
   | exact ih0 _ _ _
   | exact impl_RasOk.mono _ _ _ _
   | exact laws_eaDo.mono _ _ _ _ _
   | exact laws_eaRas.mono _ _ _ _ _ _ _
   | exact spec_DrawOpDo.mono _ _
   | exact spec_RasOk.mono _ _ _ _
   | exact LeO.none _
   | refine LeO.ite ?_ ?_
   | refine LeO.bind ?_ (fun _ => ?_)
theorem laws_FnOpCropFlip.mono : ∀ a0 a1 k, LeO (laws_FnOpCropFlip.f k a0 a1) (laws_FnOpCropFlip.f (k + 1) a0 a1) := by
 intro a0 a1 k
 have ih0 := laws_FnOpCropFlip.mono_l k
 unfold laws_FnOpCropFlip.f
 repeat' first
   | (with_reducible exact ih0 _ _ _)
   | (with_reducible exact impl_RasOk.mono _ _ _ _)
   | (with_reducible exact laws_eaDo.mono _ _ _ _ _)
   | (with_reducible exact laws_eaRas.mono _ _ _ _ _ _ _)
   | (with_reducible exact spec_DrawOpDo.mono _ _)
   | (with_reducible exact spec_RasOk.mono _ _ _ _)
   | (with_reducible exact LeO.refl _)
   | (with_reducible exact LeO.none _)
   | (with_reducible refine LeO.ite ?_ ?_)
   | (with_reducible refine LeO.bind ?_ (fun _ => ?_))
   | exact ih0 _ _ _
   | exact impl_RasOk.mono _ _ _ _
   | exact laws_eaDo.mono _ _ _ _ _
   | exact laws_eaRas.mono _ _ _ _ _ _ _
   | exact spec_DrawOpDo.mono _ _
   | exact spec_RasOk.mono _ _ _ _
   | exact LeO.none _
   | refine LeO.ite ?_ ?_
   | refine LeO.bind ?_ (fun _ => ?_)
def laws_FnOpCropFlip.T18 : Bool × List (List Nat × List Nat) := (true, [([], []), ([], []), ([1], [1]), ([0, 2], [0, 2]), ([3, 3], [3]), ([4, 4], [4]), ([5], [5]), ([5], [5]), ([5], [5]), ([7, 8, 5], [5, 7, 8]), ([6, 9, 5, 5], [5, 6, 9]), ([5], [5]), ([5], [5]), ([5], [5]), ([12, 13, 5], [5, 12, 13]), ([11, 14, 10, 5], [5, 11, 14]), ([10, 15, 15, 5], [5, 10, 15]), ([5, 16], [5, 16]), ([17, 16], [17]), ([18], [18]), ([18], [18]), ([18], [18]), ([20, 21, 18], [18, 20, 21]), ([19, 22, 18, 18], [18, 19, 22]), ([18], [18]), ([18], [18]), ([18], [18]), ([25, 26, 18], [18, 25, 26]), ([24, 27, 23, 18], [18, 24, 27]), ([23, 28, 28, 18], [18, 23, 28]), ([18, 29], [18, 29]), ([30, 29], [30]), ([31], [31]), ([31], [31]), ([31], [31]), ([33, 34, 31], [31, 33, 34]), ([32, 35, 31, 31], [31, 32, 35]), ([31], [31]), ([31], [31]), ([31], [31]), ([38, 39, 31], [31, 38, 39]), ([37, 40, 36, 31], [31, 37, 40]), ([36, 41, 41, 31], [31, 36, 41]), ([31, 42], [31, 42]), ([43, 42, 0, 1, 2, 3, 4, 5, 6, 7, 8, 9, 10, 11, 12, 13, 14, 15, 16, 17, 18, 19, 20, 21, 22, 23, 24, 25, 26, 27, 28, 29, 30, 31, 32, 33, 34, 35, 36, 37, 38, 39, 40, 41, 42, 43], [43])])
def laws_FnOpCropFlip.B18 : List Nat := [0, 0, 2, 7, 15, 31, 63, 63, 63, 447, 1023, 63, 63, 63, 12351, 32767, 65535, 131071, 262143, 524287, 524287, 524287, 3670015, 8388607, 524287, 524287, 524287, 101187583, 268435455, 536870911, 1073741823, 2147483647, 4294967295, 4294967295, 4294967295, 30064771071, 68719476735, 4294967295, 4294967295, 4294967295, 828928688127, 2199023255551, 4398046511103, 8796093022207, 17592186044415]
theorem laws_FnOpCropFlip.tab18 : rtab .any (opsOf Try.f7 18) = laws_FnOpCropFlip.T18 := by kernel_rfl
theorem laws_FnOpCropFlip.bits18 : waitsOk laws_FnOpCropFlip.T18.2 laws_FnOpCropFlip.B18 = true := by kernel_rfl
set_option maxHeartbeats 8000000 in
set_option maxRecDepth 100000 in
theorem laws_FnOpCropFlip.calls (k : Nat) (A0 : Option Addr) (c0 : Nat) (l0 : List Int) (A1 : Option Addr) (c1 : Nat) (l1 : List Int) (r : Bool) (w : World) (hr0 : Kd.C (Kd.int .u8) w A0 l0.length l0) (pN : l0.length ≤ c0) (hr1 : Kd.C (Kd.int .u8) w A1 l1.length l1) (pO : l1.length ≤ c1) (h : laws_FnOpCropFlip.f k l0 l1 = some r) :
  Calls Try.prog 7 #[.slice A0 l0.length c0, .slice A1 l1.length c1] w fun e w' => e = .returned (.bool r) ∧ Below w.heap.size w w' := by
 have hu25 := Try.underlying25
 have hu27 := Try.underlying27
 have vD := Aside0.mk hr0
 have vC := Aside0.mk pN
 clear hr0 pN
 have HR1 := Aside0.mk hr1
 have zZ := Aside0.mk pO
 clear hr1 pO
 have HB := Aside0.mk (Below.refl w.heap.size w)
 have H : (if (l0.length : Int) > 1048576 then (laws_FnOpCropFlip.j0 k l0 l1 true) else (laws_FnOpCropFlip.j0 k l0 l1 (decide ((l1.length : Int) > 1048576)))) = some r := h
 clear h
 have tX := Aside0.mk H
 clear H
 go_enter Try.func7, Try.ntmps7
 go_upto_region 1 with (fail)
 go_cut [26] (fun zO wc => ∃ (kq : Nat) (fS : Bool), zO = .bool fS ∧ Aside0 (laws_FnOpCropFlip.j0 kq l0 l1 fS = some r) ∧ Aside0 (kq ≤ k) ∧ Aside0 (Below w.heap.size w wc))
 case first =>
  have H := tX.out
  clear tX
  by_cases c4 : (l0.length : Int) > 1048576
  ·rw [if_pos c4] at H
   have iM : decide (1048576 < (l0.length : Int)) = true := decide_eq_true c4
   have mM : decide (1048576 < l0.length) = true := decide_eq_true (by omega)
   clear c4
   (first | rw [iM] | (simp only [i64_w, i32_w]; rw [iM]) | skip)
   have H' := Aside0.mk H
   clear H
   go_wp2
   go_meet
   case rel => exact ⟨_, (true), oU, H', ⟨(by first | omega | exact Nat.le_refl _)⟩, ⟨(oB HB)⟩⟩
  ·rw [if_neg c4] at H
   have iM : decide (1048576 < (l0.length : Int)) = false := decide_eq_false c4
   have mM : decide (1048576 < l0.length) = false := decide_eq_false (by omega)
   clear c4
   (first | rw [iM] | (simp only [i64_w, i32_w]; rw [iM]) | skip)
   have H' := Aside0.mk H
   clear H
   go_wp2
   go_meet
   case rel => exact ⟨_, (decide ((l1.length : Int) > 1048576)), oU, H', ⟨(by first | omega | exact Nat.le_refl _)⟩, ⟨(oB HB)⟩⟩
 case rest =>
  clear tX
  try clear c1
  try clear p2
  try clear c4
  try clear iM
  try clear mM
  obtain ⟨kq, fS, rfl, HA, HJ2, HB⟩ := hcut
  cases kq with
  | zero => exact nomatch (show none = some _ from HA.out)
  | succ kj2 =>
   have H := HA.out
   clear HA
   simp only [laws_FnOpCropFlip.j0] at H
   by_cases c5 : fS = true
   ·subst c5
    rw [if_pos rfl] at H
    obtain rfl := Option.some.inj H
    go_wp2
    go_ret
    exact ⟨by first | rfl | (simp [errW_none, errW_some] <;> rfl) | (simp [*, errW_none, errW_some] <;> rfl), oB HB⟩
   ·replace c5 := Bool.eq_false_iff.mpr c5
    subst c5
    rw [if_neg (show ¬ (false = true) by decide)] at H
    replace H := Option.bind_eq_some_iff.mp H
    obtain ⟨⟨aB, aA, cA, fB, fC, fD, fE, fF⟩, uJ, H⟩ := H
    (try dsimp only at H)
    have A6 := Aside0.mk uJ
    clear uJ
    replace H := Option.bind_eq_some_iff.mp H
    obtain ⟨lR, uK, H⟩ := H
    (try dsimp only at H)
    have A7 := Aside0.mk uK
    clear uK
    by_cases c8 : lR = true
    ·subst c8
     rw [if_pos rfl] at H
     by_cases c9 : aB = 0
     ·rw [if_pos c9] at H
      exact absurd H (by simp)
     ·rw [if_neg c9] at H
      have yP : (aB == 0) = false := beq_eq_false_iff_ne.mpr c9
      have yQ : (aB != 0) = true := bne_iff_ne.mpr c9
      by_cases pH : aA = 0
      ·rw [if_pos pH] at H
       exact absurd H (by simp)
      ·rw [if_neg pH] at H
       have vE : (aA == 0) = false := beq_eq_false_iff_ne.mpr pH
       have vF : (aA != 0) = true := bne_iff_ne.mpr pH
       by_cases pI : (wrap64 (aB - ((l1.length : Int) % aB))) = 0
       ·rw [if_pos pI] at H
        exact absurd H (by simp)
       ·rw [if_neg pI] at H
        have vG : ((wrap64 (aB - ((l1.length : Int) % aB))) == 0) = false := beq_eq_false_iff_ne.mpr pI
        have vH : ((wrap64 (aB - ((l1.length : Int) % aB))) != 0) = true := bne_iff_ne.mpr pI
        by_cases pJ : (wrap64 (aA - (Int.tmod (wrap64 ((l1.length : Int) / 7)) aA))) = 0
        ·rw [if_pos pJ] at H
         exact absurd H (by simp)
        ·rw [if_neg pJ] at H
         have vI : ((wrap64 (aA - (Int.tmod (wrap64 ((l1.length : Int) / 7)) aA))) == 0) = false := beq_eq_false_iff_ne.mpr pJ
         have vJ : ((wrap64 (aA - (Int.tmod (wrap64 ((l1.length : Int) / 7)) aA))) != 0) = true := bne_iff_ne.mpr pJ
         obtain ⟨y679, hy679⟩ : ∃ y_ : List (S27), y_ = (([(⟨1, (l1.length : Int) % aB, Int.tmod (wrap64 ((l1.length : Int) / 7)) aA, wrap64 (1 + (Int.tmod (wrap64 ((l1.length : Int) / 3)) (wrap64 (aB - ((l1.length : Int) % aB))))), wrap64 (1 + (Int.tmod (wrap64 ((l1.length : Int) / 5)) (wrap64 (aA - (Int.tmod (wrap64 ((l1.length : Int) / 7)) aA)))))⟩ : S27)] : List (S27))) := ⟨_, rfl⟩
         replace H : ((laws_eaDo.f kj2 aB aA cA y679).bind fun eX => ((impl_RasOk.f kj2 eX.1 eX.2.1 eX.2.2).bind fun iW => (if iW = true then ((laws_eaDo.f kj2 aB aA cA (([(⟨1, (l1.length : Int) % aB, Int.tmod (wrap64 ((l1.length : Int) / 7)) aA, wrap64 (1 + (Int.tmod (wrap64 ((l1.length : Int) / 3)) (wrap64 (aB - ((l1.length : Int) % aB))))), wrap64 (1 + (Int.tmod (wrap64 ((l1.length : Int) / 5)) (wrap64 (aA - (Int.tmod (wrap64 ((l1.length : Int) / 7)) aA)))))⟩ : S27), (⟨2, 0, 0, 0, 0⟩ : S27)] : List (S27)))).bind fun eF => ((laws_eaDo.f kj2 aB aA cA (([(⟨2, 0, 0, 0, 0⟩ : S27), (⟨1, wrap64 ((wrap64 (aB - ((l1.length : Int) % aB))) - (wrap64 (1 + (Int.tmod (wrap64 ((l1.length : Int) / 3)) (wrap64 (aB - ((l1.length : Int) % aB))))))), Int.tmod (wrap64 ((l1.length : Int) / 7)) aA, wrap64 (1 + (Int.tmod (wrap64 ((l1.length : Int) / 3)) (wrap64 (aB - ((l1.length : Int) % aB))))), wrap64 (1 + (Int.tmod (wrap64 ((l1.length : Int) / 5)) (wrap64 (aA - (Int.tmod (wrap64 ((l1.length : Int) / 7)) aA)))))⟩ : S27)] : List (S27)))).bind fun dW => ((laws_eaRas.f kj2 eF.1 eF.2.1 eF.2.2 dW.1 dW.2.1 dW.2.2).bind fun fG => (if fG = true then ((laws_eaDo.f kj2 aB aA cA (([(⟨1, (l1.length : Int) % aB, Int.tmod (wrap64 ((l1.length : Int) / 7)) aA, wrap64 (1 + (Int.tmod (wrap64 ((l1.length : Int) / 3)) (wrap64 (aB - ((l1.length : Int) % aB))))), wrap64 (1 + (Int.tmod (wrap64 ((l1.length : Int) / 5)) (wrap64 (aA - (Int.tmod (wrap64 ((l1.length : Int) / 7)) aA)))))⟩ : S27), (⟨3, 0, 0, 0, 0⟩ : S27)] : List (S27)))).bind fun dQ => ((laws_eaDo.f kj2 aB aA cA (([(⟨3, 0, 0, 0, 0⟩ : S27), (⟨1, (l1.length : Int) % aB, wrap64 ((wrap64 (aA - (Int.tmod (wrap64 ((l1.length : Int) / 7)) aA))) - (wrap64 (1 + (Int.tmod (wrap64 ((l1.length : Int) / 5)) (wrap64 (aA - (Int.tmod (wrap64 ((l1.length : Int) / 7)) aA))))))), wrap64 (1 + (Int.tmod (wrap64 ((l1.length : Int) / 3)) (wrap64 (aB - ((l1.length : Int) % aB))))), wrap64 (1 + (Int.tmod (wrap64 ((l1.length : Int) / 5)) (wrap64 (aA - (Int.tmod (wrap64 ((l1.length : Int) / 7)) aA)))))⟩ : S27)] : List (S27)))).bind fun dN => ((laws_eaRas.f kj2 dQ.1 dQ.2.1 dQ.2.2 dN.1 dN.2.1 dN.2.2).bind fun eU => (if eU = true then ((laws_eaDo.f kj2 aB aA cA (([(⟨1, (l1.length : Int) % aB, Int.tmod (wrap64 ((l1.length : Int) / 7)) aA, wrap64 (1 + (Int.tmod (wrap64 ((l1.length : Int) / 3)) (wrap64 (aB - ((l1.length : Int) % aB))))), wrap64 (1 + (Int.tmod (wrap64 ((l1.length : Int) / 5)) (wrap64 (aA - (Int.tmod (wrap64 ((l1.length : Int) / 7)) aA)))))⟩ : S27), (⟨4, 0, 0, 0, 0⟩ : S27)] : List (S27)))).bind fun dL => ((laws_eaDo.f kj2 aB aA cA (([(⟨4, 0, 0, 0, 0⟩ : S27), (⟨1, wrap64 ((wrap64 (aA - (Int.tmod (wrap64 ((l1.length : Int) / 7)) aA))) - (wrap64 (1 + (Int.tmod (wrap64 ((l1.length : Int) / 5)) (wrap64 (aA - (Int.tmod (wrap64 ((l1.length : Int) / 7)) aA))))))), (l1.length : Int) % aB, wrap64 (1 + (Int.tmod (wrap64 ((l1.length : Int) / 5)) (wrap64 (aA - (Int.tmod (wrap64 ((l1.length : Int) / 7)) aA))))), wrap64 (1 + (Int.tmod (wrap64 ((l1.length : Int) / 3)) (wrap64 (aB - ((l1.length : Int) % aB)))))⟩ : S27)] : List (S27)))).bind fun dJ => ((laws_eaRas.f kj2 dL.1 dL.2.1 dL.2.2 dJ.1 dJ.2.1 dJ.2.2).bind fun dV => (some dV)))) else (none))))) else (none))))) else (none)))) = some r := by first | (rw [hy679]; with_reducible exact H) | (have H2_ := (Option.bind_some _ _).symm.trans H; rw [hy679]; with_reducible exact H2_) | (have H2_ := (Option.bind_some _ _).symm.trans H; with_reducible exact H2_) | with_reducible exact H | (rw [hy679]; exact H) | exact H
         have kD := Aside0.mk hy679
         clear hy679
         replace H := Option.bind_eq_some_iff.mp H
         obtain ⟨⟨iT, iU, iV⟩, jG, H⟩ := H
         (try dsimp only at H)
         have yE := Aside0.mk jG
         clear jG
         replace H := Option.bind_eq_some_iff.mp H
         obtain ⟨iW, lV, H⟩ := H
         (try dsimp only at H)
         have yF := Aside0.mk lV
         clear lV
         by_cases pK : iW = true
         ·subst pK
          rw [if_pos rfl] at H
          obtain ⟨y688, hy688⟩ : ∃ y_ : List (S27), y_ = (([(⟨1, (l1.length : Int) % aB, Int.tmod (wrap64 ((l1.length : Int) / 7)) aA, wrap64 (1 + (Int.tmod (wrap64 ((l1.length : Int) / 3)) (wrap64 (aB - ((l1.length : Int) % aB))))), wrap64 (1 + (Int.tmod (wrap64 ((l1.length : Int) / 5)) (wrap64 (aA - (Int.tmod (wrap64 ((l1.length : Int) / 7)) aA)))))⟩ : S27), (⟨2, 0, 0, 0, 0⟩ : S27)] : List (S27))) := ⟨_, rfl⟩
          replace H : ((laws_eaDo.f kj2 aB aA cA y688).bind fun eF => ((laws_eaDo.f kj2 aB aA cA (([(⟨2, 0, 0, 0, 0⟩ : S27), (⟨1, wrap64 ((wrap64 (aB - ((l1.length : Int) % aB))) - (wrap64 (1 + (Int.tmod (wrap64 ((l1.length : Int) / 3)) (wrap64 (aB - ((l1.length : Int) % aB))))))), Int.tmod (wrap64 ((l1.length : Int) / 7)) aA, wrap64 (1 + (Int.tmod (wrap64 ((l1.length : Int) / 3)) (wrap64 (aB - ((l1.length : Int) % aB))))), wrap64 (1 + (Int.tmod (wrap64 ((l1.length : Int) / 5)) (wrap64 (aA - (Int.tmod (wrap64 ((l1.length : Int) / 7)) aA)))))⟩ : S27)] : List (S27)))).bind fun dW => ((laws_eaRas.f kj2 eF.1 eF.2.1 eF.2.2 dW.1 dW.2.1 dW.2.2).bind fun fG => (if fG = true then ((laws_eaDo.f kj2 aB aA cA (([(⟨1, (l1.length : Int) % aB, Int.tmod (wrap64 ((l1.length : Int) / 7)) aA, wrap64 (1 + (Int.tmod (wrap64 ((l1.length : Int) / 3)) (wrap64 (aB - ((l1.length : Int) % aB))))), wrap64 (1 + (Int.tmod (wrap64 ((l1.length : Int) / 5)) (wrap64 (aA - (Int.tmod (wrap64 ((l1.length : Int) / 7)) aA)))))⟩ : S27), (⟨3, 0, 0, 0, 0⟩ : S27)] : List (S27)))).bind fun dQ => ((laws_eaDo.f kj2 aB aA cA (([(⟨3, 0, 0, 0, 0⟩ : S27), (⟨1, (l1.length : Int) % aB, wrap64 ((wrap64 (aA - (Int.tmod (wrap64 ((l1.length : Int) / 7)) aA))) - (wrap64 (1 + (Int.tmod (wrap64 ((l1.length : Int) / 5)) (wrap64 (aA - (Int.tmod (wrap64 ((l1.length : Int) / 7)) aA))))))), wrap64 (1 + (Int.tmod (wrap64 ((l1.length : Int) / 3)) (wrap64 (aB - ((l1.length : Int) % aB))))), wrap64 (1 + (Int.tmod (wrap64 ((l1.length : Int) / 5)) (wrap64 (aA - (Int.tmod (wrap64 ((l1.length : Int) / 7)) aA)))))⟩ : S27)] : List (S27)))).bind fun dN => ((laws_eaRas.f kj2 dQ.1 dQ.2.1 dQ.2.2 dN.1 dN.2.1 dN.2.2).bind fun eU => (if eU = true then ((laws_eaDo.f kj2 aB aA cA (([(⟨1, (l1.length : Int) % aB, Int.tmod (wrap64 ((l1.length : Int) / 7)) aA, wrap64 (1 + (Int.tmod (wrap64 ((l1.length : Int) / 3)) (wrap64 (aB - ((l1.length : Int) % aB))))), wrap64 (1 + (Int.tmod (wrap64 ((l1.length : Int) / 5)) (wrap64 (aA - (Int.tmod (wrap64 ((l1.length : Int) / 7)) aA)))))⟩ : S27), (⟨4, 0, 0, 0, 0⟩ : S27)] : List (S27)))).bind fun dL => ((laws_eaDo.f kj2 aB aA cA (([(⟨4, 0, 0, 0, 0⟩ : S27), (⟨1, wrap64 ((wrap64 (aA - (Int.tmod (wrap64 ((l1.length : Int) / 7)) aA))) - (wrap64 (1 + (Int.tmod (wrap64 ((l1.length : Int) / 5)) (wrap64 (aA - (Int.tmod (wrap64 ((l1.length : Int) / 7)) aA))))))), (l1.length : Int) % aB, wrap64 (1 + (Int.tmod (wrap64 ((l1.length : Int) / 5)) (wrap64 (aA - (Int.tmod (wrap64 ((l1.length : Int) / 7)) aA))))), wrap64 (1 + (Int.tmod (wrap64 ((l1.length : Int) / 3)) (wrap64 (aB - ((l1.length : Int) % aB)))))⟩ : S27)] : List (S27)))).bind fun dJ => ((laws_eaRas.f kj2 dL.1 dL.2.1 dL.2.2 dJ.1 dJ.2.1 dJ.2.2).bind fun dV => (some dV)))) else (none))))) else (none))))) = some r := by first | (rw [hy688]; with_reducible exact H) | (have H2_ := (Option.bind_some _ _).symm.trans H; rw [hy688]; with_reducible exact H2_) | (have H2_ := (Option.bind_some _ _).symm.trans H; with_reducible exact H2_) | with_reducible exact H | (rw [hy688]; exact H) | exact H
          have kE := Aside0.mk hy688
          clear hy688
          replace H := Option.bind_eq_some_iff.mp H
          obtain ⟨⟨iN, iO, fP⟩, lW, H⟩ := H
          (try dsimp only at H)
          have yG := Aside0.mk lW
          clear lW
          obtain ⟨y696, hy696⟩ : ∃ y_ : List (S27), y_ = (([(⟨2, 0, 0, 0, 0⟩ : S27), (⟨1, wrap64 ((wrap64 (aB - ((l1.length : Int) % aB))) - (wrap64 (1 + (Int.tmod (wrap64 ((l1.length : Int) / 3)) (wrap64 (aB - ((l1.length : Int) % aB))))))), Int.tmod (wrap64 ((l1.length : Int) / 7)) aA, wrap64 (1 + (Int.tmod (wrap64 ((l1.length : Int) / 3)) (wrap64 (aB - ((l1.length : Int) % aB))))), wrap64 (1 + (Int.tmod (wrap64 ((l1.length : Int) / 5)) (wrap64 (aA - (Int.tmod (wrap64 ((l1.length : Int) / 7)) aA)))))⟩ : S27)] : List (S27))) := ⟨_, rfl⟩
          replace H : ((laws_eaDo.f kj2 aB aA cA y696).bind fun dW => ((laws_eaRas.f kj2 iN iO fP dW.1 dW.2.1 dW.2.2).bind fun fG => (if fG = true then ((laws_eaDo.f kj2 aB aA cA (([(⟨1, (l1.length : Int) % aB, Int.tmod (wrap64 ((l1.length : Int) / 7)) aA, wrap64 (1 + (Int.tmod (wrap64 ((l1.length : Int) / 3)) (wrap64 (aB - ((l1.length : Int) % aB))))), wrap64 (1 + (Int.tmod (wrap64 ((l1.length : Int) / 5)) (wrap64 (aA - (Int.tmod (wrap64 ((l1.length : Int) / 7)) aA)))))⟩ : S27), (⟨3, 0, 0, 0, 0⟩ : S27)] : List (S27)))).bind fun dQ => ((laws_eaDo.f kj2 aB aA cA (([(⟨3, 0, 0, 0, 0⟩ : S27), (⟨1, (l1.length : Int) % aB, wrap64 ((wrap64 (aA - (Int.tmod (wrap64 ((l1.length : Int) / 7)) aA))) - (wrap64 (1 + (Int.tmod (wrap64 ((l1.length : Int) / 5)) (wrap64 (aA - (Int.tmod (wrap64 ((l1.length : Int) / 7)) aA))))))), wrap64 (1 + (Int.tmod (wrap64 ((l1.length : Int) / 3)) (wrap64 (aB - ((l1.length : Int) % aB))))), wrap64 (1 + (Int.tmod (wrap64 ((l1.length : Int) / 5)) (wrap64 (aA - (Int.tmod (wrap64 ((l1.length : Int) / 7)) aA)))))⟩ : S27)] : List (S27)))).bind fun dN => ((laws_eaRas.f kj2 dQ.1 dQ.2.1 dQ.2.2 dN.1 dN.2.1 dN.2.2).bind fun eU => (if eU = true then ((laws_eaDo.f kj2 aB aA cA (([(⟨1, (l1.length : Int) % aB, Int.tmod (wrap64 ((l1.length : Int) / 7)) aA, wrap64 (1 + (Int.tmod (wrap64 ((l1.length : Int) / 3)) (wrap64 (aB - ((l1.length : Int) % aB))))), wrap64 (1 + (Int.tmod (wrap64 ((l1.length : Int) / 5)) (wrap64 (aA - (Int.tmod (wrap64 ((l1.length : Int) / 7)) aA)))))⟩ : S27), (⟨4, 0, 0, 0, 0⟩ : S27)] : List (S27)))).bind fun dL => ((laws_eaDo.f kj2 aB aA cA (([(⟨4, 0, 0, 0, 0⟩ : S27), (⟨1, wrap64 ((wrap64 (aA - (Int.tmod (wrap64 ((l1.length : Int) / 7)) aA))) - (wrap64 (1 + (Int.tmod (wrap64 ((l1.length : Int) / 5)) (wrap64 (aA - (Int.tmod (wrap64 ((l1.length : Int) / 7)) aA))))))), (l1.length : Int) % aB, wrap64 (1 + (Int.tmod (wrap64 ((l1.length : Int) / 5)) (wrap64 (aA - (Int.tmod (wrap64 ((l1.length : Int) / 7)) aA))))), wrap64 (1 + (Int.tmod (wrap64 ((l1.length : Int) / 3)) (wrap64 (aB - ((l1.length : Int) % aB)))))⟩ : S27)] : List (S27)))).bind fun dJ => ((laws_eaRas.f kj2 dL.1 dL.2.1 dL.2.2 dJ.1 dJ.2.1 dJ.2.2).bind fun dV => (some dV)))) else (none))))) else (none)))) = some r := by first | (rw [hy696]; with_reducible exact H) | (have H2_ := (Option.bind_some _ _).symm.trans H; rw [hy696]; with_reducible exact H2_) | (have H2_ := (Option.bind_some _ _).symm.trans H; with_reducible exact H2_) | with_reducible exact H | (rw [hy696]; exact H) | exact H
          have kF := Aside0.mk hy696
          clear hy696
          replace H := Option.bind_eq_some_iff.mp H
          obtain ⟨⟨iX, iY, iZ⟩, lX, H⟩ := H
          (try dsimp only at H)
          have yH := Aside0.mk lX
          clear lX
          replace H := Option.bind_eq_some_iff.mp H
          obtain ⟨fG, lY, H⟩ := H
          (try dsimp only at H)
          have yI := Aside0.mk lY
          clear lY
          by_cases pL : fG = true
          ·subst pL
           rw [if_pos rfl] at H
           obtain ⟨y705, hy705⟩ : ∃ y_ : List (S27), y_ = (([(⟨1, (l1.length : Int) % aB, Int.tmod (wrap64 ((l1.length : Int) / 7)) aA, wrap64 (1 + (Int.tmod (wrap64 ((l1.length : Int) / 3)) (wrap64 (aB - ((l1.length : Int) % aB))))), wrap64 (1 + (Int.tmod (wrap64 ((l1.length : Int) / 5)) (wrap64 (aA - (Int.tmod (wrap64 ((l1.length : Int) / 7)) aA)))))⟩ : S27), (⟨3, 0, 0, 0, 0⟩ : S27)] : List (S27))) := ⟨_, rfl⟩
           replace H : ((laws_eaDo.f kj2 aB aA cA y705).bind fun dQ => ((laws_eaDo.f kj2 aB aA cA (([(⟨3, 0, 0, 0, 0⟩ : S27), (⟨1, (l1.length : Int) % aB, wrap64 ((wrap64 (aA - (Int.tmod (wrap64 ((l1.length : Int) / 7)) aA))) - (wrap64 (1 + (Int.tmod (wrap64 ((l1.length : Int) / 5)) (wrap64 (aA - (Int.tmod (wrap64 ((l1.length : Int) / 7)) aA))))))), wrap64 (1 + (Int.tmod (wrap64 ((l1.length : Int) / 3)) (wrap64 (aB - ((l1.length : Int) % aB))))), wrap64 (1 + (Int.tmod (wrap64 ((l1.length : Int) / 5)) (wrap64 (aA - (Int.tmod (wrap64 ((l1.length : Int) / 7)) aA)))))⟩ : S27)] : List (S27)))).bind fun dN => ((laws_eaRas.f kj2 dQ.1 dQ.2.1 dQ.2.2 dN.1 dN.2.1 dN.2.2).bind fun eU => (if eU = true then ((laws_eaDo.f kj2 aB aA cA (([(⟨1, (l1.length : Int) % aB, Int.tmod (wrap64 ((l1.length : Int) / 7)) aA, wrap64 (1 + (Int.tmod (wrap64 ((l1.length : Int) / 3)) (wrap64 (aB - ((l1.length : Int) % aB))))), wrap64 (1 + (Int.tmod (wrap64 ((l1.length : Int) / 5)) (wrap64 (aA - (Int.tmod (wrap64 ((l1.length : Int) / 7)) aA)))))⟩ : S27), (⟨4, 0, 0, 0, 0⟩ : S27)] : List (S27)))).bind fun dL => ((laws_eaDo.f kj2 aB aA cA (([(⟨4, 0, 0, 0, 0⟩ : S27), (⟨1, wrap64 ((wrap64 (aA - (Int.tmod (wrap64 ((l1.length : Int) / 7)) aA))) - (wrap64 (1 + (Int.tmod (wrap64 ((l1.length : Int) / 5)) (wrap64 (aA - (Int.tmod (wrap64 ((l1.length : Int) / 7)) aA))))))), (l1.length : Int) % aB, wrap64 (1 + (Int.tmod (wrap64 ((l1.length : Int) / 5)) (wrap64 (aA - (Int.tmod (wrap64 ((l1.length : Int) / 7)) aA))))), wrap64 (1 + (Int.tmod (wrap64 ((l1.length : Int) / 3)) (wrap64 (aB - ((l1.length : Int) % aB)))))⟩ : S27)] : List (S27)))).bind fun dJ => ((laws_eaRas.f kj2 dL.1 dL.2.1 dL.2.2 dJ.1 dJ.2.1 dJ.2.2).bind fun dV => (some dV)))) else (none))))) = some r := by first | (rw [hy705]; with_reducible exact H) | (have H2_ := (Option.bind_some _ _).symm.trans H; rw [hy705]; with_reducible exact H2_) | (have H2_ := (Option.bind_some _ _).symm.trans H; with_reducible exact H2_) | with_reducible exact H | (rw [hy705]; exact H) | exact H
           have kG := Aside0.mk hy705
           clear hy705
           replace H := Option.bind_eq_some_iff.mp H
           obtain ⟨⟨iP, iQ, fQ⟩, lZ, H⟩ := H
           (try dsimp only at H)
           have yJ := Aside0.mk lZ
           clear lZ
           obtain ⟨y713, hy713⟩ : ∃ y_ : List (S27), y_ = (([(⟨3, 0, 0, 0, 0⟩ : S27), (⟨1, (l1.length : Int) % aB, wrap64 ((wrap64 (aA - (Int.tmod (wrap64 ((l1.length : Int) / 7)) aA))) - (wrap64 (1 + (Int.tmod (wrap64 ((l1.length : Int) / 5)) (wrap64 (aA - (Int.tmod (wrap64 ((l1.length : Int) / 7)) aA))))))), wrap64 (1 + (Int.tmod (wrap64 ((l1.length : Int) / 3)) (wrap64 (aB - ((l1.length : Int) % aB))))), wrap64 (1 + (Int.tmod (wrap64 ((l1.length : Int) / 5)) (wrap64 (aA - (Int.tmod (wrap64 ((l1.length : Int) / 7)) aA)))))⟩ : S27)] : List (S27))) := ⟨_, rfl⟩
           replace H : ((laws_eaDo.f kj2 aB aA cA y713).bind fun dN => ((laws_eaRas.f kj2 iP iQ fQ dN.1 dN.2.1 dN.2.2).bind fun eU => (if eU = true then ((laws_eaDo.f kj2 aB aA cA (([(⟨1, (l1.length : Int) % aB, Int.tmod (wrap64 ((l1.length : Int) / 7)) aA, wrap64 (1 + (Int.tmod (wrap64 ((l1.length : Int) / 3)) (wrap64 (aB - ((l1.length : Int) % aB))))), wrap64 (1 + (Int.tmod (wrap64 ((l1.length : Int) / 5)) (wrap64 (aA - (Int.tmod (wrap64 ((l1.length : Int) / 7)) aA)))))⟩ : S27), (⟨4, 0, 0, 0, 0⟩ : S27)] : List (S27)))).bind fun dL => ((laws_eaDo.f kj2 aB aA cA (([(⟨4, 0, 0, 0, 0⟩ : S27), (⟨1, wrap64 ((wrap64 (aA - (Int.tmod (wrap64 ((l1.length : Int) / 7)) aA))) - (wrap64 (1 + (Int.tmod (wrap64 ((l1.length : Int) / 5)) (wrap64 (aA - (Int.tmod (wrap64 ((l1.length : Int) / 7)) aA))))))), (l1.length : Int) % aB, wrap64 (1 + (Int.tmod (wrap64 ((l1.length : Int) / 5)) (wrap64 (aA - (Int.tmod (wrap64 ((l1.length : Int) / 7)) aA))))), wrap64 (1 + (Int.tmod (wrap64 ((l1.length : Int) / 3)) (wrap64 (aB - ((l1.length : Int) % aB)))))⟩ : S27)] : List (S27)))).bind fun dJ => ((laws_eaRas.f kj2 dL.1 dL.2.1 dL.2.2 dJ.1 dJ.2.1 dJ.2.2).bind fun dV => (some dV)))) else (none)))) = some r := by first | (rw [hy713]; with_reducible exact H) | (have H2_ := (Option.bind_some _ _).symm.trans H; rw [hy713]; with_reducible exact H2_) | (have H2_ := (Option.bind_some _ _).symm.trans H; with_reducible exact H2_) | with_reducible exact H | (rw [hy713]; exact H) | exact H
           have kH := Aside0.mk hy713
           clear hy713
           replace H := Option.bind_eq_some_iff.mp H
           obtain ⟨⟨jA, jB, jC⟩, mA, H⟩ := H
           (try dsimp only at H)
           have yK := Aside0.mk mA
           clear mA
           replace H := Option.bind_eq_some_iff.mp H
           obtain ⟨eU, mB, H⟩ := H
           (try dsimp only at H)
           have yL := Aside0.mk mB
           clear mB
           by_cases pM : eU = true
           ·subst pM
            rw [if_pos rfl] at H
            obtain ⟨y722, hy722⟩ : ∃ y_ : List (S27), y_ = (([(⟨1, (l1.length : Int) % aB, Int.tmod (wrap64 ((l1.length : Int) / 7)) aA, wrap64 (1 + (Int.tmod (wrap64 ((l1.length : Int) / 3)) (wrap64 (aB - ((l1.length : Int) % aB))))), wrap64 (1 + (Int.tmod (wrap64 ((l1.length : Int) / 5)) (wrap64 (aA - (Int.tmod (wrap64 ((l1.length : Int) / 7)) aA)))))⟩ : S27), (⟨4, 0, 0, 0, 0⟩ : S27)] : List (S27))) := ⟨_, rfl⟩
            replace H : ((laws_eaDo.f kj2 aB aA cA y722).bind fun dL => ((laws_eaDo.f kj2 aB aA cA (([(⟨4, 0, 0, 0, 0⟩ : S27), (⟨1, wrap64 ((wrap64 (aA - (Int.tmod (wrap64 ((l1.length : Int) / 7)) aA))) - (wrap64 (1 + (Int.tmod (wrap64 ((l1.length : Int) / 5)) (wrap64 (aA - (Int.tmod (wrap64 ((l1.length : Int) / 7)) aA))))))), (l1.length : Int) % aB, wrap64 (1 + (Int.tmod (wrap64 ((l1.length : Int) / 5)) (wrap64 (aA - (Int.tmod (wrap64 ((l1.length : Int) / 7)) aA))))), wrap64 (1 + (Int.tmod (wrap64 ((l1.length : Int) / 3)) (wrap64 (aB - ((l1.length : Int) % aB)))))⟩ : S27)] : List (S27)))).bind fun dJ => ((laws_eaRas.f kj2 dL.1 dL.2.1 dL.2.2 dJ.1 dJ.2.1 dJ.2.2).bind fun dV => (some dV)))) = some r := by first | (rw [hy722]; with_reducible exact H) | (have H2_ := (Option.bind_some _ _).symm.trans H; rw [hy722]; with_reducible exact H2_) | (have H2_ := (Option.bind_some _ _).symm.trans H; with_reducible exact H2_) | with_reducible exact H | (rw [hy722]; exact H) | exact H
            have kI := Aside0.mk hy722
            clear hy722
            replace H := Option.bind_eq_some_iff.mp H
            obtain ⟨⟨iR, iS, fR⟩, mC, H⟩ := H
            (try dsimp only at H)
            have yM := Aside0.mk mC
            clear mC
            obtain ⟨y730, hy730⟩ : ∃ y_ : List (S27), y_ = (([(⟨4, 0, 0, 0, 0⟩ : S27), (⟨1, wrap64 ((wrap64 (aA - (Int.tmod (wrap64 ((l1.length : Int) / 7)) aA))) - (wrap64 (1 + (Int.tmod (wrap64 ((l1.length : Int) / 5)) (wrap64 (aA - (Int.tmod (wrap64 ((l1.length : Int) / 7)) aA))))))), (l1.length : Int) % aB, wrap64 (1 + (Int.tmod (wrap64 ((l1.length : Int) / 5)) (wrap64 (aA - (Int.tmod (wrap64 ((l1.length : Int) / 7)) aA))))), wrap64 (1 + (Int.tmod (wrap64 ((l1.length : Int) / 3)) (wrap64 (aB - ((l1.length : Int) % aB)))))⟩ : S27)] : List (S27))) := ⟨_, rfl⟩
            replace H : ((laws_eaDo.f kj2 aB aA cA y730).bind fun dJ => ((laws_eaRas.f kj2 iR iS fR dJ.1 dJ.2.1 dJ.2.2).bind fun dV => (some dV))) = some r := by first | (rw [hy730]; with_reducible exact H) | (have H2_ := (Option.bind_some _ _).symm.trans H; rw [hy730]; with_reducible exact H2_) | (have H2_ := (Option.bind_some _ _).symm.trans H; with_reducible exact H2_) | with_reducible exact H | (rw [hy730]; exact H) | exact H
            have kJ := Aside0.mk hy730
            clear hy730
            replace H := Option.bind_eq_some_iff.mp H
            obtain ⟨⟨jD, jE, jF⟩, mD, H⟩ := H
            (try dsimp only at H)
            have yN := Aside0.mk mD
            clear mD
            replace H := Option.bind_eq_some_iff.mp H
            obtain ⟨dV, mE, H⟩ := H
            (try dsimp only at H)
            have yO := Aside0.mk mE
            clear mE
            obtain rfl := Option.some.inj H
            try go_wp2_with (first | ((with_reducible refine gate_callee (f := 18) rfl ?_); refine goesL_ (some 29) rfl rfl Try.func18 oK rfl #[.slice A0 l0.length c0] rfl oA ?_; (with_reducible refine (spec_DrawOpDo.calls kj2 _ _ l0 aB aA cA fB fC fD fE fF _ ?side1 ?side2 A6.out).mono ?_); (case side1 => repeat (first | exact (Kd.C_below vD.out HB.out) | (with_reducible refine Kd.C_alloc ?_ _) | (with_reducible refine Kd.C_drewN ?_ _) | (with_reducible refine Kd.C_drew ?_))); (case side2 => exact vC.out); rintro e w27 ⟨uD, rfl, ho0, hb⟩; refine ⟨_, rfl, ?_⟩; have n_ := o2_ (Kd.Q_lower ho0 (below_size (oB HB))) (o1_ (below_step (oB HB) hb)); clear HB; obtain ⟨aS, HB⟩ := n_; (try clear hb); (try clear hb2); (try clear hk); (try clear hi); (try clear ho0)) | ((with_reducible refine gate_dst (N := 5) rfl ?_); (try (refine gate_guard (by rfl) ?_; dsimp only)); refine box_event rfl (N := 5) rfl (cs := #[.int .i64 0, .int .i64 0, .slice none 0 0]) (t := 25) oS ?_; intro bT hg w28 hbox hb; have n_ := o2_ (Kd.Q_below (oQ aS) hb) (o2_ (below_step (oB HB) hb) (o2_ (hbox) (o2_ ((oG hg (below_size (oB HB)) : w.heap.size ≤ bT)) (o1_ ((oG hg (below_size (oB HB)) : w.heap.size ≤ bT)))))); clear aS HB; obtain ⟨aS, HB, aC, mK, mI⟩ := n_; clear hb hbox hg) | ((with_reducible refine gate_dst (N := 6) rfl ?_); (try (refine gate_guard (by rfl) ?_; dsimp only)); refine box_event rfl (N := 6) rfl (cs := #[.int .i64 0, .int .i64 0, .int .i64 0, .int .i64 0, .int .i64 0]) (t := 27) oS ?_; intro cB hg lG hbox hb; have n_ := o2_ (Kd.Q_below (oQ aS) hb) (o2_ (blk_below (oP aC) hb) (o2_ (below_step (oB HB) hb) (o2_ (hbox) (o2_ ((oG hg (below_size (oB HB)) : w.heap.size ≤ cB)) (o2_ ((oG hg (below_size (oB HB)) : w.heap.size ≤ cB)) (o2_ ((oL hg (blk_lt (oP aC)))) (o1_ ((oN hg (blk_lt (oP aC))))))))))); clear aS aC HB; obtain ⟨aS, aC, HB, aD, mL, mJ, dI, eT⟩ := n_; clear hb hbox hg; have vK := dI.out; have wU := eT.out; have pP : lG.cell? ⟨bT, 0, none⟩ = some (.int .i64 0) := (blk_cell aC.out 0).trans rfl; have pQ : lG.cell? ⟨bT, 1, none⟩ = some (.int .i64 0) := (blk_cell aC.out 1).trans rfl; have pR : lG.cell? ⟨bT, 2, none⟩ = some (.slice none 0 0) := (blk_cell aC.out 2).trans rfl; have rS := blk_frozen aC.out 0; have rT := blk_frozen aC.out 1; have rU := blk_frozen aC.out 2; obtain ⟨dH, dG, tZ, _⟩ := Kd.Q_slice aS.out; subst tZ; have pS : lG.cell? ⟨cB, 0, none⟩ = some (.int .i64 0) := (blk_cell aD.out 0).trans rfl; have pT : lG.cell? ⟨cB, 1, none⟩ = some (.int .i64 0) := (blk_cell aD.out 1).trans rfl; have pU : lG.cell? ⟨cB, 2, none⟩ = some (.int .i64 0) := (blk_cell aD.out 2).trans rfl; have pV : lG.cell? ⟨cB, 3, none⟩ = some (.int .i64 0) := (blk_cell aD.out 3).trans rfl; have pW : lG.cell? ⟨cB, 4, none⟩ = some (.int .i64 0) := (blk_cell aD.out 4).trans rfl; have rV := blk_frozen aD.out 0; have rW := blk_frozen aD.out 1; have rX := blk_frozen aD.out 2; have rY := blk_frozen aD.out 3; have rZ := blk_frozen aD.out 4) | ((with_reducible refine gate_callee (f := 24) rfl ?_); refine goesL_ (some 33) rfl rfl Try.func24 oK rfl #[.agg #[.int .i64 aB, .int .i64 aA, .slice dH cA.length dG]] rfl oA ?_; (with_reducible refine (spec_RasOk.calls kj2 aB aA _ _ cA true _ ?side1 ?side2 A7.out).mono ?_); (case side1 => refine (Kd.Q_reads' (e := 38) (base := w.heap.size) (ok := fun k_ => True) (n := cA.length) (c := dG) ?_).2.2; exact (by (with_reducible repeat (first | apply Kd.Q_alloc | apply Kd.Q_drewN | apply Kd.Q_drew)); exact (Kd.Q_mono (Kd.Q_mono (Kd.Q_far (p := ⟨cB, 4, none⟩) (Kd.Q_far (p := ⟨cB, 3, none⟩) (Kd.Q_far (p := ⟨cB, 2, none⟩) (Kd.Q_far (p := ⟨cB, 1, none⟩) (Kd.Q_far (p := ⟨cB, 0, none⟩) (Kd.Q_far (p := ⟨bT, 2, none⟩) (Kd.Q_far (p := ⟨bT, 1, none⟩) (Kd.Q_far (p := ⟨bT, 0, none⟩) (Kd.Q_types (Kd.Q_types aS.out aC.out oD) aD.out oD) (fun _ hk => hk.1.2) (.int .i64 aB)) (fun _ hk => hk.1.2) (.int .i64 aA)) (fun _ hk => hk.1.2) (.slice dH cA.length dG)) (fun _ hk => hk.2) (.int .i64 fB)) (fun _ hk => hk.2) (.int .i64 fC)) (fun _ hk => hk.2) (.int .i64 fD)) (fun _ hk => hk.2) (.int .i64 fE)) (fun _ hk => hk.2) (.int .i64 fF)) (fun _ h_ => h_.1)) (fun _ h_ => h_.1)))); (case side2 => exact (Kd.Q_reads' aS.out).2.1); rintro e uI ⟨rfl, hb⟩; refine ⟨_, rfl, ?_⟩; have n_ := o2_ (Kd.Q_below (by (with_reducible repeat (first | apply Kd.Q_alloc | apply Kd.Q_drewN | apply Kd.Q_drew)); exact (Kd.Q_mono (Kd.Q_mono (Kd.Q_far (p := ⟨cB, 4, none⟩) (Kd.Q_far (p := ⟨cB, 3, none⟩) (Kd.Q_far (p := ⟨cB, 2, none⟩) (Kd.Q_far (p := ⟨cB, 1, none⟩) (Kd.Q_far (p := ⟨cB, 0, none⟩) (Kd.Q_far (p := ⟨bT, 2, none⟩) (Kd.Q_far (p := ⟨bT, 1, none⟩) (Kd.Q_far (p := ⟨bT, 0, none⟩) (Kd.Q_types (Kd.Q_types aS.out aC.out oD) aD.out oD) (fun _ hk => hk.1.2) (.int .i64 aB)) (fun _ hk => hk.1.2) (.int .i64 aA)) (fun _ hk => hk.1.2) (.slice dH cA.length dG)) (fun _ hk => hk.2) (.int .i64 fB)) (fun _ hk => hk.2) (.int .i64 fC)) (fun _ hk => hk.2) (.int .i64 fD)) (fun _ hk => hk.2) (.int .i64 fE)) (fun _ hk => hk.2) (.int .i64 fF)) (fun _ h_ => h_.1)) (fun _ h_ => h_.1))) hb) (o2_ (blk_below (g := bT) (o := .cells #[.int .i64 aB, .int .i64 aA, .slice dH cA.length dG] 25 (0, 0)) (blk_far (blk_far (blk_far (blk_far (blk_far (blk_put (blk_put (blk_put (oP aC) 0 _ rfl) 1 _ rfl) 2 _ rfl) dI.out _) dI.out _) dI.out _) dI.out _) dI.out _) hb) (o2_ (blk_below (g := cB) (o := .cells #[.int .i64 fB, .int .i64 fC, .int .i64 fD, .int .i64 fE, .int .i64 fF] 27 (0, 0)) (blk_put (blk_put (blk_put (blk_put (blk_put (oP aD) 0 _ rfl) 1 _ rfl) 2 _ rfl) 3 _ rfl) 4 _ rfl) hb) (o1_ (below_step (oB HB) hb)))); clear aS aC aD HB; obtain ⟨aS, aC, aD, HB⟩ := n_; (try clear hb); (try clear hb2); (try clear hk); (try clear hi); have pX : uI.cell? ⟨bT, 0, none⟩ = some (.int .i64 aB) := (blk_cell aC.out 0).trans rfl; have pY : uI.cell? ⟨bT, 1, none⟩ = some (.int .i64 aA) := (blk_cell aC.out 1).trans rfl; have pZ : uI.cell? ⟨bT, 2, none⟩ = some (.slice dH cA.length dG) := (blk_cell aC.out 2).trans rfl; have sA := blk_frozen aC.out 0; have sB := blk_frozen aC.out 1; have sC := blk_frozen aC.out 2) | ((with_reducible refine gate_dst (N := 12) rfl ?_); (try (refine gate_guard (by rfl) ?_; dsimp only)); refine box_event rfl (N := 12) rfl (cs := #[.int .i64 0, .int .i64 0, .int .i64 0, .int .i64 0, .int .i64 0]) (t := 27) oS ?_; intro bY hg lH hbox hb; have n_ := o2_ (Kd.Q_below (oQ aS) hb) (o2_ (blk_below (oP aC) hb) (o2_ (blk_below (oP aD) hb) (o2_ (below_step (oB HB) hb) (o2_ (hbox) (o2_ ((oG hg (below_size (oB HB)) : w.heap.size ≤ bY)) (o2_ ((oG hg (below_size (oB HB)) : w.heap.size ≤ bY)) (o2_ ((oL hg (blk_lt (oP aC)))) (o2_ ((oN hg (blk_lt (oP aC)))) (o2_ ((oL hg (blk_lt (oP aD)))) (o1_ ((oN hg (blk_lt (oP aD)))))))))))))); clear aS aC aD HB; obtain ⟨aS, aC, aD, HB, aE, uU, uL, fT, gH, gA, gI⟩ := n_; clear hb hbox hg; have vL := gH.out; have wV := fT.out; have vM := gI.out; have wW := gA.out; have qA : lH.cell? ⟨bY, 0, none⟩ = some (.int .i64 0) := (blk_cell aE.out 0).trans rfl; have qB : lH.cell? ⟨bY, 1, none⟩ = some (.int .i64 0) := (blk_cell aE.out 1).trans rfl; have qC : lH.cell? ⟨bY, 2, none⟩ = some (.int .i64 0) := (blk_cell aE.out 2).trans rfl; have qD : lH.cell? ⟨bY, 3, none⟩ = some (.int .i64 0) := (blk_cell aE.out 3).trans rfl; have qE : lH.cell? ⟨bY, 4, none⟩ = some (.int .i64 0) := (blk_cell aE.out 4).trans rfl; have sD := blk_frozen aE.out 0; have sE := blk_frozen aE.out 1; have sF := blk_frozen aE.out 2; have sG := blk_frozen aE.out 3; have sH := blk_frozen aE.out 4; have qF : lH.cell? ⟨bT, 0, none⟩ = some (.int .i64 aB) := (blk_cell aC.out 0).trans rfl; have qG : lH.cell? ⟨bT, 1, none⟩ = some (.int .i64 aA) := (blk_cell aC.out 1).trans rfl; have qH : lH.cell? ⟨bT, 2, none⟩ = some (.slice dH cA.length dG) := (blk_cell aC.out 2).trans rfl; have sI := blk_frozen aC.out 0; have sJ := blk_frozen aC.out 1; have sK := blk_frozen aC.out 2) | ((with_reducible refine gate_dst (N := 13) rfl ?_); (try (refine gate_guard (by rfl) ?_; dsimp only)); refine box_event rfl (N := 13) rfl (cs := #[.int .i64 0, .int .i64 0, .int .i64 0, .int .i64 0, .int .i64 0]) (t := 27) oS ?_; intro dA hg lI hbox hb; have n_ := o2_ (Kd.Q_below (by (with_reducible repeat (first | apply Kd.Q_alloc | apply Kd.Q_drewN | apply Kd.Q_drew)); exact (Kd.Q_mono (Kd.Q_far (p := ⟨bY, 4, none⟩) (Kd.Q_far (p := ⟨bY, 3, none⟩) (Kd.Q_far (p := ⟨bY, 2, none⟩) (Kd.Q_far (p := ⟨bY, 1, none⟩) (Kd.Q_far (p := ⟨bY, 0, none⟩) (Kd.Q_types aS.out aE.out oD) (fun _ hk => hk.2) (.int .i64 1)) (fun _ hk => hk.2) (.int .i64 ((l1.length : Int) % aB))) (fun _ hk => hk.2) (.int .i64 (Int.tmod (wrap64 ((l1.length : Int) / 7)) aA))) (fun _ hk => hk.2) (.int .i64 (wrap64 (1 + (Int.tmod (wrap64 ((l1.length : Int) / 3)) (wrap64 (aB - ((l1.length : Int) % aB)))))))) (fun _ hk => hk.2) (.int .i64 (wrap64 (1 + (Int.tmod (wrap64 ((l1.length : Int) / 5)) (wrap64 (aA - (Int.tmod (wrap64 ((l1.length : Int) / 7)) aA)))))))) (fun _ h_ => h_.1))) hb) (o2_ (blk_below (oP aC) hb) (o2_ (blk_below (oP aD) hb) (o2_ (blk_below (g := bY) (o := .cells #[.int .i64 1, .int .i64 ((l1.length : Int) % aB), .int .i64 (Int.tmod (wrap64 ((l1.length : Int) / 7)) aA), .int .i64 (wrap64 (1 + (Int.tmod (wrap64 ((l1.length : Int) / 3)) (wrap64 (aB - ((l1.length : Int) % aB)))))), .int .i64 (wrap64 (1 + (Int.tmod (wrap64 ((l1.length : Int) / 5)) (wrap64 (aA - (Int.tmod (wrap64 ((l1.length : Int) / 7)) aA))))))] 27 (0, 0)) (blk_put (blk_put (blk_put (blk_put (blk_put aE.out 0 _ rfl) 1 _ rfl) 2 _ rfl) 3 _ rfl) 4 _ rfl) hb) (o2_ (below_step (oB HB) hb) (o2_ (hbox) (o2_ ((oG hg (below_size (oB HB)) : w.heap.size ≤ dA)) (o2_ ((oG hg (below_size (oB HB)) : w.heap.size ≤ dA)) (o2_ ((oL hg (blk_lt (oP aC)))) (o2_ ((oN hg (blk_lt (oP aC)))) (o2_ ((oL hg (blk_lt (oP aD)))) (o2_ ((oN hg (blk_lt (oP aD)))) (o2_ ((by rw [hg]; exact Nat.ne_of_lt (blk_lt (g := bY) (o := .cells #[.int .i64 1, .int .i64 ((l1.length : Int) % aB), .int .i64 (Int.tmod (wrap64 ((l1.length : Int) / 7)) aA), .int .i64 (wrap64 (1 + (Int.tmod (wrap64 ((l1.length : Int) / 3)) (wrap64 (aB - ((l1.length : Int) % aB)))))), .int .i64 (wrap64 (1 + (Int.tmod (wrap64 ((l1.length : Int) / 5)) (wrap64 (aA - (Int.tmod (wrap64 ((l1.length : Int) / 7)) aA))))))] 27 (0, 0)) (blk_put (blk_put (blk_put (blk_put (blk_put aE.out 0 _ rfl) 1 _ rfl) 2 _ rfl) 3 _ rfl) 4 _ rfl)) : bY ≠ dA)) (o1_ ((by rw [hg]; exact Nat.ne_of_gt (blk_lt (g := bY) (o := .cells #[.int .i64 1, .int .i64 ((l1.length : Int) % aB), .int .i64 (Int.tmod (wrap64 ((l1.length : Int) / 7)) aA), .int .i64 (wrap64 (1 + (Int.tmod (wrap64 ((l1.length : Int) / 3)) (wrap64 (aB - ((l1.length : Int) % aB)))))), .int .i64 (wrap64 (1 + (Int.tmod (wrap64 ((l1.length : Int) / 5)) (wrap64 (aA - (Int.tmod (wrap64 ((l1.length : Int) / 7)) aA))))))] 27 (0, 0)) (blk_put (blk_put (blk_put (blk_put (blk_put aE.out 0 _ rfl) 1 _ rfl) 2 _ rfl) 3 _ rfl) 4 _ rfl)) : dA ≠ bY))))))))))))))); clear aS aC aD aE HB; obtain ⟨aS, aC, aD, aE, HB, aP, uW, uM, fU, gP, gB, gQ, gJ, gR⟩ := n_; clear hb hbox hg; have vN := gP.out; have wX := fU.out; have vO := gQ.out; have wY := gB.out; have vP := gR.out; have wZ := gJ.out; have qI : lI.cell? ⟨dA, 0, none⟩ = some (.int .i64 0) := (blk_cell aP.out 0).trans rfl; have qJ : lI.cell? ⟨dA, 1, none⟩ = some (.int .i64 0) := (blk_cell aP.out 1).trans rfl; have qK : lI.cell? ⟨dA, 2, none⟩ = some (.int .i64 0) := (blk_cell aP.out 2).trans rfl; have qL : lI.cell? ⟨dA, 3, none⟩ = some (.int .i64 0) := (blk_cell aP.out 3).trans rfl; have qM : lI.cell? ⟨dA, 4, none⟩ = some (.int .i64 0) := (blk_cell aP.out 4).trans rfl; have sL := blk_frozen aP.out 0; have sM := blk_frozen aP.out 1; have sN := blk_frozen aP.out 2; have sO := blk_frozen aP.out 3; have sP := blk_frozen aP.out 4; have qN : lI.cell? ⟨bT, 0, none⟩ = some (.int .i64 aB) := (blk_cell aC.out 0).trans rfl; have qO : lI.cell? ⟨bT, 1, none⟩ = some (.int .i64 aA) := (blk_cell aC.out 1).trans rfl; have qP : lI.cell? ⟨bT, 2, none⟩ = some (.slice dH cA.length dG) := (blk_cell aC.out 2).trans rfl; have sQ := blk_frozen aC.out 0; have sR := blk_frozen aC.out 1; have sS := blk_frozen aC.out 2) | ((with_reducible refine gate_dst (N := 14) rfl ?_); (try (refine gate_guard (by rfl) ?_; dsimp only)); refine box_event rfl (N := 14) rfl (cs := #[.int .i64 0, .int .i64 0, .int .i64 0, .int .i64 0, .int .i64 0]) (t := 27) oS ?_; intro dB hg lJ hbox hb; have n_ := o2_ (Kd.Q_below (by (with_reducible repeat (first | apply Kd.Q_alloc | apply Kd.Q_drewN | apply Kd.Q_drew)); exact (Kd.Q_mono (Kd.Q_far (p := ⟨dA, 4, none⟩) (Kd.Q_far (p := ⟨dA, 3, none⟩) (Kd.Q_far (p := ⟨dA, 2, none⟩) (Kd.Q_far (p := ⟨dA, 1, none⟩) (Kd.Q_far (p := ⟨dA, 0, none⟩) (Kd.Q_types aS.out aP.out oD) (fun _ hk => hk.2) (.int .i64 1)) (fun _ hk => hk.2) (.int .i64 (wrap64 ((wrap64 (aB - ((l1.length : Int) % aB))) - (wrap64 (1 + (Int.tmod (wrap64 ((l1.length : Int) / 3)) (wrap64 (aB - ((l1.length : Int) % aB)))))))))) (fun _ hk => hk.2) (.int .i64 (Int.tmod (wrap64 ((l1.length : Int) / 7)) aA))) (fun _ hk => hk.2) (.int .i64 (wrap64 (1 + (Int.tmod (wrap64 ((l1.length : Int) / 3)) (wrap64 (aB - ((l1.length : Int) % aB)))))))) (fun _ hk => hk.2) (.int .i64 (wrap64 (1 + (Int.tmod (wrap64 ((l1.length : Int) / 5)) (wrap64 (aA - (Int.tmod (wrap64 ((l1.length : Int) / 7)) aA)))))))) (fun _ h_ => h_.1))) hb) (o2_ (blk_below (oP aC) hb) (o2_ (blk_below (oP aD) hb) (o2_ (blk_below (oP aE) hb) (o2_ (blk_below (g := dA) (o := .cells #[.int .i64 1, .int .i64 (wrap64 ((wrap64 (aB - ((l1.length : Int) % aB))) - (wrap64 (1 + (Int.tmod (wrap64 ((l1.length : Int) / 3)) (wrap64 (aB - ((l1.length : Int) % aB)))))))), .int .i64 (Int.tmod (wrap64 ((l1.length : Int) / 7)) aA), .int .i64 (wrap64 (1 + (Int.tmod (wrap64 ((l1.length : Int) / 3)) (wrap64 (aB - ((l1.length : Int) % aB)))))), .int .i64 (wrap64 (1 + (Int.tmod (wrap64 ((l1.length : Int) / 5)) (wrap64 (aA - (Int.tmod (wrap64 ((l1.length : Int) / 7)) aA))))))] 27 (0, 0)) (blk_put (blk_put (blk_put (blk_put (blk_put aP.out 0 _ rfl) 1 _ rfl) 2 _ rfl) 3 _ rfl) 4 _ rfl) hb) (o2_ (below_step (oB HB) hb) (o2_ (hbox) (o2_ ((oG hg (below_size (oB HB)) : w.heap.size ≤ dB)) (o2_ ((oG hg (below_size (oB HB)) : w.heap.size ≤ dB)) (o2_ ((oL hg (blk_lt (oP aC)))) (o2_ ((oN hg (blk_lt (oP aC)))) (o2_ ((oL hg (blk_lt (oP aD)))) (o2_ ((oN hg (blk_lt (oP aD)))) (o2_ ((oL hg (blk_lt (oP aE)))) (o2_ ((oN hg (blk_lt (oP aE)))) (o2_ ((by rw [hg]; exact Nat.ne_of_lt (blk_lt (g := dA) (o := .cells #[.int .i64 1, .int .i64 (wrap64 ((wrap64 (aB - ((l1.length : Int) % aB))) - (wrap64 (1 + (Int.tmod (wrap64 ((l1.length : Int) / 3)) (wrap64 (aB - ((l1.length : Int) % aB)))))))), .int .i64 (Int.tmod (wrap64 ((l1.length : Int) / 7)) aA), .int .i64 (wrap64 (1 + (Int.tmod (wrap64 ((l1.length : Int) / 3)) (wrap64 (aB - ((l1.length : Int) % aB)))))), .int .i64 (wrap64 (1 + (Int.tmod (wrap64 ((l1.length : Int) / 5)) (wrap64 (aA - (Int.tmod (wrap64 ((l1.length : Int) / 7)) aA))))))] 27 (0, 0)) (blk_put (blk_put (blk_put (blk_put (blk_put aP.out 0 _ rfl) 1 _ rfl) 2 _ rfl) 3 _ rfl) 4 _ rfl)) : dA ≠ dB)) (o1_ ((by rw [hg]; exact Nat.ne_of_gt (blk_lt (g := dA) (o := .cells #[.int .i64 1, .int .i64 (wrap64 ((wrap64 (aB - ((l1.length : Int) % aB))) - (wrap64 (1 + (Int.tmod (wrap64 ((l1.length : Int) / 3)) (wrap64 (aB - ((l1.length : Int) % aB)))))))), .int .i64 (Int.tmod (wrap64 ((l1.length : Int) / 7)) aA), .int .i64 (wrap64 (1 + (Int.tmod (wrap64 ((l1.length : Int) / 3)) (wrap64 (aB - ((l1.length : Int) % aB)))))), .int .i64 (wrap64 (1 + (Int.tmod (wrap64 ((l1.length : Int) / 5)) (wrap64 (aA - (Int.tmod (wrap64 ((l1.length : Int) / 7)) aA))))))] 27 (0, 0)) (blk_put (blk_put (blk_put (blk_put (blk_put aP.out 0 _ rfl) 1 _ rfl) 2 _ rfl) 3 _ rfl) 4 _ rfl)) : dB ≠ dA)))))))))))))))))); clear aS aC aD aE aP HB; obtain ⟨aS, aC, aD, aE, aP, HB, aR, uX, uN, fV, gX, gC, gY, gK, gZ, gS, hA⟩ := n_; clear hb hbox hg; have vQ := gX.out; have xA := fV.out; have vR := gY.out; have xB := gC.out; have vS := gZ.out; have xC := gK.out; have vT := hA.out; have xD := gS.out; have qQ : lJ.cell? ⟨dB, 0, none⟩ = some (.int .i64 0) := (blk_cell aR.out 0).trans rfl; have qR : lJ.cell? ⟨dB, 1, none⟩ = some (.int .i64 0) := (blk_cell aR.out 1).trans rfl; have qS : lJ.cell? ⟨dB, 2, none⟩ = some (.int .i64 0) := (blk_cell aR.out 2).trans rfl; have qT : lJ.cell? ⟨dB, 3, none⟩ = some (.int .i64 0) := (blk_cell aR.out 3).trans rfl; have qU : lJ.cell? ⟨dB, 4, none⟩ = some (.int .i64 0) := (blk_cell aR.out 4).trans rfl; have sT := blk_frozen aR.out 0; have sU := blk_frozen aR.out 1; have sV := blk_frozen aR.out 2; have sW := blk_frozen aR.out 3; have sX := blk_frozen aR.out 4; have qV : lJ.cell? ⟨bT, 0, none⟩ = some (.int .i64 aB) := (blk_cell aC.out 0).trans rfl; have qW : lJ.cell? ⟨bT, 1, none⟩ = some (.int .i64 aA) := (blk_cell aC.out 1).trans rfl; have qX : lJ.cell? ⟨bT, 2, none⟩ = some (.slice dH cA.length dG) := (blk_cell aC.out 2).trans rfl; have sY := blk_frozen aC.out 0; have sZ := blk_frozen aC.out 1; have tA := blk_frozen aC.out 2) | ((with_reducible refine gate_dst (N := 15) rfl ?_); (try (refine gate_guard (by rfl) ?_; dsimp only)); refine box_event rfl (N := 15) rfl (cs := #[.int .i64 0, .int .i64 0, .int .i64 0, .int .i64 0, .int .i64 0]) (t := 27) oS ?_; intro dC hg pE hbox hb; have n_ := o2_ (Kd.Q_below (by (with_reducible repeat (first | apply Kd.Q_alloc | apply Kd.Q_drewN | apply Kd.Q_drew)); exact (Kd.Q_mono (Kd.Q_far (p := ⟨dB, 4, none⟩) (Kd.Q_far (p := ⟨dB, 3, none⟩) (Kd.Q_far (p := ⟨dB, 2, none⟩) (Kd.Q_far (p := ⟨dB, 1, none⟩) (Kd.Q_far (p := ⟨dB, 0, none⟩) (Kd.Q_types aS.out aR.out oD) (fun _ hk => hk.2) (.int .i64 1)) (fun _ hk => hk.2) (.int .i64 ((l1.length : Int) % aB))) (fun _ hk => hk.2) (.int .i64 (wrap64 ((wrap64 (aA - (Int.tmod (wrap64 ((l1.length : Int) / 7)) aA))) - (wrap64 (1 + (Int.tmod (wrap64 ((l1.length : Int) / 5)) (wrap64 (aA - (Int.tmod (wrap64 ((l1.length : Int) / 7)) aA)))))))))) (fun _ hk => hk.2) (.int .i64 (wrap64 (1 + (Int.tmod (wrap64 ((l1.length : Int) / 3)) (wrap64 (aB - ((l1.length : Int) % aB)))))))) (fun _ hk => hk.2) (.int .i64 (wrap64 (1 + (Int.tmod (wrap64 ((l1.length : Int) / 5)) (wrap64 (aA - (Int.tmod (wrap64 ((l1.length : Int) / 7)) aA)))))))) (fun _ h_ => h_.1))) hb) (o2_ (blk_below (oP aC) hb) (o2_ (blk_below (oP aD) hb) (o2_ (blk_below (oP aE) hb) (o2_ (blk_below (oP aP) hb) (o2_ (blk_below (g := dB) (o := .cells #[.int .i64 1, .int .i64 ((l1.length : Int) % aB), .int .i64 (wrap64 ((wrap64 (aA - (Int.tmod (wrap64 ((l1.length : Int) / 7)) aA))) - (wrap64 (1 + (Int.tmod (wrap64 ((l1.length : Int) / 5)) (wrap64 (aA - (Int.tmod (wrap64 ((l1.length : Int) / 7)) aA)))))))), .int .i64 (wrap64 (1 + (Int.tmod (wrap64 ((l1.length : Int) / 3)) (wrap64 (aB - ((l1.length : Int) % aB)))))), .int .i64 (wrap64 (1 + (Int.tmod (wrap64 ((l1.length : Int) / 5)) (wrap64 (aA - (Int.tmod (wrap64 ((l1.length : Int) / 7)) aA))))))] 27 (0, 0)) (blk_put (blk_put (blk_put (blk_put (blk_put aR.out 0 _ rfl) 1 _ rfl) 2 _ rfl) 3 _ rfl) 4 _ rfl) hb) (o2_ (below_step (oB HB) hb) (o2_ (hbox) (o2_ ((oG hg (below_size (oB HB)) : w.heap.size ≤ dC)) (o2_ ((oG hg (below_size (oB HB)) : w.heap.size ≤ dC)) (o2_ ((oL hg (blk_lt (oP aC)))) (o2_ ((oN hg (blk_lt (oP aC)))) (o2_ ((oL hg (blk_lt (oP aD)))) (o2_ ((oN hg (blk_lt (oP aD)))) (o2_ ((oL hg (blk_lt (oP aE)))) (o2_ ((oN hg (blk_lt (oP aE)))) (o2_ ((oL hg (blk_lt (oP aP)))) (o2_ ((oN hg (blk_lt (oP aP)))) (o2_ ((by rw [hg]; exact Nat.ne_of_lt (blk_lt (g := dB) (o := .cells #[.int .i64 1, .int .i64 ((l1.length : Int) % aB), .int .i64 (wrap64 ((wrap64 (aA - (Int.tmod (wrap64 ((l1.length : Int) / 7)) aA))) - (wrap64 (1 + (Int.tmod (wrap64 ((l1.length : Int) / 5)) (wrap64 (aA - (Int.tmod (wrap64 ((l1.length : Int) / 7)) aA)))))))), .int .i64 (wrap64 (1 + (Int.tmod (wrap64 ((l1.length : Int) / 3)) (wrap64 (aB - ((l1.length : Int) % aB)))))), .int .i64 (wrap64 (1 + (Int.tmod (wrap64 ((l1.length : Int) / 5)) (wrap64 (aA - (Int.tmod (wrap64 ((l1.length : Int) / 7)) aA))))))] 27 (0, 0)) (blk_put (blk_put (blk_put (blk_put (blk_put aR.out 0 _ rfl) 1 _ rfl) 2 _ rfl) 3 _ rfl) 4 _ rfl)) : dB ≠ dC)) (o1_ ((by rw [hg]; exact Nat.ne_of_gt (blk_lt (g := dB) (o := .cells #[.int .i64 1, .int .i64 ((l1.length : Int) % aB), .int .i64 (wrap64 ((wrap64 (aA - (Int.tmod (wrap64 ((l1.length : Int) / 7)) aA))) - (wrap64 (1 + (Int.tmod (wrap64 ((l1.length : Int) / 5)) (wrap64 (aA - (Int.tmod (wrap64 ((l1.length : Int) / 7)) aA)))))))), .int .i64 (wrap64 (1 + (Int.tmod (wrap64 ((l1.length : Int) / 3)) (wrap64 (aB - ((l1.length : Int) % aB)))))), .int .i64 (wrap64 (1 + (Int.tmod (wrap64 ((l1.length : Int) / 5)) (wrap64 (aA - (Int.tmod (wrap64 ((l1.length : Int) / 7)) aA))))))] 27 (0, 0)) (blk_put (blk_put (blk_put (blk_put (blk_put aR.out 0 _ rfl) 1 _ rfl) 2 _ rfl) 3 _ rfl) 4 _ rfl)) : dC ≠ dB))))))))))))))))))))); clear aS aC aD aE aP aR HB; obtain ⟨aS, aC, aD, aE, aP, aR, HB, aU, uY, uO, fW, hF, gD, hG, gL, hH, gT, hI, hB, hJ⟩ := n_; clear hb hbox hg; have vU := hF.out; have xE := fW.out; have vV := hG.out; have xF := gD.out; have vW := hH.out; have xG := gL.out; have vX := hI.out; have xH := gT.out; have vY := hJ.out; have xI := hB.out; have qY : pE.cell? ⟨dC, 0, none⟩ = some (.int .i64 0) := (blk_cell aU.out 0).trans rfl; have qZ : pE.cell? ⟨dC, 1, none⟩ = some (.int .i64 0) := (blk_cell aU.out 1).trans rfl; have rA : pE.cell? ⟨dC, 2, none⟩ = some (.int .i64 0) := (blk_cell aU.out 2).trans rfl; have rB : pE.cell? ⟨dC, 3, none⟩ = some (.int .i64 0) := (blk_cell aU.out 3).trans rfl; have rC : pE.cell? ⟨dC, 4, none⟩ = some (.int .i64 0) := (blk_cell aU.out 4).trans rfl; have tB := blk_frozen aU.out 0; have tC := blk_frozen aU.out 1; have tD := blk_frozen aU.out 2; have tE := blk_frozen aU.out 3; have tF := blk_frozen aU.out 4) | ((with_reducible refine gate_dst (N := 16) rfl ?_); (try (refine gate_guard (by rfl) ?_; dsimp only)); refine box_event rfl (N := 16) rfl (cs := #[.int .i64 0, .int .i64 0, .int .i64 0, .int .i64 0, .int .i64 0]) (t := 27) oS ?_; intro cD hg pF hbox hb; have n_ := o2_ (Kd.Q_below (by (with_reducible repeat (first | apply Kd.Q_alloc | apply Kd.Q_drewN | apply Kd.Q_drew)); exact (Kd.Q_mono (Kd.Q_far (p := ⟨dC, 4, none⟩) (Kd.Q_far (p := ⟨dC, 3, none⟩) (Kd.Q_far (p := ⟨dC, 2, none⟩) (Kd.Q_far (p := ⟨dC, 1, none⟩) (Kd.Q_far (p := ⟨dC, 0, none⟩) (Kd.Q_types aS.out aU.out oD) (fun _ hk => hk.2) (.int .i64 1)) (fun _ hk => hk.2) (.int .i64 (wrap64 ((wrap64 (aA - (Int.tmod (wrap64 ((l1.length : Int) / 7)) aA))) - (wrap64 (1 + (Int.tmod (wrap64 ((l1.length : Int) / 5)) (wrap64 (aA - (Int.tmod (wrap64 ((l1.length : Int) / 7)) aA)))))))))) (fun _ hk => hk.2) (.int .i64 ((l1.length : Int) % aB))) (fun _ hk => hk.2) (.int .i64 (wrap64 (1 + (Int.tmod (wrap64 ((l1.length : Int) / 5)) (wrap64 (aA - (Int.tmod (wrap64 ((l1.length : Int) / 7)) aA)))))))) (fun _ hk => hk.2) (.int .i64 (wrap64 (1 + (Int.tmod (wrap64 ((l1.length : Int) / 3)) (wrap64 (aB - ((l1.length : Int) % aB)))))))) (fun _ h_ => h_.1))) hb) (o2_ (blk_below (oP aC) hb) (o2_ (blk_below (oP aD) hb) (o2_ (blk_below (oP aE) hb) (o2_ (blk_below (oP aP) hb) (o2_ (blk_below (oP aR) hb) (o2_ (blk_below (g := dC) (o := .cells #[.int .i64 1, .int .i64 (wrap64 ((wrap64 (aA - (Int.tmod (wrap64 ((l1.length : Int) / 7)) aA))) - (wrap64 (1 + (Int.tmod (wrap64 ((l1.length : Int) / 5)) (wrap64 (aA - (Int.tmod (wrap64 ((l1.length : Int) / 7)) aA)))))))), .int .i64 ((l1.length : Int) % aB), .int .i64 (wrap64 (1 + (Int.tmod (wrap64 ((l1.length : Int) / 5)) (wrap64 (aA - (Int.tmod (wrap64 ((l1.length : Int) / 7)) aA)))))), .int .i64 (wrap64 (1 + (Int.tmod (wrap64 ((l1.length : Int) / 3)) (wrap64 (aB - ((l1.length : Int) % aB))))))] 27 (0, 0)) (blk_put (blk_put (blk_put (blk_put (blk_put aU.out 0 _ rfl) 1 _ rfl) 2 _ rfl) 3 _ rfl) 4 _ rfl) hb) (o2_ (below_step (oB HB) hb) (o2_ (hbox) (o2_ ((oG hg (below_size (oB HB)) : w.heap.size ≤ cD)) (o2_ ((oG hg (below_size (oB HB)) : w.heap.size ≤ cD)) (o2_ ((oL hg (blk_lt (oP aC)))) (o2_ ((oN hg (blk_lt (oP aC)))) (o2_ ((oL hg (blk_lt (oP aD)))) (o2_ ((oN hg (blk_lt (oP aD)))) (o2_ ((oL hg (blk_lt (oP aE)))) (o2_ ((oN hg (blk_lt (oP aE)))) (o2_ ((oL hg (blk_lt (oP aP)))) (o2_ ((oN hg (blk_lt (oP aP)))) (o2_ ((oL hg (blk_lt (oP aR)))) (o2_ ((oN hg (blk_lt (oP aR)))) (o2_ ((by rw [hg]; exact Nat.ne_of_lt (blk_lt (g := dC) (o := .cells #[.int .i64 1, .int .i64 (wrap64 ((wrap64 (aA - (Int.tmod (wrap64 ((l1.length : Int) / 7)) aA))) - (wrap64 (1 + (Int.tmod (wrap64 ((l1.length : Int) / 5)) (wrap64 (aA - (Int.tmod (wrap64 ((l1.length : Int) / 7)) aA)))))))), .int .i64 ((l1.length : Int) % aB), .int .i64 (wrap64 (1 + (Int.tmod (wrap64 ((l1.length : Int) / 5)) (wrap64 (aA - (Int.tmod (wrap64 ((l1.length : Int) / 7)) aA)))))), .int .i64 (wrap64 (1 + (Int.tmod (wrap64 ((l1.length : Int) / 3)) (wrap64 (aB - ((l1.length : Int) % aB))))))] 27 (0, 0)) (blk_put (blk_put (blk_put (blk_put (blk_put aU.out 0 _ rfl) 1 _ rfl) 2 _ rfl) 3 _ rfl) 4 _ rfl)) : dC ≠ cD)) (o1_ ((by rw [hg]; exact Nat.ne_of_gt (blk_lt (g := dC) (o := .cells #[.int .i64 1, .int .i64 (wrap64 ((wrap64 (aA - (Int.tmod (wrap64 ((l1.length : Int) / 7)) aA))) - (wrap64 (1 + (Int.tmod (wrap64 ((l1.length : Int) / 5)) (wrap64 (aA - (Int.tmod (wrap64 ((l1.length : Int) / 7)) aA)))))))), .int .i64 ((l1.length : Int) % aB), .int .i64 (wrap64 (1 + (Int.tmod (wrap64 ((l1.length : Int) / 5)) (wrap64 (aA - (Int.tmod (wrap64 ((l1.length : Int) / 7)) aA)))))), .int .i64 (wrap64 (1 + (Int.tmod (wrap64 ((l1.length : Int) / 3)) (wrap64 (aB - ((l1.length : Int) % aB))))))] 27 (0, 0)) (blk_put (blk_put (blk_put (blk_put (blk_put aU.out 0 _ rfl) 1 _ rfl) 2 _ rfl) 3 _ rfl) 4 _ rfl)) : cD ≠ dC)))))))))))))))))))))))); clear aS aC aD aE aP aR aU HB; obtain ⟨aS, aC, aD, aE, aP, aR, aU, HB, aV, uZ, uP, fX, hO, gE, hP, gM, hQ, gU, hR, hC, hS, hL, hT⟩ := n_; clear hb hbox hg; have vZ := hO.out; have xJ := fX.out; have wA := hP.out; have xK := gE.out; have wB := hQ.out; have xL := gM.out; have wC := hR.out; have xM := gU.out; have wD := hS.out; have xN := hC.out; have wE := hT.out; have xO := hL.out; have rD : pF.cell? ⟨cD, 0, none⟩ = some (.int .i64 0) := (blk_cell aV.out 0).trans rfl; have rE : pF.cell? ⟨cD, 1, none⟩ = some (.int .i64 0) := (blk_cell aV.out 1).trans rfl; have rF : pF.cell? ⟨cD, 2, none⟩ = some (.int .i64 0) := (blk_cell aV.out 2).trans rfl; have rG : pF.cell? ⟨cD, 3, none⟩ = some (.int .i64 0) := (blk_cell aV.out 3).trans rfl; have rH : pF.cell? ⟨cD, 4, none⟩ = some (.int .i64 0) := (blk_cell aV.out 4).trans rfl; have tG := blk_frozen aV.out 0; have tH := blk_frozen aV.out 1; have tI := blk_frozen aV.out 2; have tJ := blk_frozen aV.out 3; have tK := blk_frozen aV.out 4) | ((with_reducible refine gate_dst (N := 17) rfl ?_); (try (refine gate_guard (by rfl) ?_; dsimp only)); refine box_event rfl (N := 17) rfl (cs := #[.int .i64 0, .int .i64 0, .int .i64 0, .int .i64 0, .int .i64 0]) (t := 27) oS ?_; intro cE hg pG hbox hb; have n_ := o2_ (Kd.Q_below (by (with_reducible repeat (first | apply Kd.Q_alloc | apply Kd.Q_drewN | apply Kd.Q_drew)); exact (Kd.Q_mono (Kd.Q_far (p := ⟨cD, 4, none⟩) (Kd.Q_far (p := ⟨cD, 3, none⟩) (Kd.Q_far (p := ⟨cD, 2, none⟩) (Kd.Q_far (p := ⟨cD, 1, none⟩) (Kd.Q_far (p := ⟨cD, 0, none⟩) (Kd.Q_types aS.out aV.out oD) (fun _ hk => hk.2) (.int .i64 2)) (fun _ hk => hk.2) (.int .i64 0)) (fun _ hk => hk.2) (.int .i64 0)) (fun _ hk => hk.2) (.int .i64 0)) (fun _ hk => hk.2) (.int .i64 0)) (fun _ h_ => h_.1))) hb) (o2_ (blk_below (oP aC) hb) (o2_ (blk_below (oP aD) hb) (o2_ (blk_below (oP aE) hb) (o2_ (blk_below (oP aP) hb) (o2_ (blk_below (oP aR) hb) (o2_ (blk_below (oP aU) hb) (o2_ (blk_below (g := cD) (o := .cells #[.int .i64 2, .int .i64 0, .int .i64 0, .int .i64 0, .int .i64 0] 27 (0, 0)) (blk_put (blk_put (blk_put (blk_put (blk_put aV.out 0 _ rfl) 1 _ rfl) 2 _ rfl) 3 _ rfl) 4 _ rfl) hb) (o2_ (below_step (oB HB) hb) (o2_ (hbox) (o2_ ((oG hg (below_size (oB HB)) : w.heap.size ≤ cE)) (o2_ ((oG hg (below_size (oB HB)) : w.heap.size ≤ cE)) (o2_ ((oL hg (blk_lt (oP aC)))) (o2_ ((oN hg (blk_lt (oP aC)))) (o2_ ((oL hg (blk_lt (oP aD)))) (o2_ ((oN hg (blk_lt (oP aD)))) (o2_ ((oL hg (blk_lt (oP aE)))) (o2_ ((oN hg (blk_lt (oP aE)))) (o2_ ((oL hg (blk_lt (oP aP)))) (o2_ ((oN hg (blk_lt (oP aP)))) (o2_ ((oL hg (blk_lt (oP aR)))) (o2_ ((oN hg (blk_lt (oP aR)))) (o2_ ((oL hg (blk_lt (oP aU)))) (o2_ ((oN hg (blk_lt (oP aU)))) (o2_ ((by rw [hg]; exact Nat.ne_of_lt (blk_lt (g := cD) (o := .cells #[.int .i64 2, .int .i64 0, .int .i64 0, .int .i64 0, .int .i64 0] 27 (0, 0)) (blk_put (blk_put (blk_put (blk_put (blk_put aV.out 0 _ rfl) 1 _ rfl) 2 _ rfl) 3 _ rfl) 4 _ rfl)) : cD ≠ cE)) (o1_ ((by rw [hg]; exact Nat.ne_of_gt (blk_lt (g := cD) (o := .cells #[.int .i64 2, .int .i64 0, .int .i64 0, .int .i64 0, .int .i64 0] 27 (0, 0)) (blk_put (blk_put (blk_put (blk_put (blk_put aV.out 0 _ rfl) 1 _ rfl) 2 _ rfl) 3 _ rfl) 4 _ rfl)) : cE ≠ cD))))))))))))))))))))))))))); clear aS aC aD aE aP aR aU aV HB; obtain ⟨aS, aC, aD, aE, aP, aR, aU, aV, HB, aW, vA, uS, fY, hW, gF, hX, gN, hY, gV, hZ, hD, iA, hM, iB, hU, iC⟩ := n_; clear hb hbox hg; have wF := hW.out; have xP := fY.out; have wG := hX.out; have xQ := gF.out; have wH := hY.out; have xR := gN.out; have wI := hZ.out; have xS := gV.out; have wJ := iA.out; have xT := hD.out; have wK := iB.out; have xU := hM.out; have wL := iC.out; have xV := hU.out; have rI : pG.cell? ⟨cE, 0, none⟩ = some (.int .i64 0) := (blk_cell aW.out 0).trans rfl; have rJ : pG.cell? ⟨cE, 1, none⟩ = some (.int .i64 0) := (blk_cell aW.out 1).trans rfl; have rK : pG.cell? ⟨cE, 2, none⟩ = some (.int .i64 0) := (blk_cell aW.out 2).trans rfl; have rL : pG.cell? ⟨cE, 3, none⟩ = some (.int .i64 0) := (blk_cell aW.out 3).trans rfl; have rM : pG.cell? ⟨cE, 4, none⟩ = some (.int .i64 0) := (blk_cell aW.out 4).trans rfl; have tL := blk_frozen aW.out 0; have tM := blk_frozen aW.out 1; have tN := blk_frozen aW.out 2; have tO := blk_frozen aW.out 3; have tP := blk_frozen aW.out 4) | ((with_reducible refine gate_dst (N := 18) rfl ?_); (try (refine gate_guard (by rfl) ?_; dsimp only)); refine box_event rfl (N := 18) rfl (cs := #[.int .i64 0, .int .i64 0, .int .i64 0, .int .i64 0, .int .i64 0]) (t := 27) oS ?_; intro bH hg fO hbox hb; have n_ := o2_ (Kd.Q_below (by (with_reducible repeat (first | apply Kd.Q_alloc | apply Kd.Q_drewN | apply Kd.Q_drew)); exact (Kd.Q_mono (Kd.Q_far (p := ⟨cE, 4, none⟩) (Kd.Q_far (p := ⟨cE, 3, none⟩) (Kd.Q_far (p := ⟨cE, 2, none⟩) (Kd.Q_far (p := ⟨cE, 1, none⟩) (Kd.Q_far (p := ⟨cE, 0, none⟩) (Kd.Q_types aS.out aW.out oD) (fun _ hk => hk.2) (.int .i64 3)) (fun _ hk => hk.2) (.int .i64 0)) (fun _ hk => hk.2) (.int .i64 0)) (fun _ hk => hk.2) (.int .i64 0)) (fun _ hk => hk.2) (.int .i64 0)) (fun _ h_ => h_.1))) hb) (o2_ (blk_below (oP aC) hb) (o2_ (blk_below (oP aD) hb) (o2_ (blk_below (oP aE) hb) (o2_ (blk_below (oP aP) hb) (o2_ (blk_below (oP aR) hb) (o2_ (blk_below (oP aU) hb) (o2_ (blk_below (oP aV) hb) (o2_ (blk_below (g := cE) (o := .cells #[.int .i64 3, .int .i64 0, .int .i64 0, .int .i64 0, .int .i64 0] 27 (0, 0)) (blk_put (blk_put (blk_put (blk_put (blk_put aW.out 0 _ rfl) 1 _ rfl) 2 _ rfl) 3 _ rfl) 4 _ rfl) hb) (o2_ (below_step (oB HB) hb) (o2_ (hbox) (o2_ ((oG hg (below_size (oB HB)) : w.heap.size ≤ bH)) (o2_ ((oG hg (below_size (oB HB)) : w.heap.size ≤ bH)) (o2_ ((oL hg (blk_lt (oP aC)))) (o2_ ((oN hg (blk_lt (oP aC)))) (o2_ ((oL hg (blk_lt (oP aD)))) (o2_ ((oN hg (blk_lt (oP aD)))) (o2_ ((oL hg (blk_lt (oP aE)))) (o2_ ((oN hg (blk_lt (oP aE)))) (o2_ ((oL hg (blk_lt (oP aP)))) (o2_ ((oN hg (blk_lt (oP aP)))) (o2_ ((oL hg (blk_lt (oP aR)))) (o2_ ((oN hg (blk_lt (oP aR)))) (o2_ ((oL hg (blk_lt (oP aU)))) (o2_ ((oN hg (blk_lt (oP aU)))) (o2_ ((oL hg (blk_lt (oP aV)))) (o2_ ((oN hg (blk_lt (oP aV)))) (o2_ ((by rw [hg]; exact Nat.ne_of_lt (blk_lt (g := cE) (o := .cells #[.int .i64 3, .int .i64 0, .int .i64 0, .int .i64 0, .int .i64 0] 27 (0, 0)) (blk_put (blk_put (blk_put (blk_put (blk_put aW.out 0 _ rfl) 1 _ rfl) 2 _ rfl) 3 _ rfl) 4 _ rfl)) : cE ≠ bH)) (o1_ ((by rw [hg]; exact Nat.ne_of_gt (blk_lt (g := cE) (o := .cells #[.int .i64 3, .int .i64 0, .int .i64 0, .int .i64 0, .int .i64 0] 27 (0, 0)) (blk_put (blk_put (blk_put (blk_put (blk_put aW.out 0 _ rfl) 1 _ rfl) 2 _ rfl) 3 _ rfl) 4 _ rfl)) : bH ≠ cE)))))))))))))))))))))))))))))); clear aS aC aD aE aP aR aU aV aW HB; obtain ⟨aS, aC, aD, aE, aP, aR, aU, aV, aW, HB, aX, vB, uT, fZ, iE, gG, iF, gO, iG, gW, iH, hE, iI, hN, iJ, hV, iK, iD, iL⟩ := n_; clear hb hbox hg; have wM := iE.out; have xW := fZ.out; have wN := iF.out; have xX := gG.out; have wO := iG.out; have xY := gO.out; have wP := iH.out; have xZ := gW.out; have wQ := iI.out; have yA := hE.out; have wR := iJ.out; have yB := hN.out; have wS := iK.out; have yC := hV.out; have wT := iL.out; have yD := iD.out; have rN : fO.cell? ⟨bH, 0, none⟩ = some (.int .i64 0) := (blk_cell aX.out 0).trans rfl; have rO : fO.cell? ⟨bH, 1, none⟩ = some (.int .i64 0) := (blk_cell aX.out 1).trans rfl; have rP : fO.cell? ⟨bH, 2, none⟩ = some (.int .i64 0) := (blk_cell aX.out 2).trans rfl; have rQ : fO.cell? ⟨bH, 3, none⟩ = some (.int .i64 0) := (blk_cell aX.out 3).trans rfl; have rR : fO.cell? ⟨bH, 4, none⟩ = some (.int .i64 0) := (blk_cell aX.out 4).trans rfl; have tQ := blk_frozen aX.out 0; have tR := blk_frozen aX.out 1; have tS := blk_frozen aX.out 2; have tT := blk_frozen aX.out 3; have tU := blk_frozen aX.out 4))
            have eJ : Aside0 (Kd.Q k38 38 (((((fO.setCell ⟨bH, 0, none⟩ (.int .i64 4)).setCell ⟨bH, 1, none⟩ (.int .i64 0)).setCell ⟨bH, 2, none⟩ (.int .i64 0)).setCell ⟨bH, 3, none⟩ (.int .i64 0)).setCell ⟨bH, 4, none⟩ (.int .i64 0)) w.heap.size (fun _ => True) (.slice dH cA.length dG) cA) := ⟨(by (with_reducible repeat (first | apply Kd.Q_alloc | apply Kd.Q_drewN | apply Kd.Q_drew)); exact Kd.Q_mono (Kd.Q_far (p := ⟨bH, 4, none⟩) (Kd.Q_far (p := ⟨bH, 3, none⟩) (Kd.Q_far (p := ⟨bH, 2, none⟩) (Kd.Q_far (p := ⟨bH, 1, none⟩) (Kd.Q_far (p := ⟨bH, 0, none⟩) (Kd.Q_types aS.out aX.out oD) (fun _ hk => hk.2) (.int .i64 4)) (fun _ hk => hk.2) (.int .i64 0)) (fun _ hk => hk.2) (.int .i64 0)) (fun _ hk => hk.2) (.int .i64 0)) (fun _ hk => hk.2) (.int .i64 0)) (fun _ hk => trivial))⟩
            have eK : Aside0 ((((((fO.setCell ⟨bH, 0, none⟩ (.int .i64 4)).setCell ⟨bH, 1, none⟩ (.int .i64 0)).setCell ⟨bH, 2, none⟩ (.int .i64 0)).setCell ⟨bH, 3, none⟩ (.int .i64 0)).setCell ⟨bH, 4, none⟩ (.int .i64 0)).heap[bT]? = some (.cells #[.int .i64 aB, .int .i64 aA, .slice dH cA.length dG] 25 (0, 0))) := ⟨(oP aC)⟩
            have eL : Aside0 ((((((fO.setCell ⟨bH, 0, none⟩ (.int .i64 4)).setCell ⟨bH, 1, none⟩ (.int .i64 0)).setCell ⟨bH, 2, none⟩ (.int .i64 0)).setCell ⟨bH, 3, none⟩ (.int .i64 0)).setCell ⟨bH, 4, none⟩ (.int .i64 0)).heap[cB]? = some (.cells #[.int .i64 fB, .int .i64 fC, .int .i64 fD, .int .i64 fE, .int .i64 fF] 27 (0, 0))) := ⟨(oP aD)⟩
            have eM : Aside0 ((((((fO.setCell ⟨bH, 0, none⟩ (.int .i64 4)).setCell ⟨bH, 1, none⟩ (.int .i64 0)).setCell ⟨bH, 2, none⟩ (.int .i64 0)).setCell ⟨bH, 3, none⟩ (.int .i64 0)).setCell ⟨bH, 4, none⟩ (.int .i64 0)).heap[bY]? = some (.cells #[.int .i64 1, .int .i64 ((l1.length : Int) % aB), .int .i64 (Int.tmod (wrap64 ((l1.length : Int) / 7)) aA), .int .i64 (wrap64 (1 + (Int.tmod (wrap64 ((l1.length : Int) / 3)) (wrap64 (aB - ((l1.length : Int) % aB)))))), .int .i64 (wrap64 (1 + (Int.tmod (wrap64 ((l1.length : Int) / 5)) (wrap64 (aA - (Int.tmod (wrap64 ((l1.length : Int) / 7)) aA))))))] 27 (0, 0))) := ⟨(oP aE)⟩
            have eN : Aside0 ((((((fO.setCell ⟨bH, 0, none⟩ (.int .i64 4)).setCell ⟨bH, 1, none⟩ (.int .i64 0)).setCell ⟨bH, 2, none⟩ (.int .i64 0)).setCell ⟨bH, 3, none⟩ (.int .i64 0)).setCell ⟨bH, 4, none⟩ (.int .i64 0)).heap[dA]? = some (.cells #[.int .i64 1, .int .i64 (wrap64 ((wrap64 (aB - ((l1.length : Int) % aB))) - (wrap64 (1 + (Int.tmod (wrap64 ((l1.length : Int) / 3)) (wrap64 (aB - ((l1.length : Int) % aB)))))))), .int .i64 (Int.tmod (wrap64 ((l1.length : Int) / 7)) aA), .int .i64 (wrap64 (1 + (Int.tmod (wrap64 ((l1.length : Int) / 3)) (wrap64 (aB - ((l1.length : Int) % aB)))))), .int .i64 (wrap64 (1 + (Int.tmod (wrap64 ((l1.length : Int) / 5)) (wrap64 (aA - (Int.tmod (wrap64 ((l1.length : Int) / 7)) aA))))))] 27 (0, 0))) := ⟨(oP aP)⟩
            have eO : Aside0 ((((((fO.setCell ⟨bH, 0, none⟩ (.int .i64 4)).setCell ⟨bH, 1, none⟩ (.int .i64 0)).setCell ⟨bH, 2, none⟩ (.int .i64 0)).setCell ⟨bH, 3, none⟩ (.int .i64 0)).setCell ⟨bH, 4, none⟩ (.int .i64 0)).heap[dB]? = some (.cells #[.int .i64 1, .int .i64 ((l1.length : Int) % aB), .int .i64 (wrap64 ((wrap64 (aA - (Int.tmod (wrap64 ((l1.length : Int) / 7)) aA))) - (wrap64 (1 + (Int.tmod (wrap64 ((l1.length : Int) / 5)) (wrap64 (aA - (Int.tmod (wrap64 ((l1.length : Int) / 7)) aA)))))))), .int .i64 (wrap64 (1 + (Int.tmod (wrap64 ((l1.length : Int) / 3)) (wrap64 (aB - ((l1.length : Int) % aB)))))), .int .i64 (wrap64 (1 + (Int.tmod (wrap64 ((l1.length : Int) / 5)) (wrap64 (aA - (Int.tmod (wrap64 ((l1.length : Int) / 7)) aA))))))] 27 (0, 0))) := ⟨(oP aR)⟩
            have eP : Aside0 ((((((fO.setCell ⟨bH, 0, none⟩ (.int .i64 4)).setCell ⟨bH, 1, none⟩ (.int .i64 0)).setCell ⟨bH, 2, none⟩ (.int .i64 0)).setCell ⟨bH, 3, none⟩ (.int .i64 0)).setCell ⟨bH, 4, none⟩ (.int .i64 0)).heap[dC]? = some (.cells #[.int .i64 1, .int .i64 (wrap64 ((wrap64 (aA - (Int.tmod (wrap64 ((l1.length : Int) / 7)) aA))) - (wrap64 (1 + (Int.tmod (wrap64 ((l1.length : Int) / 5)) (wrap64 (aA - (Int.tmod (wrap64 ((l1.length : Int) / 7)) aA)))))))), .int .i64 ((l1.length : Int) % aB), .int .i64 (wrap64 (1 + (Int.tmod (wrap64 ((l1.length : Int) / 5)) (wrap64 (aA - (Int.tmod (wrap64 ((l1.length : Int) / 7)) aA)))))), .int .i64 (wrap64 (1 + (Int.tmod (wrap64 ((l1.length : Int) / 3)) (wrap64 (aB - ((l1.length : Int) % aB))))))] 27 (0, 0))) := ⟨(oP aU)⟩
            have eQ : Aside0 ((((((fO.setCell ⟨bH, 0, none⟩ (.int .i64 4)).setCell ⟨bH, 1, none⟩ (.int .i64 0)).setCell ⟨bH, 2, none⟩ (.int .i64 0)).setCell ⟨bH, 3, none⟩ (.int .i64 0)).setCell ⟨bH, 4, none⟩ (.int .i64 0)).heap[cD]? = some (.cells #[.int .i64 2, .int .i64 0, .int .i64 0, .int .i64 0, .int .i64 0] 27 (0, 0))) := ⟨(oP aV)⟩
            have eR : Aside0 ((((((fO.setCell ⟨bH, 0, none⟩ (.int .i64 4)).setCell ⟨bH, 1, none⟩ (.int .i64 0)).setCell ⟨bH, 2, none⟩ (.int .i64 0)).setCell ⟨bH, 3, none⟩ (.int .i64 0)).setCell ⟨bH, 4, none⟩ (.int .i64 0)).heap[cE]? = some (.cells #[.int .i64 3, .int .i64 0, .int .i64 0, .int .i64 0, .int .i64 0] 27 (0, 0))) := ⟨(oP aW)⟩
            have eS : Aside0 ((((((fO.setCell ⟨bH, 0, none⟩ (.int .i64 4)).setCell ⟨bH, 1, none⟩ (.int .i64 0)).setCell ⟨bH, 2, none⟩ (.int .i64 0)).setCell ⟨bH, 3, none⟩ (.int .i64 0)).setCell ⟨bH, 4, none⟩ (.int .i64 0)).heap[bH]? = some (.cells #[.int .i64 4, .int .i64 0, .int .i64 0, .int .i64 0, .int .i64 0] 27 (0, 0))) := ⟨(blk_put (blk_put (blk_put (blk_put (blk_put aX.out 0 _ rfl) 1 _ rfl) 2 _ rfl) 3 _ rfl) 4 _ rfl)⟩
            have dO : Aside0 (Below w.heap.size w (((((fO.setCell ⟨bH, 0, none⟩ (.int .i64 4)).setCell ⟨bH, 1, none⟩ (.int .i64 0)).setCell ⟨bH, 2, none⟩ (.int .i64 0)).setCell ⟨bH, 3, none⟩ (.int .i64 0)).setCell ⟨bH, 4, none⟩ (.int .i64 0))) := ⟨(oB HB)⟩
            (try clear aS)
            (try clear aC)
            (try clear aD)
            (try clear aE)
            (try clear aP)
            (try clear aR)
            (try clear aU)
            (try clear aV)
            (try clear aW)
            (try clear aX)
            (try clear HB)
            generalize (((((fO.setCell ⟨bH, 0, none⟩ (.int .i64 4)).setCell ⟨bH, 1, none⟩ (.int .i64 0)).setCell ⟨bH, 2, none⟩ (.int .i64 0)).setCell ⟨bH, 3, none⟩ (.int .i64 0)).setCell ⟨bH, 4, none⟩ (.int .i64 0)) = zY at eJ eK eL eM eN eO eP eQ eR eS dO ⊢
            have aS := eJ
            have aC := eK
            have aD := eL
            have aE := eM
            have aP := eN
            have aR := eO
            have aU := eP
            have aV := eQ
            have aW := eR
            have aX := eS
            have HB := dO
            clear eJ eK eL eM eN eO eP eQ eR eS dO
            have n_ := o2_ (Kd.Q_drew aS.out) (o2_ (blk_drew aC.out) (o2_ (blk_drew aD.out) (o2_ (blk_drew aE.out) (o2_ (blk_drew aP.out) (o2_ (blk_drew aR.out) (o2_ (blk_drew aU.out) (o2_ (blk_drew aV.out) (o2_ (blk_drew aW.out) (o2_ (blk_drew aX.out) (o1_ (below_drew1 HB.out)))))))))))
            clear aS aC aD aE aP aR aU aV aW aX HB
            obtain ⟨aS, aC, aD, aE, aP, aR, aU, aV, aW, aX, HB⟩ := n_
            refine start_ (n := 45) (S := fun w' => True) (ds := []) #[false, false, false, false, false, false, false, false, false, false, false, false, false, false, false, false, false, false, false, false, false, false, false, false, false, false, false, false, false, false, false, false, false, false, false, false, false, false, false, false, false, false, false, false, false] oK rfl rfl trivial (fun hHeld => ?_); refine with_tabW laws_FnOpCropFlip.tab18 laws_FnOpCropFlip.bits18 (fun HT_ HW_ => ?_)
            generalize zY.drew = w89 at aS aC aD aE aP aR aU aV aW aX HB hHeld ⊢
            refine inv_at [0, 1, 2, 3, 4, 5, 6, 7, 8, 9, 10, 11, 12, 13, 14, 15, 16, 17, 18, 19, 20, 21, 22, 23, 24, 25, 26, 27, 28, 29, 30, 31, 32, 33, 34, 35, 36, 37, 38, 39, 40, 41, 42, 43, 44] (fun a0_ b a w' => ∃ (cM : Value) (cW : Value) (cJ : Value) (cN : Value) (cG : Value) (cX : Value) (cK : Value) (cO : Value) (cH : Value) (cY : Value) (cL : Value) (cP : Value) (cI : Value) (cZ : Value) (dK : Value) (cQ : Value) (cR : Value) (cS : Value) (cT : Value) (cU : Value) (cV : Value), a = putSel a0_ b [(0, 106, .agg #[.int .i64 aB, .int .i64 aA, .slice dH cA.length dG]), (1, 107, .agg #[.int .i64 1, .int .i64 ((l1.length : Int) % aB), .int .i64 (Int.tmod (wrap64 ((l1.length : Int) / 7)) aA), .int .i64 (wrap64 (1 + (Int.tmod (wrap64 ((l1.length : Int) / 3)) (wrap64 (aB - ((l1.length : Int) % aB)))))), .int .i64 (wrap64 (1 + (Int.tmod (wrap64 ((l1.length : Int) / 5)) (wrap64 (aA - (Int.tmod (wrap64 ((l1.length : Int) / 7)) aA))))))]), (2, 108, cM), (3, 109, dK), (4, 110, .bool true), (5, 111, .bool true), (6, 112, .agg #[.int .i64 aB, .int .i64 aA, .slice dH cA.length dG]), (7, 113, .agg #[.int .i64 1, .int .i64 ((l1.length : Int) % aB), .int .i64 (Int.tmod (wrap64 ((l1.length : Int) / 7)) aA), .int .i64 (wrap64 (1 + (Int.tmod (wrap64 ((l1.length : Int) / 3)) (wrap64 (aB - ((l1.length : Int) % aB)))))), .int .i64 (wrap64 (1 + (Int.tmod (wrap64 ((l1.length : Int) / 5)) (wrap64 (aA - (Int.tmod (wrap64 ((l1.length : Int) / 7)) aA))))))]), (8, 114, .agg #[.int .i64 2, .int .i64 0, .int .i64 0, .int .i64 0, .int .i64 0]), (9, 115, cJ), (10, 116, cQ), (11, 117, .agg #[.int .i64 aB, .int .i64 aA, .slice dH cA.length dG]), (12, 118, .agg #[.int .i64 2, .int .i64 0, .int .i64 0, .int .i64 0, .int .i64 0]), (13, 119, .agg #[.int .i64 1, .int .i64 (wrap64 ((wrap64 (aB - ((l1.length : Int) % aB))) - (wrap64 (1 + (Int.tmod (wrap64 ((l1.length : Int) / 3)) (wrap64 (aB - ((l1.length : Int) % aB)))))))), .int .i64 (Int.tmod (wrap64 ((l1.length : Int) / 7)) aA), .int .i64 (wrap64 (1 + (Int.tmod (wrap64 ((l1.length : Int) / 3)) (wrap64 (aB - ((l1.length : Int) % aB)))))), .int .i64 (wrap64 (1 + (Int.tmod (wrap64 ((l1.length : Int) / 5)) (wrap64 (aA - (Int.tmod (wrap64 ((l1.length : Int) / 7)) aA))))))]), (14, 120, cG), (15, 121, cR), (16, 122, .bool true), (17, 123, .bool true), (18, 124, .bool true), (19, 125, .agg #[.int .i64 aB, .int .i64 aA, .slice dH cA.length dG]), (20, 126, .agg #[.int .i64 1, .int .i64 ((l1.length : Int) % aB), .int .i64 (Int.tmod (wrap64 ((l1.length : Int) / 7)) aA), .int .i64 (wrap64 (1 + (Int.tmod (wrap64 ((l1.length : Int) / 3)) (wrap64 (aB - ((l1.length : Int) % aB)))))), .int .i64 (wrap64 (1 + (Int.tmod (wrap64 ((l1.length : Int) / 5)) (wrap64 (aA - (Int.tmod (wrap64 ((l1.length : Int) / 7)) aA))))))]), (21, 127, .agg #[.int .i64 3, .int .i64 0, .int .i64 0, .int .i64 0, .int .i64 0]), (22, 128, cK), (23, 129, cS), (24, 130, .agg #[.int .i64 aB, .int .i64 aA, .slice dH cA.length dG]), (25, 131, .agg #[.int .i64 3, .int .i64 0, .int .i64 0, .int .i64 0, .int .i64 0]), (26, 132, .agg #[.int .i64 1, .int .i64 ((l1.length : Int) % aB), .int .i64 (wrap64 ((wrap64 (aA - (Int.tmod (wrap64 ((l1.length : Int) / 7)) aA))) - (wrap64 (1 + (Int.tmod (wrap64 ((l1.length : Int) / 5)) (wrap64 (aA - (Int.tmod (wrap64 ((l1.length : Int) / 7)) aA)))))))), .int .i64 (wrap64 (1 + (Int.tmod (wrap64 ((l1.length : Int) / 3)) (wrap64 (aB - ((l1.length : Int) % aB)))))), .int .i64 (wrap64 (1 + (Int.tmod (wrap64 ((l1.length : Int) / 5)) (wrap64 (aA - (Int.tmod (wrap64 ((l1.length : Int) / 7)) aA))))))]), (27, 133, cH), (28, 134, cT), (29, 135, .bool true), (30, 136, .bool true), (31, 137, .bool true), (32, 138, .agg #[.int .i64 aB, .int .i64 aA, .slice dH cA.length dG]), (33, 139, .agg #[.int .i64 1, .int .i64 ((l1.length : Int) % aB), .int .i64 (Int.tmod (wrap64 ((l1.length : Int) / 7)) aA), .int .i64 (wrap64 (1 + (Int.tmod (wrap64 ((l1.length : Int) / 3)) (wrap64 (aB - ((l1.length : Int) % aB)))))), .int .i64 (wrap64 (1 + (Int.tmod (wrap64 ((l1.length : Int) / 5)) (wrap64 (aA - (Int.tmod (wrap64 ((l1.length : Int) / 7)) aA))))))]), (34, 140, .agg #[.int .i64 4, .int .i64 0, .int .i64 0, .int .i64 0, .int .i64 0]), (35, 141, cL), (36, 142, cU), (37, 143, .agg #[.int .i64 aB, .int .i64 aA, .slice dH cA.length dG]), (38, 144, .agg #[.int .i64 4, .int .i64 0, .int .i64 0, .int .i64 0, .int .i64 0]), (39, 145, .agg #[.int .i64 1, .int .i64 (wrap64 ((wrap64 (aA - (Int.tmod (wrap64 ((l1.length : Int) / 7)) aA))) - (wrap64 (1 + (Int.tmod (wrap64 ((l1.length : Int) / 5)) (wrap64 (aA - (Int.tmod (wrap64 ((l1.length : Int) / 7)) aA)))))))), .int .i64 ((l1.length : Int) % aB), .int .i64 (wrap64 (1 + (Int.tmod (wrap64 ((l1.length : Int) / 5)) (wrap64 (aA - (Int.tmod (wrap64 ((l1.length : Int) / 7)) aA)))))), .int .i64 (wrap64 (1 + (Int.tmod (wrap64 ((l1.length : Int) / 3)) (wrap64 (aB - ((l1.length : Int) % aB))))))]), (40, 146, cI), (41, 147, cV), (42, 148, .bool dV), (43, 149, .bool dV), (44, 4, .bool dV)] ∧ (Kd.Q k38 38 w' w.heap.size (fun _ => True) (.slice dH cA.length dG) cA) ∧ (w'.heap[bT]? = some (.cells #[.int .i64 aB, .int .i64 aA, .slice dH cA.length dG] 25 (0, 0))) ∧ (w'.heap[cB]? = some (.cells #[.int .i64 fB, .int .i64 fC, .int .i64 fD, .int .i64 fE, .int .i64 fF] 27 (0, 0))) ∧ (w'.heap[bY]? = some (.cells #[.int .i64 1, .int .i64 ((l1.length : Int) % aB), .int .i64 (Int.tmod (wrap64 ((l1.length : Int) / 7)) aA), .int .i64 (wrap64 (1 + (Int.tmod (wrap64 ((l1.length : Int) / 3)) (wrap64 (aB - ((l1.length : Int) % aB)))))), .int .i64 (wrap64 (1 + (Int.tmod (wrap64 ((l1.length : Int) / 5)) (wrap64 (aA - (Int.tmod (wrap64 ((l1.length : Int) / 7)) aA))))))] 27 (0, 0))) ∧ (w'.heap[dA]? = some (.cells #[.int .i64 1, .int .i64 (wrap64 ((wrap64 (aB - ((l1.length : Int) % aB))) - (wrap64 (1 + (Int.tmod (wrap64 ((l1.length : Int) / 3)) (wrap64 (aB - ((l1.length : Int) % aB)))))))), .int .i64 (Int.tmod (wrap64 ((l1.length : Int) / 7)) aA), .int .i64 (wrap64 (1 + (Int.tmod (wrap64 ((l1.length : Int) / 3)) (wrap64 (aB - ((l1.length : Int) % aB)))))), .int .i64 (wrap64 (1 + (Int.tmod (wrap64 ((l1.length : Int) / 5)) (wrap64 (aA - (Int.tmod (wrap64 ((l1.length : Int) / 7)) aA))))))] 27 (0, 0))) ∧ (w'.heap[dB]? = some (.cells #[.int .i64 1, .int .i64 ((l1.length : Int) % aB), .int .i64 (wrap64 ((wrap64 (aA - (Int.tmod (wrap64 ((l1.length : Int) / 7)) aA))) - (wrap64 (1 + (Int.tmod (wrap64 ((l1.length : Int) / 5)) (wrap64 (aA - (Int.tmod (wrap64 ((l1.length : Int) / 7)) aA)))))))), .int .i64 (wrap64 (1 + (Int.tmod (wrap64 ((l1.length : Int) / 3)) (wrap64 (aB - ((l1.length : Int) % aB)))))), .int .i64 (wrap64 (1 + (Int.tmod (wrap64 ((l1.length : Int) / 5)) (wrap64 (aA - (Int.tmod (wrap64 ((l1.length : Int) / 7)) aA))))))] 27 (0, 0))) ∧ (w'.heap[dC]? = some (.cells #[.int .i64 1, .int .i64 (wrap64 ((wrap64 (aA - (Int.tmod (wrap64 ((l1.length : Int) / 7)) aA))) - (wrap64 (1 + (Int.tmod (wrap64 ((l1.length : Int) / 5)) (wrap64 (aA - (Int.tmod (wrap64 ((l1.length : Int) / 7)) aA)))))))), .int .i64 ((l1.length : Int) % aB), .int .i64 (wrap64 (1 + (Int.tmod (wrap64 ((l1.length : Int) / 5)) (wrap64 (aA - (Int.tmod (wrap64 ((l1.length : Int) / 7)) aA)))))), .int .i64 (wrap64 (1 + (Int.tmod (wrap64 ((l1.length : Int) / 3)) (wrap64 (aB - ((l1.length : Int) % aB))))))] 27 (0, 0))) ∧ (w'.heap[cD]? = some (.cells #[.int .i64 2, .int .i64 0, .int .i64 0, .int .i64 0, .int .i64 0] 27 (0, 0))) ∧ (w'.heap[cE]? = some (.cells #[.int .i64 3, .int .i64 0, .int .i64 0, .int .i64 0, .int .i64 0] 27 (0, 0))) ∧ (w'.heap[bH]? = some (.cells #[.int .i64 4, .int .i64 0, .int .i64 0, .int .i64 0, .int .i64 0] 27 (0, 0))) ∧ (Below w.heap.size w w') ∧ (b 2 = true → Kd.R k27 27 w' w.heap.size (fun k_ => k_ ≠ cB ∧ k_ ≠ bY ∧ k_ ≠ dA ∧ k_ ≠ dB ∧ k_ ≠ dC ∧ k_ ≠ cD ∧ k_ ≠ cE ∧ k_ ≠ bH) cM y679) ∧ (b 3 = true → Kd.V k38 38 w' w.heap.size (fun k_ => k_ ≠ bT ∧ k_ ≠ cB ∧ k_ ≠ bY ∧ k_ ≠ dA ∧ k_ ≠ dB ∧ k_ ≠ dC ∧ k_ ≠ cD ∧ k_ ≠ cE ∧ k_ ≠ bH) cW iV) ∧ (b 9 = true → Kd.R k27 27 w' w.heap.size (fun k_ => k_ ≠ cB ∧ k_ ≠ bY ∧ k_ ≠ dA ∧ k_ ≠ dB ∧ k_ ≠ dC ∧ k_ ≠ cD ∧ k_ ≠ cE ∧ k_ ≠ bH) cJ y688) ∧ (b 10 = true → Kd.V k38 38 w' w.heap.size (fun k_ => k_ ≠ bT ∧ k_ ≠ cB ∧ k_ ≠ bY ∧ k_ ≠ dA ∧ k_ ≠ dB ∧ k_ ≠ dC ∧ k_ ≠ cD ∧ k_ ≠ cE ∧ k_ ≠ bH) cN fP) ∧ (b 14 = true → Kd.R k27 27 w' w.heap.size (fun k_ => k_ ≠ cB ∧ k_ ≠ bY ∧ k_ ≠ dA ∧ k_ ≠ dB ∧ k_ ≠ dC ∧ k_ ≠ cD ∧ k_ ≠ cE ∧ k_ ≠ bH) cG y696) ∧ (b 15 = true → Kd.V k38 38 w' w.heap.size (fun k_ => k_ ≠ bT ∧ k_ ≠ cB ∧ k_ ≠ bY ∧ k_ ≠ dA ∧ k_ ≠ dB ∧ k_ ≠ dC ∧ k_ ≠ cD ∧ k_ ≠ cE ∧ k_ ≠ bH) cX iZ) ∧ (b 22 = true → Kd.R k27 27 w' w.heap.size (fun k_ => k_ ≠ cB ∧ k_ ≠ bY ∧ k_ ≠ dA ∧ k_ ≠ dB ∧ k_ ≠ dC ∧ k_ ≠ cD ∧ k_ ≠ cE ∧ k_ ≠ bH) cK y705) ∧ (b 23 = true → Kd.V k38 38 w' w.heap.size (fun k_ => k_ ≠ bT ∧ k_ ≠ cB ∧ k_ ≠ bY ∧ k_ ≠ dA ∧ k_ ≠ dB ∧ k_ ≠ dC ∧ k_ ≠ cD ∧ k_ ≠ cE ∧ k_ ≠ bH) cO fQ) ∧ (b 27 = true → Kd.R k27 27 w' w.heap.size (fun k_ => k_ ≠ cB ∧ k_ ≠ bY ∧ k_ ≠ dA ∧ k_ ≠ dB ∧ k_ ≠ dC ∧ k_ ≠ cD ∧ k_ ≠ cE ∧ k_ ≠ bH) cH y713) ∧ (b 28 = true → Kd.V k38 38 w' w.heap.size (fun k_ => k_ ≠ bT ∧ k_ ≠ cB ∧ k_ ≠ bY ∧ k_ ≠ dA ∧ k_ ≠ dB ∧ k_ ≠ dC ∧ k_ ≠ cD ∧ k_ ≠ cE ∧ k_ ≠ bH) cY jC) ∧ (b 35 = true → Kd.R k27 27 w' w.heap.size (fun k_ => k_ ≠ cB ∧ k_ ≠ bY ∧ k_ ≠ dA ∧ k_ ≠ dB ∧ k_ ≠ dC ∧ k_ ≠ cD ∧ k_ ≠ cE ∧ k_ ≠ bH) cL y722) ∧ (b 36 = true → Kd.V k38 38 w' w.heap.size (fun k_ => k_ ≠ bT ∧ k_ ≠ cB ∧ k_ ≠ bY ∧ k_ ≠ dA ∧ k_ ≠ dB ∧ k_ ≠ dC ∧ k_ ≠ cD ∧ k_ ≠ cE ∧ k_ ≠ bH) cP fR) ∧ (b 40 = true → Kd.R k27 27 w' w.heap.size (fun k_ => k_ ≠ cB ∧ k_ ≠ bY ∧ k_ ≠ dA ∧ k_ ≠ dB ∧ k_ ≠ dC ∧ k_ ≠ cD ∧ k_ ≠ cE ∧ k_ ≠ bH) cI y730) ∧ (b 41 = true → Kd.V k38 38 w' w.heap.size (fun k_ => k_ ≠ bT ∧ k_ ≠ cB ∧ k_ ≠ bY ∧ k_ ≠ dA ∧ k_ ≠ dB ∧ k_ ≠ dC ∧ k_ ≠ cD ∧ k_ ≠ cE ∧ k_ ≠ bH) cZ jF) ∧ (b 3 = true → (dK : Value) = .agg #[.int .i64 iT, .int .i64 iU, cW]) ∧ (b 10 = true → (cQ : Value) = .agg #[.int .i64 iN, .int .i64 iO, cN]) ∧ (b 15 = true → (cR : Value) = .agg #[.int .i64 iX, .int .i64 iY, cX]) ∧ (b 23 = true → (cS : Value) = .agg #[.int .i64 iP, .int .i64 iQ, cO]) ∧ (b 28 = true → (cT : Value) = .agg #[.int .i64 jA, .int .i64 jB, cY]) ∧ (b 36 = true → (cU : Value) = .agg #[.int .i64 iR, .int .i64 iS, cP]) ∧ (b 41 = true → (cV : Value) = .agg #[.int .i64 jD, .int .i64 jE, cZ])) HT_.out HW_.out oK oK ?_ ?_ ?_
            ·exact ⟨.bool false, .bool false, .bool false, .bool false, .bool false, .bool false, .bool false, .bool false, .bool false, .bool false, .bool false, .bool false, .bool false, .bool false, .bool false, .bool false, .bool false, .bool false, .bool false, .bool false, .bool false, by simp only [putSel, Bool.false_eq_true, if_false], aS.out, aC.out, aD.out, aE.out, aP.out, aR.out, aU.out, aV.out, aW.out, aX.out, HB.out, fun h_ => absurd h_ oD, fun h_ => absurd h_ oD, fun h_ => absurd h_ oD, fun h_ => absurd h_ oD, fun h_ => absurd h_ oD, fun h_ => absurd h_ oD, fun h_ => absurd h_ oD, fun h_ => absurd h_ oD, fun h_ => absurd h_ oD, fun h_ => absurd h_ oD, fun h_ => absurd h_ oD, fun h_ => absurd h_ oD, fun h_ => absurd h_ oD, fun h_ => absurd h_ oD, fun h_ => absurd h_ oD, fun h_ => absurd h_ oD, fun h_ => absurd h_ oD, fun h_ => absurd h_ oD, fun h_ => absurd h_ oD, fun h_ => absurd h_ oD, fun h_ => absurd h_ oD⟩
            ·skip
             clear aC aD aE aP aR aU aV aW aX HB aS
             refine steps_cons ?_ ?_
             ·intro b a w' hR_
              refine hide_ (fun G_ hG_ => exVVVVVVVVVVVVVVVVVVVVV_ hR_ (fun cM cW cJ cN cG cX cK cO cH cY cL cP cI cZ dK cQ cR cS cT cU cV hS_ => an33_ hS_ (fun ha aO aF aG aH aI aJ aK aL aM aN Q_HB aQ aT aZ bA aY bB bD bF bC bG bN bO bL bS bR bJ bM bQ bU bZ cC => ?_)))
              refine hG_ ?_
              clear hG_ hR_ hS_
              intro hb_ hon hoff
              refine ⟨_, rfl, fun K hK => ?_⟩
              have e5 : a.tmps[5]? = some (.pointer (some ⟨bT, 0, none⟩)) := by rw [ha]; exact (putSel_off rfl).trans rfl
              replace ha := Aside0.mk ha
              obtain ⟨aS, aC, aD, aE, aP, aR, aU, aV, aW, aX, HB⟩ := o2_ aO (o2_ aF (o2_ aG (o2_ aH (o2_ aI (o2_ aJ (o2_ aK (o2_ aL (o2_ aM (o2_ aN (o1_ Q_HB))))))))))
              have eB : w'.cell? ⟨bT, 0, none⟩ = some (.int .i64 aB) := (blk_cell aC.out 0).trans rfl
              have eC : w'.cell? ⟨bT, 1, none⟩ = some (.int .i64 aA) := (blk_cell aC.out 1).trans rfl
              have eD : w'.cell? ⟨bT, 2, none⟩ = some (.slice dH cA.length dG) := (blk_cell aC.out 2).trans rfl
              refine value_ (w1 := w') (v := .agg #[.int .i64 aB, .int .i64 aA, .slice dH cA.length dG]) (by rfl) rfl ?_ ?_
              ·go_simp
               (try simp only [i64_w])
               try rfl
              refine hK.out _ _ ⟨cM, cW, cJ, cN, cG, cX, cK, cO, cH, cY, cL, cP, cI, cZ, dK, cQ, cR, cS, cT, cU, cV, (by rw [ha.out]; exact putSel_upk 0 hb_ rfl rfl rfl), aO, aF, aG, aH, aI, aJ, aK, aL, aM, aN, Q_HB, aQ, oF (hoff 3 oK), oF (hoff 9 oK), oF (hoff 10 oK), oF (hoff 14 oK), oF (hoff 15 oK), oF (hoff 22 oK), oF (hoff 23 oK), oF (hoff 27 oK), oF (hoff 28 oK), oF (hoff 35 oK), oF (hoff 36 oK), oF (hoff 40 oK), oF (hoff 41 oK), oF (hoff 3 oK), oF (hoff 10 oK), oF (hoff 15 oK), oF (hoff 23 oK), oF (hoff 28 oK), oF (hoff 36 oK), oF (hoff 41 oK)⟩
             refine steps_cons ?_ ?_
             ·intro b a w' hR_
              refine hide_ (fun G_ hG_ => exVVVVVVVVVVVVVVVVVVVVV_ hR_ (fun cM cW cJ cN cG cX cK cO cH cY cL cP cI cZ dK cQ cR cS cT cU cV hS_ => an33_ hS_ (fun ha aO aF aG aH aI aJ aK aL aM aN Q_HB aQ aT aZ bA aY bB bD bF bC bG bN bO bL bS bR bJ bM bQ bU bZ cC => ?_)))
              refine hG_ ?_
              clear hG_ hR_ hS_
              intro hb_ hon hoff
              refine ⟨_, rfl, fun K hK => ?_⟩
              have tY : a.tmps[12]? = some (.pointer (some ⟨bY, 0, none⟩)) := by rw [ha]; exact (putSel_off rfl).trans rfl
              replace ha := Aside0.mk ha
              obtain ⟨aS, aC, aD, aE, aP, aR, aU, aV, aW, aX, HB⟩ := o2_ aO (o2_ aF (o2_ aG (o2_ aH (o2_ aI (o2_ aJ (o2_ aK (o2_ aL (o2_ aM (o2_ aN (o1_ Q_HB))))))))))
              have eB : w'.cell? ⟨bY, 0, none⟩ = some (.int .i64 1) := (blk_cell aE.out 0).trans rfl
              have eC : w'.cell? ⟨bY, 1, none⟩ = some (.int .i64 ((l1.length : Int) % aB)) := (blk_cell aE.out 1).trans rfl
              have eD : w'.cell? ⟨bY, 2, none⟩ = some (.int .i64 (Int.tmod (wrap64 ((l1.length : Int) / 7)) aA)) := (blk_cell aE.out 2).trans rfl
              have eV : w'.cell? ⟨bY, 3, none⟩ = some (.int .i64 (wrap64 (1 + (Int.tmod (wrap64 ((l1.length : Int) / 3)) (wrap64 (aB - ((l1.length : Int) % aB))))))) := (blk_cell aE.out 3).trans rfl
              have eW : w'.cell? ⟨bY, 4, none⟩ = some (.int .i64 (wrap64 (1 + (Int.tmod (wrap64 ((l1.length : Int) / 5)) (wrap64 (aA - (Int.tmod (wrap64 ((l1.length : Int) / 7)) aA))))))) := (blk_cell aE.out 4).trans rfl
              refine value_ (w1 := w') (v := .agg #[.int .i64 1, .int .i64 ((l1.length : Int) % aB), .int .i64 (Int.tmod (wrap64 ((l1.length : Int) / 7)) aA), .int .i64 (wrap64 (1 + (Int.tmod (wrap64 ((l1.length : Int) / 3)) (wrap64 (aB - ((l1.length : Int) % aB)))))), .int .i64 (wrap64 (1 + (Int.tmod (wrap64 ((l1.length : Int) / 5)) (wrap64 (aA - (Int.tmod (wrap64 ((l1.length : Int) / 7)) aA))))))]) (by rfl) rfl ?_ ?_
              ·go_simp
               (try simp only [i64_w])
               try rfl
              refine hK.out _ _ ⟨cM, cW, cJ, cN, cG, cX, cK, cO, cH, cY, cL, cP, cI, cZ, dK, cQ, cR, cS, cT, cU, cV, (by rw [ha.out]; exact putSel_upk 1 hb_ rfl rfl rfl), aO, aF, aG, aH, aI, aJ, aK, aL, aM, aN, Q_HB, oF (hoff 2 oK), oF (hoff 3 oK), oF (hoff 9 oK), oF (hoff 10 oK), oF (hoff 14 oK), oF (hoff 15 oK), oF (hoff 22 oK), oF (hoff 23 oK), oF (hoff 27 oK), oF (hoff 28 oK), oF (hoff 35 oK), oF (hoff 36 oK), oF (hoff 40 oK), oF (hoff 41 oK), oF (hoff 3 oK), oF (hoff 10 oK), oF (hoff 15 oK), oF (hoff 23 oK), oF (hoff 28 oK), oF (hoff 36 oK), oF (hoff 41 oK)⟩
             refine steps_cons ?_ ?_
             ·intro b a w' hR_
              refine hide_ (fun G_ hG_ => exVVVVVVVVVVVVVVVVVVVVV_ hR_ (fun cM cW cJ cN cG cX cK cO cH cY cL cP cI cZ dK cQ cR cS cT cU cV hS_ => an33_ hS_ (fun ha aO aF aG aH aI aJ aK aL aM aN Q_HB aQ aT aZ bA aY bB bD bF bC bG bN bO bL bS bR bJ bM bQ bU bZ cC => ?_)))
              refine hG_ ?_
              clear hG_ hR_ hS_
              intro hb_ hon hoff
              refine ⟨_, rfl, fun K hK => ?_⟩
              have yR : a.tmps[107]? = some (.agg #[.int .i64 1, .int .i64 ((l1.length : Int) % aB), .int .i64 (Int.tmod (wrap64 ((l1.length : Int) / 7)) aA), .int .i64 (wrap64 (1 + (Int.tmod (wrap64 ((l1.length : Int) / 3)) (wrap64 (aB - ((l1.length : Int) % aB)))))), .int .i64 (wrap64 (1 + (Int.tmod (wrap64 ((l1.length : Int) / 5)) (wrap64 (aA - (Int.tmod (wrap64 ((l1.length : Int) / 7)) aA))))))]) := by rw [ha]; exact putSel_on (e := (1, 107, .agg #[.int .i64 1, .int .i64 ((l1.length : Int) % aB), .int .i64 (Int.tmod (wrap64 ((l1.length : Int) / 7)) aA), .int .i64 (wrap64 (1 + (Int.tmod (wrap64 ((l1.length : Int) / 3)) (wrap64 (aB - ((l1.length : Int) % aB)))))), .int .i64 (wrap64 (1 + (Int.tmod (wrap64 ((l1.length : Int) / 5)) (wrap64 (aA - (Int.tmod (wrap64 ((l1.length : Int) / 7)) aA))))))])) 1 rfl rfl (hon 1 oK) rfl
              replace ha := Aside0.mk ha
              obtain ⟨aS, aC, aD, aE, aP, aR, aU, aV, aW, aX, HB⟩ := o2_ aO (o2_ aF (o2_ aG (o2_ aH (o2_ aI (o2_ aJ (o2_ aK (o2_ aL (o2_ aM (o2_ aN (o1_ Q_HB))))))))))
              refine Kd.R_lit_step k27 _ 27 ?hg (N := 108) ?hd (xs := ([(⟨1, (l1.length : Int) % aB, Int.tmod (wrap64 ((l1.length : Int) / 7)) aA, wrap64 (1 + (Int.tmod (wrap64 ((l1.length : Int) / 3)) (wrap64 (aB - ((l1.length : Int) % aB))))), wrap64 (1 + (Int.tmod (wrap64 ((l1.length : Int) / 5)) (wrap64 (aA - (Int.tmod (wrap64 ((l1.length : Int) / 7)) aA)))))⟩ : S27)] : List (S27))) (inner := [.int .i64 1, .int .i64 ((l1.length : Int) % aB), .int .i64 (Int.tmod (wrap64 ((l1.length : Int) / 7)) aA), .int .i64 (wrap64 (1 + (Int.tmod (wrap64 ((l1.length : Int) / 3)) (wrap64 (aB - ((l1.length : Int) % aB)))))), .int .i64 (wrap64 (1 + (Int.tmod (wrap64 ((l1.length : Int) / 5)) (wrap64 (aA - (Int.tmod (wrap64 ((l1.length : Int) / 7)) aA))))))]) (ok := fun _ => True) (okp := fun _ => True) ?hr ?hp (fun _ hk => hk) trivial (Below.refl _ _) (Nat.le_refl _) (by simp) ?_; (case hd => rfl); (case hg => first | rfl | exact wanted_on rfl rfl rfl (by assumption)); (case hr => first | (go_simp; done) | (go_simp; rfl)); (case hp => exact (Reps.c5 (show Kd.M k27 _ _ _ (⟨1, (l1.length : Int) % aB, Int.tmod (wrap64 ((l1.length : Int) / 7)) aA, wrap64 (1 + (Int.tmod (wrap64 ((l1.length : Int) / 3)) (wrap64 (aB - ((l1.length : Int) % aB))))), wrap64 (1 + (Int.tmod (wrap64 ((l1.length : Int) / 5)) (wrap64 (aA - (Int.tmod (wrap64 ((l1.length : Int) / 7)) aA)))))⟩ : S27) [.int .i64 1, .int .i64 ((l1.length : Int) % aB), .int .i64 (Int.tmod (wrap64 ((l1.length : Int) / 7)) aA), .int .i64 (wrap64 (1 + (Int.tmod (wrap64 ((l1.length : Int) / 3)) (wrap64 (aB - ((l1.length : Int) % aB)))))), .int .i64 (wrap64 (1 + (Int.tmod (wrap64 ((l1.length : Int) / 5)) (wrap64 (aA - (Int.tmod (wrap64 ((l1.length : Int) / 7)) aA))))))] from (k27_mkM _ _ _ (⟨1, (l1.length : Int) % aB, Int.tmod (wrap64 ((l1.length : Int) / 7)) aA, wrap64 (1 + (Int.tmod (wrap64 ((l1.length : Int) / 3)) (wrap64 (aB - ((l1.length : Int) % aB))))), wrap64 (1 + (Int.tmod (wrap64 ((l1.length : Int) / 5)) (wrap64 (aA - (Int.tmod (wrap64 ((l1.length : Int) / 7)) aA)))))⟩ : S27) )) (Reps.none _ _)))
              intro cM w90 ho91 hb hg_ hnew_
              clear hg_ hnew_
              (first | rw [← kD.out] at ho91 | (simp only [Int.reduceToNat] at ho91; rw [← kD.out] at ho91))
              have n_ := o2_ (Kd.Q_below aS.out hb) (o2_ (Kd.R_lower (Kd.R_newB (Kd.R_newB (Kd.R_newB (Kd.R_newB (Kd.R_newB (Kd.R_newB (Kd.R_newB (Kd.R_newB ho91 aD.out) aE.out) aP.out) aR.out) aU.out) aV.out) aW.out) aX.out) (below_size (oB HB))) (o2_ (blk_below aC.out hb) (o2_ (blk_below aD.out hb) (o2_ (blk_below aE.out hb) (o2_ (blk_below aP.out hb) (o2_ (blk_below aR.out hb) (o2_ (blk_below aU.out hb) (o2_ (blk_below aV.out hb) (o2_ (blk_below aW.out hb) (o2_ (blk_below aX.out hb) (o1_ (below_step (oB HB) hb))))))))))))
              clear aS aC aD aE aP aR aU aV aW aX HB
              obtain ⟨aS, bE, aC, aD, aE, aP, aR, aU, aV, aW, aX, HB⟩ := n_
              clear hb ho91
              refine hK.out _ _ ⟨cM, cW, cJ, cN, cG, cX, cK, cO, cH, cY, cL, cP, cI, cZ, dK, cQ, cR, cS, cT, cU, cV, (by rw [ha.out]; exact putSel_upk 2 hb_ rfl rfl rfl), aS.out, aC.out, aD.out, aE.out, aP.out, aR.out, aU.out, aV.out, aW.out, aX.out, (oB HB), fun _ => (by (with_reducible repeat (first | apply Kd.R_alloc | apply Kd.R_drewN | apply Kd.R_drew)); exact Kd.R_mono bE.out oY), oF (hoff 3 oK), oF (hoff 9 oK), oF (hoff 10 oK), oF (hoff 14 oK), oF (hoff 15 oK), oF (hoff 22 oK), oF (hoff 23 oK), oF (hoff 27 oK), oF (hoff 28 oK), oF (hoff 35 oK), oF (hoff 36 oK), oF (hoff 40 oK), oF (hoff 41 oK), oF (hoff 3 oK), oF (hoff 10 oK), oF (hoff 15 oK), oF (hoff 23 oK), oF (hoff 28 oK), oF (hoff 36 oK), oF (hoff 41 oK)⟩
             refine steps_cons ?_ ?_
             ·intro b a w' hR_
              refine hide_ (fun G_ hG_ => exVVVVVVVVVVVVVVVVVVVVV_ hR_ (fun cM cW cJ cN cG cX cK cO cH cY cL cP cI cZ dK cQ cR cS cT cU cV hS_ => an33_ hS_ (fun ha aO aF aG aH aI aJ aK aL aM aN Q_HB aQ aT aZ bA aY bB bD bF bC bG bN bO bL bS bR bJ bM bQ bU bZ cC => ?_)))
              refine hG_ ?_
              clear hG_ hR_ hS_
              intro hb_ hon hoff
              refine ⟨_, rfl, fun K hK => ?_⟩
              have mQ : a.tmps[106]? = some (.agg #[.int .i64 aB, .int .i64 aA, .slice dH cA.length dG]) := by rw [ha]; exact putSel_on (e := (0, 106, .agg #[.int .i64 aB, .int .i64 aA, .slice dH cA.length dG])) 0 rfl rfl (hon 0 oK) rfl
              have mR : a.tmps[108]? = some (cM) := by rw [ha]; exact putSel_on (e := (2, 108, cM)) 2 rfl rfl (hon 2 oK) rfl
              replace ha := Aside0.mk ha
              obtain ⟨aS, aC, aD, aE, aP, aR, aU, aV, aW, aX, HB, bE⟩ := o2_ aO (o2_ aF (o2_ aG (o2_ aH (o2_ aI (o2_ aJ (o2_ aK (o2_ aL (o2_ aM (o2_ aN (o2_ Q_HB (o1_ (aQ (hon 2 oK)))))))))))))
              obtain ⟨mF, mN, nF⟩ := Kd.R_slice bE.out
              (first | subst nF | (injection nF with f1_ f2_ f3_; have f4_ := f1_.symm; have f5_ := f3_.symm; clear f1_ f2_ f3_; subst f4_; subst f5_))
              refine goes_ Try.func27 oK rfl #[.agg #[.int .i64 aB, .int .i64 aA, .slice dH cA.length dG], .slice mF y679.length mN] (by first | rfl | exact wanted_on rfl rfl rfl (by assumption)) rfl rfl (by first | (simp only [List.map_toArray, List.map_cons, List.map_nil, Act.eval, Array.getD_eq_getD_getElem?, Option.getD_some, mQ, mR]; done) | (simp only [List.map_toArray, List.map_cons, List.map_nil, Act.eval, Array.getD_eq_getD_getElem?, Option.getD_some, mQ, mR]; rfl)) ?_
              with_reducible refine (laws_eaDo.calls kj2 aB aA (fun k_ => some k_ = (.slice dH cA.length dG : Value).ownBlock) _ _ cA _ _ y679 iT iU iV _ ?side1 ?side2 ?side3 yE.out).mono ?_
              (case side1 => exact Kd.Q_V (Kd.Q_tight rfl (Kd.Q_types (Kd.Q_types (Kd.Q_types (Kd.Q_types (Kd.Q_types (Kd.Q_types (Kd.Q_types (Kd.Q_types (Kd.Q_types (Kd.Q_apart' (aS.out) (Kd.R_typed bE.out) oD) aC.out oD) aD.out oD) aE.out oD) aP.out oD) aR.out oD) aU.out oD) aV.out oD) aW.out oD) aX.out oD)))
              (case side2 => repeat (first | exact (Kd.R_reads' bE.out).2.2 | (with_reducible refine Kd.C_alloc ?_ _) | (with_reducible refine Kd.C_drewN ?_ _) | (with_reducible refine Kd.C_drew ?_)))
              (case side3 => exact (Kd.R_reads' bE.out).2.1)
              rintro e w94 ⟨cW, rfl, ho0, hb⟩
              refine ⟨_, rfl, ?_⟩
              have hq_ := (Kd.Q_types (Kd.Q_types (Kd.Q_types (Kd.Q_types (Kd.Q_types (Kd.Q_types (Kd.Q_types (Kd.Q_types (Kd.Q_types (Kd.Q_apart' (aS.out) (Kd.R_typed bE.out) oD) aC.out oD) aD.out oD) aE.out oD) aP.out oD) aR.out oD) aU.out oD) aV.out oD) aW.out oD) aX.out oD)
              have n_ := o2_ (Kd.Q_below aS.out hb) (o2_ (Kd.R_below bE.out hb) (o2_ (Kd.V_lower (Kd.V_mono (ok' := fun k_ => k_ ≠ bT ∧ k_ ≠ cB ∧ k_ ≠ bY ∧ k_ ≠ dA ∧ k_ ≠ dB ∧ k_ ≠ dC ∧ k_ ≠ cD ∧ k_ ≠ cE ∧ k_ ≠ bH) ho0 (fun k_ hk_ => ⟨Or.elim hk_ (fun hs_ => (hq_.1 k_ hs_.symm).1.1.1.1.1.1.1.1.2) (fun hn_ => (Kd.freshB aC.out k_ hn_)), Or.elim hk_ (fun hs_ => (hq_.1 k_ hs_.symm).1.1.1.1.1.1.1.2) (fun hn_ => (Kd.freshB aD.out k_ hn_)), Or.elim hk_ (fun hs_ => (hq_.1 k_ hs_.symm).1.1.1.1.1.1.2) (fun hn_ => (Kd.freshB aE.out k_ hn_)), Or.elim hk_ (fun hs_ => (hq_.1 k_ hs_.symm).1.1.1.1.1.2) (fun hn_ => (Kd.freshB aP.out k_ hn_)), Or.elim hk_ (fun hs_ => (hq_.1 k_ hs_.symm).1.1.1.1.2) (fun hn_ => (Kd.freshB aR.out k_ hn_)), Or.elim hk_ (fun hs_ => (hq_.1 k_ hs_.symm).1.1.1.2) (fun hn_ => (Kd.freshB aU.out k_ hn_)), Or.elim hk_ (fun hs_ => (hq_.1 k_ hs_.symm).1.1.2) (fun hn_ => (Kd.freshB aV.out k_ hn_)), Or.elim hk_ (fun hs_ => (hq_.1 k_ hs_.symm).1.2) (fun hn_ => (Kd.freshB aW.out k_ hn_)), Or.elim hk_ (fun hs_ => (hq_.1 k_ hs_.symm).2) (fun hn_ => (Kd.freshB aX.out k_ hn_))⟩)) (below_size (oB HB))) (o2_ (blk_below aC.out hb) (o2_ (blk_below aD.out hb) (o2_ (blk_below aE.out hb) (o2_ (blk_below aP.out hb) (o2_ (blk_below aR.out hb) (o2_ (blk_below aU.out hb) (o2_ (blk_below aV.out hb) (o2_ (blk_below aW.out hb) (o2_ (blk_below aX.out hb) (o1_ (below_step (oB HB) hb)))))))))))))
              clear aS bE aC aD aE aP aR aU aV aW aX HB
              obtain ⟨aS, bE, bI, aC, aD, aE, aP, aR, aU, aV, aW, aX, HB⟩ := n_
              clear hq_
              (try clear hb)
              (try clear hb2)
              (try clear hk)
              (try clear hi)
              (try clear ho0)
              refine hK.out _ _ ⟨.slice mF y679.length mN, cW, cJ, cN, cG, cX, cK, cO, cH, cY, cL, cP, cI, cZ, (.agg #[.int .i64 iT, .int .i64 iU, cW]), cQ, cR, cS, cT, cU, cV, (by rw [ha.out]; exact putSel_upk 3 hb_ rfl rfl rfl), aS.out, aC.out, aD.out, aE.out, aP.out, aR.out, aU.out, aV.out, aW.out, aX.out, (oB HB), fun _ => bE.out, fun _ => bI.out, oF (hoff 9 oK), oF (hoff 10 oK), oF (hoff 14 oK), oF (hoff 15 oK), oF (hoff 22 oK), oF (hoff 23 oK), oF (hoff 27 oK), oF (hoff 28 oK), oF (hoff 35 oK), oF (hoff 36 oK), oF (hoff 40 oK), oF (hoff 41 oK), fun _ => rfl, oF (hoff 10 oK), oF (hoff 15 oK), oF (hoff 23 oK), oF (hoff 28 oK), oF (hoff 36 oK), oF (hoff 41 oK)⟩
             refine steps_cons ?_ ?_
             ·intro b a w' hR_
              refine hide_ (fun G_ hG_ => exVVVVVVVVVVVVVVVVVVVVV_ hR_ (fun cM cW cJ cN cG cX cK cO cH cY cL cP cI cZ dK cQ cR cS cT cU cV hS_ => an33_ hS_ (fun ha aO aF aG aH aI aJ aK aL aM aN Q_HB aQ aT aZ bA aY bB bD bF bC bG bN bO bL bS bR bJ bM bQ bU bZ cC => ?_)))
              refine hG_ ?_
              clear hG_ hR_ hS_
              intro hb_ hon hoff
              refine ⟨_, rfl, fun K hK => ?_⟩
              have lK : a.tmps[109]? = some (dK) := by rw [ha]; exact putSel_on (e := (3, 109, dK)) 3 rfl rfl (hon 3 oK) rfl
              rw [bR (hon 3 oK)] at lK
              replace ha := Aside0.mk ha
              obtain ⟨aS, aC, aD, aE, aP, aR, aU, aV, aW, aX, HB, bE, bI⟩ := o2_ aO (o2_ aF (o2_ aG (o2_ aH (o2_ aI (o2_ aJ (o2_ aK (o2_ aL (o2_ aM (o2_ aN (o2_ Q_HB (o2_ (aQ (hon 2 oK)) (o1_ (aT (hon 3 oK))))))))))))))
              obtain ⟨mG, mO, nG⟩ := Kd.V_slice bI.out
              (first | subst nG | (injection nG with f1_ f2_ f3_; have f4_ := f1_.symm; have f5_ := f3_.symm; clear f1_ f2_ f3_; subst f4_; subst f5_))
              refine goes_ Try.func26 oK rfl #[.agg #[.int .i64 iT, .int .i64 iU, .slice mG iV.length mO]] (by first | rfl | exact wanted_on rfl rfl rfl (by assumption)) rfl rfl (by first | (simp only [List.map_toArray, List.map_cons, List.map_nil, Act.eval, Array.getD_eq_getD_getElem?, Option.getD_some, lK]; done) | (simp only [List.map_toArray, List.map_cons, List.map_nil, Act.eval, Array.getD_eq_getD_getElem?, Option.getD_some, lK]; rfl)) ?_
              with_reducible refine (impl_RasOk.calls kj2 iT iU _ _ iV true _ ?side1 ?side2 yF.out).mono ?_
              (case side1 => repeat (first | exact (Kd.V_reads' bI.out).2.2 | (with_reducible refine Kd.C_alloc ?_ _) | (with_reducible refine Kd.C_drewN ?_ _) | (with_reducible refine Kd.C_drew ?_)))
              (case side2 => exact (Kd.V_reads' bI.out).2.1)
              rintro e w96 ⟨rfl, hb⟩
              refine ⟨_, rfl, ?_⟩
              have n_ := o2_ (Kd.Q_below aS.out hb) (o2_ (Kd.R_below bE.out hb) (o2_ (Kd.V_below bI.out hb) (o2_ (blk_below aC.out hb) (o2_ (blk_below aD.out hb) (o2_ (blk_below aE.out hb) (o2_ (blk_below aP.out hb) (o2_ (blk_below aR.out hb) (o2_ (blk_below aU.out hb) (o2_ (blk_below aV.out hb) (o2_ (blk_below aW.out hb) (o2_ (blk_below aX.out hb) (o1_ (below_step (oB HB) hb)))))))))))))
              clear aS bE bI aC aD aE aP aR aU aV aW aX HB
              obtain ⟨aS, bE, bI, aC, aD, aE, aP, aR, aU, aV, aW, aX, HB⟩ := n_
              (try clear hb)
              (try clear hb2)
              (try clear hk)
              (try clear hi)
              refine hK.out _ _ ⟨cM, .slice mG iV.length mO, cJ, cN, cG, cX, cK, cO, cH, cY, cL, cP, cI, cZ, dK, cQ, cR, cS, cT, cU, cV, (by rw [ha.out]; exact putSel_upk 4 hb_ rfl rfl rfl), aS.out, aC.out, aD.out, aE.out, aP.out, aR.out, aU.out, aV.out, aW.out, aX.out, (oB HB), fun _ => bE.out, fun _ => bI.out, oF (hoff 9 oK), oF (hoff 10 oK), oF (hoff 14 oK), oF (hoff 15 oK), oF (hoff 22 oK), oF (hoff 23 oK), oF (hoff 27 oK), oF (hoff 28 oK), oF (hoff 35 oK), oF (hoff 36 oK), oF (hoff 40 oK), oF (hoff 41 oK), bR, oF (hoff 10 oK), oF (hoff 15 oK), oF (hoff 23 oK), oF (hoff 28 oK), oF (hoff 36 oK), oF (hoff 41 oK)⟩
             refine steps_cons ?_ ?_
             ·intro b a w' hR_
              refine hide_ (fun G_ hG_ => exVVVVVVVVVVVVVVVVVVVVV_ hR_ (fun cM cW cJ cN cG cX cK cO cH cY cL cP cI cZ dK cQ cR cS cT cU cV hS_ => an33_ hS_ (fun ha aO aF aG aH aI aJ aK aL aM aN Q_HB aQ aT aZ bA aY bB bD bF bC bG bN bO bL bS bR bJ bM bQ bU bZ cC => ?_)))
              refine hG_ ?_
              clear hG_ hR_ hS_
              intro hb_ hon hoff
              refine ⟨_, rfl, fun K hK => ?_⟩
              have yS : a.tmps[110]? = some (.bool true) := by rw [ha]; exact putSel_on (e := (4, 110, .bool true)) 4 rfl rfl (hon 4 oK) rfl
              replace ha := Aside0.mk ha
              obtain ⟨aS, aC, aD, aE, aP, aR, aU, aV, aW, aX, HB, bE, bI⟩ := o2_ aO (o2_ aF (o2_ aG (o2_ aH (o2_ aI (o2_ aJ (o2_ aK (o2_ aL (o2_ aM (o2_ aN (o2_ Q_HB (o2_ (aQ (hon 2 oK)) (o1_ (aT (hon 3 oK))))))))))))))
              refine value_ (w1 := w') (v := .bool true) (by rfl) rfl ?_ ?_
              ·go_simp
               (try simp only [i64_w])
               try rfl
              refine hK.out _ _ ⟨cM, cW, cJ, cN, cG, cX, cK, cO, cH, cY, cL, cP, cI, cZ, dK, cQ, cR, cS, cT, cU, cV, (by rw [ha.out]; exact putSel_upk 5 hb_ rfl rfl rfl), aO, aF, aG, aH, aI, aJ, aK, aL, aM, aN, Q_HB, aQ, aT, oF (hoff 9 oK), oF (hoff 10 oK), oF (hoff 14 oK), oF (hoff 15 oK), oF (hoff 22 oK), oF (hoff 23 oK), oF (hoff 27 oK), oF (hoff 28 oK), oF (hoff 35 oK), oF (hoff 36 oK), oF (hoff 40 oK), oF (hoff 41 oK), bR, oF (hoff 10 oK), oF (hoff 15 oK), oF (hoff 23 oK), oF (hoff 28 oK), oF (hoff 36 oK), oF (hoff 41 oK)⟩
             refine steps_cons ?_ ?_
             ·intro b a w' hR_
              refine hide_ (fun G_ hG_ => exVVVVVVVVVVVVVVVVVVVVV_ hR_ (fun cM cW cJ cN cG cX cK cO cH cY cL cP cI cZ dK cQ cR cS cT cU cV hS_ => an33_ hS_ (fun ha aO aF aG aH aI aJ aK aL aM aN Q_HB aQ aT aZ bA aY bB bD bF bC bG bN bO bL bS bR bJ bM bQ bU bZ cC => ?_)))
              refine hG_ ?_
              clear hG_ hR_ hS_
              intro hb_ hon hoff
              refine ⟨_, rfl, fun K hK => ?_⟩
              have e5 : a.tmps[5]? = some (.pointer (some ⟨bT, 0, none⟩)) := by rw [ha]; exact (putSel_off rfl).trans rfl
              have dX : a.tmps[111]? = some (.bool true) := by rw [ha]; exact putSel_on (e := (5, 111, .bool true)) 5 rfl rfl (hon 5 oK) rfl
              replace ha := Aside0.mk ha
              obtain ⟨aS, aC, aD, aE, aP, aR, aU, aV, aW, aX, HB, bE, bI⟩ := o2_ aO (o2_ aF (o2_ aG (o2_ aH (o2_ aI (o2_ aJ (o2_ aK (o2_ aL (o2_ aM (o2_ aN (o2_ Q_HB (o2_ (aQ (hon 2 oK)) (o1_ (aT (hon 3 oK))))))))))))))
              have eB : w'.cell? ⟨bT, 0, none⟩ = some (.int .i64 aB) := (blk_cell aC.out 0).trans rfl
              have eC : w'.cell? ⟨bT, 1, none⟩ = some (.int .i64 aA) := (blk_cell aC.out 1).trans rfl
              have eD : w'.cell? ⟨bT, 2, none⟩ = some (.slice dH cA.length dG) := (blk_cell aC.out 2).trans rfl
              refine value_ (w1 := w') (v := .agg #[.int .i64 aB, .int .i64 aA, .slice dH cA.length dG]) (wanted_on rfl rfl rfl (dX.trans (by first | rfl | (simp [*]; done)))) rfl ?_ ?_
              ·go_simp
               (try simp only [i64_w])
               try rfl
              refine hK.out _ _ ⟨cM, cW, cJ, cN, cG, cX, cK, cO, cH, cY, cL, cP, cI, cZ, dK, cQ, cR, cS, cT, cU, cV, (by rw [ha.out]; exact putSel_upk 6 hb_ rfl rfl rfl), aO, aF, aG, aH, aI, aJ, aK, aL, aM, aN, Q_HB, aQ, aT, aZ, oF (hoff 10 oK), aY, oF (hoff 15 oK), oF (hoff 22 oK), oF (hoff 23 oK), oF (hoff 27 oK), oF (hoff 28 oK), oF (hoff 35 oK), oF (hoff 36 oK), oF (hoff 40 oK), oF (hoff 41 oK), bR, oF (hoff 10 oK), oF (hoff 15 oK), oF (hoff 23 oK), oF (hoff 28 oK), oF (hoff 36 oK), oF (hoff 41 oK)⟩
             refine steps_cons ?_ ?_
             ·intro b a w' hR_
              refine hide_ (fun G_ hG_ => exVVVVVVVVVVVVVVVVVVVVV_ hR_ (fun cM cW cJ cN cG cX cK cO cH cY cL cP cI cZ dK cQ cR cS cT cU cV hS_ => an33_ hS_ (fun ha aO aF aG aH aI aJ aK aL aM aN Q_HB aQ aT aZ bA aY bB bD bF bC bG bN bO bL bS bR bJ bM bQ bU bZ cC => ?_)))
              refine hG_ ?_
              clear hG_ hR_ hS_
              intro hb_ hon hoff
              refine ⟨_, rfl, fun K hK => ?_⟩
              have tY : a.tmps[12]? = some (.pointer (some ⟨bY, 0, none⟩)) := by rw [ha]; exact (putSel_off rfl).trans rfl
              have dX : a.tmps[111]? = some (.bool true) := by rw [ha]; exact putSel_on (e := (5, 111, .bool true)) 5 rfl rfl (hon 5 oK) rfl
              replace ha := Aside0.mk ha
              obtain ⟨aS, aC, aD, aE, aP, aR, aU, aV, aW, aX, HB, bE, bI⟩ := o2_ aO (o2_ aF (o2_ aG (o2_ aH (o2_ aI (o2_ aJ (o2_ aK (o2_ aL (o2_ aM (o2_ aN (o2_ Q_HB (o2_ (aQ (hon 2 oK)) (o1_ (aT (hon 3 oK))))))))))))))
              have eB : w'.cell? ⟨bY, 0, none⟩ = some (.int .i64 1) := (blk_cell aE.out 0).trans rfl
              have eC : w'.cell? ⟨bY, 1, none⟩ = some (.int .i64 ((l1.length : Int) % aB)) := (blk_cell aE.out 1).trans rfl
              have eD : w'.cell? ⟨bY, 2, none⟩ = some (.int .i64 (Int.tmod (wrap64 ((l1.length : Int) / 7)) aA)) := (blk_cell aE.out 2).trans rfl
              have eV : w'.cell? ⟨bY, 3, none⟩ = some (.int .i64 (wrap64 (1 + (Int.tmod (wrap64 ((l1.length : Int) / 3)) (wrap64 (aB - ((l1.length : Int) % aB))))))) := (blk_cell aE.out 3).trans rfl
              have eW : w'.cell? ⟨bY, 4, none⟩ = some (.int .i64 (wrap64 (1 + (Int.tmod (wrap64 ((l1.length : Int) / 5)) (wrap64 (aA - (Int.tmod (wrap64 ((l1.length : Int) / 7)) aA))))))) := (blk_cell aE.out 4).trans rfl
              refine value_ (w1 := w') (v := .agg #[.int .i64 1, .int .i64 ((l1.length : Int) % aB), .int .i64 (Int.tmod (wrap64 ((l1.length : Int) / 7)) aA), .int .i64 (wrap64 (1 + (Int.tmod (wrap64 ((l1.length : Int) / 3)) (wrap64 (aB - ((l1.length : Int) % aB)))))), .int .i64 (wrap64 (1 + (Int.tmod (wrap64 ((l1.length : Int) / 5)) (wrap64 (aA - (Int.tmod (wrap64 ((l1.length : Int) / 7)) aA))))))]) (wanted_on rfl rfl rfl (dX.trans (by first | rfl | (simp [*]; done)))) rfl ?_ ?_
              ·go_simp
               (try simp only [i64_w])
               try rfl
              refine hK.out _ _ ⟨cM, cW, cJ, cN, cG, cX, cK, cO, cH, cY, cL, cP, cI, cZ, dK, cQ, cR, cS, cT, cU, cV, (by rw [ha.out]; exact putSel_upk 7 hb_ rfl rfl rfl), aO, aF, aG, aH, aI, aJ, aK, aL, aM, aN, Q_HB, aQ, aT, oF (hoff 9 oK), oF (hoff 10 oK), aY, oF (hoff 15 oK), oF (hoff 22 oK), oF (hoff 23 oK), oF (hoff 27 oK), oF (hoff 28 oK), oF (hoff 35 oK), oF (hoff 36 oK), oF (hoff 40 oK), oF (hoff 41 oK), bR, oF (hoff 10 oK), oF (hoff 15 oK), oF (hoff 23 oK), oF (hoff 28 oK), oF (hoff 36 oK), oF (hoff 41 oK)⟩
             refine steps_cons ?_ ?_
             ·intro b a w' hR_
              refine hide_ (fun G_ hG_ => exVVVVVVVVVVVVVVVVVVVVV_ hR_ (fun cM cW cJ cN cG cX cK cO cH cY cL cP cI cZ dK cQ cR cS cT cU cV hS_ => an33_ hS_ (fun ha aO aF aG aH aI aJ aK aL aM aN Q_HB aQ aT aZ bA aY bB bD bF bC bG bN bO bL bS bR bJ bM bQ bU bZ cC => ?_)))
              refine hG_ ?_
              clear hG_ hR_ hS_
              intro hb_ hon hoff
              refine ⟨_, rfl, fun K hK => ?_⟩
              have zL : a.tmps[16]? = some (.pointer (some ⟨cD, 0, none⟩)) := by rw [ha]; exact (putSel_off rfl).trans rfl
              have dX : a.tmps[111]? = some (.bool true) := by rw [ha]; exact putSel_on (e := (5, 111, .bool true)) 5 rfl rfl (hon 5 oK) rfl
              replace ha := Aside0.mk ha
              obtain ⟨aS, aC, aD, aE, aP, aR, aU, aV, aW, aX, HB, bE, bI⟩ := o2_ aO (o2_ aF (o2_ aG (o2_ aH (o2_ aI (o2_ aJ (o2_ aK (o2_ aL (o2_ aM (o2_ aN (o2_ Q_HB (o2_ (aQ (hon 2 oK)) (o1_ (aT (hon 3 oK))))))))))))))
              have eB : w'.cell? ⟨cD, 0, none⟩ = some (.int .i64 2) := (blk_cell aV.out 0).trans rfl
              have eC : w'.cell? ⟨cD, 1, none⟩ = some (.int .i64 0) := (blk_cell aV.out 1).trans rfl
              have eD : w'.cell? ⟨cD, 2, none⟩ = some (.int .i64 0) := (blk_cell aV.out 2).trans rfl
              have eV : w'.cell? ⟨cD, 3, none⟩ = some (.int .i64 0) := (blk_cell aV.out 3).trans rfl
              have eW : w'.cell? ⟨cD, 4, none⟩ = some (.int .i64 0) := (blk_cell aV.out 4).trans rfl
              refine value_ (w1 := w') (v := .agg #[.int .i64 2, .int .i64 0, .int .i64 0, .int .i64 0, .int .i64 0]) (wanted_on rfl rfl rfl (dX.trans (by first | rfl | (simp [*]; done)))) rfl ?_ ?_
              ·go_simp
               (try simp only [i64_w])
               try rfl
              refine hK.out _ _ ⟨cM, cW, cJ, cN, cG, cX, cK, cO, cH, cY, cL, cP, cI, cZ, dK, cQ, cR, cS, cT, cU, cV, (by rw [ha.out]; exact putSel_upk 8 hb_ rfl rfl rfl), aO, aF, aG, aH, aI, aJ, aK, aL, aM, aN, Q_HB, aQ, aT, oF (hoff 9 oK), oF (hoff 10 oK), aY, oF (hoff 15 oK), oF (hoff 22 oK), oF (hoff 23 oK), oF (hoff 27 oK), oF (hoff 28 oK), oF (hoff 35 oK), oF (hoff 36 oK), oF (hoff 40 oK), oF (hoff 41 oK), bR, oF (hoff 10 oK), oF (hoff 15 oK), oF (hoff 23 oK), oF (hoff 28 oK), oF (hoff 36 oK), oF (hoff 41 oK)⟩
             refine steps_cons ?_ ?_
             ·intro b a w' hR_
              refine hide_ (fun G_ hG_ => exVVVVVVVVVVVVVVVVVVVVV_ hR_ (fun cM cW cJ cN cG cX cK cO cH cY cL cP cI cZ dK cQ cR cS cT cU cV hS_ => an33_ hS_ (fun ha aO aF aG aH aI aJ aK aL aM aN Q_HB aQ aT aZ bA aY bB bD bF bC bG bN bO bL bS bR bJ bM bQ bU bZ cC => ?_)))
              refine hG_ ?_
              clear hG_ hR_ hS_
              intro hb_ hon hoff
              refine ⟨_, rfl, fun K hK => ?_⟩
              have yT : a.tmps[113]? = some (.agg #[.int .i64 1, .int .i64 ((l1.length : Int) % aB), .int .i64 (Int.tmod (wrap64 ((l1.length : Int) / 7)) aA), .int .i64 (wrap64 (1 + (Int.tmod (wrap64 ((l1.length : Int) / 3)) (wrap64 (aB - ((l1.length : Int) % aB)))))), .int .i64 (wrap64 (1 + (Int.tmod (wrap64 ((l1.length : Int) / 5)) (wrap64 (aA - (Int.tmod (wrap64 ((l1.length : Int) / 7)) aA))))))]) := by rw [ha]; exact putSel_on (e := (7, 113, .agg #[.int .i64 1, .int .i64 ((l1.length : Int) % aB), .int .i64 (Int.tmod (wrap64 ((l1.length : Int) / 7)) aA), .int .i64 (wrap64 (1 + (Int.tmod (wrap64 ((l1.length : Int) / 3)) (wrap64 (aB - ((l1.length : Int) % aB)))))), .int .i64 (wrap64 (1 + (Int.tmod (wrap64 ((l1.length : Int) / 5)) (wrap64 (aA - (Int.tmod (wrap64 ((l1.length : Int) / 7)) aA))))))])) 7 rfl rfl (hon 7 oK) rfl
              have yU : a.tmps[114]? = some (.agg #[.int .i64 2, .int .i64 0, .int .i64 0, .int .i64 0, .int .i64 0]) := by rw [ha]; exact putSel_on (e := (8, 114, .agg #[.int .i64 2, .int .i64 0, .int .i64 0, .int .i64 0, .int .i64 0])) 8 rfl rfl (hon 8 oK) rfl
              have dX : a.tmps[111]? = some (.bool true) := by rw [ha]; exact putSel_on (e := (5, 111, .bool true)) 5 rfl rfl (hon 5 oK) rfl
              replace ha := Aside0.mk ha
              obtain ⟨aS, aC, aD, aE, aP, aR, aU, aV, aW, aX, HB, bE, bI⟩ := o2_ aO (o2_ aF (o2_ aG (o2_ aH (o2_ aI (o2_ aJ (o2_ aK (o2_ aL (o2_ aM (o2_ aN (o2_ Q_HB (o2_ (aQ (hon 2 oK)) (o1_ (aT (hon 3 oK))))))))))))))
              refine Kd.R_lit_step k27 _ 27 ?hg (N := 115) ?hd (xs := ([(⟨1, (l1.length : Int) % aB, Int.tmod (wrap64 ((l1.length : Int) / 7)) aA, wrap64 (1 + (Int.tmod (wrap64 ((l1.length : Int) / 3)) (wrap64 (aB - ((l1.length : Int) % aB))))), wrap64 (1 + (Int.tmod (wrap64 ((l1.length : Int) / 5)) (wrap64 (aA - (Int.tmod (wrap64 ((l1.length : Int) / 7)) aA)))))⟩ : S27), (⟨2, 0, 0, 0, 0⟩ : S27)] : List (S27))) (inner := [.int .i64 1, .int .i64 ((l1.length : Int) % aB), .int .i64 (Int.tmod (wrap64 ((l1.length : Int) / 7)) aA), .int .i64 (wrap64 (1 + (Int.tmod (wrap64 ((l1.length : Int) / 3)) (wrap64 (aB - ((l1.length : Int) % aB)))))), .int .i64 (wrap64 (1 + (Int.tmod (wrap64 ((l1.length : Int) / 5)) (wrap64 (aA - (Int.tmod (wrap64 ((l1.length : Int) / 7)) aA)))))), .int .i64 2, .int .i64 0, .int .i64 0, .int .i64 0, .int .i64 0]) (ok := fun _ => True) (okp := fun _ => True) ?hr ?hp (fun _ hk => hk) trivial (Below.refl _ _) (Nat.le_refl _) (by simp) ?_; (case hd => rfl); (case hg => first | rfl | exact wanted_on rfl rfl rfl (by assumption)); (case hr => first | (go_simp; done) | (go_simp; rfl)); (case hp => exact (Reps.c5 (show Kd.M k27 _ _ _ (⟨1, (l1.length : Int) % aB, Int.tmod (wrap64 ((l1.length : Int) / 7)) aA, wrap64 (1 + (Int.tmod (wrap64 ((l1.length : Int) / 3)) (wrap64 (aB - ((l1.length : Int) % aB))))), wrap64 (1 + (Int.tmod (wrap64 ((l1.length : Int) / 5)) (wrap64 (aA - (Int.tmod (wrap64 ((l1.length : Int) / 7)) aA)))))⟩ : S27) [.int .i64 1, .int .i64 ((l1.length : Int) % aB), .int .i64 (Int.tmod (wrap64 ((l1.length : Int) / 7)) aA), .int .i64 (wrap64 (1 + (Int.tmod (wrap64 ((l1.length : Int) / 3)) (wrap64 (aB - ((l1.length : Int) % aB)))))), .int .i64 (wrap64 (1 + (Int.tmod (wrap64 ((l1.length : Int) / 5)) (wrap64 (aA - (Int.tmod (wrap64 ((l1.length : Int) / 7)) aA))))))] from (k27_mkM _ _ _ (⟨1, (l1.length : Int) % aB, Int.tmod (wrap64 ((l1.length : Int) / 7)) aA, wrap64 (1 + (Int.tmod (wrap64 ((l1.length : Int) / 3)) (wrap64 (aB - ((l1.length : Int) % aB))))), wrap64 (1 + (Int.tmod (wrap64 ((l1.length : Int) / 5)) (wrap64 (aA - (Int.tmod (wrap64 ((l1.length : Int) / 7)) aA)))))⟩ : S27) )) (Reps.c5 (show Kd.M k27 _ _ _ (⟨2, 0, 0, 0, 0⟩ : S27) [.int .i64 2, .int .i64 0, .int .i64 0, .int .i64 0, .int .i64 0] from (k27_mkM _ _ _ (⟨2, 0, 0, 0, 0⟩ : S27) )) (Reps.none _ _))))
              intro cJ tV ho98 hb hg_ hnew_
              clear hg_ hnew_
              (first | rw [← kE.out] at ho98 | (simp only [Int.reduceToNat] at ho98; rw [← kE.out] at ho98))
              have eJ := Aside0.mk (Kd.Q_below aS.out hb)
              have eK := Aside0.mk (Kd.R_elder' bE.out (Kd.R_base ho98) hb)
              have eL := Aside0.mk (Kd.V_elder' bI.out (Kd.R_base ho98) hb)
              have eM := Aside0.mk (Kd.R_lower (Kd.R_newB (Kd.R_newB (Kd.R_newB (Kd.R_newB (Kd.R_newB (Kd.R_newB (Kd.R_newB (Kd.R_newB (Kd.R_new' ho98 (Kd.R_lt bE.out)) aD.out) aE.out) aP.out) aR.out) aU.out) aV.out) aW.out) aX.out) (below_size (oB HB)))
              have eN := Aside0.mk (blk_below aC.out hb)
              have eO := Aside0.mk (blk_below aD.out hb)
              have eP := Aside0.mk (blk_below aE.out hb)
              have eQ := Aside0.mk (blk_below aP.out hb)
              have eR := Aside0.mk (blk_below aR.out hb)
              have eS := Aside0.mk (blk_below aU.out hb)
              have dO := Aside0.mk (blk_below aV.out hb)
              have dS := Aside0.mk (blk_below aW.out hb)
              have dT := Aside0.mk (blk_below aX.out hb)
              have dU := Aside0.mk (below_step (oB HB) hb)
              have fH := fun (h0_ : b 14 = true) => (show Kd.R k27 27 tV w.heap.size (fun k_ => k_ ≠ cB ∧ k_ ≠ bY ∧ k_ ≠ dA ∧ k_ ≠ dB ∧ k_ ≠ dC ∧ k_ ≠ cD ∧ k_ ≠ cE ∧ k_ ≠ bH) cG y696 from by first | exact (Kd.R_elder' (uR ((aY h0_))) (Kd.R_base ho98) hb) | exact Kd.R_mono (Kd.R_elder' (uR ((aY h0_))) (Kd.R_base ho98) hb) (fun _ h_ => by first | trivial | exact h_ | exact h_.1))
              clear aS
              clear bE
              clear bI
              clear aC
              clear aD
              clear aE
              clear aP
              clear aR
              clear aU
              clear aV
              clear aW
              clear aX
              clear HB
              have aS := eJ
              have bE := eK
              have bI := eL
              have bK := eM
              have aC := eN
              have aD := eO
              have aE := eP
              have aP := eQ
              have aR := eR
              have aU := eS
              have aV := dO
              have aW := dS
              have aX := dT
              have HB := dU
              clear eJ eK eL eM eN eO eP eQ eR eS dO dS dT dU
              clear hb ho98
              refine hK.out _ _ ⟨cM, cW, cJ, cN, cG, cX, cK, cO, cH, cY, cL, cP, cI, cZ, dK, cQ, cR, cS, cT, cU, cV, (by rw [ha.out]; exact putSel_upk 9 hb_ rfl rfl rfl), aS.out, aC.out, aD.out, aE.out, aP.out, aR.out, aU.out, aV.out, aW.out, aX.out, (oB HB), fun _ => (by (with_reducible repeat (first | apply Kd.R_alloc | apply Kd.R_drewN | apply Kd.R_drew)); exact Kd.R_mono bE.out oY), fun _ => (by (with_reducible repeat (first | apply Kd.V_alloc | apply Kd.V_drewN | apply Kd.V_drew)); exact Kd.V_mono bI.out oY), fun _ => (by (with_reducible repeat (first | apply Kd.R_alloc | apply Kd.R_drewN | apply Kd.R_drew)); exact Kd.R_mono bK.out oY), oF (hoff 10 oK), fH, oF (hoff 15 oK), oF (hoff 22 oK), oF (hoff 23 oK), oF (hoff 27 oK), oF (hoff 28 oK), oF (hoff 35 oK), oF (hoff 36 oK), oF (hoff 40 oK), oF (hoff 41 oK), bR, oF (hoff 10 oK), oF (hoff 15 oK), oF (hoff 23 oK), oF (hoff 28 oK), oF (hoff 36 oK), oF (hoff 41 oK)⟩
             refine steps_cons ?_ ?_
             ·intro b a w' hR_
              refine hide_ (fun G_ hG_ => exVVVVVVVVVVVVVVVVVVVVV_ hR_ (fun cM cW cJ cN cG cX cK cO cH cY cL cP cI cZ dK cQ cR cS cT cU cV hS_ => an33_ hS_ (fun ha aO aF aG aH aI aJ aK aL aM aN Q_HB aQ aT aZ bA aY bB bD bF bC bG bN bO bL bS bR bJ bM bQ bU bZ cC => ?_)))
              refine hG_ ?_
              clear hG_ hR_ hS_
              intro hb_ hon hoff
              refine ⟨_, rfl, fun K hK => ?_⟩
              have mS : a.tmps[112]? = some (.agg #[.int .i64 aB, .int .i64 aA, .slice dH cA.length dG]) := by rw [ha]; exact putSel_on (e := (6, 112, .agg #[.int .i64 aB, .int .i64 aA, .slice dH cA.length dG])) 6 rfl rfl (hon 6 oK) rfl
              have mT : a.tmps[115]? = some (cJ) := by rw [ha]; exact putSel_on (e := (9, 115, cJ)) 9 rfl rfl (hon 9 oK) rfl
              have dX : a.tmps[111]? = some (.bool true) := by rw [ha]; exact putSel_on (e := (5, 111, .bool true)) 5 rfl rfl (hon 5 oK) rfl
              replace ha := Aside0.mk ha
              obtain ⟨aS, aC, aD, aE, aP, aR, aU, aV, aW, aX, HB, bE, bI, bK⟩ := o2_ aO (o2_ aF (o2_ aG (o2_ aH (o2_ aI (o2_ aJ (o2_ aK (o2_ aL (o2_ aM (o2_ aN (o2_ Q_HB (o2_ (aQ (hon 2 oK)) (o2_ (aT (hon 3 oK)) (o1_ (aZ (hon 9 oK)))))))))))))))
              obtain ⟨mH, mP, nH⟩ := Kd.R_slice bK.out
              (first | subst nH | (injection nH with f1_ f2_ f3_; have f4_ := f1_.symm; have f5_ := f3_.symm; clear f1_ f2_ f3_; subst f4_; subst f5_))
              refine goes_ Try.func27 oK rfl #[.agg #[.int .i64 aB, .int .i64 aA, .slice dH cA.length dG], .slice mH y688.length mP] (by first | rfl | exact wanted_on rfl rfl rfl (by assumption)) rfl rfl (by first | (simp only [List.map_toArray, List.map_cons, List.map_nil, Act.eval, Array.getD_eq_getD_getElem?, Option.getD_some, mS, mT, dX]; done) | (simp only [List.map_toArray, List.map_cons, List.map_nil, Act.eval, Array.getD_eq_getD_getElem?, Option.getD_some, mS, mT, dX]; rfl)) ?_
              with_reducible refine (laws_eaDo.calls kj2 aB aA (fun k_ => some k_ = (.slice dH cA.length dG : Value).ownBlock) _ _ cA _ _ y688 iN iO fP _ ?side1 ?side2 ?side3 yG.out).mono ?_
              (case side1 => exact Kd.Q_V (Kd.Q_tight rfl (Kd.Q_types (Kd.Q_types (Kd.Q_types (Kd.Q_types (Kd.Q_types (Kd.Q_types (Kd.Q_types (Kd.Q_types (Kd.Q_types (Kd.Q_apart' (Kd.Q_apart' (aS.out) (Kd.R_typed bE.out) oD) (Kd.R_typed bK.out) oD) aC.out oD) aD.out oD) aE.out oD) aP.out oD) aR.out oD) aU.out oD) aV.out oD) aW.out oD) aX.out oD)))
              (case side2 => repeat (first | exact (Kd.R_reads' bK.out).2.2 | (with_reducible refine Kd.C_alloc ?_ _) | (with_reducible refine Kd.C_drewN ?_ _) | (with_reducible refine Kd.C_drew ?_)))
              (case side3 => exact (Kd.R_reads' bK.out).2.1)
              rintro e uE ⟨cN, rfl, ho0, hb⟩
              refine ⟨_, rfl, ?_⟩
              have eJ := Aside0.mk (Kd.Q_below aS.out hb)
              have eK := Aside0.mk (Kd.R_below bE.out hb)
              have eL := Aside0.mk (Kd.V_below bI.out hb)
              have eM := Aside0.mk (Kd.R_below bK.out hb)
              have hq_ := (Kd.Q_types (Kd.Q_types (Kd.Q_types (Kd.Q_types (Kd.Q_types (Kd.Q_types (Kd.Q_types (Kd.Q_types (Kd.Q_types (Kd.Q_apart' (Kd.Q_apart' (aS.out) (Kd.R_typed bE.out) oD) (Kd.R_typed bK.out) oD) aC.out oD) aD.out oD) aE.out oD) aP.out oD) aR.out oD) aU.out oD) aV.out oD) aW.out oD) aX.out oD)
              have eN := Aside0.mk (Kd.V_lower (Kd.V_mono (ok' := fun k_ => k_ ≠ bT ∧ k_ ≠ cB ∧ k_ ≠ bY ∧ k_ ≠ dA ∧ k_ ≠ dB ∧ k_ ≠ dC ∧ k_ ≠ cD ∧ k_ ≠ cE ∧ k_ ≠ bH) ho0 (fun k_ hk_ => ⟨Or.elim hk_ (fun hs_ => (hq_.1 k_ hs_.symm).1.1.1.1.1.1.1.1.2) (fun hn_ => (Kd.freshB aC.out k_ hn_)), Or.elim hk_ (fun hs_ => (hq_.1 k_ hs_.symm).1.1.1.1.1.1.1.2) (fun hn_ => (Kd.freshB aD.out k_ hn_)), Or.elim hk_ (fun hs_ => (hq_.1 k_ hs_.symm).1.1.1.1.1.1.2) (fun hn_ => (Kd.freshB aE.out k_ hn_)), Or.elim hk_ (fun hs_ => (hq_.1 k_ hs_.symm).1.1.1.1.1.2) (fun hn_ => (Kd.freshB aP.out k_ hn_)), Or.elim hk_ (fun hs_ => (hq_.1 k_ hs_.symm).1.1.1.1.2) (fun hn_ => (Kd.freshB aR.out k_ hn_)), Or.elim hk_ (fun hs_ => (hq_.1 k_ hs_.symm).1.1.1.2) (fun hn_ => (Kd.freshB aU.out k_ hn_)), Or.elim hk_ (fun hs_ => (hq_.1 k_ hs_.symm).1.1.2) (fun hn_ => (Kd.freshB aV.out k_ hn_)), Or.elim hk_ (fun hs_ => (hq_.1 k_ hs_.symm).1.2) (fun hn_ => (Kd.freshB aW.out k_ hn_)), Or.elim hk_ (fun hs_ => (hq_.1 k_ hs_.symm).2) (fun hn_ => (Kd.freshB aX.out k_ hn_))⟩)) (below_size (oB HB)))
              clear hq_
              have eO := Aside0.mk (blk_below aC.out hb)
              have eP := Aside0.mk (blk_below aD.out hb)
              have eQ := Aside0.mk (blk_below aE.out hb)
              have eR := Aside0.mk (blk_below aP.out hb)
              have eS := Aside0.mk (blk_below aR.out hb)
              have dO := Aside0.mk (blk_below aU.out hb)
              have dS := Aside0.mk (blk_below aV.out hb)
              have dT := Aside0.mk (blk_below aW.out hb)
              have dU := Aside0.mk (blk_below aX.out hb)
              have eA := Aside0.mk (below_step (oB HB) hb)
              have fH := fun (h0_ : b 14 = true) => (show Kd.R k27 27 uE w.heap.size (fun k_ => k_ ≠ cB ∧ k_ ≠ bY ∧ k_ ≠ dA ∧ k_ ≠ dB ∧ k_ ≠ dC ∧ k_ ≠ cD ∧ k_ ≠ cE ∧ k_ ≠ bH) cG y696 from by first | exact (Kd.R_below (uR ((aY h0_))) hb) | exact Kd.R_mono (Kd.R_below (uR ((aY h0_))) hb) (fun _ h_ => by first | trivial | exact h_ | exact h_.1))
              clear aS
              clear bE
              clear bI
              clear bK
              clear aC
              clear aD
              clear aE
              clear aP
              clear aR
              clear aU
              clear aV
              clear aW
              clear aX
              clear HB
              have aS := eJ
              have bE := eK
              have bI := eL
              have bK := eM
              have bW := eN
              have aC := eO
              have aD := eP
              have aE := eQ
              have aP := eR
              have aR := eS
              have aU := dO
              have aV := dS
              have aW := dT
              have aX := dU
              have HB := eA
              clear eJ eK eL eM eN eO eP eQ eR eS dO dS dT dU eA
              (try clear hb)
              (try clear hb2)
              (try clear hk)
              (try clear hi)
              (try clear ho0)
              refine hK.out _ _ ⟨cM, cW, .slice mH y688.length mP, cN, cG, cX, cK, cO, cH, cY, cL, cP, cI, cZ, dK, (.agg #[.int .i64 iN, .int .i64 iO, cN]), cR, cS, cT, cU, cV, (by rw [ha.out]; exact putSel_upk 10 hb_ rfl rfl rfl), aS.out, aC.out, aD.out, aE.out, aP.out, aR.out, aU.out, aV.out, aW.out, aX.out, (oB HB), fun _ => bE.out, fun _ => bI.out, fun _ => bK.out, fun _ => bW.out, fH, oF (hoff 15 oK), oF (hoff 22 oK), oF (hoff 23 oK), oF (hoff 27 oK), oF (hoff 28 oK), oF (hoff 35 oK), oF (hoff 36 oK), oF (hoff 40 oK), oF (hoff 41 oK), bR, fun _ => rfl, oF (hoff 15 oK), oF (hoff 23 oK), oF (hoff 28 oK), oF (hoff 36 oK), oF (hoff 41 oK)⟩
             refine steps_cons ?_ ?_
             ·intro b a w' hR_
              refine hide_ (fun G_ hG_ => exVVVVVVVVVVVVVVVVVVVVV_ hR_ (fun cM cW cJ cN cG cX cK cO cH cY cL cP cI cZ dK cQ cR cS cT cU cV hS_ => an33_ hS_ (fun ha aO aF aG aH aI aJ aK aL aM aN Q_HB aQ aT aZ bA aY bB bD bF bC bG bN bO bL bS bR bJ bM bQ bU bZ cC => ?_)))
              refine hG_ ?_
              clear hG_ hR_ hS_
              intro hb_ hon hoff
              refine ⟨_, rfl, fun K hK => ?_⟩
              have e5 : a.tmps[5]? = some (.pointer (some ⟨bT, 0, none⟩)) := by rw [ha]; exact (putSel_off rfl).trans rfl
              have dX : a.tmps[111]? = some (.bool true) := by rw [ha]; exact putSel_on (e := (5, 111, .bool true)) 5 rfl rfl (hon 5 oK) rfl
              replace ha := Aside0.mk ha
              obtain ⟨aS, aC, aD, aE, aP, aR, aU, aV, aW, aX, HB, bE, bI⟩ := o2_ aO (o2_ aF (o2_ aG (o2_ aH (o2_ aI (o2_ aJ (o2_ aK (o2_ aL (o2_ aM (o2_ aN (o2_ Q_HB (o2_ (aQ (hon 2 oK)) (o1_ (aT (hon 3 oK))))))))))))))
              have eB : w'.cell? ⟨bT, 0, none⟩ = some (.int .i64 aB) := (blk_cell aC.out 0).trans rfl
              have eC : w'.cell? ⟨bT, 1, none⟩ = some (.int .i64 aA) := (blk_cell aC.out 1).trans rfl
              have eD : w'.cell? ⟨bT, 2, none⟩ = some (.slice dH cA.length dG) := (blk_cell aC.out 2).trans rfl
              refine value_ (w1 := w') (v := .agg #[.int .i64 aB, .int .i64 aA, .slice dH cA.length dG]) (wanted_on rfl rfl rfl (dX.trans (by first | rfl | (simp [*]; done)))) rfl ?_ ?_
              ·go_simp
               (try simp only [i64_w])
               try rfl
              refine hK.out _ _ ⟨cM, cW, cJ, cN, cG, cX, cK, cO, cH, cY, cL, cP, cI, cZ, dK, cQ, cR, cS, cT, cU, cV, (by rw [ha.out]; exact putSel_upk 11 hb_ rfl rfl rfl), aO, aF, aG, aH, aI, aJ, aK, aL, aM, aN, Q_HB, aQ, aT, aZ, bA, aY, oF (hoff 15 oK), oF (hoff 22 oK), oF (hoff 23 oK), oF (hoff 27 oK), oF (hoff 28 oK), oF (hoff 35 oK), oF (hoff 36 oK), oF (hoff 40 oK), oF (hoff 41 oK), bR, bJ, oF (hoff 15 oK), oF (hoff 23 oK), oF (hoff 28 oK), oF (hoff 36 oK), oF (hoff 41 oK)⟩
             refine steps_cons ?_ ?_
             ·intro b a w' hR_
              refine hide_ (fun G_ hG_ => exVVVVVVVVVVVVVVVVVVVVV_ hR_ (fun cM cW cJ cN cG cX cK cO cH cY cL cP cI cZ dK cQ cR cS cT cU cV hS_ => an33_ hS_ (fun ha aO aF aG aH aI aJ aK aL aM aN Q_HB aQ aT aZ bA aY bB bD bF bC bG bN bO bL bS bR bJ bM bQ bU bZ cC => ?_)))
              refine hG_ ?_
              clear hG_ hR_ hS_
              intro hb_ hon hoff
              refine ⟨_, rfl, fun K hK => ?_⟩
              have zL : a.tmps[16]? = some (.pointer (some ⟨cD, 0, none⟩)) := by rw [ha]; exact (putSel_off rfl).trans rfl
              have dX : a.tmps[111]? = some (.bool true) := by rw [ha]; exact putSel_on (e := (5, 111, .bool true)) 5 rfl rfl (hon 5 oK) rfl
              replace ha := Aside0.mk ha
              obtain ⟨aS, aC, aD, aE, aP, aR, aU, aV, aW, aX, HB, bE, bI⟩ := o2_ aO (o2_ aF (o2_ aG (o2_ aH (o2_ aI (o2_ aJ (o2_ aK (o2_ aL (o2_ aM (o2_ aN (o2_ Q_HB (o2_ (aQ (hon 2 oK)) (o1_ (aT (hon 3 oK))))))))))))))
              have eB : w'.cell? ⟨cD, 0, none⟩ = some (.int .i64 2) := (blk_cell aV.out 0).trans rfl
              have eC : w'.cell? ⟨cD, 1, none⟩ = some (.int .i64 0) := (blk_cell aV.out 1).trans rfl
              have eD : w'.cell? ⟨cD, 2, none⟩ = some (.int .i64 0) := (blk_cell aV.out 2).trans rfl
              have eV : w'.cell? ⟨cD, 3, none⟩ = some (.int .i64 0) := (blk_cell aV.out 3).trans rfl
              have eW : w'.cell? ⟨cD, 4, none⟩ = some (.int .i64 0) := (blk_cell aV.out 4).trans rfl
              refine value_ (w1 := w') (v := .agg #[.int .i64 2, .int .i64 0, .int .i64 0, .int .i64 0, .int .i64 0]) (wanted_on rfl rfl rfl (dX.trans (by first | rfl | (simp [*]; done)))) rfl ?_ ?_
              ·go_simp
               (try simp only [i64_w])
               try rfl
              refine hK.out _ _ ⟨cM, cW, cJ, cN, cG, cX, cK, cO, cH, cY, cL, cP, cI, cZ, dK, cQ, cR, cS, cT, cU, cV, (by rw [ha.out]; exact putSel_upk 12 hb_ rfl rfl rfl), aO, aF, aG, aH, aI, aJ, aK, aL, aM, aN, Q_HB, aQ, aT, aZ, bA, oF (hoff 14 oK), oF (hoff 15 oK), oF (hoff 22 oK), oF (hoff 23 oK), oF (hoff 27 oK), oF (hoff 28 oK), oF (hoff 35 oK), oF (hoff 36 oK), oF (hoff 40 oK), oF (hoff 41 oK), bR, bJ, oF (hoff 15 oK), oF (hoff 23 oK), oF (hoff 28 oK), oF (hoff 36 oK), oF (hoff 41 oK)⟩
             refine steps_cons ?_ ?_
             ·intro b a w' hR_
              refine hide_ (fun G_ hG_ => exVVVVVVVVVVVVVVVVVVVVV_ hR_ (fun cM cW cJ cN cG cX cK cO cH cY cL cP cI cZ dK cQ cR cS cT cU cV hS_ => an33_ hS_ (fun ha aO aF aG aH aI aJ aK aL aM aN Q_HB aQ aT aZ bA aY bB bD bF bC bG bN bO bL bS bR bJ bM bQ bU bZ cC => ?_)))
              refine hG_ ?_
              clear hG_ hR_ hS_
              intro hb_ hon hoff
              refine ⟨_, rfl, fun K hK => ?_⟩
              have e13 : a.tmps[13]? = some (.pointer (some ⟨dA, 0, none⟩)) := by rw [ha]; exact (putSel_off rfl).trans rfl
              have dX : a.tmps[111]? = some (.bool true) := by rw [ha]; exact putSel_on (e := (5, 111, .bool true)) 5 rfl rfl (hon 5 oK) rfl
              replace ha := Aside0.mk ha
              obtain ⟨aS, aC, aD, aE, aP, aR, aU, aV, aW, aX, HB, bE, bI⟩ := o2_ aO (o2_ aF (o2_ aG (o2_ aH (o2_ aI (o2_ aJ (o2_ aK (o2_ aL (o2_ aM (o2_ aN (o2_ Q_HB (o2_ (aQ (hon 2 oK)) (o1_ (aT (hon 3 oK))))))))))))))
              have eB : w'.cell? ⟨dA, 0, none⟩ = some (.int .i64 1) := (blk_cell aP.out 0).trans rfl
              have eC : w'.cell? ⟨dA, 1, none⟩ = some (.int .i64 (wrap64 ((wrap64 (aB - ((l1.length : Int) % aB))) - (wrap64 (1 + (Int.tmod (wrap64 ((l1.length : Int) / 3)) (wrap64 (aB - ((l1.length : Int) % aB))))))))) := (blk_cell aP.out 1).trans rfl
              have eD : w'.cell? ⟨dA, 2, none⟩ = some (.int .i64 (Int.tmod (wrap64 ((l1.length : Int) / 7)) aA)) := (blk_cell aP.out 2).trans rfl
              have eV : w'.cell? ⟨dA, 3, none⟩ = some (.int .i64 (wrap64 (1 + (Int.tmod (wrap64 ((l1.length : Int) / 3)) (wrap64 (aB - ((l1.length : Int) % aB))))))) := (blk_cell aP.out 3).trans rfl
              have eW : w'.cell? ⟨dA, 4, none⟩ = some (.int .i64 (wrap64 (1 + (Int.tmod (wrap64 ((l1.length : Int) / 5)) (wrap64 (aA - (Int.tmod (wrap64 ((l1.length : Int) / 7)) aA))))))) := (blk_cell aP.out 4).trans rfl
              refine value_ (w1 := w') (v := .agg #[.int .i64 1, .int .i64 (wrap64 ((wrap64 (aB - ((l1.length : Int) % aB))) - (wrap64 (1 + (Int.tmod (wrap64 ((l1.length : Int) / 3)) (wrap64 (aB - ((l1.length : Int) % aB)))))))), .int .i64 (Int.tmod (wrap64 ((l1.length : Int) / 7)) aA), .int .i64 (wrap64 (1 + (Int.tmod (wrap64 ((l1.length : Int) / 3)) (wrap64 (aB - ((l1.length : Int) % aB)))))), .int .i64 (wrap64 (1 + (Int.tmod (wrap64 ((l1.length : Int) / 5)) (wrap64 (aA - (Int.tmod (wrap64 ((l1.length : Int) / 7)) aA))))))]) (wanted_on rfl rfl rfl (dX.trans (by first | rfl | (simp [*]; done)))) rfl ?_ ?_
              ·go_simp
               (try simp only [i64_w])
               try rfl
              refine hK.out _ _ ⟨cM, cW, cJ, cN, cG, cX, cK, cO, cH, cY, cL, cP, cI, cZ, dK, cQ, cR, cS, cT, cU, cV, (by rw [ha.out]; exact putSel_upk 13 hb_ rfl rfl rfl), aO, aF, aG, aH, aI, aJ, aK, aL, aM, aN, Q_HB, aQ, aT, aZ, bA, oF (hoff 14 oK), oF (hoff 15 oK), oF (hoff 22 oK), oF (hoff 23 oK), oF (hoff 27 oK), oF (hoff 28 oK), oF (hoff 35 oK), oF (hoff 36 oK), oF (hoff 40 oK), oF (hoff 41 oK), bR, bJ, oF (hoff 15 oK), oF (hoff 23 oK), oF (hoff 28 oK), oF (hoff 36 oK), oF (hoff 41 oK)⟩
             refine steps_cons ?_ ?_
             ·intro b a w' hR_
              refine hide_ (fun G_ hG_ => exVVVVVVVVVVVVVVVVVVVVV_ hR_ (fun cM cW cJ cN cG cX cK cO cH cY cL cP cI cZ dK cQ cR cS cT cU cV hS_ => an33_ hS_ (fun ha aO aF aG aH aI aJ aK aL aM aN Q_HB aQ aT aZ bA aY bB bD bF bC bG bN bO bL bS bR bJ bM bQ bU bZ cC => ?_)))
              refine hG_ ?_
              clear hG_ hR_ hS_
              intro hb_ hon hoff
              refine ⟨_, rfl, fun K hK => ?_⟩
              have yV : a.tmps[118]? = some (.agg #[.int .i64 2, .int .i64 0, .int .i64 0, .int .i64 0, .int .i64 0]) := by rw [ha]; exact putSel_on (e := (12, 118, .agg #[.int .i64 2, .int .i64 0, .int .i64 0, .int .i64 0, .int .i64 0])) 12 rfl rfl (hon 12 oK) rfl
              have yW : a.tmps[119]? = some (.agg #[.int .i64 1, .int .i64 (wrap64 ((wrap64 (aB - ((l1.length : Int) % aB))) - (wrap64 (1 + (Int.tmod (wrap64 ((l1.length : Int) / 3)) (wrap64 (aB - ((l1.length : Int) % aB)))))))), .int .i64 (Int.tmod (wrap64 ((l1.length : Int) / 7)) aA), .int .i64 (wrap64 (1 + (Int.tmod (wrap64 ((l1.length : Int) / 3)) (wrap64 (aB - ((l1.length : Int) % aB)))))), .int .i64 (wrap64 (1 + (Int.tmod (wrap64 ((l1.length : Int) / 5)) (wrap64 (aA - (Int.tmod (wrap64 ((l1.length : Int) / 7)) aA))))))]) := by rw [ha]; exact putSel_on (e := (13, 119, .agg #[.int .i64 1, .int .i64 (wrap64 ((wrap64 (aB - ((l1.length : Int) % aB))) - (wrap64 (1 + (Int.tmod (wrap64 ((l1.length : Int) / 3)) (wrap64 (aB - ((l1.length : Int) % aB)))))))), .int .i64 (Int.tmod (wrap64 ((l1.length : Int) / 7)) aA), .int .i64 (wrap64 (1 + (Int.tmod (wrap64 ((l1.length : Int) / 3)) (wrap64 (aB - ((l1.length : Int) % aB)))))), .int .i64 (wrap64 (1 + (Int.tmod (wrap64 ((l1.length : Int) / 5)) (wrap64 (aA - (Int.tmod (wrap64 ((l1.length : Int) / 7)) aA))))))])) 13 rfl rfl (hon 13 oK) rfl
              have dX : a.tmps[111]? = some (.bool true) := by rw [ha]; exact putSel_on (e := (5, 111, .bool true)) 5 rfl rfl (hon 5 oK) rfl
              replace ha := Aside0.mk ha
              obtain ⟨aS, aC, aD, aE, aP, aR, aU, aV, aW, aX, HB, bE, bI⟩ := o2_ aO (o2_ aF (o2_ aG (o2_ aH (o2_ aI (o2_ aJ (o2_ aK (o2_ aL (o2_ aM (o2_ aN (o2_ Q_HB (o2_ (aQ (hon 2 oK)) (o1_ (aT (hon 3 oK))))))))))))))
              refine Kd.R_lit_step k27 _ 27 ?hg (N := 120) ?hd (xs := ([(⟨2, 0, 0, 0, 0⟩ : S27), (⟨1, wrap64 ((wrap64 (aB - ((l1.length : Int) % aB))) - (wrap64 (1 + (Int.tmod (wrap64 ((l1.length : Int) / 3)) (wrap64 (aB - ((l1.length : Int) % aB))))))), Int.tmod (wrap64 ((l1.length : Int) / 7)) aA, wrap64 (1 + (Int.tmod (wrap64 ((l1.length : Int) / 3)) (wrap64 (aB - ((l1.length : Int) % aB))))), wrap64 (1 + (Int.tmod (wrap64 ((l1.length : Int) / 5)) (wrap64 (aA - (Int.tmod (wrap64 ((l1.length : Int) / 7)) aA)))))⟩ : S27)] : List (S27))) (inner := [.int .i64 2, .int .i64 0, .int .i64 0, .int .i64 0, .int .i64 0, .int .i64 1, .int .i64 (wrap64 ((wrap64 (aB - ((l1.length : Int) % aB))) - (wrap64 (1 + (Int.tmod (wrap64 ((l1.length : Int) / 3)) (wrap64 (aB - ((l1.length : Int) % aB)))))))), .int .i64 (Int.tmod (wrap64 ((l1.length : Int) / 7)) aA), .int .i64 (wrap64 (1 + (Int.tmod (wrap64 ((l1.length : Int) / 3)) (wrap64 (aB - ((l1.length : Int) % aB)))))), .int .i64 (wrap64 (1 + (Int.tmod (wrap64 ((l1.length : Int) / 5)) (wrap64 (aA - (Int.tmod (wrap64 ((l1.length : Int) / 7)) aA))))))]) (ok := fun _ => True) (okp := fun _ => True) ?hr ?hp (fun _ hk => hk) trivial (Below.refl _ _) (Nat.le_refl _) (by simp) ?_; (case hd => rfl); (case hg => first | rfl | exact wanted_on rfl rfl rfl (by assumption)); (case hr => first | (go_simp; done) | (go_simp; rfl)); (case hp => exact (Reps.c5 (show Kd.M k27 _ _ _ (⟨2, 0, 0, 0, 0⟩ : S27) [.int .i64 2, .int .i64 0, .int .i64 0, .int .i64 0, .int .i64 0] from (k27_mkM _ _ _ (⟨2, 0, 0, 0, 0⟩ : S27) )) (Reps.c5 (show Kd.M k27 _ _ _ (⟨1, wrap64 ((wrap64 (aB - ((l1.length : Int) % aB))) - (wrap64 (1 + (Int.tmod (wrap64 ((l1.length : Int) / 3)) (wrap64 (aB - ((l1.length : Int) % aB))))))), Int.tmod (wrap64 ((l1.length : Int) / 7)) aA, wrap64 (1 + (Int.tmod (wrap64 ((l1.length : Int) / 3)) (wrap64 (aB - ((l1.length : Int) % aB))))), wrap64 (1 + (Int.tmod (wrap64 ((l1.length : Int) / 5)) (wrap64 (aA - (Int.tmod (wrap64 ((l1.length : Int) / 7)) aA)))))⟩ : S27) [.int .i64 1, .int .i64 (wrap64 ((wrap64 (aB - ((l1.length : Int) % aB))) - (wrap64 (1 + (Int.tmod (wrap64 ((l1.length : Int) / 3)) (wrap64 (aB - ((l1.length : Int) % aB)))))))), .int .i64 (Int.tmod (wrap64 ((l1.length : Int) / 7)) aA), .int .i64 (wrap64 (1 + (Int.tmod (wrap64 ((l1.length : Int) / 3)) (wrap64 (aB - ((l1.length : Int) % aB)))))), .int .i64 (wrap64 (1 + (Int.tmod (wrap64 ((l1.length : Int) / 5)) (wrap64 (aA - (Int.tmod (wrap64 ((l1.length : Int) / 7)) aA))))))] from (k27_mkM _ _ _ (⟨1, wrap64 ((wrap64 (aB - ((l1.length : Int) % aB))) - (wrap64 (1 + (Int.tmod (wrap64 ((l1.length : Int) / 3)) (wrap64 (aB - ((l1.length : Int) % aB))))))), Int.tmod (wrap64 ((l1.length : Int) / 7)) aA, wrap64 (1 + (Int.tmod (wrap64 ((l1.length : Int) / 3)) (wrap64 (aB - ((l1.length : Int) % aB))))), wrap64 (1 + (Int.tmod (wrap64 ((l1.length : Int) / 5)) (wrap64 (aA - (Int.tmod (wrap64 ((l1.length : Int) / 7)) aA)))))⟩ : S27) )) (Reps.none _ _))))
              intro cG tV ho98 hb hg_ hnew_
              clear hg_ hnew_
              (first | rw [← kF.out] at ho98 | (simp only [Int.reduceToNat] at ho98; rw [← kF.out] at ho98))
              have eJ := Aside0.mk (Kd.Q_below aS.out hb)
              have eK := Aside0.mk (Kd.R_elder' bE.out (Kd.R_base ho98) hb)
              have eL := Aside0.mk (Kd.V_elder' bI.out (Kd.R_base ho98) hb)
              have eM := Aside0.mk (Kd.R_lower (Kd.R_newB (Kd.R_newB (Kd.R_newB (Kd.R_newB (Kd.R_newB (Kd.R_newB (Kd.R_newB (Kd.R_newB (Kd.R_new' ho98 (Kd.R_lt bE.out)) aD.out) aE.out) aP.out) aR.out) aU.out) aV.out) aW.out) aX.out) (below_size (oB HB)))
              have eN := Aside0.mk (blk_below aC.out hb)
              have eO := Aside0.mk (blk_below aD.out hb)
              have eP := Aside0.mk (blk_below aE.out hb)
              have eQ := Aside0.mk (blk_below aP.out hb)
              have eR := Aside0.mk (blk_below aR.out hb)
              have eS := Aside0.mk (blk_below aU.out hb)
              have dO := Aside0.mk (blk_below aV.out hb)
              have dS := Aside0.mk (blk_below aW.out hb)
              have dT := Aside0.mk (blk_below aX.out hb)
              have dU := Aside0.mk (below_step (oB HB) hb)
              have jK := fun (h0_ : b 9 = true) => (show Kd.R k27 27 tV w.heap.size (fun k_ => k_ ≠ cB ∧ k_ ≠ bY ∧ k_ ≠ dA ∧ k_ ≠ dB ∧ k_ ≠ dC ∧ k_ ≠ cD ∧ k_ ≠ cE ∧ k_ ≠ bH) cJ y688 from by first | exact (Kd.R_elder' (uR ((aZ h0_))) (Kd.R_base ho98) hb) | exact Kd.R_mono (Kd.R_elder' (uR ((aZ h0_))) (Kd.R_base ho98) hb) (fun _ h_ => by first | trivial | exact h_ | exact h_.1))
              have jL := fun (h0_ : b 10 = true) => (show Kd.V k38 38 tV w.heap.size (fun k_ => k_ ≠ bT ∧ k_ ≠ cB ∧ k_ ≠ bY ∧ k_ ≠ dA ∧ k_ ≠ dB ∧ k_ ≠ dC ∧ k_ ≠ cD ∧ k_ ≠ cE ∧ k_ ≠ bH) cN fP from by first | exact (Kd.V_elder' (uV ((bA h0_))) (Kd.R_base ho98) hb) | exact Kd.V_mono (Kd.V_elder' (uV ((bA h0_))) (Kd.R_base ho98) hb) (fun _ h_ => by first | trivial | exact h_ | exact h_.1))
              clear aS
              clear bE
              clear bI
              clear aC
              clear aD
              clear aE
              clear aP
              clear aR
              clear aU
              clear aV
              clear aW
              clear aX
              clear HB
              have aS := eJ
              have bE := eK
              have bI := eL
              have bP := eM
              have aC := eN
              have aD := eO
              have aE := eP
              have aP := eQ
              have aR := eR
              have aU := eS
              have aV := dO
              have aW := dS
              have aX := dT
              have HB := dU
              clear eJ eK eL eM eN eO eP eQ eR eS dO dS dT dU
              clear hb ho98
              refine hK.out _ _ ⟨cM, cW, cJ, cN, cG, cX, cK, cO, cH, cY, cL, cP, cI, cZ, dK, cQ, cR, cS, cT, cU, cV, (by rw [ha.out]; exact putSel_upk 14 hb_ rfl rfl rfl), aS.out, aC.out, aD.out, aE.out, aP.out, aR.out, aU.out, aV.out, aW.out, aX.out, (oB HB), fun _ => (by (with_reducible repeat (first | apply Kd.R_alloc | apply Kd.R_drewN | apply Kd.R_drew)); exact Kd.R_mono bE.out oY), fun _ => (by (with_reducible repeat (first | apply Kd.V_alloc | apply Kd.V_drewN | apply Kd.V_drew)); exact Kd.V_mono bI.out oY), jK, jL, fun _ => (by (with_reducible repeat (first | apply Kd.R_alloc | apply Kd.R_drewN | apply Kd.R_drew)); exact Kd.R_mono bP.out oY), oF (hoff 15 oK), oF (hoff 22 oK), oF (hoff 23 oK), oF (hoff 27 oK), oF (hoff 28 oK), oF (hoff 35 oK), oF (hoff 36 oK), oF (hoff 40 oK), oF (hoff 41 oK), bR, bJ, oF (hoff 15 oK), oF (hoff 23 oK), oF (hoff 28 oK), oF (hoff 36 oK), oF (hoff 41 oK)⟩
             refine steps_cons ?_ ?_
             ·intro b a w' hR_
              refine hide_ (fun G_ hG_ => exVVVVVVVVVVVVVVVVVVVVV_ hR_ (fun cM cW cJ cN cG cX cK cO cH cY cL cP cI cZ dK cQ cR cS cT cU cV hS_ => an33_ hS_ (fun ha aO aF aG aH aI aJ aK aL aM aN Q_HB aQ aT aZ bA aY bB bD bF bC bG bN bO bL bS bR bJ bM bQ bU bZ cC => ?_)))
              refine hG_ ?_
              clear hG_ hR_ hS_
              intro hb_ hon hoff
              refine ⟨_, rfl, fun K hK => ?_⟩
              have mU : a.tmps[117]? = some (.agg #[.int .i64 aB, .int .i64 aA, .slice dH cA.length dG]) := by rw [ha]; exact putSel_on (e := (11, 117, .agg #[.int .i64 aB, .int .i64 aA, .slice dH cA.length dG])) 11 rfl rfl (hon 11 oK) rfl
              have mV : a.tmps[120]? = some (cG) := by rw [ha]; exact putSel_on (e := (14, 120, cG)) 14 rfl rfl (hon 14 oK) rfl
              have dX : a.tmps[111]? = some (.bool true) := by rw [ha]; exact putSel_on (e := (5, 111, .bool true)) 5 rfl rfl (hon 5 oK) rfl
              replace ha := Aside0.mk ha
              obtain ⟨aS, aC, aD, aE, aP, aR, aU, aV, aW, aX, HB, bE, bI, bK, bW, bP⟩ := o2_ aO (o2_ aF (o2_ aG (o2_ aH (o2_ aI (o2_ aJ (o2_ aK (o2_ aL (o2_ aM (o2_ aN (o2_ Q_HB (o2_ (aQ (hon 2 oK)) (o2_ (aT (hon 3 oK)) (o2_ (aZ (hon 9 oK)) (o2_ (bA (hon 10 oK)) (o1_ (aY (hon 14 oK)))))))))))))))))
              obtain ⟨jS, kK, kV⟩ := Kd.R_slice bP.out
              (first | subst kV | (injection kV with f1_ f2_ f3_; have f4_ := f1_.symm; have f5_ := f3_.symm; clear f1_ f2_ f3_; subst f4_; subst f5_))
              refine goes_ Try.func27 oK rfl #[.agg #[.int .i64 aB, .int .i64 aA, .slice dH cA.length dG], .slice jS y696.length kK] (by first | rfl | exact wanted_on rfl rfl rfl (by assumption)) rfl rfl (by first | (simp only [List.map_toArray, List.map_cons, List.map_nil, Act.eval, Array.getD_eq_getD_getElem?, Option.getD_some, mU, mV, dX]; done) | (simp only [List.map_toArray, List.map_cons, List.map_nil, Act.eval, Array.getD_eq_getD_getElem?, Option.getD_some, mU, mV, dX]; rfl)) ?_
              with_reducible refine (laws_eaDo.calls kj2 aB aA (fun k_ => some k_ = (.slice dH cA.length dG : Value).ownBlock) _ _ cA _ _ y696 iX iY iZ _ ?side1 ?side2 ?side3 yH.out).mono ?_
              (case side1 => exact Kd.Q_V (Kd.Q_tight rfl (Kd.Q_types (Kd.Q_types (Kd.Q_types (Kd.Q_types (Kd.Q_types (Kd.Q_types (Kd.Q_types (Kd.Q_types (Kd.Q_types (Kd.Q_apart' (Kd.Q_apart' (Kd.Q_apart' (aS.out) (Kd.R_typed bE.out) oD) (Kd.R_typed bK.out) oD) (Kd.R_typed bP.out) oD) aC.out oD) aD.out oD) aE.out oD) aP.out oD) aR.out oD) aU.out oD) aV.out oD) aW.out oD) aX.out oD)))
              (case side2 => repeat (first | exact (Kd.R_reads' bP.out).2.2 | (with_reducible refine Kd.C_alloc ?_ _) | (with_reducible refine Kd.C_drewN ?_ _) | (with_reducible refine Kd.C_drew ?_)))
              (case side3 => exact (Kd.R_reads' bP.out).2.1)
              rintro e zP ⟨cX, rfl, ho0, hb⟩
              refine ⟨_, rfl, ?_⟩
              have hq_ := (Kd.Q_types (Kd.Q_types (Kd.Q_types (Kd.Q_types (Kd.Q_types (Kd.Q_types (Kd.Q_types (Kd.Q_types (Kd.Q_types (Kd.Q_apart' (Kd.Q_apart' (Kd.Q_apart' (aS.out) (Kd.R_typed bE.out) oD) (Kd.R_typed bK.out) oD) (Kd.R_typed bP.out) oD) aC.out oD) aD.out oD) aE.out oD) aP.out oD) aR.out oD) aU.out oD) aV.out oD) aW.out oD) aX.out oD)
              have n_ := o2_ (Kd.Q_below aS.out hb) (o2_ (Kd.R_below bE.out hb) (o2_ (Kd.V_below bI.out hb) (o2_ (Kd.R_below bK.out hb) (o2_ (Kd.V_below bW.out hb) (o2_ (Kd.R_below bP.out hb) (o2_ (Kd.V_lower (Kd.V_mono (ok' := fun k_ => k_ ≠ bT ∧ k_ ≠ cB ∧ k_ ≠ bY ∧ k_ ≠ dA ∧ k_ ≠ dB ∧ k_ ≠ dC ∧ k_ ≠ cD ∧ k_ ≠ cE ∧ k_ ≠ bH) ho0 (fun k_ hk_ => ⟨Or.elim hk_ (fun hs_ => (hq_.1 k_ hs_.symm).1.1.1.1.1.1.1.1.2) (fun hn_ => (Kd.freshB aC.out k_ hn_)), Or.elim hk_ (fun hs_ => (hq_.1 k_ hs_.symm).1.1.1.1.1.1.1.2) (fun hn_ => (Kd.freshB aD.out k_ hn_)), Or.elim hk_ (fun hs_ => (hq_.1 k_ hs_.symm).1.1.1.1.1.1.2) (fun hn_ => (Kd.freshB aE.out k_ hn_)), Or.elim hk_ (fun hs_ => (hq_.1 k_ hs_.symm).1.1.1.1.1.2) (fun hn_ => (Kd.freshB aP.out k_ hn_)), Or.elim hk_ (fun hs_ => (hq_.1 k_ hs_.symm).1.1.1.1.2) (fun hn_ => (Kd.freshB aR.out k_ hn_)), Or.elim hk_ (fun hs_ => (hq_.1 k_ hs_.symm).1.1.1.2) (fun hn_ => (Kd.freshB aU.out k_ hn_)), Or.elim hk_ (fun hs_ => (hq_.1 k_ hs_.symm).1.1.2) (fun hn_ => (Kd.freshB aV.out k_ hn_)), Or.elim hk_ (fun hs_ => (hq_.1 k_ hs_.symm).1.2) (fun hn_ => (Kd.freshB aW.out k_ hn_)), Or.elim hk_ (fun hs_ => (hq_.1 k_ hs_.symm).2) (fun hn_ => (Kd.freshB aX.out k_ hn_))⟩)) (below_size (oB HB))) (o2_ (blk_below aC.out hb) (o2_ (blk_below aD.out hb) (o2_ (blk_below aE.out hb) (o2_ (blk_below aP.out hb) (o2_ (blk_below aR.out hb) (o2_ (blk_below aU.out hb) (o2_ (blk_below aV.out hb) (o2_ (blk_below aW.out hb) (o2_ (blk_below aX.out hb) (o1_ (below_step (oB HB) hb)))))))))))))))))
              clear aS bE bI bK bW bP aC aD aE aP aR aU aV aW aX HB
              obtain ⟨aS, bE, bI, bK, bW, bP, bX, aC, aD, aE, aP, aR, aU, aV, aW, aX, HB⟩ := n_
              clear hq_
              (try clear hb)
              (try clear hb2)
              (try clear hk)
              (try clear hi)
              (try clear ho0)
              refine hK.out _ _ ⟨cM, cW, cJ, cN, .slice jS y696.length kK, cX, cK, cO, cH, cY, cL, cP, cI, cZ, dK, cQ, (.agg #[.int .i64 iX, .int .i64 iY, cX]), cS, cT, cU, cV, (by rw [ha.out]; exact putSel_upk 15 hb_ rfl rfl rfl), aS.out, aC.out, aD.out, aE.out, aP.out, aR.out, aU.out, aV.out, aW.out, aX.out, (oB HB), fun _ => bE.out, fun _ => bI.out, fun _ => bK.out, fun _ => bW.out, fun _ => bP.out, fun _ => bX.out, oF (hoff 22 oK), oF (hoff 23 oK), oF (hoff 27 oK), oF (hoff 28 oK), oF (hoff 35 oK), oF (hoff 36 oK), oF (hoff 40 oK), oF (hoff 41 oK), bR, bJ, fun _ => rfl, oF (hoff 23 oK), oF (hoff 28 oK), oF (hoff 36 oK), oF (hoff 41 oK)⟩
             refine steps_cons ?_ ?_
             ·intro b a w' hR_
              refine hide_ (fun G_ hG_ => exVVVVVVVVVVVVVVVVVVVVV_ hR_ (fun cM cW cJ cN cG cX cK cO cH cY cL cP cI cZ dK cQ cR cS cT cU cV hS_ => an33_ hS_ (fun ha aO aF aG aH aI aJ aK aL aM aN Q_HB aQ aT aZ bA aY bB bD bF bC bG bN bO bL bS bR bJ bM bQ bU bZ cC => ?_)))
              refine hG_ ?_
              clear hG_ hR_ hS_
              intro hb_ hon hoff
              refine ⟨_, rfl, fun K hK => ?_⟩
              have lL : a.tmps[116]? = some (cQ) := by rw [ha]; exact putSel_on (e := (10, 116, cQ)) 10 rfl rfl (hon 10 oK) rfl
              rw [bJ (hon 10 oK)] at lL
              have lM : a.tmps[121]? = some (cR) := by rw [ha]; exact putSel_on (e := (15, 121, cR)) 15 rfl rfl (hon 15 oK) rfl
              rw [bM (hon 15 oK)] at lM
              have dX : a.tmps[111]? = some (.bool true) := by rw [ha]; exact putSel_on (e := (5, 111, .bool true)) 5 rfl rfl (hon 5 oK) rfl
              replace ha := Aside0.mk ha
              obtain ⟨aS, aC, aD, aE, aP, aR, aU, aV, aW, aX, HB, bE, bI, bK, bW, bP, bX⟩ := o2_ aO (o2_ aF (o2_ aG (o2_ aH (o2_ aI (o2_ aJ (o2_ aK (o2_ aL (o2_ aM (o2_ aN (o2_ Q_HB (o2_ (aQ (hon 2 oK)) (o2_ (aT (hon 3 oK)) (o2_ (aZ (hon 9 oK)) (o2_ (bA (hon 10 oK)) (o2_ (aY (hon 14 oK)) (o1_ (bB (hon 15 oK))))))))))))))))))
              obtain ⟨jT, kL, kW⟩ := Kd.V_slice bW.out
              (first | subst kW | (injection kW with f1_ f2_ f3_; have f4_ := f1_.symm; have f5_ := f3_.symm; clear f1_ f2_ f3_; subst f4_; subst f5_))
              obtain ⟨jU, kM, kX⟩ := Kd.V_slice bX.out
              (first | subst kX | (injection kX with f1_ f2_ f3_; have f4_ := f1_.symm; have f5_ := f3_.symm; clear f1_ f2_ f3_; subst f4_; subst f5_))
              refine goes_ Try.func21 oK rfl #[.agg #[.int .i64 iN, .int .i64 iO, .slice jT fP.length kL], .agg #[.int .i64 iX, .int .i64 iY, .slice jU iZ.length kM]] (by first | rfl | exact wanted_on rfl rfl rfl (by assumption)) rfl rfl (by first | (simp only [List.map_toArray, List.map_cons, List.map_nil, Act.eval, Array.getD_eq_getD_getElem?, Option.getD_some, lL, lM, dX]; done) | (simp only [List.map_toArray, List.map_cons, List.map_nil, Act.eval, Array.getD_eq_getD_getElem?, Option.getD_some, lL, lM, dX]; rfl)) ?_
              with_reducible refine (laws_eaRas.calls kj2 iN iO _ _ fP iX iY _ _ iZ true _ ?side1 ?side2 ?side3 ?side4 yI.out).mono ?_
              (case side1 => repeat (first | exact (Kd.V_reads' bW.out).2.2 | (with_reducible refine Kd.C_alloc ?_ _) | (with_reducible refine Kd.C_drewN ?_ _) | (with_reducible refine Kd.C_drew ?_)))
              (case side2 => exact (Kd.V_reads' bW.out).2.1)
              (case side3 => repeat (first | exact (Kd.V_reads' bX.out).2.2 | (with_reducible refine Kd.C_alloc ?_ _) | (with_reducible refine Kd.C_drewN ?_ _) | (with_reducible refine Kd.C_drew ?_)))
              (case side4 => exact (Kd.V_reads' bX.out).2.1)
              rintro e zQ ⟨rfl, hb⟩
              refine ⟨_, rfl, ?_⟩
              have n_ := o2_ (Kd.Q_below aS.out hb) (o2_ (Kd.R_below bE.out hb) (o2_ (Kd.V_below bI.out hb) (o2_ (Kd.R_below bK.out hb) (o2_ (Kd.V_below bW.out hb) (o2_ (Kd.R_below bP.out hb) (o2_ (Kd.V_below bX.out hb) (o2_ (blk_below aC.out hb) (o2_ (blk_below aD.out hb) (o2_ (blk_below aE.out hb) (o2_ (blk_below aP.out hb) (o2_ (blk_below aR.out hb) (o2_ (blk_below aU.out hb) (o2_ (blk_below aV.out hb) (o2_ (blk_below aW.out hb) (o2_ (blk_below aX.out hb) (o1_ (below_step (oB HB) hb)))))))))))))))))
              clear aS bE bI bK bW bP bX aC aD aE aP aR aU aV aW aX HB
              obtain ⟨aS, bE, bI, bK, bW, bP, bX, aC, aD, aE, aP, aR, aU, aV, aW, aX, HB⟩ := n_
              (try clear hb)
              (try clear hb2)
              (try clear hk)
              (try clear hi)
              refine hK.out _ _ ⟨cM, cW, cJ, .slice jT fP.length kL, cG, .slice jU iZ.length kM, cK, cO, cH, cY, cL, cP, cI, cZ, dK, cQ, cR, cS, cT, cU, cV, (by rw [ha.out]; exact putSel_upk 16 hb_ rfl rfl rfl), aS.out, aC.out, aD.out, aE.out, aP.out, aR.out, aU.out, aV.out, aW.out, aX.out, (oB HB), fun _ => bE.out, fun _ => bI.out, fun _ => bK.out, fun _ => bW.out, fun _ => bP.out, fun _ => bX.out, oF (hoff 22 oK), oF (hoff 23 oK), oF (hoff 27 oK), oF (hoff 28 oK), oF (hoff 35 oK), oF (hoff 36 oK), oF (hoff 40 oK), oF (hoff 41 oK), bR, bJ, bM, oF (hoff 23 oK), oF (hoff 28 oK), oF (hoff 36 oK), oF (hoff 41 oK)⟩
             refine steps_cons ?_ ?_
             ·intro b a w' hR_
              refine hide_ (fun G_ hG_ => exVVVVVVVVVVVVVVVVVVVVV_ hR_ (fun cM cW cJ cN cG cX cK cO cH cY cL cP cI cZ dK cQ cR cS cT cU cV hS_ => an33_ hS_ (fun ha aO aF aG aH aI aJ aK aL aM aN Q_HB aQ aT aZ bA aY bB bD bF bC bG bN bO bL bS bR bJ bM bQ bU bZ cC => ?_)))
              refine hG_ ?_
              clear hG_ hR_ hS_
              intro hb_ hon hoff
              refine ⟨_, rfl, fun K hK => ?_⟩
              have dX : a.tmps[111]? = some (.bool true) := by rw [ha]; exact putSel_on (e := (5, 111, .bool true)) 5 rfl rfl (hon 5 oK) rfl
              have yX : a.tmps[122]? = some (.bool true) := by rw [ha]; exact putSel_on (e := (16, 122, .bool true)) 16 rfl rfl (hon 16 oK) rfl
              replace ha := Aside0.mk ha
              obtain ⟨aS, aC, aD, aE, aP, aR, aU, aV, aW, aX, HB, bE, bI, bK, bW, bP, bX⟩ := o2_ aO (o2_ aF (o2_ aG (o2_ aH (o2_ aI (o2_ aJ (o2_ aK (o2_ aL (o2_ aM (o2_ aN (o2_ Q_HB (o2_ (aQ (hon 2 oK)) (o2_ (aT (hon 3 oK)) (o2_ (aZ (hon 9 oK)) (o2_ (bA (hon 10 oK)) (o2_ (aY (hon 14 oK)) (o1_ (bB (hon 15 oK))))))))))))))))))
              refine value_ (w1 := w') (v := .bool true) (by rfl) rfl ?_ ?_
              ·go_simp
               (try simp only [i64_w])
               try rfl
              refine hK.out _ _ ⟨cM, cW, cJ, cN, cG, cX, cK, cO, cH, cY, cL, cP, cI, cZ, dK, cQ, cR, cS, cT, cU, cV, (by rw [ha.out]; exact putSel_upk 17 hb_ rfl rfl rfl), aO, aF, aG, aH, aI, aJ, aK, aL, aM, aN, Q_HB, aQ, aT, aZ, bA, aY, bB, oF (hoff 22 oK), oF (hoff 23 oK), oF (hoff 27 oK), oF (hoff 28 oK), oF (hoff 35 oK), oF (hoff 36 oK), oF (hoff 40 oK), oF (hoff 41 oK), bR, bJ, bM, oF (hoff 23 oK), oF (hoff 28 oK), oF (hoff 36 oK), oF (hoff 41 oK)⟩
             refine steps_cons ?_ ?_
             ·intro b a w' hR_
              refine hide_ (fun G_ hG_ => exVVVVVVVVVVVVVVVVVVVVV_ hR_ (fun cM cW cJ cN cG cX cK cO cH cY cL cP cI cZ dK cQ cR cS cT cU cV hS_ => an33_ hS_ (fun ha aO aF aG aH aI aJ aK aL aM aN Q_HB aQ aT aZ bA aY bB bD bF bC bG bN bO bL bS bR bJ bM bQ bU bZ cC => ?_)))
              refine hG_ ?_
              clear hG_ hR_ hS_
              intro hb_ hon hoff
              refine ⟨_, rfl, fun K hK => ?_⟩
              have yY : a.tmps[123]? = some (.bool true) := by rw [ha]; exact putSel_on (e := (17, 123, .bool true)) 17 rfl rfl (hon 17 oK) rfl
              replace ha := Aside0.mk ha
              obtain ⟨aS, aC, aD, aE, aP, aR, aU, aV, aW, aX, HB, bE, bI, bK, bW, bP, bX⟩ := o2_ aO (o2_ aF (o2_ aG (o2_ aH (o2_ aI (o2_ aJ (o2_ aK (o2_ aL (o2_ aM (o2_ aN (o2_ Q_HB (o2_ (aQ (hon 2 oK)) (o2_ (aT (hon 3 oK)) (o2_ (aZ (hon 9 oK)) (o2_ (bA (hon 10 oK)) (o2_ (aY (hon 14 oK)) (o1_ (bB (hon 15 oK))))))))))))))))))
              refine value_ (w1 := w') (v := .bool true) (by rfl) rfl ?_ ?_
              ·go_simp
               (try simp only [i64_w])
               try rfl
              refine hK.out _ _ ⟨cM, cW, cJ, cN, cG, cX, cK, cO, cH, cY, cL, cP, cI, cZ, dK, cQ, cR, cS, cT, cU, cV, (by rw [ha.out]; exact putSel_upk 18 hb_ rfl rfl rfl), aO, aF, aG, aH, aI, aJ, aK, aL, aM, aN, Q_HB, aQ, aT, aZ, bA, aY, bB, oF (hoff 22 oK), oF (hoff 23 oK), oF (hoff 27 oK), oF (hoff 28 oK), oF (hoff 35 oK), oF (hoff 36 oK), oF (hoff 40 oK), oF (hoff 41 oK), bR, bJ, bM, oF (hoff 23 oK), oF (hoff 28 oK), oF (hoff 36 oK), oF (hoff 41 oK)⟩
             refine steps_cons ?_ ?_
             ·intro b a w' hR_
              refine hide_ (fun G_ hG_ => exVVVVVVVVVVVVVVVVVVVVV_ hR_ (fun cM cW cJ cN cG cX cK cO cH cY cL cP cI cZ dK cQ cR cS cT cU cV hS_ => an33_ hS_ (fun ha aO aF aG aH aI aJ aK aL aM aN Q_HB aQ aT aZ bA aY bB bD bF bC bG bN bO bL bS bR bJ bM bQ bU bZ cC => ?_)))
              refine hG_ ?_
              clear hG_ hR_ hS_
              intro hb_ hon hoff
              refine ⟨_, rfl, fun K hK => ?_⟩
              have e5 : a.tmps[5]? = some (.pointer (some ⟨bT, 0, none⟩)) := by rw [ha]; exact (putSel_off rfl).trans rfl
              have dY : a.tmps[124]? = some (.bool true) := by rw [ha]; exact putSel_on (e := (18, 124, .bool true)) 18 rfl rfl (hon 18 oK) rfl
              replace ha := Aside0.mk ha
              obtain ⟨aS, aC, aD, aE, aP, aR, aU, aV, aW, aX, HB, bE, bI, bK, bW, bP, bX⟩ := o2_ aO (o2_ aF (o2_ aG (o2_ aH (o2_ aI (o2_ aJ (o2_ aK (o2_ aL (o2_ aM (o2_ aN (o2_ Q_HB (o2_ (aQ (hon 2 oK)) (o2_ (aT (hon 3 oK)) (o2_ (aZ (hon 9 oK)) (o2_ (bA (hon 10 oK)) (o2_ (aY (hon 14 oK)) (o1_ (bB (hon 15 oK))))))))))))))))))
              have eB : w'.cell? ⟨bT, 0, none⟩ = some (.int .i64 aB) := (blk_cell aC.out 0).trans rfl
              have eC : w'.cell? ⟨bT, 1, none⟩ = some (.int .i64 aA) := (blk_cell aC.out 1).trans rfl
              have eD : w'.cell? ⟨bT, 2, none⟩ = some (.slice dH cA.length dG) := (blk_cell aC.out 2).trans rfl
              refine value_ (w1 := w') (v := .agg #[.int .i64 aB, .int .i64 aA, .slice dH cA.length dG]) (wanted_on rfl rfl rfl (dY.trans (by first | rfl | (simp [*]; done)))) rfl ?_ ?_
              ·go_simp
               (try simp only [i64_w])
               try rfl
              refine hK.out _ _ ⟨cM, cW, cJ, cN, cG, cX, cK, cO, cH, cY, cL, cP, cI, cZ, dK, cQ, cR, cS, cT, cU, cV, (by rw [ha.out]; exact putSel_upk 19 hb_ rfl rfl rfl), aO, aF, aG, aH, aI, aJ, aK, aL, aM, aN, Q_HB, aQ, aT, aZ, bA, aY, bB, bD, oF (hoff 23 oK), bC, oF (hoff 28 oK), oF (hoff 35 oK), oF (hoff 36 oK), oF (hoff 40 oK), oF (hoff 41 oK), bR, bJ, bM, oF (hoff 23 oK), oF (hoff 28 oK), oF (hoff 36 oK), oF (hoff 41 oK)⟩
             refine steps_cons ?_ ?_
             ·intro b a w' hR_
              refine hide_ (fun G_ hG_ => exVVVVVVVVVVVVVVVVVVVVV_ hR_ (fun cM cW cJ cN cG cX cK cO cH cY cL cP cI cZ dK cQ cR cS cT cU cV hS_ => an33_ hS_ (fun ha aO aF aG aH aI aJ aK aL aM aN Q_HB aQ aT aZ bA aY bB bD bF bC bG bN bO bL bS bR bJ bM bQ bU bZ cC => ?_)))
              refine hG_ ?_
              clear hG_ hR_ hS_
              intro hb_ hon hoff
              refine ⟨_, rfl, fun K hK => ?_⟩
              have tY : a.tmps[12]? = some (.pointer (some ⟨bY, 0, none⟩)) := by rw [ha]; exact (putSel_off rfl).trans rfl
              have dY : a.tmps[124]? = some (.bool true) := by rw [ha]; exact putSel_on (e := (18, 124, .bool true)) 18 rfl rfl (hon 18 oK) rfl
              replace ha := Aside0.mk ha
              obtain ⟨aS, aC, aD, aE, aP, aR, aU, aV, aW, aX, HB, bE, bI, bK, bW, bP, bX⟩ := o2_ aO (o2_ aF (o2_ aG (o2_ aH (o2_ aI (o2_ aJ (o2_ aK (o2_ aL (o2_ aM (o2_ aN (o2_ Q_HB (o2_ (aQ (hon 2 oK)) (o2_ (aT (hon 3 oK)) (o2_ (aZ (hon 9 oK)) (o2_ (bA (hon 10 oK)) (o2_ (aY (hon 14 oK)) (o1_ (bB (hon 15 oK))))))))))))))))))
              have eB : w'.cell? ⟨bY, 0, none⟩ = some (.int .i64 1) := (blk_cell aE.out 0).trans rfl
              have eC : w'.cell? ⟨bY, 1, none⟩ = some (.int .i64 ((l1.length : Int) % aB)) := (blk_cell aE.out 1).trans rfl
              have eD : w'.cell? ⟨bY, 2, none⟩ = some (.int .i64 (Int.tmod (wrap64 ((l1.length : Int) / 7)) aA)) := (blk_cell aE.out 2).trans rfl
              have eV : w'.cell? ⟨bY, 3, none⟩ = some (.int .i64 (wrap64 (1 + (Int.tmod (wrap64 ((l1.length : Int) / 3)) (wrap64 (aB - ((l1.length : Int) % aB))))))) := (blk_cell aE.out 3).trans rfl
              have eW : w'.cell? ⟨bY, 4, none⟩ = some (.int .i64 (wrap64 (1 + (Int.tmod (wrap64 ((l1.length : Int) / 5)) (wrap64 (aA - (Int.tmod (wrap64 ((l1.length : Int) / 7)) aA))))))) := (blk_cell aE.out 4).trans rfl
              refine value_ (w1 := w') (v := .agg #[.int .i64 1, .int .i64 ((l1.length : Int) % aB), .int .i64 (Int.tmod (wrap64 ((l1.length : Int) / 7)) aA), .int .i64 (wrap64 (1 + (Int.tmod (wrap64 ((l1.length : Int) / 3)) (wrap64 (aB - ((l1.length : Int) % aB)))))), .int .i64 (wrap64 (1 + (Int.tmod (wrap64 ((l1.length : Int) / 5)) (wrap64 (aA - (Int.tmod (wrap64 ((l1.length : Int) / 7)) aA))))))]) (wanted_on rfl rfl rfl (dY.trans (by first | rfl | (simp [*]; done)))) rfl ?_ ?_
              ·go_simp
               (try simp only [i64_w])
               try rfl
              refine hK.out _ _ ⟨cM, cW, cJ, cN, cG, cX, cK, cO, cH, cY, cL, cP, cI, cZ, dK, cQ, cR, cS, cT, cU, cV, (by rw [ha.out]; exact putSel_upk 20 hb_ rfl rfl rfl), aO, aF, aG, aH, aI, aJ, aK, aL, aM, aN, Q_HB, aQ, aT, aZ, bA, aY, bB, oF (hoff 22 oK), oF (hoff 23 oK), bC, oF (hoff 28 oK), oF (hoff 35 oK), oF (hoff 36 oK), oF (hoff 40 oK), oF (hoff 41 oK), bR, bJ, bM, oF (hoff 23 oK), oF (hoff 28 oK), oF (hoff 36 oK), oF (hoff 41 oK)⟩
             refine steps_cons ?_ ?_
             ·intro b a w' hR_
              refine hide_ (fun G_ hG_ => exVVVVVVVVVVVVVVVVVVVVV_ hR_ (fun cM cW cJ cN cG cX cK cO cH cY cL cP cI cZ dK cQ cR cS cT cU cV hS_ => an33_ hS_ (fun ha aO aF aG aH aI aJ aK aL aM aN Q_HB aQ aT aZ bA aY bB bD bF bC bG bN bO bL bS bR bJ bM bQ bU bZ cC => ?_)))
              refine hG_ ?_
              clear hG_ hR_ hS_
              intro hb_ hon hoff
              refine ⟨_, rfl, fun K hK => ?_⟩
              have zM : a.tmps[17]? = some (.pointer (some ⟨cE, 0, none⟩)) := by rw [ha]; exact (putSel_off rfl).trans rfl
              have dY : a.tmps[124]? = some (.bool true) := by rw [ha]; exact putSel_on (e := (18, 124, .bool true)) 18 rfl rfl (hon 18 oK) rfl
              replace ha := Aside0.mk ha
              obtain ⟨aS, aC, aD, aE, aP, aR, aU, aV, aW, aX, HB, bE, bI, bK, bW, bP, bX⟩ := o2_ aO (o2_ aF (o2_ aG (o2_ aH (o2_ aI (o2_ aJ (o2_ aK (o2_ aL (o2_ aM (o2_ aN (o2_ Q_HB (o2_ (aQ (hon 2 oK)) (o2_ (aT (hon 3 oK)) (o2_ (aZ (hon 9 oK)) (o2_ (bA (hon 10 oK)) (o2_ (aY (hon 14 oK)) (o1_ (bB (hon 15 oK))))))))))))))))))
              have eB : w'.cell? ⟨cE, 0, none⟩ = some (.int .i64 3) := (blk_cell aW.out 0).trans rfl
              have eC : w'.cell? ⟨cE, 1, none⟩ = some (.int .i64 0) := (blk_cell aW.out 1).trans rfl
              have eD : w'.cell? ⟨cE, 2, none⟩ = some (.int .i64 0) := (blk_cell aW.out 2).trans rfl
              have eV : w'.cell? ⟨cE, 3, none⟩ = some (.int .i64 0) := (blk_cell aW.out 3).trans rfl
              have eW : w'.cell? ⟨cE, 4, none⟩ = some (.int .i64 0) := (blk_cell aW.out 4).trans rfl
              refine value_ (w1 := w') (v := .agg #[.int .i64 3, .int .i64 0, .int .i64 0, .int .i64 0, .int .i64 0]) (wanted_on rfl rfl rfl (dY.trans (by first | rfl | (simp [*]; done)))) rfl ?_ ?_
              ·go_simp
               (try simp only [i64_w])
               try rfl
              refine hK.out _ _ ⟨cM, cW, cJ, cN, cG, cX, cK, cO, cH, cY, cL, cP, cI, cZ, dK, cQ, cR, cS, cT, cU, cV, (by rw [ha.out]; exact putSel_upk 21 hb_ rfl rfl rfl), aO, aF, aG, aH, aI, aJ, aK, aL, aM, aN, Q_HB, aQ, aT, aZ, bA, aY, bB, oF (hoff 22 oK), oF (hoff 23 oK), bC, oF (hoff 28 oK), oF (hoff 35 oK), oF (hoff 36 oK), oF (hoff 40 oK), oF (hoff 41 oK), bR, bJ, bM, oF (hoff 23 oK), oF (hoff 28 oK), oF (hoff 36 oK), oF (hoff 41 oK)⟩
             refine steps_cons ?_ ?_
             ·intro b a w' hR_
              refine hide_ (fun G_ hG_ => exVVVVVVVVVVVVVVVVVVVVV_ hR_ (fun cM cW cJ cN cG cX cK cO cH cY cL cP cI cZ dK cQ cR cS cT cU cV hS_ => an33_ hS_ (fun ha aO aF aG aH aI aJ aK aL aM aN Q_HB aQ aT aZ bA aY bB bD bF bC bG bN bO bL bS bR bJ bM bQ bU bZ cC => ?_)))
              refine hG_ ?_
              clear hG_ hR_ hS_
              intro hb_ hon hoff
              refine ⟨_, rfl, fun K hK => ?_⟩
              have yZ : a.tmps[126]? = some (.agg #[.int .i64 1, .int .i64 ((l1.length : Int) % aB), .int .i64 (Int.tmod (wrap64 ((l1.length : Int) / 7)) aA), .int .i64 (wrap64 (1 + (Int.tmod (wrap64 ((l1.length : Int) / 3)) (wrap64 (aB - ((l1.length : Int) % aB)))))), .int .i64 (wrap64 (1 + (Int.tmod (wrap64 ((l1.length : Int) / 5)) (wrap64 (aA - (Int.tmod (wrap64 ((l1.length : Int) / 7)) aA))))))]) := by rw [ha]; exact putSel_on (e := (20, 126, .agg #[.int .i64 1, .int .i64 ((l1.length : Int) % aB), .int .i64 (Int.tmod (wrap64 ((l1.length : Int) / 7)) aA), .int .i64 (wrap64 (1 + (Int.tmod (wrap64 ((l1.length : Int) / 3)) (wrap64 (aB - ((l1.length : Int) % aB)))))), .int .i64 (wrap64 (1 + (Int.tmod (wrap64 ((l1.length : Int) / 5)) (wrap64 (aA - (Int.tmod (wrap64 ((l1.length : Int) / 7)) aA))))))])) 20 rfl rfl (hon 20 oK) rfl
              have zA : a.tmps[127]? = some (.agg #[.int .i64 3, .int .i64 0, .int .i64 0, .int .i64 0, .int .i64 0]) := by rw [ha]; exact putSel_on (e := (21, 127, .agg #[.int .i64 3, .int .i64 0, .int .i64 0, .int .i64 0, .int .i64 0])) 21 rfl rfl (hon 21 oK) rfl
              have dY : a.tmps[124]? = some (.bool true) := by rw [ha]; exact putSel_on (e := (18, 124, .bool true)) 18 rfl rfl (hon 18 oK) rfl
              replace ha := Aside0.mk ha
              obtain ⟨aS, aC, aD, aE, aP, aR, aU, aV, aW, aX, HB, bE, bI, bK, bW, bP, bX⟩ := o2_ aO (o2_ aF (o2_ aG (o2_ aH (o2_ aI (o2_ aJ (o2_ aK (o2_ aL (o2_ aM (o2_ aN (o2_ Q_HB (o2_ (aQ (hon 2 oK)) (o2_ (aT (hon 3 oK)) (o2_ (aZ (hon 9 oK)) (o2_ (bA (hon 10 oK)) (o2_ (aY (hon 14 oK)) (o1_ (bB (hon 15 oK))))))))))))))))))
              refine Kd.R_lit_step k27 _ 27 ?hg (N := 128) ?hd (xs := ([(⟨1, (l1.length : Int) % aB, Int.tmod (wrap64 ((l1.length : Int) / 7)) aA, wrap64 (1 + (Int.tmod (wrap64 ((l1.length : Int) / 3)) (wrap64 (aB - ((l1.length : Int) % aB))))), wrap64 (1 + (Int.tmod (wrap64 ((l1.length : Int) / 5)) (wrap64 (aA - (Int.tmod (wrap64 ((l1.length : Int) / 7)) aA)))))⟩ : S27), (⟨3, 0, 0, 0, 0⟩ : S27)] : List (S27))) (inner := [.int .i64 1, .int .i64 ((l1.length : Int) % aB), .int .i64 (Int.tmod (wrap64 ((l1.length : Int) / 7)) aA), .int .i64 (wrap64 (1 + (Int.tmod (wrap64 ((l1.length : Int) / 3)) (wrap64 (aB - ((l1.length : Int) % aB)))))), .int .i64 (wrap64 (1 + (Int.tmod (wrap64 ((l1.length : Int) / 5)) (wrap64 (aA - (Int.tmod (wrap64 ((l1.length : Int) / 7)) aA)))))), .int .i64 3, .int .i64 0, .int .i64 0, .int .i64 0, .int .i64 0]) (ok := fun _ => True) (okp := fun _ => True) ?hr ?hp (fun _ hk => hk) trivial (Below.refl _ _) (Nat.le_refl _) (by simp) ?_; (case hd => rfl); (case hg => first | rfl | exact wanted_on rfl rfl rfl (by assumption)); (case hr => first | (go_simp; done) | (go_simp; rfl)); (case hp => exact (Reps.c5 (show Kd.M k27 _ _ _ (⟨1, (l1.length : Int) % aB, Int.tmod (wrap64 ((l1.length : Int) / 7)) aA, wrap64 (1 + (Int.tmod (wrap64 ((l1.length : Int) / 3)) (wrap64 (aB - ((l1.length : Int) % aB))))), wrap64 (1 + (Int.tmod (wrap64 ((l1.length : Int) / 5)) (wrap64 (aA - (Int.tmod (wrap64 ((l1.length : Int) / 7)) aA)))))⟩ : S27) [.int .i64 1, .int .i64 ((l1.length : Int) % aB), .int .i64 (Int.tmod (wrap64 ((l1.length : Int) / 7)) aA), .int .i64 (wrap64 (1 + (Int.tmod (wrap64 ((l1.length : Int) / 3)) (wrap64 (aB - ((l1.length : Int) % aB)))))), .int .i64 (wrap64 (1 + (Int.tmod (wrap64 ((l1.length : Int) / 5)) (wrap64 (aA - (Int.tmod (wrap64 ((l1.length : Int) / 7)) aA))))))] from (k27_mkM _ _ _ (⟨1, (l1.length : Int) % aB, Int.tmod (wrap64 ((l1.length : Int) / 7)) aA, wrap64 (1 + (Int.tmod (wrap64 ((l1.length : Int) / 3)) (wrap64 (aB - ((l1.length : Int) % aB))))), wrap64 (1 + (Int.tmod (wrap64 ((l1.length : Int) / 5)) (wrap64 (aA - (Int.tmod (wrap64 ((l1.length : Int) / 7)) aA)))))⟩ : S27) )) (Reps.c5 (show Kd.M k27 _ _ _ (⟨3, 0, 0, 0, 0⟩ : S27) [.int .i64 3, .int .i64 0, .int .i64 0, .int .i64 0, .int .i64 0] from (k27_mkM _ _ _ (⟨3, 0, 0, 0, 0⟩ : S27) )) (Reps.none _ _))))
              intro cK jI ho109 hb hg_ hnew_
              clear hg_ hnew_
              (first | rw [← kG.out] at ho109 | (simp only [Int.reduceToNat] at ho109; rw [← kG.out] at ho109))
              have eJ := Aside0.mk (Kd.Q_below aS.out hb)
              have eK := Aside0.mk (Kd.R_elder' bE.out (Kd.R_base ho109) hb)
              have eL := Aside0.mk (Kd.V_elder' bI.out (Kd.R_base ho109) hb)
              have eM := Aside0.mk (Kd.R_elder' bK.out (Kd.R_base ho109) hb)
              have eN := Aside0.mk (Kd.V_elder' bW.out (Kd.R_base ho109) hb)
              have eO := Aside0.mk (Kd.R_elder' bP.out (Kd.R_base ho109) hb)
              have eP := Aside0.mk (Kd.V_elder' bX.out (Kd.R_base ho109) hb)
              have eQ := Aside0.mk (Kd.R_lower (Kd.R_newB (Kd.R_newB (Kd.R_newB (Kd.R_newB (Kd.R_newB (Kd.R_newB (Kd.R_newB (Kd.R_newB (Kd.R_new' (Kd.R_new' (Kd.R_new' ho109 (Kd.R_lt bE.out)) (Kd.R_lt bK.out)) (Kd.R_lt bP.out)) aD.out) aE.out) aP.out) aR.out) aU.out) aV.out) aW.out) aX.out) (below_size (oB HB)))
              have eR := Aside0.mk (blk_below aC.out hb)
              have eS := Aside0.mk (blk_below aD.out hb)
              have dO := Aside0.mk (blk_below aE.out hb)
              have dS := Aside0.mk (blk_below aP.out hb)
              have dT := Aside0.mk (blk_below aR.out hb)
              have dU := Aside0.mk (blk_below aU.out hb)
              have eA := Aside0.mk (blk_below aV.out hb)
              have eG := Aside0.mk (blk_below aW.out hb)
              have eH := Aside0.mk (blk_below aX.out hb)
              have eI := Aside0.mk (below_step (oB HB) hb)
              have fI := fun (h0_ : b 27 = true) => (show Kd.R k27 27 jI w.heap.size (fun k_ => k_ ≠ cB ∧ k_ ≠ bY ∧ k_ ≠ dA ∧ k_ ≠ dB ∧ k_ ≠ dC ∧ k_ ≠ cD ∧ k_ ≠ cE ∧ k_ ≠ bH) cH y713 from by first | exact (Kd.R_elder' (uR ((bC h0_))) (Kd.R_base ho109) hb) | exact Kd.R_mono (Kd.R_elder' (uR ((bC h0_))) (Kd.R_base ho109) hb) (fun _ h_ => by first | trivial | exact h_ | exact h_.1))
              clear aS
              clear bE
              clear bI
              clear bK
              clear bW
              clear bP
              clear bX
              clear aC
              clear aD
              clear aE
              clear aP
              clear aR
              clear aU
              clear aV
              clear aW
              clear aX
              clear HB
              have aS := eJ
              have bE := eK
              have bI := eL
              have bK := eM
              have bW := eN
              have bP := eO
              have bX := eP
              have cF := eQ
              have aC := eR
              have aD := eS
              have aE := dO
              have aP := dS
              have aR := dT
              have aU := dU
              have aV := eA
              have aW := eG
              have aX := eH
              have HB := eI
              clear eJ eK eL eM eN eO eP eQ eR eS dO dS dT dU eA eG eH eI
              clear hb ho109
              refine hK.out _ _ ⟨cM, cW, cJ, cN, cG, cX, cK, cO, cH, cY, cL, cP, cI, cZ, dK, cQ, cR, cS, cT, cU, cV, (by rw [ha.out]; exact putSel_upk 22 hb_ rfl rfl rfl), aS.out, aC.out, aD.out, aE.out, aP.out, aR.out, aU.out, aV.out, aW.out, aX.out, (oB HB), fun _ => (by (with_reducible repeat (first | apply Kd.R_alloc | apply Kd.R_drewN | apply Kd.R_drew)); exact Kd.R_mono bE.out oY), fun _ => (by (with_reducible repeat (first | apply Kd.V_alloc | apply Kd.V_drewN | apply Kd.V_drew)); exact Kd.V_mono bI.out oY), fun _ => (by (with_reducible repeat (first | apply Kd.R_alloc | apply Kd.R_drewN | apply Kd.R_drew)); exact Kd.R_mono bK.out oY), fun _ => (by (with_reducible repeat (first | apply Kd.V_alloc | apply Kd.V_drewN | apply Kd.V_drew)); exact Kd.V_mono bW.out oY), fun _ => (by (with_reducible repeat (first | apply Kd.R_alloc | apply Kd.R_drewN | apply Kd.R_drew)); exact Kd.R_mono bP.out oY), fun _ => (by (with_reducible repeat (first | apply Kd.V_alloc | apply Kd.V_drewN | apply Kd.V_drew)); exact Kd.V_mono bX.out oY), fun _ => (by (with_reducible repeat (first | apply Kd.R_alloc | apply Kd.R_drewN | apply Kd.R_drew)); exact Kd.R_mono cF.out oY), oF (hoff 23 oK), fI, oF (hoff 28 oK), oF (hoff 35 oK), oF (hoff 36 oK), oF (hoff 40 oK), oF (hoff 41 oK), bR, bJ, bM, oF (hoff 23 oK), oF (hoff 28 oK), oF (hoff 36 oK), oF (hoff 41 oK)⟩
             refine steps_cons ?_ ?_
             ·intro b a w' hR_
              refine hide_ (fun G_ hG_ => exVVVVVVVVVVVVVVVVVVVVV_ hR_ (fun cM cW cJ cN cG cX cK cO cH cY cL cP cI cZ dK cQ cR cS cT cU cV hS_ => an33_ hS_ (fun ha aO aF aG aH aI aJ aK aL aM aN Q_HB aQ aT aZ bA aY bB bD bF bC bG bN bO bL bS bR bJ bM bQ bU bZ cC => ?_)))
              refine hG_ ?_
              clear hG_ hR_ hS_
              intro hb_ hon hoff
              refine ⟨_, rfl, fun K hK => ?_⟩
              have mW : a.tmps[125]? = some (.agg #[.int .i64 aB, .int .i64 aA, .slice dH cA.length dG]) := by rw [ha]; exact putSel_on (e := (19, 125, .agg #[.int .i64 aB, .int .i64 aA, .slice dH cA.length dG])) 19 rfl rfl (hon 19 oK) rfl
              have mX : a.tmps[128]? = some (cK) := by rw [ha]; exact putSel_on (e := (22, 128, cK)) 22 rfl rfl (hon 22 oK) rfl
              have dY : a.tmps[124]? = some (.bool true) := by rw [ha]; exact putSel_on (e := (18, 124, .bool true)) 18 rfl rfl (hon 18 oK) rfl
              replace ha := Aside0.mk ha
              obtain ⟨aS, aC, aD, aE, aP, aR, aU, aV, aW, aX, HB, bE, bI, bK, bW, bP, bX, cF⟩ := o2_ aO (o2_ aF (o2_ aG (o2_ aH (o2_ aI (o2_ aJ (o2_ aK (o2_ aL (o2_ aM (o2_ aN (o2_ Q_HB (o2_ (aQ (hon 2 oK)) (o2_ (aT (hon 3 oK)) (o2_ (aZ (hon 9 oK)) (o2_ (bA (hon 10 oK)) (o2_ (aY (hon 14 oK)) (o2_ (bB (hon 15 oK)) (o1_ (bD (hon 22 oK)))))))))))))))))))
              obtain ⟨jV, kN, kY⟩ := Kd.R_slice cF.out
              (first | subst kY | (injection kY with f1_ f2_ f3_; have f4_ := f1_.symm; have f5_ := f3_.symm; clear f1_ f2_ f3_; subst f4_; subst f5_))
              refine goes_ Try.func27 oK rfl #[.agg #[.int .i64 aB, .int .i64 aA, .slice dH cA.length dG], .slice jV y705.length kN] (by first | rfl | exact wanted_on rfl rfl rfl (by assumption)) rfl rfl (by first | (simp only [List.map_toArray, List.map_cons, List.map_nil, Act.eval, Array.getD_eq_getD_getElem?, Option.getD_some, mW, mX, dY]; done) | (simp only [List.map_toArray, List.map_cons, List.map_nil, Act.eval, Array.getD_eq_getD_getElem?, Option.getD_some, mW, mX, dY]; rfl)) ?_
              with_reducible refine (laws_eaDo.calls kj2 aB aA (fun k_ => some k_ = (.slice dH cA.length dG : Value).ownBlock) _ _ cA _ _ y705 iP iQ fQ _ ?side1 ?side2 ?side3 yJ.out).mono ?_
              (case side1 => exact Kd.Q_V (Kd.Q_tight rfl (Kd.Q_types (Kd.Q_types (Kd.Q_types (Kd.Q_types (Kd.Q_types (Kd.Q_types (Kd.Q_types (Kd.Q_types (Kd.Q_types (Kd.Q_apart' (Kd.Q_apart' (Kd.Q_apart' (Kd.Q_apart' (aS.out) (Kd.R_typed bE.out) oD) (Kd.R_typed bK.out) oD) (Kd.R_typed bP.out) oD) (Kd.R_typed cF.out) oD) aC.out oD) aD.out oD) aE.out oD) aP.out oD) aR.out oD) aU.out oD) aV.out oD) aW.out oD) aX.out oD)))
              (case side2 => repeat (first | exact (Kd.R_reads' cF.out).2.2 | (with_reducible refine Kd.C_alloc ?_ _) | (with_reducible refine Kd.C_drewN ?_ _) | (with_reducible refine Kd.C_drew ?_)))
              (case side3 => exact (Kd.R_reads' cF.out).2.1)
              rintro e uF ⟨cO, rfl, ho0, hb⟩
              refine ⟨_, rfl, ?_⟩
              have eJ := Aside0.mk (Kd.Q_below aS.out hb)
              have eK := Aside0.mk (Kd.R_below bE.out hb)
              have eL := Aside0.mk (Kd.V_below bI.out hb)
              have eM := Aside0.mk (Kd.R_below bK.out hb)
              have eN := Aside0.mk (Kd.V_below bW.out hb)
              have eO := Aside0.mk (Kd.R_below bP.out hb)
              have eP := Aside0.mk (Kd.V_below bX.out hb)
              have eQ := Aside0.mk (Kd.R_below cF.out hb)
              have hq_ := (Kd.Q_types (Kd.Q_types (Kd.Q_types (Kd.Q_types (Kd.Q_types (Kd.Q_types (Kd.Q_types (Kd.Q_types (Kd.Q_types (Kd.Q_apart' (Kd.Q_apart' (Kd.Q_apart' (Kd.Q_apart' (aS.out) (Kd.R_typed bE.out) oD) (Kd.R_typed bK.out) oD) (Kd.R_typed bP.out) oD) (Kd.R_typed cF.out) oD) aC.out oD) aD.out oD) aE.out oD) aP.out oD) aR.out oD) aU.out oD) aV.out oD) aW.out oD) aX.out oD)
              have eR := Aside0.mk (Kd.V_lower (Kd.V_mono (ok' := fun k_ => k_ ≠ bT ∧ k_ ≠ cB ∧ k_ ≠ bY ∧ k_ ≠ dA ∧ k_ ≠ dB ∧ k_ ≠ dC ∧ k_ ≠ cD ∧ k_ ≠ cE ∧ k_ ≠ bH) ho0 (fun k_ hk_ => ⟨Or.elim hk_ (fun hs_ => (hq_.1 k_ hs_.symm).1.1.1.1.1.1.1.1.2) (fun hn_ => (Kd.freshB aC.out k_ hn_)), Or.elim hk_ (fun hs_ => (hq_.1 k_ hs_.symm).1.1.1.1.1.1.1.2) (fun hn_ => (Kd.freshB aD.out k_ hn_)), Or.elim hk_ (fun hs_ => (hq_.1 k_ hs_.symm).1.1.1.1.1.1.2) (fun hn_ => (Kd.freshB aE.out k_ hn_)), Or.elim hk_ (fun hs_ => (hq_.1 k_ hs_.symm).1.1.1.1.1.2) (fun hn_ => (Kd.freshB aP.out k_ hn_)), Or.elim hk_ (fun hs_ => (hq_.1 k_ hs_.symm).1.1.1.1.2) (fun hn_ => (Kd.freshB aR.out k_ hn_)), Or.elim hk_ (fun hs_ => (hq_.1 k_ hs_.symm).1.1.1.2) (fun hn_ => (Kd.freshB aU.out k_ hn_)), Or.elim hk_ (fun hs_ => (hq_.1 k_ hs_.symm).1.1.2) (fun hn_ => (Kd.freshB aV.out k_ hn_)), Or.elim hk_ (fun hs_ => (hq_.1 k_ hs_.symm).1.2) (fun hn_ => (Kd.freshB aW.out k_ hn_)), Or.elim hk_ (fun hs_ => (hq_.1 k_ hs_.symm).2) (fun hn_ => (Kd.freshB aX.out k_ hn_))⟩)) (below_size (oB HB)))
              clear hq_
              have eS := Aside0.mk (blk_below aC.out hb)
              have dO := Aside0.mk (blk_below aD.out hb)
              have dS := Aside0.mk (blk_below aE.out hb)
              have dT := Aside0.mk (blk_below aP.out hb)
              have dU := Aside0.mk (blk_below aR.out hb)
              have eA := Aside0.mk (blk_below aU.out hb)
              have eG := Aside0.mk (blk_below aV.out hb)
              have eH := Aside0.mk (blk_below aW.out hb)
              have eI := Aside0.mk (blk_below aX.out hb)
              have eZ := Aside0.mk (below_step (oB HB) hb)
              have fI := fun (h0_ : b 27 = true) => (show Kd.R k27 27 uF w.heap.size (fun k_ => k_ ≠ cB ∧ k_ ≠ bY ∧ k_ ≠ dA ∧ k_ ≠ dB ∧ k_ ≠ dC ∧ k_ ≠ cD ∧ k_ ≠ cE ∧ k_ ≠ bH) cH y713 from by first | exact (Kd.R_below (uR ((bC h0_))) hb) | exact Kd.R_mono (Kd.R_below (uR ((bC h0_))) hb) (fun _ h_ => by first | trivial | exact h_ | exact h_.1))
              clear aS
              clear bE
              clear bI
              clear bK
              clear bW
              clear bP
              clear bX
              clear cF
              clear aC
              clear aD
              clear aE
              clear aP
              clear aR
              clear aU
              clear aV
              clear aW
              clear aX
              clear HB
              have aS := eJ
              have bE := eK
              have bI := eL
              have bK := eM
              have bW := eN
              have bP := eO
              have bX := eP
              have cF := eQ
              have dE := eR
              have aC := eS
              have aD := dO
              have aE := dS
              have aP := dT
              have aR := dU
              have aU := eA
              have aV := eG
              have aW := eH
              have aX := eI
              have HB := eZ
              clear eJ eK eL eM eN eO eP eQ eR eS dO dS dT dU eA eG eH eI eZ
              (try clear hb)
              (try clear hb2)
              (try clear hk)
              (try clear hi)
              (try clear ho0)
              refine hK.out _ _ ⟨cM, cW, cJ, cN, cG, cX, .slice jV y705.length kN, cO, cH, cY, cL, cP, cI, cZ, dK, cQ, cR, (.agg #[.int .i64 iP, .int .i64 iQ, cO]), cT, cU, cV, (by rw [ha.out]; exact putSel_upk 23 hb_ rfl rfl rfl), aS.out, aC.out, aD.out, aE.out, aP.out, aR.out, aU.out, aV.out, aW.out, aX.out, (oB HB), fun _ => bE.out, fun _ => bI.out, fun _ => bK.out, fun _ => bW.out, fun _ => bP.out, fun _ => bX.out, fun _ => cF.out, fun _ => dE.out, fI, oF (hoff 28 oK), oF (hoff 35 oK), oF (hoff 36 oK), oF (hoff 40 oK), oF (hoff 41 oK), bR, bJ, bM, fun _ => rfl, oF (hoff 28 oK), oF (hoff 36 oK), oF (hoff 41 oK)⟩
             refine steps_cons ?_ ?_
             ·intro b a w' hR_
              refine hide_ (fun G_ hG_ => exVVVVVVVVVVVVVVVVVVVVV_ hR_ (fun cM cW cJ cN cG cX cK cO cH cY cL cP cI cZ dK cQ cR cS cT cU cV hS_ => an33_ hS_ (fun ha aO aF aG aH aI aJ aK aL aM aN Q_HB aQ aT aZ bA aY bB bD bF bC bG bN bO bL bS bR bJ bM bQ bU bZ cC => ?_)))
              refine hG_ ?_
              clear hG_ hR_ hS_
              intro hb_ hon hoff
              refine ⟨_, rfl, fun K hK => ?_⟩
              have e5 : a.tmps[5]? = some (.pointer (some ⟨bT, 0, none⟩)) := by rw [ha]; exact (putSel_off rfl).trans rfl
              have dY : a.tmps[124]? = some (.bool true) := by rw [ha]; exact putSel_on (e := (18, 124, .bool true)) 18 rfl rfl (hon 18 oK) rfl
              replace ha := Aside0.mk ha
              obtain ⟨aS, aC, aD, aE, aP, aR, aU, aV, aW, aX, HB, bE, bI, bK, bW, bP, bX⟩ := o2_ aO (o2_ aF (o2_ aG (o2_ aH (o2_ aI (o2_ aJ (o2_ aK (o2_ aL (o2_ aM (o2_ aN (o2_ Q_HB (o2_ (aQ (hon 2 oK)) (o2_ (aT (hon 3 oK)) (o2_ (aZ (hon 9 oK)) (o2_ (bA (hon 10 oK)) (o2_ (aY (hon 14 oK)) (o1_ (bB (hon 15 oK))))))))))))))))))
              have eB : w'.cell? ⟨bT, 0, none⟩ = some (.int .i64 aB) := (blk_cell aC.out 0).trans rfl
              have eC : w'.cell? ⟨bT, 1, none⟩ = some (.int .i64 aA) := (blk_cell aC.out 1).trans rfl
              have eD : w'.cell? ⟨bT, 2, none⟩ = some (.slice dH cA.length dG) := (blk_cell aC.out 2).trans rfl
              refine value_ (w1 := w') (v := .agg #[.int .i64 aB, .int .i64 aA, .slice dH cA.length dG]) (wanted_on rfl rfl rfl (dY.trans (by first | rfl | (simp [*]; done)))) rfl ?_ ?_
              ·go_simp
               (try simp only [i64_w])
               try rfl
              refine hK.out _ _ ⟨cM, cW, cJ, cN, cG, cX, cK, cO, cH, cY, cL, cP, cI, cZ, dK, cQ, cR, cS, cT, cU, cV, (by rw [ha.out]; exact putSel_upk 24 hb_ rfl rfl rfl), aO, aF, aG, aH, aI, aJ, aK, aL, aM, aN, Q_HB, aQ, aT, aZ, bA, aY, bB, bD, bF, bC, oF (hoff 28 oK), oF (hoff 35 oK), oF (hoff 36 oK), oF (hoff 40 oK), oF (hoff 41 oK), bR, bJ, bM, bQ, oF (hoff 28 oK), oF (hoff 36 oK), oF (hoff 41 oK)⟩
             refine steps_cons ?_ ?_
             ·intro b a w' hR_
              refine hide_ (fun G_ hG_ => exVVVVVVVVVVVVVVVVVVVVV_ hR_ (fun cM cW cJ cN cG cX cK cO cH cY cL cP cI cZ dK cQ cR cS cT cU cV hS_ => an33_ hS_ (fun ha aO aF aG aH aI aJ aK aL aM aN Q_HB aQ aT aZ bA aY bB bD bF bC bG bN bO bL bS bR bJ bM bQ bU bZ cC => ?_)))
              refine hG_ ?_
              clear hG_ hR_ hS_
              intro hb_ hon hoff
              refine ⟨_, rfl, fun K hK => ?_⟩
              have zM : a.tmps[17]? = some (.pointer (some ⟨cE, 0, none⟩)) := by rw [ha]; exact (putSel_off rfl).trans rfl
              have dY : a.tmps[124]? = some (.bool true) := by rw [ha]; exact putSel_on (e := (18, 124, .bool true)) 18 rfl rfl (hon 18 oK) rfl
              replace ha := Aside0.mk ha
              obtain ⟨aS, aC, aD, aE, aP, aR, aU, aV, aW, aX, HB, bE, bI, bK, bW, bP, bX⟩ := o2_ aO (o2_ aF (o2_ aG (o2_ aH (o2_ aI (o2_ aJ (o2_ aK (o2_ aL (o2_ aM (o2_ aN (o2_ Q_HB (o2_ (aQ (hon 2 oK)) (o2_ (aT (hon 3 oK)) (o2_ (aZ (hon 9 oK)) (o2_ (bA (hon 10 oK)) (o2_ (aY (hon 14 oK)) (o1_ (bB (hon 15 oK))))))))))))))))))
              have eB : w'.cell? ⟨cE, 0, none⟩ = some (.int .i64 3) := (blk_cell aW.out 0).trans rfl
              have eC : w'.cell? ⟨cE, 1, none⟩ = some (.int .i64 0) := (blk_cell aW.out 1).trans rfl
              have eD : w'.cell? ⟨cE, 2, none⟩ = some (.int .i64 0) := (blk_cell aW.out 2).trans rfl
              have eV : w'.cell? ⟨cE, 3, none⟩ = some (.int .i64 0) := (blk_cell aW.out 3).trans rfl
              have eW : w'.cell? ⟨cE, 4, none⟩ = some (.int .i64 0) := (blk_cell aW.out 4).trans rfl
              refine value_ (w1 := w') (v := .agg #[.int .i64 3, .int .i64 0, .int .i64 0, .int .i64 0, .int .i64 0]) (wanted_on rfl rfl rfl (dY.trans (by first | rfl | (simp [*]; done)))) rfl ?_ ?_
              ·go_simp
               (try simp only [i64_w])
               try rfl
              refine hK.out _ _ ⟨cM, cW, cJ, cN, cG, cX, cK, cO, cH, cY, cL, cP, cI, cZ, dK, cQ, cR, cS, cT, cU, cV, (by rw [ha.out]; exact putSel_upk 25 hb_ rfl rfl rfl), aO, aF, aG, aH, aI, aJ, aK, aL, aM, aN, Q_HB, aQ, aT, aZ, bA, aY, bB, bD, bF, oF (hoff 27 oK), oF (hoff 28 oK), oF (hoff 35 oK), oF (hoff 36 oK), oF (hoff 40 oK), oF (hoff 41 oK), bR, bJ, bM, bQ, oF (hoff 28 oK), oF (hoff 36 oK), oF (hoff 41 oK)⟩
             refine steps_cons ?_ ?_
             ·intro b a w' hR_
              refine hide_ (fun G_ hG_ => exVVVVVVVVVVVVVVVVVVVVV_ hR_ (fun cM cW cJ cN cG cX cK cO cH cY cL cP cI cZ dK cQ cR cS cT cU cV hS_ => an33_ hS_ (fun ha aO aF aG aH aI aJ aK aL aM aN Q_HB aQ aT aZ bA aY bB bD bF bC bG bN bO bL bS bR bJ bM bQ bU bZ cC => ?_)))
              refine hG_ ?_
              clear hG_ hR_ hS_
              intro hb_ hon hoff
              refine ⟨_, rfl, fun K hK => ?_⟩
              have e14 : a.tmps[14]? = some (.pointer (some ⟨dB, 0, none⟩)) := by rw [ha]; exact (putSel_off rfl).trans rfl
              have dY : a.tmps[124]? = some (.bool true) := by rw [ha]; exact putSel_on (e := (18, 124, .bool true)) 18 rfl rfl (hon 18 oK) rfl
              replace ha := Aside0.mk ha
              obtain ⟨aS, aC, aD, aE, aP, aR, aU, aV, aW, aX, HB, bE, bI, bK, bW, bP, bX⟩ := o2_ aO (o2_ aF (o2_ aG (o2_ aH (o2_ aI (o2_ aJ (o2_ aK (o2_ aL (o2_ aM (o2_ aN (o2_ Q_HB (o2_ (aQ (hon 2 oK)) (o2_ (aT (hon 3 oK)) (o2_ (aZ (hon 9 oK)) (o2_ (bA (hon 10 oK)) (o2_ (aY (hon 14 oK)) (o1_ (bB (hon 15 oK))))))))))))))))))
              have eB : w'.cell? ⟨dB, 0, none⟩ = some (.int .i64 1) := (blk_cell aR.out 0).trans rfl
              have eC : w'.cell? ⟨dB, 1, none⟩ = some (.int .i64 ((l1.length : Int) % aB)) := (blk_cell aR.out 1).trans rfl
              have eD : w'.cell? ⟨dB, 2, none⟩ = some (.int .i64 (wrap64 ((wrap64 (aA - (Int.tmod (wrap64 ((l1.length : Int) / 7)) aA))) - (wrap64 (1 + (Int.tmod (wrap64 ((l1.length : Int) / 5)) (wrap64 (aA - (Int.tmod (wrap64 ((l1.length : Int) / 7)) aA))))))))) := (blk_cell aR.out 2).trans rfl
              have eV : w'.cell? ⟨dB, 3, none⟩ = some (.int .i64 (wrap64 (1 + (Int.tmod (wrap64 ((l1.length : Int) / 3)) (wrap64 (aB - ((l1.length : Int) % aB))))))) := (blk_cell aR.out 3).trans rfl
              have eW : w'.cell? ⟨dB, 4, none⟩ = some (.int .i64 (wrap64 (1 + (Int.tmod (wrap64 ((l1.length : Int) / 5)) (wrap64 (aA - (Int.tmod (wrap64 ((l1.length : Int) / 7)) aA))))))) := (blk_cell aR.out 4).trans rfl
              refine value_ (w1 := w') (v := .agg #[.int .i64 1, .int .i64 ((l1.length : Int) % aB), .int .i64 (wrap64 ((wrap64 (aA - (Int.tmod (wrap64 ((l1.length : Int) / 7)) aA))) - (wrap64 (1 + (Int.tmod (wrap64 ((l1.length : Int) / 5)) (wrap64 (aA - (Int.tmod (wrap64 ((l1.length : Int) / 7)) aA)))))))), .int .i64 (wrap64 (1 + (Int.tmod (wrap64 ((l1.length : Int) / 3)) (wrap64 (aB - ((l1.length : Int) % aB)))))), .int .i64 (wrap64 (1 + (Int.tmod (wrap64 ((l1.length : Int) / 5)) (wrap64 (aA - (Int.tmod (wrap64 ((l1.length : Int) / 7)) aA))))))]) (wanted_on rfl rfl rfl (dY.trans (by first | rfl | (simp [*]; done)))) rfl ?_ ?_
              ·go_simp
               (try simp only [i64_w])
               try rfl
              refine hK.out _ _ ⟨cM, cW, cJ, cN, cG, cX, cK, cO, cH, cY, cL, cP, cI, cZ, dK, cQ, cR, cS, cT, cU, cV, (by rw [ha.out]; exact putSel_upk 26 hb_ rfl rfl rfl), aO, aF, aG, aH, aI, aJ, aK, aL, aM, aN, Q_HB, aQ, aT, aZ, bA, aY, bB, bD, bF, oF (hoff 27 oK), oF (hoff 28 oK), oF (hoff 35 oK), oF (hoff 36 oK), oF (hoff 40 oK), oF (hoff 41 oK), bR, bJ, bM, bQ, oF (hoff 28 oK), oF (hoff 36 oK), oF (hoff 41 oK)⟩
             refine steps_cons ?_ ?_
             ·intro b a w' hR_
              refine hide_ (fun G_ hG_ => exVVVVVVVVVVVVVVVVVVVVV_ hR_ (fun cM cW cJ cN cG cX cK cO cH cY cL cP cI cZ dK cQ cR cS cT cU cV hS_ => an33_ hS_ (fun ha aO aF aG aH aI aJ aK aL aM aN Q_HB aQ aT aZ bA aY bB bD bF bC bG bN bO bL bS bR bJ bM bQ bU bZ cC => ?_)))
              refine hG_ ?_
              clear hG_ hR_ hS_
              intro hb_ hon hoff
              refine ⟨_, rfl, fun K hK => ?_⟩
              have zB : a.tmps[131]? = some (.agg #[.int .i64 3, .int .i64 0, .int .i64 0, .int .i64 0, .int .i64 0]) := by rw [ha]; exact putSel_on (e := (25, 131, .agg #[.int .i64 3, .int .i64 0, .int .i64 0, .int .i64 0, .int .i64 0])) 25 rfl rfl (hon 25 oK) rfl
              have zC : a.tmps[132]? = some (.agg #[.int .i64 1, .int .i64 ((l1.length : Int) % aB), .int .i64 (wrap64 ((wrap64 (aA - (Int.tmod (wrap64 ((l1.length : Int) / 7)) aA))) - (wrap64 (1 + (Int.tmod (wrap64 ((l1.length : Int) / 5)) (wrap64 (aA - (Int.tmod (wrap64 ((l1.length : Int) / 7)) aA)))))))), .int .i64 (wrap64 (1 + (Int.tmod (wrap64 ((l1.length : Int) / 3)) (wrap64 (aB - ((l1.length : Int) % aB)))))), .int .i64 (wrap64 (1 + (Int.tmod (wrap64 ((l1.length : Int) / 5)) (wrap64 (aA - (Int.tmod (wrap64 ((l1.length : Int) / 7)) aA))))))]) := by rw [ha]; exact putSel_on (e := (26, 132, .agg #[.int .i64 1, .int .i64 ((l1.length : Int) % aB), .int .i64 (wrap64 ((wrap64 (aA - (Int.tmod (wrap64 ((l1.length : Int) / 7)) aA))) - (wrap64 (1 + (Int.tmod (wrap64 ((l1.length : Int) / 5)) (wrap64 (aA - (Int.tmod (wrap64 ((l1.length : Int) / 7)) aA)))))))), .int .i64 (wrap64 (1 + (Int.tmod (wrap64 ((l1.length : Int) / 3)) (wrap64 (aB - ((l1.length : Int) % aB)))))), .int .i64 (wrap64 (1 + (Int.tmod (wrap64 ((l1.length : Int) / 5)) (wrap64 (aA - (Int.tmod (wrap64 ((l1.length : Int) / 7)) aA))))))])) 26 rfl rfl (hon 26 oK) rfl
              have dY : a.tmps[124]? = some (.bool true) := by rw [ha]; exact putSel_on (e := (18, 124, .bool true)) 18 rfl rfl (hon 18 oK) rfl
              replace ha := Aside0.mk ha
              obtain ⟨aS, aC, aD, aE, aP, aR, aU, aV, aW, aX, HB, bE, bI, bK, bW, bP, bX⟩ := o2_ aO (o2_ aF (o2_ aG (o2_ aH (o2_ aI (o2_ aJ (o2_ aK (o2_ aL (o2_ aM (o2_ aN (o2_ Q_HB (o2_ (aQ (hon 2 oK)) (o2_ (aT (hon 3 oK)) (o2_ (aZ (hon 9 oK)) (o2_ (bA (hon 10 oK)) (o2_ (aY (hon 14 oK)) (o1_ (bB (hon 15 oK))))))))))))))))))
              refine Kd.R_lit_step k27 _ 27 ?hg (N := 133) ?hd (xs := ([(⟨3, 0, 0, 0, 0⟩ : S27), (⟨1, (l1.length : Int) % aB, wrap64 ((wrap64 (aA - (Int.tmod (wrap64 ((l1.length : Int) / 7)) aA))) - (wrap64 (1 + (Int.tmod (wrap64 ((l1.length : Int) / 5)) (wrap64 (aA - (Int.tmod (wrap64 ((l1.length : Int) / 7)) aA))))))), wrap64 (1 + (Int.tmod (wrap64 ((l1.length : Int) / 3)) (wrap64 (aB - ((l1.length : Int) % aB))))), wrap64 (1 + (Int.tmod (wrap64 ((l1.length : Int) / 5)) (wrap64 (aA - (Int.tmod (wrap64 ((l1.length : Int) / 7)) aA)))))⟩ : S27)] : List (S27))) (inner := [.int .i64 3, .int .i64 0, .int .i64 0, .int .i64 0, .int .i64 0, .int .i64 1, .int .i64 ((l1.length : Int) % aB), .int .i64 (wrap64 ((wrap64 (aA - (Int.tmod (wrap64 ((l1.length : Int) / 7)) aA))) - (wrap64 (1 + (Int.tmod (wrap64 ((l1.length : Int) / 5)) (wrap64 (aA - (Int.tmod (wrap64 ((l1.length : Int) / 7)) aA)))))))), .int .i64 (wrap64 (1 + (Int.tmod (wrap64 ((l1.length : Int) / 3)) (wrap64 (aB - ((l1.length : Int) % aB)))))), .int .i64 (wrap64 (1 + (Int.tmod (wrap64 ((l1.length : Int) / 5)) (wrap64 (aA - (Int.tmod (wrap64 ((l1.length : Int) / 7)) aA))))))]) (ok := fun _ => True) (okp := fun _ => True) ?hr ?hp (fun _ hk => hk) trivial (Below.refl _ _) (Nat.le_refl _) (by simp) ?_; (case hd => rfl); (case hg => first | rfl | exact wanted_on rfl rfl rfl (by assumption)); (case hr => first | (go_simp; done) | (go_simp; rfl)); (case hp => exact (Reps.c5 (show Kd.M k27 _ _ _ (⟨3, 0, 0, 0, 0⟩ : S27) [.int .i64 3, .int .i64 0, .int .i64 0, .int .i64 0, .int .i64 0] from (k27_mkM _ _ _ (⟨3, 0, 0, 0, 0⟩ : S27) )) (Reps.c5 (show Kd.M k27 _ _ _ (⟨1, (l1.length : Int) % aB, wrap64 ((wrap64 (aA - (Int.tmod (wrap64 ((l1.length : Int) / 7)) aA))) - (wrap64 (1 + (Int.tmod (wrap64 ((l1.length : Int) / 5)) (wrap64 (aA - (Int.tmod (wrap64 ((l1.length : Int) / 7)) aA))))))), wrap64 (1 + (Int.tmod (wrap64 ((l1.length : Int) / 3)) (wrap64 (aB - ((l1.length : Int) % aB))))), wrap64 (1 + (Int.tmod (wrap64 ((l1.length : Int) / 5)) (wrap64 (aA - (Int.tmod (wrap64 ((l1.length : Int) / 7)) aA)))))⟩ : S27) [.int .i64 1, .int .i64 ((l1.length : Int) % aB), .int .i64 (wrap64 ((wrap64 (aA - (Int.tmod (wrap64 ((l1.length : Int) / 7)) aA))) - (wrap64 (1 + (Int.tmod (wrap64 ((l1.length : Int) / 5)) (wrap64 (aA - (Int.tmod (wrap64 ((l1.length : Int) / 7)) aA)))))))), .int .i64 (wrap64 (1 + (Int.tmod (wrap64 ((l1.length : Int) / 3)) (wrap64 (aB - ((l1.length : Int) % aB)))))), .int .i64 (wrap64 (1 + (Int.tmod (wrap64 ((l1.length : Int) / 5)) (wrap64 (aA - (Int.tmod (wrap64 ((l1.length : Int) / 7)) aA))))))] from (k27_mkM _ _ _ (⟨1, (l1.length : Int) % aB, wrap64 ((wrap64 (aA - (Int.tmod (wrap64 ((l1.length : Int) / 7)) aA))) - (wrap64 (1 + (Int.tmod (wrap64 ((l1.length : Int) / 5)) (wrap64 (aA - (Int.tmod (wrap64 ((l1.length : Int) / 7)) aA))))))), wrap64 (1 + (Int.tmod (wrap64 ((l1.length : Int) / 3)) (wrap64 (aB - ((l1.length : Int) % aB))))), wrap64 (1 + (Int.tmod (wrap64 ((l1.length : Int) / 5)) (wrap64 (aA - (Int.tmod (wrap64 ((l1.length : Int) / 7)) aA)))))⟩ : S27) )) (Reps.none _ _))))
              intro cH jI ho109 hb hg_ hnew_
              clear hg_ hnew_
              (first | rw [← kH.out] at ho109 | (simp only [Int.reduceToNat] at ho109; rw [← kH.out] at ho109))
              have eJ := Aside0.mk (Kd.Q_below aS.out hb)
              have eK := Aside0.mk (Kd.R_elder' bE.out (Kd.R_base ho109) hb)
              have eL := Aside0.mk (Kd.V_elder' bI.out (Kd.R_base ho109) hb)
              have eM := Aside0.mk (Kd.R_elder' bK.out (Kd.R_base ho109) hb)
              have eN := Aside0.mk (Kd.V_elder' bW.out (Kd.R_base ho109) hb)
              have eO := Aside0.mk (Kd.R_elder' bP.out (Kd.R_base ho109) hb)
              have eP := Aside0.mk (Kd.V_elder' bX.out (Kd.R_base ho109) hb)
              have eQ := Aside0.mk (Kd.R_lower (Kd.R_newB (Kd.R_newB (Kd.R_newB (Kd.R_newB (Kd.R_newB (Kd.R_newB (Kd.R_newB (Kd.R_newB (Kd.R_new' (Kd.R_new' (Kd.R_new' ho109 (Kd.R_lt bE.out)) (Kd.R_lt bK.out)) (Kd.R_lt bP.out)) aD.out) aE.out) aP.out) aR.out) aU.out) aV.out) aW.out) aX.out) (below_size (oB HB)))
              have eR := Aside0.mk (blk_below aC.out hb)
              have eS := Aside0.mk (blk_below aD.out hb)
              have dO := Aside0.mk (blk_below aE.out hb)
              have dS := Aside0.mk (blk_below aP.out hb)
              have dT := Aside0.mk (blk_below aR.out hb)
              have dU := Aside0.mk (blk_below aU.out hb)
              have eA := Aside0.mk (blk_below aV.out hb)
              have eG := Aside0.mk (blk_below aW.out hb)
              have eH := Aside0.mk (blk_below aX.out hb)
              have eI := Aside0.mk (below_step (oB HB) hb)
              have jM := fun (h0_ : b 22 = true) => (show Kd.R k27 27 jI w.heap.size (fun k_ => k_ ≠ cB ∧ k_ ≠ bY ∧ k_ ≠ dA ∧ k_ ≠ dB ∧ k_ ≠ dC ∧ k_ ≠ cD ∧ k_ ≠ cE ∧ k_ ≠ bH) cK y705 from by first | exact (Kd.R_elder' (uR ((bD h0_))) (Kd.R_base ho109) hb) | exact Kd.R_mono (Kd.R_elder' (uR ((bD h0_))) (Kd.R_base ho109) hb) (fun _ h_ => by first | trivial | exact h_ | exact h_.1))
              have jN := fun (h0_ : b 23 = true) => (show Kd.V k38 38 jI w.heap.size (fun k_ => k_ ≠ bT ∧ k_ ≠ cB ∧ k_ ≠ bY ∧ k_ ≠ dA ∧ k_ ≠ dB ∧ k_ ≠ dC ∧ k_ ≠ cD ∧ k_ ≠ cE ∧ k_ ≠ bH) cO fQ from by first | exact (Kd.V_elder' (uV ((bF h0_))) (Kd.R_base ho109) hb) | exact Kd.V_mono (Kd.V_elder' (uV ((bF h0_))) (Kd.R_base ho109) hb) (fun _ h_ => by first | trivial | exact h_ | exact h_.1))
              clear aS
              clear bE
              clear bI
              clear bK
              clear bW
              clear bP
              clear bX
              clear aC
              clear aD
              clear aE
              clear aP
              clear aR
              clear aU
              clear aV
              clear aW
              clear aX
              clear HB
              have aS := eJ
              have bE := eK
              have bI := eL
              have bK := eM
              have bW := eN
              have bP := eO
              have bX := eP
              have dD := eQ
              have aC := eR
              have aD := eS
              have aE := dO
              have aP := dS
              have aR := dT
              have aU := dU
              have aV := eA
              have aW := eG
              have aX := eH
              have HB := eI
              clear eJ eK eL eM eN eO eP eQ eR eS dO dS dT dU eA eG eH eI
              clear hb ho109
              refine hK.out _ _ ⟨cM, cW, cJ, cN, cG, cX, cK, cO, cH, cY, cL, cP, cI, cZ, dK, cQ, cR, cS, cT, cU, cV, (by rw [ha.out]; exact putSel_upk 27 hb_ rfl rfl rfl), aS.out, aC.out, aD.out, aE.out, aP.out, aR.out, aU.out, aV.out, aW.out, aX.out, (oB HB), fun _ => (by (with_reducible repeat (first | apply Kd.R_alloc | apply Kd.R_drewN | apply Kd.R_drew)); exact Kd.R_mono bE.out oY), fun _ => (by (with_reducible repeat (first | apply Kd.V_alloc | apply Kd.V_drewN | apply Kd.V_drew)); exact Kd.V_mono bI.out oY), fun _ => (by (with_reducible repeat (first | apply Kd.R_alloc | apply Kd.R_drewN | apply Kd.R_drew)); exact Kd.R_mono bK.out oY), fun _ => (by (with_reducible repeat (first | apply Kd.V_alloc | apply Kd.V_drewN | apply Kd.V_drew)); exact Kd.V_mono bW.out oY), fun _ => (by (with_reducible repeat (first | apply Kd.R_alloc | apply Kd.R_drewN | apply Kd.R_drew)); exact Kd.R_mono bP.out oY), fun _ => (by (with_reducible repeat (first | apply Kd.V_alloc | apply Kd.V_drewN | apply Kd.V_drew)); exact Kd.V_mono bX.out oY), jM, jN, fun _ => (by (with_reducible repeat (first | apply Kd.R_alloc | apply Kd.R_drewN | apply Kd.R_drew)); exact Kd.R_mono dD.out oY), oF (hoff 28 oK), oF (hoff 35 oK), oF (hoff 36 oK), oF (hoff 40 oK), oF (hoff 41 oK), bR, bJ, bM, bQ, oF (hoff 28 oK), oF (hoff 36 oK), oF (hoff 41 oK)⟩
             refine steps_cons ?_ ?_
             ·intro b a w' hR_
              refine hide_ (fun G_ hG_ => exVVVVVVVVVVVVVVVVVVVVV_ hR_ (fun cM cW cJ cN cG cX cK cO cH cY cL cP cI cZ dK cQ cR cS cT cU cV hS_ => an33_ hS_ (fun ha aO aF aG aH aI aJ aK aL aM aN Q_HB aQ aT aZ bA aY bB bD bF bC bG bN bO bL bS bR bJ bM bQ bU bZ cC => ?_)))
              refine hG_ ?_
              clear hG_ hR_ hS_
              intro hb_ hon hoff
              refine ⟨_, rfl, fun K hK => ?_⟩
              have mY : a.tmps[130]? = some (.agg #[.int .i64 aB, .int .i64 aA, .slice dH cA.length dG]) := by rw [ha]; exact putSel_on (e := (24, 130, .agg #[.int .i64 aB, .int .i64 aA, .slice dH cA.length dG])) 24 rfl rfl (hon 24 oK) rfl
              have mZ : a.tmps[133]? = some (cH) := by rw [ha]; exact putSel_on (e := (27, 133, cH)) 27 rfl rfl (hon 27 oK) rfl
              have dY : a.tmps[124]? = some (.bool true) := by rw [ha]; exact putSel_on (e := (18, 124, .bool true)) 18 rfl rfl (hon 18 oK) rfl
              replace ha := Aside0.mk ha
              obtain ⟨aS, aC, aD, aE, aP, aR, aU, aV, aW, aX, HB, bE, bI, bK, bW, bP, bX, cF, dE, dD⟩ := o2_ aO (o2_ aF (o2_ aG (o2_ aH (o2_ aI (o2_ aJ (o2_ aK (o2_ aL (o2_ aM (o2_ aN (o2_ Q_HB (o2_ (aQ (hon 2 oK)) (o2_ (aT (hon 3 oK)) (o2_ (aZ (hon 9 oK)) (o2_ (bA (hon 10 oK)) (o2_ (aY (hon 14 oK)) (o2_ (bB (hon 15 oK)) (o2_ (bD (hon 22 oK)) (o2_ (bF (hon 23 oK)) (o1_ (bC (hon 27 oK)))))))))))))))))))))
              obtain ⟨jW, kO, kZ⟩ := Kd.R_slice dD.out
              (first | subst kZ | (injection kZ with f1_ f2_ f3_; have f4_ := f1_.symm; have f5_ := f3_.symm; clear f1_ f2_ f3_; subst f4_; subst f5_))
              refine goes_ Try.func27 oK rfl #[.agg #[.int .i64 aB, .int .i64 aA, .slice dH cA.length dG], .slice jW y713.length kO] (by first | rfl | exact wanted_on rfl rfl rfl (by assumption)) rfl rfl (by first | (simp only [List.map_toArray, List.map_cons, List.map_nil, Act.eval, Array.getD_eq_getD_getElem?, Option.getD_some, mY, mZ, dY]; done) | (simp only [List.map_toArray, List.map_cons, List.map_nil, Act.eval, Array.getD_eq_getD_getElem?, Option.getD_some, mY, mZ, dY]; rfl)) ?_
              with_reducible refine (laws_eaDo.calls kj2 aB aA (fun k_ => some k_ = (.slice dH cA.length dG : Value).ownBlock) _ _ cA _ _ y713 jA jB jC _ ?side1 ?side2 ?side3 yK.out).mono ?_
              (case side1 => exact Kd.Q_V (Kd.Q_tight rfl (Kd.Q_types (Kd.Q_types (Kd.Q_types (Kd.Q_types (Kd.Q_types (Kd.Q_types (Kd.Q_types (Kd.Q_types (Kd.Q_types (Kd.Q_apart' (Kd.Q_apart' (Kd.Q_apart' (Kd.Q_apart' (Kd.Q_apart' (aS.out) (Kd.R_typed bE.out) oD) (Kd.R_typed bK.out) oD) (Kd.R_typed bP.out) oD) (Kd.R_typed cF.out) oD) (Kd.R_typed dD.out) oD) aC.out oD) aD.out oD) aE.out oD) aP.out oD) aR.out oD) aU.out oD) aV.out oD) aW.out oD) aX.out oD)))
              (case side2 => repeat (first | exact (Kd.R_reads' dD.out).2.2 | (with_reducible refine Kd.C_alloc ?_ _) | (with_reducible refine Kd.C_drewN ?_ _) | (with_reducible refine Kd.C_drew ?_)))
              (case side3 => exact (Kd.R_reads' dD.out).2.1)
              rintro e zR ⟨cY, rfl, ho0, hb⟩
              refine ⟨_, rfl, ?_⟩
              have hq_ := (Kd.Q_types (Kd.Q_types (Kd.Q_types (Kd.Q_types (Kd.Q_types (Kd.Q_types (Kd.Q_types (Kd.Q_types (Kd.Q_types (Kd.Q_apart' (Kd.Q_apart' (Kd.Q_apart' (Kd.Q_apart' (Kd.Q_apart' (aS.out) (Kd.R_typed bE.out) oD) (Kd.R_typed bK.out) oD) (Kd.R_typed bP.out) oD) (Kd.R_typed cF.out) oD) (Kd.R_typed dD.out) oD) aC.out oD) aD.out oD) aE.out oD) aP.out oD) aR.out oD) aU.out oD) aV.out oD) aW.out oD) aX.out oD)
              have n_ := o2_ (Kd.Q_below aS.out hb) (o2_ (Kd.R_below bE.out hb) (o2_ (Kd.V_below bI.out hb) (o2_ (Kd.R_below bK.out hb) (o2_ (Kd.V_below bW.out hb) (o2_ (Kd.R_below bP.out hb) (o2_ (Kd.V_below bX.out hb) (o2_ (Kd.R_below cF.out hb) (o2_ (Kd.V_below dE.out hb) (o2_ (Kd.R_below dD.out hb) (o2_ (Kd.V_lower (Kd.V_mono (ok' := fun k_ => k_ ≠ bT ∧ k_ ≠ cB ∧ k_ ≠ bY ∧ k_ ≠ dA ∧ k_ ≠ dB ∧ k_ ≠ dC ∧ k_ ≠ cD ∧ k_ ≠ cE ∧ k_ ≠ bH) ho0 (fun k_ hk_ => ⟨Or.elim hk_ (fun hs_ => (hq_.1 k_ hs_.symm).1.1.1.1.1.1.1.1.2) (fun hn_ => (Kd.freshB aC.out k_ hn_)), Or.elim hk_ (fun hs_ => (hq_.1 k_ hs_.symm).1.1.1.1.1.1.1.2) (fun hn_ => (Kd.freshB aD.out k_ hn_)), Or.elim hk_ (fun hs_ => (hq_.1 k_ hs_.symm).1.1.1.1.1.1.2) (fun hn_ => (Kd.freshB aE.out k_ hn_)), Or.elim hk_ (fun hs_ => (hq_.1 k_ hs_.symm).1.1.1.1.1.2) (fun hn_ => (Kd.freshB aP.out k_ hn_)), Or.elim hk_ (fun hs_ => (hq_.1 k_ hs_.symm).1.1.1.1.2) (fun hn_ => (Kd.freshB aR.out k_ hn_)), Or.elim hk_ (fun hs_ => (hq_.1 k_ hs_.symm).1.1.1.2) (fun hn_ => (Kd.freshB aU.out k_ hn_)), Or.elim hk_ (fun hs_ => (hq_.1 k_ hs_.symm).1.1.2) (fun hn_ => (Kd.freshB aV.out k_ hn_)), Or.elim hk_ (fun hs_ => (hq_.1 k_ hs_.symm).1.2) (fun hn_ => (Kd.freshB aW.out k_ hn_)), Or.elim hk_ (fun hs_ => (hq_.1 k_ hs_.symm).2) (fun hn_ => (Kd.freshB aX.out k_ hn_))⟩)) (below_size (oB HB))) (o2_ (blk_below aC.out hb) (o2_ (blk_below aD.out hb) (o2_ (blk_below aE.out hb) (o2_ (blk_below aP.out hb) (o2_ (blk_below aR.out hb) (o2_ (blk_below aU.out hb) (o2_ (blk_below aV.out hb) (o2_ (blk_below aW.out hb) (o2_ (blk_below aX.out hb) (o1_ (below_step (oB HB) hb)))))))))))))))))))))
              clear aS bE bI bK bW bP bX cF dE dD aC aD aE aP aR aU aV aW aX HB
              obtain ⟨aS, bE, bI, bK, bW, bP, bX, cF, dE, dD, dF, aC, aD, aE, aP, aR, aU, aV, aW, aX, HB⟩ := n_
              clear hq_
              (try clear hb)
              (try clear hb2)
              (try clear hk)
              (try clear hi)
              (try clear ho0)
              refine hK.out _ _ ⟨cM, cW, cJ, cN, cG, cX, cK, cO, .slice jW y713.length kO, cY, cL, cP, cI, cZ, dK, cQ, cR, cS, (.agg #[.int .i64 jA, .int .i64 jB, cY]), cU, cV, (by rw [ha.out]; exact putSel_upk 28 hb_ rfl rfl rfl), aS.out, aC.out, aD.out, aE.out, aP.out, aR.out, aU.out, aV.out, aW.out, aX.out, (oB HB), fun _ => bE.out, fun _ => bI.out, fun _ => bK.out, fun _ => bW.out, fun _ => bP.out, fun _ => bX.out, fun _ => cF.out, fun _ => dE.out, fun _ => dD.out, fun _ => dF.out, oF (hoff 35 oK), oF (hoff 36 oK), oF (hoff 40 oK), oF (hoff 41 oK), bR, bJ, bM, bQ, fun _ => rfl, oF (hoff 36 oK), oF (hoff 41 oK)⟩
             refine steps_cons ?_ ?_
             ·intro b a w' hR_
              refine hide_ (fun G_ hG_ => exVVVVVVVVVVVVVVVVVVVVV_ hR_ (fun cM cW cJ cN cG cX cK cO cH cY cL cP cI cZ dK cQ cR cS cT cU cV hS_ => an33_ hS_ (fun ha aO aF aG aH aI aJ aK aL aM aN Q_HB aQ aT aZ bA aY bB bD bF bC bG bN bO bL bS bR bJ bM bQ bU bZ cC => ?_)))
              refine hG_ ?_
              clear hG_ hR_ hS_
              intro hb_ hon hoff
              refine ⟨_, rfl, fun K hK => ?_⟩
              have lN : a.tmps[129]? = some (cS) := by rw [ha]; exact putSel_on (e := (23, 129, cS)) 23 rfl rfl (hon 23 oK) rfl
              rw [bQ (hon 23 oK)] at lN
              have lO : a.tmps[134]? = some (cT) := by rw [ha]; exact putSel_on (e := (28, 134, cT)) 28 rfl rfl (hon 28 oK) rfl
              rw [bU (hon 28 oK)] at lO
              have dY : a.tmps[124]? = some (.bool true) := by rw [ha]; exact putSel_on (e := (18, 124, .bool true)) 18 rfl rfl (hon 18 oK) rfl
              replace ha := Aside0.mk ha
              obtain ⟨aS, aC, aD, aE, aP, aR, aU, aV, aW, aX, HB, bE, bI, bK, bW, bP, bX, cF, dE, dD, dF⟩ := o2_ aO (o2_ aF (o2_ aG (o2_ aH (o2_ aI (o2_ aJ (o2_ aK (o2_ aL (o2_ aM (o2_ aN (o2_ Q_HB (o2_ (aQ (hon 2 oK)) (o2_ (aT (hon 3 oK)) (o2_ (aZ (hon 9 oK)) (o2_ (bA (hon 10 oK)) (o2_ (aY (hon 14 oK)) (o2_ (bB (hon 15 oK)) (o2_ (bD (hon 22 oK)) (o2_ (bF (hon 23 oK)) (o2_ (bC (hon 27 oK)) (o1_ (bG (hon 28 oK))))))))))))))))))))))
              obtain ⟨jX, kP, lA⟩ := Kd.V_slice dE.out
              (first | subst lA | (injection lA with f1_ f2_ f3_; have f4_ := f1_.symm; have f5_ := f3_.symm; clear f1_ f2_ f3_; subst f4_; subst f5_))
              obtain ⟨jY, kQ, lB⟩ := Kd.V_slice dF.out
              (first | subst lB | (injection lB with f1_ f2_ f3_; have f4_ := f1_.symm; have f5_ := f3_.symm; clear f1_ f2_ f3_; subst f4_; subst f5_))
              refine goes_ Try.func21 oK rfl #[.agg #[.int .i64 iP, .int .i64 iQ, .slice jX fQ.length kP], .agg #[.int .i64 jA, .int .i64 jB, .slice jY jC.length kQ]] (by first | rfl | exact wanted_on rfl rfl rfl (by assumption)) rfl rfl (by first | (simp only [List.map_toArray, List.map_cons, List.map_nil, Act.eval, Array.getD_eq_getD_getElem?, Option.getD_some, lN, lO, dY]; done) | (simp only [List.map_toArray, List.map_cons, List.map_nil, Act.eval, Array.getD_eq_getD_getElem?, Option.getD_some, lN, lO, dY]; rfl)) ?_
              with_reducible refine (laws_eaRas.calls kj2 iP iQ _ _ fQ jA jB _ _ jC true _ ?side1 ?side2 ?side3 ?side4 yL.out).mono ?_
              (case side1 => repeat (first | exact (Kd.V_reads' dE.out).2.2 | (with_reducible refine Kd.C_alloc ?_ _) | (with_reducible refine Kd.C_drewN ?_ _) | (with_reducible refine Kd.C_drew ?_)))
              (case side2 => exact (Kd.V_reads' dE.out).2.1)
              (case side3 => repeat (first | exact (Kd.V_reads' dF.out).2.2 | (with_reducible refine Kd.C_alloc ?_ _) | (with_reducible refine Kd.C_drewN ?_ _) | (with_reducible refine Kd.C_drew ?_)))
              (case side4 => exact (Kd.V_reads' dF.out).2.1)
              rintro e zS ⟨rfl, hb⟩
              refine ⟨_, rfl, ?_⟩
              have n_ := o2_ (Kd.Q_below aS.out hb) (o2_ (Kd.R_below bE.out hb) (o2_ (Kd.V_below bI.out hb) (o2_ (Kd.R_below bK.out hb) (o2_ (Kd.V_below bW.out hb) (o2_ (Kd.R_below bP.out hb) (o2_ (Kd.V_below bX.out hb) (o2_ (Kd.R_below cF.out hb) (o2_ (Kd.V_below dE.out hb) (o2_ (Kd.R_below dD.out hb) (o2_ (Kd.V_below dF.out hb) (o2_ (blk_below aC.out hb) (o2_ (blk_below aD.out hb) (o2_ (blk_below aE.out hb) (o2_ (blk_below aP.out hb) (o2_ (blk_below aR.out hb) (o2_ (blk_below aU.out hb) (o2_ (blk_below aV.out hb) (o2_ (blk_below aW.out hb) (o2_ (blk_below aX.out hb) (o1_ (below_step (oB HB) hb)))))))))))))))))))))
              clear aS bE bI bK bW bP bX cF dE dD dF aC aD aE aP aR aU aV aW aX HB
              obtain ⟨aS, bE, bI, bK, bW, bP, bX, cF, dE, dD, dF, aC, aD, aE, aP, aR, aU, aV, aW, aX, HB⟩ := n_
              (try clear hb)
              (try clear hb2)
              (try clear hk)
              (try clear hi)
              refine hK.out _ _ ⟨cM, cW, cJ, cN, cG, cX, cK, .slice jX fQ.length kP, cH, .slice jY jC.length kQ, cL, cP, cI, cZ, dK, cQ, cR, cS, cT, cU, cV, (by rw [ha.out]; exact putSel_upk 29 hb_ rfl rfl rfl), aS.out, aC.out, aD.out, aE.out, aP.out, aR.out, aU.out, aV.out, aW.out, aX.out, (oB HB), fun _ => bE.out, fun _ => bI.out, fun _ => bK.out, fun _ => bW.out, fun _ => bP.out, fun _ => bX.out, fun _ => cF.out, fun _ => dE.out, fun _ => dD.out, fun _ => dF.out, oF (hoff 35 oK), oF (hoff 36 oK), oF (hoff 40 oK), oF (hoff 41 oK), bR, bJ, bM, bQ, bU, oF (hoff 36 oK), oF (hoff 41 oK)⟩
             refine steps_cons ?_ ?_
             ·intro b a w' hR_
              refine hide_ (fun G_ hG_ => exVVVVVVVVVVVVVVVVVVVVV_ hR_ (fun cM cW cJ cN cG cX cK cO cH cY cL cP cI cZ dK cQ cR cS cT cU cV hS_ => an33_ hS_ (fun ha aO aF aG aH aI aJ aK aL aM aN Q_HB aQ aT aZ bA aY bB bD bF bC bG bN bO bL bS bR bJ bM bQ bU bZ cC => ?_)))
              refine hG_ ?_
              clear hG_ hR_ hS_
              intro hb_ hon hoff
              refine ⟨_, rfl, fun K hK => ?_⟩
              have dY : a.tmps[124]? = some (.bool true) := by rw [ha]; exact putSel_on (e := (18, 124, .bool true)) 18 rfl rfl (hon 18 oK) rfl
              have zD : a.tmps[135]? = some (.bool true) := by rw [ha]; exact putSel_on (e := (29, 135, .bool true)) 29 rfl rfl (hon 29 oK) rfl
              replace ha := Aside0.mk ha
              obtain ⟨aS, aC, aD, aE, aP, aR, aU, aV, aW, aX, HB, bE, bI, bK, bW, bP, bX, cF, dE, dD, dF⟩ := o2_ aO (o2_ aF (o2_ aG (o2_ aH (o2_ aI (o2_ aJ (o2_ aK (o2_ aL (o2_ aM (o2_ aN (o2_ Q_HB (o2_ (aQ (hon 2 oK)) (o2_ (aT (hon 3 oK)) (o2_ (aZ (hon 9 oK)) (o2_ (bA (hon 10 oK)) (o2_ (aY (hon 14 oK)) (o2_ (bB (hon 15 oK)) (o2_ (bD (hon 22 oK)) (o2_ (bF (hon 23 oK)) (o2_ (bC (hon 27 oK)) (o1_ (bG (hon 28 oK))))))))))))))))))))))
              refine value_ (w1 := w') (v := .bool true) (by rfl) rfl ?_ ?_
              ·go_simp
               (try simp only [i64_w])
               try rfl
              refine hK.out _ _ ⟨cM, cW, cJ, cN, cG, cX, cK, cO, cH, cY, cL, cP, cI, cZ, dK, cQ, cR, cS, cT, cU, cV, (by rw [ha.out]; exact putSel_upk 30 hb_ rfl rfl rfl), aO, aF, aG, aH, aI, aJ, aK, aL, aM, aN, Q_HB, aQ, aT, aZ, bA, aY, bB, bD, bF, bC, bG, oF (hoff 35 oK), oF (hoff 36 oK), oF (hoff 40 oK), oF (hoff 41 oK), bR, bJ, bM, bQ, bU, oF (hoff 36 oK), oF (hoff 41 oK)⟩
             refine steps_cons ?_ ?_
             ·intro b a w' hR_
              refine hide_ (fun G_ hG_ => exVVVVVVVVVVVVVVVVVVVVV_ hR_ (fun cM cW cJ cN cG cX cK cO cH cY cL cP cI cZ dK cQ cR cS cT cU cV hS_ => an33_ hS_ (fun ha aO aF aG aH aI aJ aK aL aM aN Q_HB aQ aT aZ bA aY bB bD bF bC bG bN bO bL bS bR bJ bM bQ bU bZ cC => ?_)))
              refine hG_ ?_
              clear hG_ hR_ hS_
              intro hb_ hon hoff
              refine ⟨_, rfl, fun K hK => ?_⟩
              have zE : a.tmps[136]? = some (.bool true) := by rw [ha]; exact putSel_on (e := (30, 136, .bool true)) 30 rfl rfl (hon 30 oK) rfl
              replace ha := Aside0.mk ha
              obtain ⟨aS, aC, aD, aE, aP, aR, aU, aV, aW, aX, HB, bE, bI, bK, bW, bP, bX, cF, dE, dD, dF⟩ := o2_ aO (o2_ aF (o2_ aG (o2_ aH (o2_ aI (o2_ aJ (o2_ aK (o2_ aL (o2_ aM (o2_ aN (o2_ Q_HB (o2_ (aQ (hon 2 oK)) (o2_ (aT (hon 3 oK)) (o2_ (aZ (hon 9 oK)) (o2_ (bA (hon 10 oK)) (o2_ (aY (hon 14 oK)) (o2_ (bB (hon 15 oK)) (o2_ (bD (hon 22 oK)) (o2_ (bF (hon 23 oK)) (o2_ (bC (hon 27 oK)) (o1_ (bG (hon 28 oK))))))))))))))))))))))
              refine value_ (w1 := w') (v := .bool true) (by rfl) rfl ?_ ?_
              ·go_simp
               (try simp only [i64_w])
               try rfl
              refine hK.out _ _ ⟨cM, cW, cJ, cN, cG, cX, cK, cO, cH, cY, cL, cP, cI, cZ, dK, cQ, cR, cS, cT, cU, cV, (by rw [ha.out]; exact putSel_upk 31 hb_ rfl rfl rfl), aO, aF, aG, aH, aI, aJ, aK, aL, aM, aN, Q_HB, aQ, aT, aZ, bA, aY, bB, bD, bF, bC, bG, oF (hoff 35 oK), oF (hoff 36 oK), oF (hoff 40 oK), oF (hoff 41 oK), bR, bJ, bM, bQ, bU, oF (hoff 36 oK), oF (hoff 41 oK)⟩
             refine steps_cons ?_ ?_
             ·intro b a w' hR_
              refine hide_ (fun G_ hG_ => exVVVVVVVVVVVVVVVVVVVVV_ hR_ (fun cM cW cJ cN cG cX cK cO cH cY cL cP cI cZ dK cQ cR cS cT cU cV hS_ => an33_ hS_ (fun ha aO aF aG aH aI aJ aK aL aM aN Q_HB aQ aT aZ bA aY bB bD bF bC bG bN bO bL bS bR bJ bM bQ bU bZ cC => ?_)))
              refine hG_ ?_
              clear hG_ hR_ hS_
              intro hb_ hon hoff
              refine ⟨_, rfl, fun K hK => ?_⟩
              have e5 : a.tmps[5]? = some (.pointer (some ⟨bT, 0, none⟩)) := by rw [ha]; exact (putSel_off rfl).trans rfl
              have dZ : a.tmps[137]? = some (.bool true) := by rw [ha]; exact putSel_on (e := (31, 137, .bool true)) 31 rfl rfl (hon 31 oK) rfl
              replace ha := Aside0.mk ha
              obtain ⟨aS, aC, aD, aE, aP, aR, aU, aV, aW, aX, HB, bE, bI, bK, bW, bP, bX, cF, dE, dD, dF⟩ := o2_ aO (o2_ aF (o2_ aG (o2_ aH (o2_ aI (o2_ aJ (o2_ aK (o2_ aL (o2_ aM (o2_ aN (o2_ Q_HB (o2_ (aQ (hon 2 oK)) (o2_ (aT (hon 3 oK)) (o2_ (aZ (hon 9 oK)) (o2_ (bA (hon 10 oK)) (o2_ (aY (hon 14 oK)) (o2_ (bB (hon 15 oK)) (o2_ (bD (hon 22 oK)) (o2_ (bF (hon 23 oK)) (o2_ (bC (hon 27 oK)) (o1_ (bG (hon 28 oK))))))))))))))))))))))
              have eB : w'.cell? ⟨bT, 0, none⟩ = some (.int .i64 aB) := (blk_cell aC.out 0).trans rfl
              have eC : w'.cell? ⟨bT, 1, none⟩ = some (.int .i64 aA) := (blk_cell aC.out 1).trans rfl
              have eD : w'.cell? ⟨bT, 2, none⟩ = some (.slice dH cA.length dG) := (blk_cell aC.out 2).trans rfl
              refine value_ (w1 := w') (v := .agg #[.int .i64 aB, .int .i64 aA, .slice dH cA.length dG]) (wanted_on rfl rfl rfl (dZ.trans (by first | rfl | (simp [*]; done)))) rfl ?_ ?_
              ·go_simp
               (try simp only [i64_w])
               try rfl
              refine hK.out _ _ ⟨cM, cW, cJ, cN, cG, cX, cK, cO, cH, cY, cL, cP, cI, cZ, dK, cQ, cR, cS, cT, cU, cV, (by rw [ha.out]; exact putSel_upk 32 hb_ rfl rfl rfl), aO, aF, aG, aH, aI, aJ, aK, aL, aM, aN, Q_HB, aQ, aT, aZ, bA, aY, bB, bD, bF, bC, bG, bN, oF (hoff 36 oK), bL, oF (hoff 41 oK), bR, bJ, bM, bQ, bU, oF (hoff 36 oK), oF (hoff 41 oK)⟩
             refine steps_cons ?_ ?_
             ·intro b a w' hR_
              refine hide_ (fun G_ hG_ => exVVVVVVVVVVVVVVVVVVVVV_ hR_ (fun cM cW cJ cN cG cX cK cO cH cY cL cP cI cZ dK cQ cR cS cT cU cV hS_ => an33_ hS_ (fun ha aO aF aG aH aI aJ aK aL aM aN Q_HB aQ aT aZ bA aY bB bD bF bC bG bN bO bL bS bR bJ bM bQ bU bZ cC => ?_)))
              refine hG_ ?_
              clear hG_ hR_ hS_
              intro hb_ hon hoff
              refine ⟨_, rfl, fun K hK => ?_⟩
              have tY : a.tmps[12]? = some (.pointer (some ⟨bY, 0, none⟩)) := by rw [ha]; exact (putSel_off rfl).trans rfl
              have dZ : a.tmps[137]? = some (.bool true) := by rw [ha]; exact putSel_on (e := (31, 137, .bool true)) 31 rfl rfl (hon 31 oK) rfl
              replace ha := Aside0.mk ha
              obtain ⟨aS, aC, aD, aE, aP, aR, aU, aV, aW, aX, HB, bE, bI, bK, bW, bP, bX, cF, dE, dD, dF⟩ := o2_ aO (o2_ aF (o2_ aG (o2_ aH (o2_ aI (o2_ aJ (o2_ aK (o2_ aL (o2_ aM (o2_ aN (o2_ Q_HB (o2_ (aQ (hon 2 oK)) (o2_ (aT (hon 3 oK)) (o2_ (aZ (hon 9 oK)) (o2_ (bA (hon 10 oK)) (o2_ (aY (hon 14 oK)) (o2_ (bB (hon 15 oK)) (o2_ (bD (hon 22 oK)) (o2_ (bF (hon 23 oK)) (o2_ (bC (hon 27 oK)) (o1_ (bG (hon 28 oK))))))))))))))))))))))
              have eB : w'.cell? ⟨bY, 0, none⟩ = some (.int .i64 1) := (blk_cell aE.out 0).trans rfl
              have eC : w'.cell? ⟨bY, 1, none⟩ = some (.int .i64 ((l1.length : Int) % aB)) := (blk_cell aE.out 1).trans rfl
              have eD : w'.cell? ⟨bY, 2, none⟩ = some (.int .i64 (Int.tmod (wrap64 ((l1.length : Int) / 7)) aA)) := (blk_cell aE.out 2).trans rfl
              have eV : w'.cell? ⟨bY, 3, none⟩ = some (.int .i64 (wrap64 (1 + (Int.tmod (wrap64 ((l1.length : Int) / 3)) (wrap64 (aB - ((l1.length : Int) % aB))))))) := (blk_cell aE.out 3).trans rfl
              have eW : w'.cell? ⟨bY, 4, none⟩ = some (.int .i64 (wrap64 (1 + (Int.tmod (wrap64 ((l1.length : Int) / 5)) (wrap64 (aA - (Int.tmod (wrap64 ((l1.length : Int) / 7)) aA))))))) := (blk_cell aE.out 4).trans rfl
              refine value_ (w1 := w') (v := .agg #[.int .i64 1, .int .i64 ((l1.length : Int) % aB), .int .i64 (Int.tmod (wrap64 ((l1.length : Int) / 7)) aA), .int .i64 (wrap64 (1 + (Int.tmod (wrap64 ((l1.length : Int) / 3)) (wrap64 (aB - ((l1.length : Int) % aB)))))), .int .i64 (wrap64 (1 + (Int.tmod (wrap64 ((l1.length : Int) / 5)) (wrap64 (aA - (Int.tmod (wrap64 ((l1.length : Int) / 7)) aA))))))]) (wanted_on rfl rfl rfl (dZ.trans (by first | rfl | (simp [*]; done)))) rfl ?_ ?_
              ·go_simp
               (try simp only [i64_w])
               try rfl
              refine hK.out _ _ ⟨cM, cW, cJ, cN, cG, cX, cK, cO, cH, cY, cL, cP, cI, cZ, dK, cQ, cR, cS, cT, cU, cV, (by rw [ha.out]; exact putSel_upk 33 hb_ rfl rfl rfl), aO, aF, aG, aH, aI, aJ, aK, aL, aM, aN, Q_HB, aQ, aT, aZ, bA, aY, bB, bD, bF, bC, bG, oF (hoff 35 oK), oF (hoff 36 oK), bL, oF (hoff 41 oK), bR, bJ, bM, bQ, bU, oF (hoff 36 oK), oF (hoff 41 oK)⟩
             refine steps_cons ?_ ?_
             ·intro b a w' hR_
              refine hide_ (fun G_ hG_ => exVVVVVVVVVVVVVVVVVVVVV_ hR_ (fun cM cW cJ cN cG cX cK cO cH cY cL cP cI cZ dK cQ cR cS cT cU cV hS_ => an33_ hS_ (fun ha aO aF aG aH aI aJ aK aL aM aN Q_HB aQ aT aZ bA aY bB bD bF bC bG bN bO bL bS bR bJ bM bQ bU bZ cC => ?_)))
              refine hG_ ?_
              clear hG_ hR_ hS_
              intro hb_ hon hoff
              refine ⟨_, rfl, fun K hK => ?_⟩
              have zN : a.tmps[18]? = some (.pointer (some ⟨bH, 0, none⟩)) := by rw [ha]; exact (putSel_off rfl).trans rfl
              have dZ : a.tmps[137]? = some (.bool true) := by rw [ha]; exact putSel_on (e := (31, 137, .bool true)) 31 rfl rfl (hon 31 oK) rfl
              replace ha := Aside0.mk ha
              obtain ⟨aS, aC, aD, aE, aP, aR, aU, aV, aW, aX, HB, bE, bI, bK, bW, bP, bX, cF, dE, dD, dF⟩ := o2_ aO (o2_ aF (o2_ aG (o2_ aH (o2_ aI (o2_ aJ (o2_ aK (o2_ aL (o2_ aM (o2_ aN (o2_ Q_HB (o2_ (aQ (hon 2 oK)) (o2_ (aT (hon 3 oK)) (o2_ (aZ (hon 9 oK)) (o2_ (bA (hon 10 oK)) (o2_ (aY (hon 14 oK)) (o2_ (bB (hon 15 oK)) (o2_ (bD (hon 22 oK)) (o2_ (bF (hon 23 oK)) (o2_ (bC (hon 27 oK)) (o1_ (bG (hon 28 oK))))))))))))))))))))))
              have eB : w'.cell? ⟨bH, 0, none⟩ = some (.int .i64 4) := (blk_cell aX.out 0).trans rfl
              have eC : w'.cell? ⟨bH, 1, none⟩ = some (.int .i64 0) := (blk_cell aX.out 1).trans rfl
              have eD : w'.cell? ⟨bH, 2, none⟩ = some (.int .i64 0) := (blk_cell aX.out 2).trans rfl
              have eV : w'.cell? ⟨bH, 3, none⟩ = some (.int .i64 0) := (blk_cell aX.out 3).trans rfl
              have eW : w'.cell? ⟨bH, 4, none⟩ = some (.int .i64 0) := (blk_cell aX.out 4).trans rfl
              refine value_ (w1 := w') (v := .agg #[.int .i64 4, .int .i64 0, .int .i64 0, .int .i64 0, .int .i64 0]) (wanted_on rfl rfl rfl (dZ.trans (by first | rfl | (simp [*]; done)))) rfl ?_ ?_
              ·go_simp
               (try simp only [i64_w])
               try rfl
              refine hK.out _ _ ⟨cM, cW, cJ, cN, cG, cX, cK, cO, cH, cY, cL, cP, cI, cZ, dK, cQ, cR, cS, cT, cU, cV, (by rw [ha.out]; exact putSel_upk 34 hb_ rfl rfl rfl), aO, aF, aG, aH, aI, aJ, aK, aL, aM, aN, Q_HB, aQ, aT, aZ, bA, aY, bB, bD, bF, bC, bG, oF (hoff 35 oK), oF (hoff 36 oK), bL, oF (hoff 41 oK), bR, bJ, bM, bQ, bU, oF (hoff 36 oK), oF (hoff 41 oK)⟩
             refine steps_cons ?_ ?_
             ·intro b a w' hR_
              refine hide_ (fun G_ hG_ => exVVVVVVVVVVVVVVVVVVVVV_ hR_ (fun cM cW cJ cN cG cX cK cO cH cY cL cP cI cZ dK cQ cR cS cT cU cV hS_ => an33_ hS_ (fun ha aO aF aG aH aI aJ aK aL aM aN Q_HB aQ aT aZ bA aY bB bD bF bC bG bN bO bL bS bR bJ bM bQ bU bZ cC => ?_)))
              refine hG_ ?_
              clear hG_ hR_ hS_
              intro hb_ hon hoff
              refine ⟨_, rfl, fun K hK => ?_⟩
              have zF : a.tmps[139]? = some (.agg #[.int .i64 1, .int .i64 ((l1.length : Int) % aB), .int .i64 (Int.tmod (wrap64 ((l1.length : Int) / 7)) aA), .int .i64 (wrap64 (1 + (Int.tmod (wrap64 ((l1.length : Int) / 3)) (wrap64 (aB - ((l1.length : Int) % aB)))))), .int .i64 (wrap64 (1 + (Int.tmod (wrap64 ((l1.length : Int) / 5)) (wrap64 (aA - (Int.tmod (wrap64 ((l1.length : Int) / 7)) aA))))))]) := by rw [ha]; exact putSel_on (e := (33, 139, .agg #[.int .i64 1, .int .i64 ((l1.length : Int) % aB), .int .i64 (Int.tmod (wrap64 ((l1.length : Int) / 7)) aA), .int .i64 (wrap64 (1 + (Int.tmod (wrap64 ((l1.length : Int) / 3)) (wrap64 (aB - ((l1.length : Int) % aB)))))), .int .i64 (wrap64 (1 + (Int.tmod (wrap64 ((l1.length : Int) / 5)) (wrap64 (aA - (Int.tmod (wrap64 ((l1.length : Int) / 7)) aA))))))])) 33 rfl rfl (hon 33 oK) rfl
              have zG : a.tmps[140]? = some (.agg #[.int .i64 4, .int .i64 0, .int .i64 0, .int .i64 0, .int .i64 0]) := by rw [ha]; exact putSel_on (e := (34, 140, .agg #[.int .i64 4, .int .i64 0, .int .i64 0, .int .i64 0, .int .i64 0])) 34 rfl rfl (hon 34 oK) rfl
              have dZ : a.tmps[137]? = some (.bool true) := by rw [ha]; exact putSel_on (e := (31, 137, .bool true)) 31 rfl rfl (hon 31 oK) rfl
              replace ha := Aside0.mk ha
              obtain ⟨aS, aC, aD, aE, aP, aR, aU, aV, aW, aX, HB, bE, bI, bK, bW, bP, bX, cF, dE, dD, dF⟩ := o2_ aO (o2_ aF (o2_ aG (o2_ aH (o2_ aI (o2_ aJ (o2_ aK (o2_ aL (o2_ aM (o2_ aN (o2_ Q_HB (o2_ (aQ (hon 2 oK)) (o2_ (aT (hon 3 oK)) (o2_ (aZ (hon 9 oK)) (o2_ (bA (hon 10 oK)) (o2_ (aY (hon 14 oK)) (o2_ (bB (hon 15 oK)) (o2_ (bD (hon 22 oK)) (o2_ (bF (hon 23 oK)) (o2_ (bC (hon 27 oK)) (o1_ (bG (hon 28 oK))))))))))))))))))))))
              refine Kd.R_lit_step k27 _ 27 ?hg (N := 141) ?hd (xs := ([(⟨1, (l1.length : Int) % aB, Int.tmod (wrap64 ((l1.length : Int) / 7)) aA, wrap64 (1 + (Int.tmod (wrap64 ((l1.length : Int) / 3)) (wrap64 (aB - ((l1.length : Int) % aB))))), wrap64 (1 + (Int.tmod (wrap64 ((l1.length : Int) / 5)) (wrap64 (aA - (Int.tmod (wrap64 ((l1.length : Int) / 7)) aA)))))⟩ : S27), (⟨4, 0, 0, 0, 0⟩ : S27)] : List (S27))) (inner := [.int .i64 1, .int .i64 ((l1.length : Int) % aB), .int .i64 (Int.tmod (wrap64 ((l1.length : Int) / 7)) aA), .int .i64 (wrap64 (1 + (Int.tmod (wrap64 ((l1.length : Int) / 3)) (wrap64 (aB - ((l1.length : Int) % aB)))))), .int .i64 (wrap64 (1 + (Int.tmod (wrap64 ((l1.length : Int) / 5)) (wrap64 (aA - (Int.tmod (wrap64 ((l1.length : Int) / 7)) aA)))))), .int .i64 4, .int .i64 0, .int .i64 0, .int .i64 0, .int .i64 0]) (ok := fun _ => True) (okp := fun _ => True) ?hr ?hp (fun _ hk => hk) trivial (Below.refl _ _) (Nat.le_refl _) (by simp) ?_; (case hd => rfl); (case hg => first | rfl | exact wanted_on rfl rfl rfl (by assumption)); (case hr => first | (go_simp; done) | (go_simp; rfl)); (case hp => exact (Reps.c5 (show Kd.M k27 _ _ _ (⟨1, (l1.length : Int) % aB, Int.tmod (wrap64 ((l1.length : Int) / 7)) aA, wrap64 (1 + (Int.tmod (wrap64 ((l1.length : Int) / 3)) (wrap64 (aB - ((l1.length : Int) % aB))))), wrap64 (1 + (Int.tmod (wrap64 ((l1.length : Int) / 5)) (wrap64 (aA - (Int.tmod (wrap64 ((l1.length : Int) / 7)) aA)))))⟩ : S27) [.int .i64 1, .int .i64 ((l1.length : Int) % aB), .int .i64 (Int.tmod (wrap64 ((l1.length : Int) / 7)) aA), .int .i64 (wrap64 (1 + (Int.tmod (wrap64 ((l1.length : Int) / 3)) (wrap64 (aB - ((l1.length : Int) % aB)))))), .int .i64 (wrap64 (1 + (Int.tmod (wrap64 ((l1.length : Int) / 5)) (wrap64 (aA - (Int.tmod (wrap64 ((l1.length : Int) / 7)) aA))))))] from (k27_mkM _ _ _ (⟨1, (l1.length : Int) % aB, Int.tmod (wrap64 ((l1.length : Int) / 7)) aA, wrap64 (1 + (Int.tmod (wrap64 ((l1.length : Int) / 3)) (wrap64 (aB - ((l1.length : Int) % aB))))), wrap64 (1 + (Int.tmod (wrap64 ((l1.length : Int) / 5)) (wrap64 (aA - (Int.tmod (wrap64 ((l1.length : Int) / 7)) aA)))))⟩ : S27) )) (Reps.c5 (show Kd.M k27 _ _ _ (⟨4, 0, 0, 0, 0⟩ : S27) [.int .i64 4, .int .i64 0, .int .i64 0, .int .i64 0, .int .i64 0] from (k27_mkM _ _ _ (⟨4, 0, 0, 0, 0⟩ : S27) )) (Reps.none _ _))))
              intro cL jJ ho120 hb hg_ hnew_
              clear hg_ hnew_
              (first | rw [← kI.out] at ho120 | (simp only [Int.reduceToNat] at ho120; rw [← kI.out] at ho120))
              have eJ := Aside0.mk (Kd.Q_below aS.out hb)
              have eK := Aside0.mk (Kd.R_elder' bE.out (Kd.R_base ho120) hb)
              have eL := Aside0.mk (Kd.V_elder' bI.out (Kd.R_base ho120) hb)
              have eM := Aside0.mk (Kd.R_elder' bK.out (Kd.R_base ho120) hb)
              have eN := Aside0.mk (Kd.V_elder' bW.out (Kd.R_base ho120) hb)
              have eO := Aside0.mk (Kd.R_elder' bP.out (Kd.R_base ho120) hb)
              have eP := Aside0.mk (Kd.V_elder' bX.out (Kd.R_base ho120) hb)
              have eQ := Aside0.mk (Kd.R_elder' cF.out (Kd.R_base ho120) hb)
              have eR := Aside0.mk (Kd.V_elder' dE.out (Kd.R_base ho120) hb)
              have eS := Aside0.mk (Kd.R_elder' dD.out (Kd.R_base ho120) hb)
              have dO := Aside0.mk (Kd.V_elder' dF.out (Kd.R_base ho120) hb)
              have dS := Aside0.mk (Kd.R_lower (Kd.R_newB (Kd.R_newB (Kd.R_newB (Kd.R_newB (Kd.R_newB (Kd.R_newB (Kd.R_newB (Kd.R_newB (Kd.R_new' (Kd.R_new' (Kd.R_new' (Kd.R_new' (Kd.R_new' ho120 (Kd.R_lt bE.out)) (Kd.R_lt bK.out)) (Kd.R_lt bP.out)) (Kd.R_lt cF.out)) (Kd.R_lt dD.out)) aD.out) aE.out) aP.out) aR.out) aU.out) aV.out) aW.out) aX.out) (below_size (oB HB)))
              have dT := Aside0.mk (blk_below aC.out hb)
              have dU := Aside0.mk (blk_below aD.out hb)
              have eA := Aside0.mk (blk_below aE.out hb)
              have eG := Aside0.mk (blk_below aP.out hb)
              have eH := Aside0.mk (blk_below aR.out hb)
              have eI := Aside0.mk (blk_below aU.out hb)
              have eZ := Aside0.mk (blk_below aV.out hb)
              have fK := Aside0.mk (blk_below aW.out hb)
              have fL := Aside0.mk (blk_below aX.out hb)
              have fM := Aside0.mk (below_step (oB HB) hb)
              have fJ := fun (h0_ : b 40 = true) => (show Kd.R k27 27 jJ w.heap.size (fun k_ => k_ ≠ cB ∧ k_ ≠ bY ∧ k_ ≠ dA ∧ k_ ≠ dB ∧ k_ ≠ dC ∧ k_ ≠ cD ∧ k_ ≠ cE ∧ k_ ≠ bH) cI y730 from by first | exact (Kd.R_elder' (uR ((bL h0_))) (Kd.R_base ho120) hb) | exact Kd.R_mono (Kd.R_elder' (uR ((bL h0_))) (Kd.R_base ho120) hb) (fun _ h_ => by first | trivial | exact h_ | exact h_.1))
              clear aS
              clear bE
              clear bI
              clear bK
              clear bW
              clear bP
              clear bX
              clear cF
              clear dE
              clear dD
              clear dF
              clear aC
              clear aD
              clear aE
              clear aP
              clear aR
              clear aU
              clear aV
              clear aW
              clear aX
              clear HB
              have aS := eJ
              have bE := eK
              have bI := eL
              have bK := eM
              have bW := eN
              have bP := eO
              have bX := eP
              have cF := eQ
              have dE := eR
              have dD := eS
              have dF := dO
              have dM := dS
              have aC := dT
              have aD := dU
              have aE := eA
              have aP := eG
              have aR := eH
              have aU := eI
              have aV := eZ
              have aW := fK
              have aX := fL
              have HB := fM
              clear eJ eK eL eM eN eO eP eQ eR eS dO dS dT dU eA eG eH eI eZ fK fL fM
              clear hb ho120
              refine hK.out _ _ ⟨cM, cW, cJ, cN, cG, cX, cK, cO, cH, cY, cL, cP, cI, cZ, dK, cQ, cR, cS, cT, cU, cV, (by rw [ha.out]; exact putSel_upk 35 hb_ rfl rfl rfl), aS.out, aC.out, aD.out, aE.out, aP.out, aR.out, aU.out, aV.out, aW.out, aX.out, (oB HB), fun _ => (by (with_reducible repeat (first | apply Kd.R_alloc | apply Kd.R_drewN | apply Kd.R_drew)); exact Kd.R_mono bE.out oY), fun _ => (by (with_reducible repeat (first | apply Kd.V_alloc | apply Kd.V_drewN | apply Kd.V_drew)); exact Kd.V_mono bI.out oY), fun _ => (by (with_reducible repeat (first | apply Kd.R_alloc | apply Kd.R_drewN | apply Kd.R_drew)); exact Kd.R_mono bK.out oY), fun _ => (by (with_reducible repeat (first | apply Kd.V_alloc | apply Kd.V_drewN | apply Kd.V_drew)); exact Kd.V_mono bW.out oY), fun _ => (by (with_reducible repeat (first | apply Kd.R_alloc | apply Kd.R_drewN | apply Kd.R_drew)); exact Kd.R_mono bP.out oY), fun _ => (by (with_reducible repeat (first | apply Kd.V_alloc | apply Kd.V_drewN | apply Kd.V_drew)); exact Kd.V_mono bX.out oY), fun _ => (by (with_reducible repeat (first | apply Kd.R_alloc | apply Kd.R_drewN | apply Kd.R_drew)); exact Kd.R_mono cF.out oY), fun _ => (by (with_reducible repeat (first | apply Kd.V_alloc | apply Kd.V_drewN | apply Kd.V_drew)); exact Kd.V_mono dE.out oY), fun _ => (by (with_reducible repeat (first | apply Kd.R_alloc | apply Kd.R_drewN | apply Kd.R_drew)); exact Kd.R_mono dD.out oY), fun _ => (by (with_reducible repeat (first | apply Kd.V_alloc | apply Kd.V_drewN | apply Kd.V_drew)); exact Kd.V_mono dF.out oY), fun _ => (by (with_reducible repeat (first | apply Kd.R_alloc | apply Kd.R_drewN | apply Kd.R_drew)); exact Kd.R_mono dM.out oY), oF (hoff 36 oK), fJ, oF (hoff 41 oK), bR, bJ, bM, bQ, bU, oF (hoff 36 oK), oF (hoff 41 oK)⟩
             refine steps_cons ?_ ?_
             ·intro b a w' hR_
              refine hide_ (fun G_ hG_ => exVVVVVVVVVVVVVVVVVVVVV_ hR_ (fun cM cW cJ cN cG cX cK cO cH cY cL cP cI cZ dK cQ cR cS cT cU cV hS_ => an33_ hS_ (fun ha aO aF aG aH aI aJ aK aL aM aN Q_HB aQ aT aZ bA aY bB bD bF bC bG bN bO bL bS bR bJ bM bQ bU bZ cC => ?_)))
              refine hG_ ?_
              clear hG_ hR_ hS_
              intro hb_ hon hoff
              refine ⟨_, rfl, fun K hK => ?_⟩
              have nA : a.tmps[138]? = some (.agg #[.int .i64 aB, .int .i64 aA, .slice dH cA.length dG]) := by rw [ha]; exact putSel_on (e := (32, 138, .agg #[.int .i64 aB, .int .i64 aA, .slice dH cA.length dG])) 32 rfl rfl (hon 32 oK) rfl
              have nB : a.tmps[141]? = some (cL) := by rw [ha]; exact putSel_on (e := (35, 141, cL)) 35 rfl rfl (hon 35 oK) rfl
              have dZ : a.tmps[137]? = some (.bool true) := by rw [ha]; exact putSel_on (e := (31, 137, .bool true)) 31 rfl rfl (hon 31 oK) rfl
              replace ha := Aside0.mk ha
              obtain ⟨aS, aC, aD, aE, aP, aR, aU, aV, aW, aX, HB, bE, bI, bK, bW, bP, bX, cF, dE, dD, dF, dM⟩ := o2_ aO (o2_ aF (o2_ aG (o2_ aH (o2_ aI (o2_ aJ (o2_ aK (o2_ aL (o2_ aM (o2_ aN (o2_ Q_HB (o2_ (aQ (hon 2 oK)) (o2_ (aT (hon 3 oK)) (o2_ (aZ (hon 9 oK)) (o2_ (bA (hon 10 oK)) (o2_ (aY (hon 14 oK)) (o2_ (bB (hon 15 oK)) (o2_ (bD (hon 22 oK)) (o2_ (bF (hon 23 oK)) (o2_ (bC (hon 27 oK)) (o2_ (bG (hon 28 oK)) (o1_ (bN (hon 35 oK)))))))))))))))))))))))
              obtain ⟨jZ, kR, lC⟩ := Kd.R_slice dM.out
              (first | subst lC | (injection lC with f1_ f2_ f3_; have f4_ := f1_.symm; have f5_ := f3_.symm; clear f1_ f2_ f3_; subst f4_; subst f5_))
              refine goes_ Try.func27 oK rfl #[.agg #[.int .i64 aB, .int .i64 aA, .slice dH cA.length dG], .slice jZ y722.length kR] (by first | rfl | exact wanted_on rfl rfl rfl (by assumption)) rfl rfl (by first | (simp only [List.map_toArray, List.map_cons, List.map_nil, Act.eval, Array.getD_eq_getD_getElem?, Option.getD_some, nA, nB, dZ]; done) | (simp only [List.map_toArray, List.map_cons, List.map_nil, Act.eval, Array.getD_eq_getD_getElem?, Option.getD_some, nA, nB, dZ]; rfl)) ?_
              with_reducible refine (laws_eaDo.calls kj2 aB aA (fun k_ => some k_ = (.slice dH cA.length dG : Value).ownBlock) _ _ cA _ _ y722 iR iS fR _ ?side1 ?side2 ?side3 yM.out).mono ?_
              (case side1 => exact Kd.Q_V (Kd.Q_tight rfl (Kd.Q_types (Kd.Q_types (Kd.Q_types (Kd.Q_types (Kd.Q_types (Kd.Q_types (Kd.Q_types (Kd.Q_types (Kd.Q_types (Kd.Q_apart' (Kd.Q_apart' (Kd.Q_apart' (Kd.Q_apart' (Kd.Q_apart' (Kd.Q_apart' (aS.out) (Kd.R_typed bE.out) oD) (Kd.R_typed bK.out) oD) (Kd.R_typed bP.out) oD) (Kd.R_typed cF.out) oD) (Kd.R_typed dD.out) oD) (Kd.R_typed dM.out) oD) aC.out oD) aD.out oD) aE.out oD) aP.out oD) aR.out oD) aU.out oD) aV.out oD) aW.out oD) aX.out oD)))
              (case side2 => repeat (first | exact (Kd.R_reads' dM.out).2.2 | (with_reducible refine Kd.C_alloc ?_ _) | (with_reducible refine Kd.C_drewN ?_ _) | (with_reducible refine Kd.C_drew ?_)))
              (case side3 => exact (Kd.R_reads' dM.out).2.1)
              rintro e uG ⟨cP, rfl, ho0, hb⟩
              refine ⟨_, rfl, ?_⟩
              have eJ := Aside0.mk (Kd.Q_below aS.out hb)
              have eK := Aside0.mk (Kd.R_below bE.out hb)
              have eL := Aside0.mk (Kd.V_below bI.out hb)
              have eM := Aside0.mk (Kd.R_below bK.out hb)
              have eN := Aside0.mk (Kd.V_below bW.out hb)
              have eO := Aside0.mk (Kd.R_below bP.out hb)
              have eP := Aside0.mk (Kd.V_below bX.out hb)
              have eQ := Aside0.mk (Kd.R_below cF.out hb)
              have eR := Aside0.mk (Kd.V_below dE.out hb)
              have eS := Aside0.mk (Kd.R_below dD.out hb)
              have dO := Aside0.mk (Kd.V_below dF.out hb)
              have dS := Aside0.mk (Kd.R_below dM.out hb)
              have hq_ := (Kd.Q_types (Kd.Q_types (Kd.Q_types (Kd.Q_types (Kd.Q_types (Kd.Q_types (Kd.Q_types (Kd.Q_types (Kd.Q_types (Kd.Q_apart' (Kd.Q_apart' (Kd.Q_apart' (Kd.Q_apart' (Kd.Q_apart' (Kd.Q_apart' (aS.out) (Kd.R_typed bE.out) oD) (Kd.R_typed bK.out) oD) (Kd.R_typed bP.out) oD) (Kd.R_typed cF.out) oD) (Kd.R_typed dD.out) oD) (Kd.R_typed dM.out) oD) aC.out oD) aD.out oD) aE.out oD) aP.out oD) aR.out oD) aU.out oD) aV.out oD) aW.out oD) aX.out oD)
              have dT := Aside0.mk (Kd.V_lower (Kd.V_mono (ok' := fun k_ => k_ ≠ bT ∧ k_ ≠ cB ∧ k_ ≠ bY ∧ k_ ≠ dA ∧ k_ ≠ dB ∧ k_ ≠ dC ∧ k_ ≠ cD ∧ k_ ≠ cE ∧ k_ ≠ bH) ho0 (fun k_ hk_ => ⟨Or.elim hk_ (fun hs_ => (hq_.1 k_ hs_.symm).1.1.1.1.1.1.1.1.2) (fun hn_ => (Kd.freshB aC.out k_ hn_)), Or.elim hk_ (fun hs_ => (hq_.1 k_ hs_.symm).1.1.1.1.1.1.1.2) (fun hn_ => (Kd.freshB aD.out k_ hn_)), Or.elim hk_ (fun hs_ => (hq_.1 k_ hs_.symm).1.1.1.1.1.1.2) (fun hn_ => (Kd.freshB aE.out k_ hn_)), Or.elim hk_ (fun hs_ => (hq_.1 k_ hs_.symm).1.1.1.1.1.2) (fun hn_ => (Kd.freshB aP.out k_ hn_)), Or.elim hk_ (fun hs_ => (hq_.1 k_ hs_.symm).1.1.1.1.2) (fun hn_ => (Kd.freshB aR.out k_ hn_)), Or.elim hk_ (fun hs_ => (hq_.1 k_ hs_.symm).1.1.1.2) (fun hn_ => (Kd.freshB aU.out k_ hn_)), Or.elim hk_ (fun hs_ => (hq_.1 k_ hs_.symm).1.1.2) (fun hn_ => (Kd.freshB aV.out k_ hn_)), Or.elim hk_ (fun hs_ => (hq_.1 k_ hs_.symm).1.2) (fun hn_ => (Kd.freshB aW.out k_ hn_)), Or.elim hk_ (fun hs_ => (hq_.1 k_ hs_.symm).2) (fun hn_ => (Kd.freshB aX.out k_ hn_))⟩)) (below_size (oB HB)))
              clear hq_
              have dU := Aside0.mk (blk_below aC.out hb)
              have eA := Aside0.mk (blk_below aD.out hb)
              have eG := Aside0.mk (blk_below aE.out hb)
              have eH := Aside0.mk (blk_below aP.out hb)
              have eI := Aside0.mk (blk_below aR.out hb)
              have eZ := Aside0.mk (blk_below aU.out hb)
              have fK := Aside0.mk (blk_below aV.out hb)
              have fL := Aside0.mk (blk_below aW.out hb)
              have fM := Aside0.mk (blk_below aX.out hb)
              have pD := Aside0.mk (below_step (oB HB) hb)
              have fJ := fun (h0_ : b 40 = true) => (show Kd.R k27 27 uG w.heap.size (fun k_ => k_ ≠ cB ∧ k_ ≠ bY ∧ k_ ≠ dA ∧ k_ ≠ dB ∧ k_ ≠ dC ∧ k_ ≠ cD ∧ k_ ≠ cE ∧ k_ ≠ bH) cI y730 from by first | exact (Kd.R_below (uR ((bL h0_))) hb) | exact Kd.R_mono (Kd.R_below (uR ((bL h0_))) hb) (fun _ h_ => by first | trivial | exact h_ | exact h_.1))
              clear aS
              clear bE
              clear bI
              clear bK
              clear bW
              clear bP
              clear bX
              clear cF
              clear dE
              clear dD
              clear dF
              clear dM
              clear aC
              clear aD
              clear aE
              clear aP
              clear aR
              clear aU
              clear aV
              clear aW
              clear aX
              clear HB
              have aS := eJ
              have bE := eK
              have bI := eL
              have bK := eM
              have bW := eN
              have bP := eO
              have bX := eP
              have cF := eQ
              have dE := eR
              have dD := eS
              have dF := dO
              have dM := dS
              have dR := dT
              have aC := dU
              have aD := eA
              have aE := eG
              have aP := eH
              have aR := eI
              have aU := eZ
              have aV := fK
              have aW := fL
              have aX := fM
              have HB := pD
              clear eJ eK eL eM eN eO eP eQ eR eS dO dS dT dU eA eG eH eI eZ fK fL fM pD
              (try clear hb)
              (try clear hb2)
              (try clear hk)
              (try clear hi)
              (try clear ho0)
              refine hK.out _ _ ⟨cM, cW, cJ, cN, cG, cX, cK, cO, cH, cY, .slice jZ y722.length kR, cP, cI, cZ, dK, cQ, cR, cS, cT, (.agg #[.int .i64 iR, .int .i64 iS, cP]), cV, (by rw [ha.out]; exact putSel_upk 36 hb_ rfl rfl rfl), aS.out, aC.out, aD.out, aE.out, aP.out, aR.out, aU.out, aV.out, aW.out, aX.out, (oB HB), fun _ => bE.out, fun _ => bI.out, fun _ => bK.out, fun _ => bW.out, fun _ => bP.out, fun _ => bX.out, fun _ => cF.out, fun _ => dE.out, fun _ => dD.out, fun _ => dF.out, fun _ => dM.out, fun _ => dR.out, fJ, oF (hoff 41 oK), bR, bJ, bM, bQ, bU, fun _ => rfl, oF (hoff 41 oK)⟩
             refine steps_cons ?_ ?_
             ·intro b a w' hR_
              refine hide_ (fun G_ hG_ => exVVVVVVVVVVVVVVVVVVVVV_ hR_ (fun cM cW cJ cN cG cX cK cO cH cY cL cP cI cZ dK cQ cR cS cT cU cV hS_ => an33_ hS_ (fun ha aO aF aG aH aI aJ aK aL aM aN Q_HB aQ aT aZ bA aY bB bD bF bC bG bN bO bL bS bR bJ bM bQ bU bZ cC => ?_)))
              refine hG_ ?_
              clear hG_ hR_ hS_
              intro hb_ hon hoff
              refine ⟨_, rfl, fun K hK => ?_⟩
              have e5 : a.tmps[5]? = some (.pointer (some ⟨bT, 0, none⟩)) := by rw [ha]; exact (putSel_off rfl).trans rfl
              have dZ : a.tmps[137]? = some (.bool true) := by rw [ha]; exact putSel_on (e := (31, 137, .bool true)) 31 rfl rfl (hon 31 oK) rfl
              replace ha := Aside0.mk ha
              obtain ⟨aS, aC, aD, aE, aP, aR, aU, aV, aW, aX, HB, bE, bI, bK, bW, bP, bX, cF, dE, dD, dF⟩ := o2_ aO (o2_ aF (o2_ aG (o2_ aH (o2_ aI (o2_ aJ (o2_ aK (o2_ aL (o2_ aM (o2_ aN (o2_ Q_HB (o2_ (aQ (hon 2 oK)) (o2_ (aT (hon 3 oK)) (o2_ (aZ (hon 9 oK)) (o2_ (bA (hon 10 oK)) (o2_ (aY (hon 14 oK)) (o2_ (bB (hon 15 oK)) (o2_ (bD (hon 22 oK)) (o2_ (bF (hon 23 oK)) (o2_ (bC (hon 27 oK)) (o1_ (bG (hon 28 oK))))))))))))))))))))))
              have eB : w'.cell? ⟨bT, 0, none⟩ = some (.int .i64 aB) := (blk_cell aC.out 0).trans rfl
              have eC : w'.cell? ⟨bT, 1, none⟩ = some (.int .i64 aA) := (blk_cell aC.out 1).trans rfl
              have eD : w'.cell? ⟨bT, 2, none⟩ = some (.slice dH cA.length dG) := (blk_cell aC.out 2).trans rfl
              refine value_ (w1 := w') (v := .agg #[.int .i64 aB, .int .i64 aA, .slice dH cA.length dG]) (wanted_on rfl rfl rfl (dZ.trans (by first | rfl | (simp [*]; done)))) rfl ?_ ?_
              ·go_simp
               (try simp only [i64_w])
               try rfl
              refine hK.out _ _ ⟨cM, cW, cJ, cN, cG, cX, cK, cO, cH, cY, cL, cP, cI, cZ, dK, cQ, cR, cS, cT, cU, cV, (by rw [ha.out]; exact putSel_upk 37 hb_ rfl rfl rfl), aO, aF, aG, aH, aI, aJ, aK, aL, aM, aN, Q_HB, aQ, aT, aZ, bA, aY, bB, bD, bF, bC, bG, bN, bO, bL, oF (hoff 41 oK), bR, bJ, bM, bQ, bU, bZ, oF (hoff 41 oK)⟩
             refine steps_cons ?_ ?_
             ·intro b a w' hR_
              refine hide_ (fun G_ hG_ => exVVVVVVVVVVVVVVVVVVVVV_ hR_ (fun cM cW cJ cN cG cX cK cO cH cY cL cP cI cZ dK cQ cR cS cT cU cV hS_ => an33_ hS_ (fun ha aO aF aG aH aI aJ aK aL aM aN Q_HB aQ aT aZ bA aY bB bD bF bC bG bN bO bL bS bR bJ bM bQ bU bZ cC => ?_)))
              refine hG_ ?_
              clear hG_ hR_ hS_
              intro hb_ hon hoff
              refine ⟨_, rfl, fun K hK => ?_⟩
              have zN : a.tmps[18]? = some (.pointer (some ⟨bH, 0, none⟩)) := by rw [ha]; exact (putSel_off rfl).trans rfl
              have dZ : a.tmps[137]? = some (.bool true) := by rw [ha]; exact putSel_on (e := (31, 137, .bool true)) 31 rfl rfl (hon 31 oK) rfl
              replace ha := Aside0.mk ha
              obtain ⟨aS, aC, aD, aE, aP, aR, aU, aV, aW, aX, HB, bE, bI, bK, bW, bP, bX, cF, dE, dD, dF⟩ := o2_ aO (o2_ aF (o2_ aG (o2_ aH (o2_ aI (o2_ aJ (o2_ aK (o2_ aL (o2_ aM (o2_ aN (o2_ Q_HB (o2_ (aQ (hon 2 oK)) (o2_ (aT (hon 3 oK)) (o2_ (aZ (hon 9 oK)) (o2_ (bA (hon 10 oK)) (o2_ (aY (hon 14 oK)) (o2_ (bB (hon 15 oK)) (o2_ (bD (hon 22 oK)) (o2_ (bF (hon 23 oK)) (o2_ (bC (hon 27 oK)) (o1_ (bG (hon 28 oK))))))))))))))))))))))
              have eB : w'.cell? ⟨bH, 0, none⟩ = some (.int .i64 4) := (blk_cell aX.out 0).trans rfl
              have eC : w'.cell? ⟨bH, 1, none⟩ = some (.int .i64 0) := (blk_cell aX.out 1).trans rfl
              have eD : w'.cell? ⟨bH, 2, none⟩ = some (.int .i64 0) := (blk_cell aX.out 2).trans rfl
              have eV : w'.cell? ⟨bH, 3, none⟩ = some (.int .i64 0) := (blk_cell aX.out 3).trans rfl
              have eW : w'.cell? ⟨bH, 4, none⟩ = some (.int .i64 0) := (blk_cell aX.out 4).trans rfl
              refine value_ (w1 := w') (v := .agg #[.int .i64 4, .int .i64 0, .int .i64 0, .int .i64 0, .int .i64 0]) (wanted_on rfl rfl rfl (dZ.trans (by first | rfl | (simp [*]; done)))) rfl ?_ ?_
              ·go_simp
               (try simp only [i64_w])
               try rfl
              refine hK.out _ _ ⟨cM, cW, cJ, cN, cG, cX, cK, cO, cH, cY, cL, cP, cI, cZ, dK, cQ, cR, cS, cT, cU, cV, (by rw [ha.out]; exact putSel_upk 38 hb_ rfl rfl rfl), aO, aF, aG, aH, aI, aJ, aK, aL, aM, aN, Q_HB, aQ, aT, aZ, bA, aY, bB, bD, bF, bC, bG, bN, bO, oF (hoff 40 oK), oF (hoff 41 oK), bR, bJ, bM, bQ, bU, bZ, oF (hoff 41 oK)⟩
             refine steps_cons ?_ ?_
             ·intro b a w' hR_
              refine hide_ (fun G_ hG_ => exVVVVVVVVVVVVVVVVVVVVV_ hR_ (fun cM cW cJ cN cG cX cK cO cH cY cL cP cI cZ dK cQ cR cS cT cU cV hS_ => an33_ hS_ (fun ha aO aF aG aH aI aJ aK aL aM aN Q_HB aQ aT aZ bA aY bB bD bF bC bG bN bO bL bS bR bJ bM bQ bU bZ cC => ?_)))
              refine hG_ ?_
              clear hG_ hR_ hS_
              intro hb_ hon hoff
              refine ⟨_, rfl, fun K hK => ?_⟩
              have e15 : a.tmps[15]? = some (.pointer (some ⟨dC, 0, none⟩)) := by rw [ha]; exact (putSel_off rfl).trans rfl
              have dZ : a.tmps[137]? = some (.bool true) := by rw [ha]; exact putSel_on (e := (31, 137, .bool true)) 31 rfl rfl (hon 31 oK) rfl
              replace ha := Aside0.mk ha
              obtain ⟨aS, aC, aD, aE, aP, aR, aU, aV, aW, aX, HB, bE, bI, bK, bW, bP, bX, cF, dE, dD, dF⟩ := o2_ aO (o2_ aF (o2_ aG (o2_ aH (o2_ aI (o2_ aJ (o2_ aK (o2_ aL (o2_ aM (o2_ aN (o2_ Q_HB (o2_ (aQ (hon 2 oK)) (o2_ (aT (hon 3 oK)) (o2_ (aZ (hon 9 oK)) (o2_ (bA (hon 10 oK)) (o2_ (aY (hon 14 oK)) (o2_ (bB (hon 15 oK)) (o2_ (bD (hon 22 oK)) (o2_ (bF (hon 23 oK)) (o2_ (bC (hon 27 oK)) (o1_ (bG (hon 28 oK))))))))))))))))))))))
              have eB : w'.cell? ⟨dC, 0, none⟩ = some (.int .i64 1) := (blk_cell aU.out 0).trans rfl
              have eC : w'.cell? ⟨dC, 1, none⟩ = some (.int .i64 (wrap64 ((wrap64 (aA - (Int.tmod (wrap64 ((l1.length : Int) / 7)) aA))) - (wrap64 (1 + (Int.tmod (wrap64 ((l1.length : Int) / 5)) (wrap64 (aA - (Int.tmod (wrap64 ((l1.length : Int) / 7)) aA))))))))) := (blk_cell aU.out 1).trans rfl
              have eD : w'.cell? ⟨dC, 2, none⟩ = some (.int .i64 ((l1.length : Int) % aB)) := (blk_cell aU.out 2).trans rfl
              have eV : w'.cell? ⟨dC, 3, none⟩ = some (.int .i64 (wrap64 (1 + (Int.tmod (wrap64 ((l1.length : Int) / 5)) (wrap64 (aA - (Int.tmod (wrap64 ((l1.length : Int) / 7)) aA))))))) := (blk_cell aU.out 3).trans rfl
              have eW : w'.cell? ⟨dC, 4, none⟩ = some (.int .i64 (wrap64 (1 + (Int.tmod (wrap64 ((l1.length : Int) / 3)) (wrap64 (aB - ((l1.length : Int) % aB))))))) := (blk_cell aU.out 4).trans rfl
              refine value_ (w1 := w') (v := .agg #[.int .i64 1, .int .i64 (wrap64 ((wrap64 (aA - (Int.tmod (wrap64 ((l1.length : Int) / 7)) aA))) - (wrap64 (1 + (Int.tmod (wrap64 ((l1.length : Int) / 5)) (wrap64 (aA - (Int.tmod (wrap64 ((l1.length : Int) / 7)) aA)))))))), .int .i64 ((l1.length : Int) % aB), .int .i64 (wrap64 (1 + (Int.tmod (wrap64 ((l1.length : Int) / 5)) (wrap64 (aA - (Int.tmod (wrap64 ((l1.length : Int) / 7)) aA)))))), .int .i64 (wrap64 (1 + (Int.tmod (wrap64 ((l1.length : Int) / 3)) (wrap64 (aB - ((l1.length : Int) % aB))))))]) (wanted_on rfl rfl rfl (dZ.trans (by first | rfl | (simp [*]; done)))) rfl ?_ ?_
              ·go_simp
               (try simp only [i64_w])
               try rfl
              refine hK.out _ _ ⟨cM, cW, cJ, cN, cG, cX, cK, cO, cH, cY, cL, cP, cI, cZ, dK, cQ, cR, cS, cT, cU, cV, (by rw [ha.out]; exact putSel_upk 39 hb_ rfl rfl rfl), aO, aF, aG, aH, aI, aJ, aK, aL, aM, aN, Q_HB, aQ, aT, aZ, bA, aY, bB, bD, bF, bC, bG, bN, bO, oF (hoff 40 oK), oF (hoff 41 oK), bR, bJ, bM, bQ, bU, bZ, oF (hoff 41 oK)⟩
             refine steps_cons ?_ ?_
             ·intro b a w' hR_
              refine hide_ (fun G_ hG_ => exVVVVVVVVVVVVVVVVVVVVV_ hR_ (fun cM cW cJ cN cG cX cK cO cH cY cL cP cI cZ dK cQ cR cS cT cU cV hS_ => an33_ hS_ (fun ha aO aF aG aH aI aJ aK aL aM aN Q_HB aQ aT aZ bA aY bB bD bF bC bG bN bO bL bS bR bJ bM bQ bU bZ cC => ?_)))
              refine hG_ ?_
              clear hG_ hR_ hS_
              intro hb_ hon hoff
              refine ⟨_, rfl, fun K hK => ?_⟩
              have zH : a.tmps[144]? = some (.agg #[.int .i64 4, .int .i64 0, .int .i64 0, .int .i64 0, .int .i64 0]) := by rw [ha]; exact putSel_on (e := (38, 144, .agg #[.int .i64 4, .int .i64 0, .int .i64 0, .int .i64 0, .int .i64 0])) 38 rfl rfl (hon 38 oK) rfl
              have zI : a.tmps[145]? = some (.agg #[.int .i64 1, .int .i64 (wrap64 ((wrap64 (aA - (Int.tmod (wrap64 ((l1.length : Int) / 7)) aA))) - (wrap64 (1 + (Int.tmod (wrap64 ((l1.length : Int) / 5)) (wrap64 (aA - (Int.tmod (wrap64 ((l1.length : Int) / 7)) aA)))))))), .int .i64 ((l1.length : Int) % aB), .int .i64 (wrap64 (1 + (Int.tmod (wrap64 ((l1.length : Int) / 5)) (wrap64 (aA - (Int.tmod (wrap64 ((l1.length : Int) / 7)) aA)))))), .int .i64 (wrap64 (1 + (Int.tmod (wrap64 ((l1.length : Int) / 3)) (wrap64 (aB - ((l1.length : Int) % aB))))))]) := by rw [ha]; exact putSel_on (e := (39, 145, .agg #[.int .i64 1, .int .i64 (wrap64 ((wrap64 (aA - (Int.tmod (wrap64 ((l1.length : Int) / 7)) aA))) - (wrap64 (1 + (Int.tmod (wrap64 ((l1.length : Int) / 5)) (wrap64 (aA - (Int.tmod (wrap64 ((l1.length : Int) / 7)) aA)))))))), .int .i64 ((l1.length : Int) % aB), .int .i64 (wrap64 (1 + (Int.tmod (wrap64 ((l1.length : Int) / 5)) (wrap64 (aA - (Int.tmod (wrap64 ((l1.length : Int) / 7)) aA)))))), .int .i64 (wrap64 (1 + (Int.tmod (wrap64 ((l1.length : Int) / 3)) (wrap64 (aB - ((l1.length : Int) % aB))))))])) 39 rfl rfl (hon 39 oK) rfl
              have dZ : a.tmps[137]? = some (.bool true) := by rw [ha]; exact putSel_on (e := (31, 137, .bool true)) 31 rfl rfl (hon 31 oK) rfl
              replace ha := Aside0.mk ha
              obtain ⟨aS, aC, aD, aE, aP, aR, aU, aV, aW, aX, HB, bE, bI, bK, bW, bP, bX, cF, dE, dD, dF⟩ := o2_ aO (o2_ aF (o2_ aG (o2_ aH (o2_ aI (o2_ aJ (o2_ aK (o2_ aL (o2_ aM (o2_ aN (o2_ Q_HB (o2_ (aQ (hon 2 oK)) (o2_ (aT (hon 3 oK)) (o2_ (aZ (hon 9 oK)) (o2_ (bA (hon 10 oK)) (o2_ (aY (hon 14 oK)) (o2_ (bB (hon 15 oK)) (o2_ (bD (hon 22 oK)) (o2_ (bF (hon 23 oK)) (o2_ (bC (hon 27 oK)) (o1_ (bG (hon 28 oK))))))))))))))))))))))
              refine Kd.R_lit_step k27 _ 27 ?hg (N := 146) ?hd (xs := ([(⟨4, 0, 0, 0, 0⟩ : S27), (⟨1, wrap64 ((wrap64 (aA - (Int.tmod (wrap64 ((l1.length : Int) / 7)) aA))) - (wrap64 (1 + (Int.tmod (wrap64 ((l1.length : Int) / 5)) (wrap64 (aA - (Int.tmod (wrap64 ((l1.length : Int) / 7)) aA))))))), (l1.length : Int) % aB, wrap64 (1 + (Int.tmod (wrap64 ((l1.length : Int) / 5)) (wrap64 (aA - (Int.tmod (wrap64 ((l1.length : Int) / 7)) aA))))), wrap64 (1 + (Int.tmod (wrap64 ((l1.length : Int) / 3)) (wrap64 (aB - ((l1.length : Int) % aB)))))⟩ : S27)] : List (S27))) (inner := [.int .i64 4, .int .i64 0, .int .i64 0, .int .i64 0, .int .i64 0, .int .i64 1, .int .i64 (wrap64 ((wrap64 (aA - (Int.tmod (wrap64 ((l1.length : Int) / 7)) aA))) - (wrap64 (1 + (Int.tmod (wrap64 ((l1.length : Int) / 5)) (wrap64 (aA - (Int.tmod (wrap64 ((l1.length : Int) / 7)) aA)))))))), .int .i64 ((l1.length : Int) % aB), .int .i64 (wrap64 (1 + (Int.tmod (wrap64 ((l1.length : Int) / 5)) (wrap64 (aA - (Int.tmod (wrap64 ((l1.length : Int) / 7)) aA)))))), .int .i64 (wrap64 (1 + (Int.tmod (wrap64 ((l1.length : Int) / 3)) (wrap64 (aB - ((l1.length : Int) % aB))))))]) (ok := fun _ => True) (okp := fun _ => True) ?hr ?hp (fun _ hk => hk) trivial (Below.refl _ _) (Nat.le_refl _) (by simp) ?_; (case hd => rfl); (case hg => first | rfl | exact wanted_on rfl rfl rfl (by assumption)); (case hr => first | (go_simp; done) | (go_simp; rfl)); (case hp => exact (Reps.c5 (show Kd.M k27 _ _ _ (⟨4, 0, 0, 0, 0⟩ : S27) [.int .i64 4, .int .i64 0, .int .i64 0, .int .i64 0, .int .i64 0] from (k27_mkM _ _ _ (⟨4, 0, 0, 0, 0⟩ : S27) )) (Reps.c5 (show Kd.M k27 _ _ _ (⟨1, wrap64 ((wrap64 (aA - (Int.tmod (wrap64 ((l1.length : Int) / 7)) aA))) - (wrap64 (1 + (Int.tmod (wrap64 ((l1.length : Int) / 5)) (wrap64 (aA - (Int.tmod (wrap64 ((l1.length : Int) / 7)) aA))))))), (l1.length : Int) % aB, wrap64 (1 + (Int.tmod (wrap64 ((l1.length : Int) / 5)) (wrap64 (aA - (Int.tmod (wrap64 ((l1.length : Int) / 7)) aA))))), wrap64 (1 + (Int.tmod (wrap64 ((l1.length : Int) / 3)) (wrap64 (aB - ((l1.length : Int) % aB)))))⟩ : S27) [.int .i64 1, .int .i64 (wrap64 ((wrap64 (aA - (Int.tmod (wrap64 ((l1.length : Int) / 7)) aA))) - (wrap64 (1 + (Int.tmod (wrap64 ((l1.length : Int) / 5)) (wrap64 (aA - (Int.tmod (wrap64 ((l1.length : Int) / 7)) aA)))))))), .int .i64 ((l1.length : Int) % aB), .int .i64 (wrap64 (1 + (Int.tmod (wrap64 ((l1.length : Int) / 5)) (wrap64 (aA - (Int.tmod (wrap64 ((l1.length : Int) / 7)) aA)))))), .int .i64 (wrap64 (1 + (Int.tmod (wrap64 ((l1.length : Int) / 3)) (wrap64 (aB - ((l1.length : Int) % aB))))))] from (k27_mkM _ _ _ (⟨1, wrap64 ((wrap64 (aA - (Int.tmod (wrap64 ((l1.length : Int) / 7)) aA))) - (wrap64 (1 + (Int.tmod (wrap64 ((l1.length : Int) / 5)) (wrap64 (aA - (Int.tmod (wrap64 ((l1.length : Int) / 7)) aA))))))), (l1.length : Int) % aB, wrap64 (1 + (Int.tmod (wrap64 ((l1.length : Int) / 5)) (wrap64 (aA - (Int.tmod (wrap64 ((l1.length : Int) / 7)) aA))))), wrap64 (1 + (Int.tmod (wrap64 ((l1.length : Int) / 3)) (wrap64 (aB - ((l1.length : Int) % aB)))))⟩ : S27) )) (Reps.none _ _))))
              intro cI jJ ho120 hb hg_ hnew_
              clear hg_ hnew_
              (first | rw [← kJ.out] at ho120 | (simp only [Int.reduceToNat] at ho120; rw [← kJ.out] at ho120))
              have eJ := Aside0.mk (Kd.Q_below aS.out hb)
              have eK := Aside0.mk (Kd.R_elder' bE.out (Kd.R_base ho120) hb)
              have eL := Aside0.mk (Kd.V_elder' bI.out (Kd.R_base ho120) hb)
              have eM := Aside0.mk (Kd.R_elder' bK.out (Kd.R_base ho120) hb)
              have eN := Aside0.mk (Kd.V_elder' bW.out (Kd.R_base ho120) hb)
              have eO := Aside0.mk (Kd.R_elder' bP.out (Kd.R_base ho120) hb)
              have eP := Aside0.mk (Kd.V_elder' bX.out (Kd.R_base ho120) hb)
              have eQ := Aside0.mk (Kd.R_elder' cF.out (Kd.R_base ho120) hb)
              have eR := Aside0.mk (Kd.V_elder' dE.out (Kd.R_base ho120) hb)
              have eS := Aside0.mk (Kd.R_elder' dD.out (Kd.R_base ho120) hb)
              have dO := Aside0.mk (Kd.V_elder' dF.out (Kd.R_base ho120) hb)
              have dS := Aside0.mk (Kd.R_lower (Kd.R_newB (Kd.R_newB (Kd.R_newB (Kd.R_newB (Kd.R_newB (Kd.R_newB (Kd.R_newB (Kd.R_newB (Kd.R_new' (Kd.R_new' (Kd.R_new' (Kd.R_new' (Kd.R_new' ho120 (Kd.R_lt bE.out)) (Kd.R_lt bK.out)) (Kd.R_lt bP.out)) (Kd.R_lt cF.out)) (Kd.R_lt dD.out)) aD.out) aE.out) aP.out) aR.out) aU.out) aV.out) aW.out) aX.out) (below_size (oB HB)))
              have dT := Aside0.mk (blk_below aC.out hb)
              have dU := Aside0.mk (blk_below aD.out hb)
              have eA := Aside0.mk (blk_below aE.out hb)
              have eG := Aside0.mk (blk_below aP.out hb)
              have eH := Aside0.mk (blk_below aR.out hb)
              have eI := Aside0.mk (blk_below aU.out hb)
              have eZ := Aside0.mk (blk_below aV.out hb)
              have fK := Aside0.mk (blk_below aW.out hb)
              have fL := Aside0.mk (blk_below aX.out hb)
              have fM := Aside0.mk (below_step (oB HB) hb)
              have jO := fun (h0_ : b 35 = true) => (show Kd.R k27 27 jJ w.heap.size (fun k_ => k_ ≠ cB ∧ k_ ≠ bY ∧ k_ ≠ dA ∧ k_ ≠ dB ∧ k_ ≠ dC ∧ k_ ≠ cD ∧ k_ ≠ cE ∧ k_ ≠ bH) cL y722 from by first | exact (Kd.R_elder' (uR ((bN h0_))) (Kd.R_base ho120) hb) | exact Kd.R_mono (Kd.R_elder' (uR ((bN h0_))) (Kd.R_base ho120) hb) (fun _ h_ => by first | trivial | exact h_ | exact h_.1))
              have jP := fun (h0_ : b 36 = true) => (show Kd.V k38 38 jJ w.heap.size (fun k_ => k_ ≠ bT ∧ k_ ≠ cB ∧ k_ ≠ bY ∧ k_ ≠ dA ∧ k_ ≠ dB ∧ k_ ≠ dC ∧ k_ ≠ cD ∧ k_ ≠ cE ∧ k_ ≠ bH) cP fR from by first | exact (Kd.V_elder' (uV ((bO h0_))) (Kd.R_base ho120) hb) | exact Kd.V_mono (Kd.V_elder' (uV ((bO h0_))) (Kd.R_base ho120) hb) (fun _ h_ => by first | trivial | exact h_ | exact h_.1))
              clear aS
              clear bE
              clear bI
              clear bK
              clear bW
              clear bP
              clear bX
              clear cF
              clear dE
              clear dD
              clear dF
              clear aC
              clear aD
              clear aE
              clear aP
              clear aR
              clear aU
              clear aV
              clear aW
              clear aX
              clear HB
              have aS := eJ
              have bE := eK
              have bI := eL
              have bK := eM
              have bW := eN
              have bP := eO
              have bX := eP
              have cF := eQ
              have dE := eR
              have dD := eS
              have dF := dO
              have dP := dS
              have aC := dT
              have aD := dU
              have aE := eA
              have aP := eG
              have aR := eH
              have aU := eI
              have aV := eZ
              have aW := fK
              have aX := fL
              have HB := fM
              clear eJ eK eL eM eN eO eP eQ eR eS dO dS dT dU eA eG eH eI eZ fK fL fM
              clear hb ho120
              refine hK.out _ _ ⟨cM, cW, cJ, cN, cG, cX, cK, cO, cH, cY, cL, cP, cI, cZ, dK, cQ, cR, cS, cT, cU, cV, (by rw [ha.out]; exact putSel_upk 40 hb_ rfl rfl rfl), aS.out, aC.out, aD.out, aE.out, aP.out, aR.out, aU.out, aV.out, aW.out, aX.out, (oB HB), fun _ => (by (with_reducible repeat (first | apply Kd.R_alloc | apply Kd.R_drewN | apply Kd.R_drew)); exact Kd.R_mono bE.out oY), fun _ => (by (with_reducible repeat (first | apply Kd.V_alloc | apply Kd.V_drewN | apply Kd.V_drew)); exact Kd.V_mono bI.out oY), fun _ => (by (with_reducible repeat (first | apply Kd.R_alloc | apply Kd.R_drewN | apply Kd.R_drew)); exact Kd.R_mono bK.out oY), fun _ => (by (with_reducible repeat (first | apply Kd.V_alloc | apply Kd.V_drewN | apply Kd.V_drew)); exact Kd.V_mono bW.out oY), fun _ => (by (with_reducible repeat (first | apply Kd.R_alloc | apply Kd.R_drewN | apply Kd.R_drew)); exact Kd.R_mono bP.out oY), fun _ => (by (with_reducible repeat (first | apply Kd.V_alloc | apply Kd.V_drewN | apply Kd.V_drew)); exact Kd.V_mono bX.out oY), fun _ => (by (with_reducible repeat (first | apply Kd.R_alloc | apply Kd.R_drewN | apply Kd.R_drew)); exact Kd.R_mono cF.out oY), fun _ => (by (with_reducible repeat (first | apply Kd.V_alloc | apply Kd.V_drewN | apply Kd.V_drew)); exact Kd.V_mono dE.out oY), fun _ => (by (with_reducible repeat (first | apply Kd.R_alloc | apply Kd.R_drewN | apply Kd.R_drew)); exact Kd.R_mono dD.out oY), fun _ => (by (with_reducible repeat (first | apply Kd.V_alloc | apply Kd.V_drewN | apply Kd.V_drew)); exact Kd.V_mono dF.out oY), jO, jP, fun _ => (by (with_reducible repeat (first | apply Kd.R_alloc | apply Kd.R_drewN | apply Kd.R_drew)); exact Kd.R_mono dP.out oY), oF (hoff 41 oK), bR, bJ, bM, bQ, bU, bZ, oF (hoff 41 oK)⟩
             refine steps_cons ?_ ?_
             ·intro b a w' hR_
              refine hide_ (fun G_ hG_ => exVVVVVVVVVVVVVVVVVVVVV_ hR_ (fun cM cW cJ cN cG cX cK cO cH cY cL cP cI cZ dK cQ cR cS cT cU cV hS_ => an33_ hS_ (fun ha aO aF aG aH aI aJ aK aL aM aN Q_HB aQ aT aZ bA aY bB bD bF bC bG bN bO bL bS bR bJ bM bQ bU bZ cC => ?_)))
              refine hG_ ?_
              clear hG_ hR_ hS_
              intro hb_ hon hoff
              refine ⟨_, rfl, fun K hK => ?_⟩
              have nC : a.tmps[143]? = some (.agg #[.int .i64 aB, .int .i64 aA, .slice dH cA.length dG]) := by rw [ha]; exact putSel_on (e := (37, 143, .agg #[.int .i64 aB, .int .i64 aA, .slice dH cA.length dG])) 37 rfl rfl (hon 37 oK) rfl
              have nD : a.tmps[146]? = some (cI) := by rw [ha]; exact putSel_on (e := (40, 146, cI)) 40 rfl rfl (hon 40 oK) rfl
              have dZ : a.tmps[137]? = some (.bool true) := by rw [ha]; exact putSel_on (e := (31, 137, .bool true)) 31 rfl rfl (hon 31 oK) rfl
              replace ha := Aside0.mk ha
              obtain ⟨aS, aC, aD, aE, aP, aR, aU, aV, aW, aX, HB, bE, bI, bK, bW, bP, bX, cF, dE, dD, dF, dM, dR, dP⟩ := o2_ aO (o2_ aF (o2_ aG (o2_ aH (o2_ aI (o2_ aJ (o2_ aK (o2_ aL (o2_ aM (o2_ aN (o2_ Q_HB (o2_ (aQ (hon 2 oK)) (o2_ (aT (hon 3 oK)) (o2_ (aZ (hon 9 oK)) (o2_ (bA (hon 10 oK)) (o2_ (aY (hon 14 oK)) (o2_ (bB (hon 15 oK)) (o2_ (bD (hon 22 oK)) (o2_ (bF (hon 23 oK)) (o2_ (bC (hon 27 oK)) (o2_ (bG (hon 28 oK)) (o2_ (bN (hon 35 oK)) (o2_ (bO (hon 36 oK)) (o1_ (bL (hon 40 oK)))))))))))))))))))))))))
              obtain ⟨kA, kS, lD⟩ := Kd.R_slice dP.out
              (first | subst lD | (injection lD with f1_ f2_ f3_; have f4_ := f1_.symm; have f5_ := f3_.symm; clear f1_ f2_ f3_; subst f4_; subst f5_))
              refine goes_ Try.func27 oK rfl #[.agg #[.int .i64 aB, .int .i64 aA, .slice dH cA.length dG], .slice kA y730.length kS] (by first | rfl | exact wanted_on rfl rfl rfl (by assumption)) rfl rfl (by first | (simp only [List.map_toArray, List.map_cons, List.map_nil, Act.eval, Array.getD_eq_getD_getElem?, Option.getD_some, nC, nD, dZ]; done) | (simp only [List.map_toArray, List.map_cons, List.map_nil, Act.eval, Array.getD_eq_getD_getElem?, Option.getD_some, nC, nD, dZ]; rfl)) ?_
              with_reducible refine (laws_eaDo.calls kj2 aB aA (fun k_ => some k_ = (.slice dH cA.length dG : Value).ownBlock) _ _ cA _ _ y730 jD jE jF _ ?side1 ?side2 ?side3 yN.out).mono ?_
              (case side1 => exact Kd.Q_V (Kd.Q_tight rfl (Kd.Q_types (Kd.Q_types (Kd.Q_types (Kd.Q_types (Kd.Q_types (Kd.Q_types (Kd.Q_types (Kd.Q_types (Kd.Q_types (Kd.Q_apart' (Kd.Q_apart' (Kd.Q_apart' (Kd.Q_apart' (Kd.Q_apart' (Kd.Q_apart' (Kd.Q_apart' (aS.out) (Kd.R_typed bE.out) oD) (Kd.R_typed bK.out) oD) (Kd.R_typed bP.out) oD) (Kd.R_typed cF.out) oD) (Kd.R_typed dD.out) oD) (Kd.R_typed dM.out) oD) (Kd.R_typed dP.out) oD) aC.out oD) aD.out oD) aE.out oD) aP.out oD) aR.out oD) aU.out oD) aV.out oD) aW.out oD) aX.out oD)))
              (case side2 => repeat (first | exact (Kd.R_reads' dP.out).2.2 | (with_reducible refine Kd.C_alloc ?_ _) | (with_reducible refine Kd.C_drewN ?_ _) | (with_reducible refine Kd.C_drew ?_)))
              (case side3 => exact (Kd.R_reads' dP.out).2.1)
              rintro e zT ⟨cZ, rfl, ho0, hb⟩
              refine ⟨_, rfl, ?_⟩
              have hq_ := (Kd.Q_types (Kd.Q_types (Kd.Q_types (Kd.Q_types (Kd.Q_types (Kd.Q_types (Kd.Q_types (Kd.Q_types (Kd.Q_types (Kd.Q_apart' (Kd.Q_apart' (Kd.Q_apart' (Kd.Q_apart' (Kd.Q_apart' (Kd.Q_apart' (Kd.Q_apart' (aS.out) (Kd.R_typed bE.out) oD) (Kd.R_typed bK.out) oD) (Kd.R_typed bP.out) oD) (Kd.R_typed cF.out) oD) (Kd.R_typed dD.out) oD) (Kd.R_typed dM.out) oD) (Kd.R_typed dP.out) oD) aC.out oD) aD.out oD) aE.out oD) aP.out oD) aR.out oD) aU.out oD) aV.out oD) aW.out oD) aX.out oD)
              have n_ := o2_ (Kd.Q_below aS.out hb) (o2_ (Kd.R_below bE.out hb) (o2_ (Kd.V_below bI.out hb) (o2_ (Kd.R_below bK.out hb) (o2_ (Kd.V_below bW.out hb) (o2_ (Kd.R_below bP.out hb) (o2_ (Kd.V_below bX.out hb) (o2_ (Kd.R_below cF.out hb) (o2_ (Kd.V_below dE.out hb) (o2_ (Kd.R_below dD.out hb) (o2_ (Kd.V_below dF.out hb) (o2_ (Kd.R_below dM.out hb) (o2_ (Kd.V_below dR.out hb) (o2_ (Kd.R_below dP.out hb) (o2_ (Kd.V_lower (Kd.V_mono (ok' := fun k_ => k_ ≠ bT ∧ k_ ≠ cB ∧ k_ ≠ bY ∧ k_ ≠ dA ∧ k_ ≠ dB ∧ k_ ≠ dC ∧ k_ ≠ cD ∧ k_ ≠ cE ∧ k_ ≠ bH) ho0 (fun k_ hk_ => ⟨Or.elim hk_ (fun hs_ => (hq_.1 k_ hs_.symm).1.1.1.1.1.1.1.1.2) (fun hn_ => (Kd.freshB aC.out k_ hn_)), Or.elim hk_ (fun hs_ => (hq_.1 k_ hs_.symm).1.1.1.1.1.1.1.2) (fun hn_ => (Kd.freshB aD.out k_ hn_)), Or.elim hk_ (fun hs_ => (hq_.1 k_ hs_.symm).1.1.1.1.1.1.2) (fun hn_ => (Kd.freshB aE.out k_ hn_)), Or.elim hk_ (fun hs_ => (hq_.1 k_ hs_.symm).1.1.1.1.1.2) (fun hn_ => (Kd.freshB aP.out k_ hn_)), Or.elim hk_ (fun hs_ => (hq_.1 k_ hs_.symm).1.1.1.1.2) (fun hn_ => (Kd.freshB aR.out k_ hn_)), Or.elim hk_ (fun hs_ => (hq_.1 k_ hs_.symm).1.1.1.2) (fun hn_ => (Kd.freshB aU.out k_ hn_)), Or.elim hk_ (fun hs_ => (hq_.1 k_ hs_.symm).1.1.2) (fun hn_ => (Kd.freshB aV.out k_ hn_)), Or.elim hk_ (fun hs_ => (hq_.1 k_ hs_.symm).1.2) (fun hn_ => (Kd.freshB aW.out k_ hn_)), Or.elim hk_ (fun hs_ => (hq_.1 k_ hs_.symm).2) (fun hn_ => (Kd.freshB aX.out k_ hn_))⟩)) (below_size (oB HB))) (o2_ (blk_below aC.out hb) (o2_ (blk_below aD.out hb) (o2_ (blk_below aE.out hb) (o2_ (blk_below aP.out hb) (o2_ (blk_below aR.out hb) (o2_ (blk_below aU.out hb) (o2_ (blk_below aV.out hb) (o2_ (blk_below aW.out hb) (o2_ (blk_below aX.out hb) (o1_ (below_step (oB HB) hb)))))))))))))))))))))))))
              clear aS bE bI bK bW bP bX cF dE dD dF dM dR dP aC aD aE aP aR aU aV aW aX HB
              obtain ⟨aS, bE, bI, bK, bW, bP, bX, cF, dE, dD, dF, dM, dR, dP, eE, aC, aD, aE, aP, aR, aU, aV, aW, aX, HB⟩ := n_
              clear hq_
              (try clear hb)
              (try clear hb2)
              (try clear hk)
              (try clear hi)
              (try clear ho0)
              refine hK.out _ _ ⟨cM, cW, cJ, cN, cG, cX, cK, cO, cH, cY, cL, cP, .slice kA y730.length kS, cZ, dK, cQ, cR, cS, cT, cU, (.agg #[.int .i64 jD, .int .i64 jE, cZ]), (by rw [ha.out]; exact putSel_upk 41 hb_ rfl rfl rfl), aS.out, aC.out, aD.out, aE.out, aP.out, aR.out, aU.out, aV.out, aW.out, aX.out, (oB HB), fun _ => bE.out, fun _ => bI.out, fun _ => bK.out, fun _ => bW.out, fun _ => bP.out, fun _ => bX.out, fun _ => cF.out, fun _ => dE.out, fun _ => dD.out, fun _ => dF.out, fun _ => dM.out, fun _ => dR.out, fun _ => dP.out, fun _ => eE.out, bR, bJ, bM, bQ, bU, bZ, fun _ => rfl⟩
             refine steps_cons ?_ ?_
             ·intro b a w' hR_
              refine hide_ (fun G_ hG_ => exVVVVVVVVVVVVVVVVVVVVV_ hR_ (fun cM cW cJ cN cG cX cK cO cH cY cL cP cI cZ dK cQ cR cS cT cU cV hS_ => an33_ hS_ (fun ha aO aF aG aH aI aJ aK aL aM aN Q_HB aQ aT aZ bA aY bB bD bF bC bG bN bO bL bS bR bJ bM bQ bU bZ cC => ?_)))
              refine hG_ ?_
              clear hG_ hR_ hS_
              intro hb_ hon hoff
              refine ⟨_, rfl, fun K hK => ?_⟩
              have lP : a.tmps[142]? = some (cU) := by rw [ha]; exact putSel_on (e := (36, 142, cU)) 36 rfl rfl (hon 36 oK) rfl
              rw [bZ (hon 36 oK)] at lP
              have lQ : a.tmps[147]? = some (cV) := by rw [ha]; exact putSel_on (e := (41, 147, cV)) 41 rfl rfl (hon 41 oK) rfl
              rw [cC (hon 41 oK)] at lQ
              have dZ : a.tmps[137]? = some (.bool true) := by rw [ha]; exact putSel_on (e := (31, 137, .bool true)) 31 rfl rfl (hon 31 oK) rfl
              replace ha := Aside0.mk ha
              obtain ⟨aS, aC, aD, aE, aP, aR, aU, aV, aW, aX, HB, bE, bI, bK, bW, bP, bX, cF, dE, dD, dF, dM, dR, dP, eE⟩ := o2_ aO (o2_ aF (o2_ aG (o2_ aH (o2_ aI (o2_ aJ (o2_ aK (o2_ aL (o2_ aM (o2_ aN (o2_ Q_HB (o2_ (aQ (hon 2 oK)) (o2_ (aT (hon 3 oK)) (o2_ (aZ (hon 9 oK)) (o2_ (bA (hon 10 oK)) (o2_ (aY (hon 14 oK)) (o2_ (bB (hon 15 oK)) (o2_ (bD (hon 22 oK)) (o2_ (bF (hon 23 oK)) (o2_ (bC (hon 27 oK)) (o2_ (bG (hon 28 oK)) (o2_ (bN (hon 35 oK)) (o2_ (bO (hon 36 oK)) (o2_ (bL (hon 40 oK)) (o1_ (bS (hon 41 oK))))))))))))))))))))))))))
              obtain ⟨kB, kT, lE⟩ := Kd.V_slice dR.out
              (first | subst lE | (injection lE with f1_ f2_ f3_; have f4_ := f1_.symm; have f5_ := f3_.symm; clear f1_ f2_ f3_; subst f4_; subst f5_))
              obtain ⟨kC, kU, lF⟩ := Kd.V_slice eE.out
              (first | subst lF | (injection lF with f1_ f2_ f3_; have f4_ := f1_.symm; have f5_ := f3_.symm; clear f1_ f2_ f3_; subst f4_; subst f5_))
              refine goes_ Try.func21 oK rfl #[.agg #[.int .i64 iR, .int .i64 iS, .slice kB fR.length kT], .agg #[.int .i64 jD, .int .i64 jE, .slice kC jF.length kU]] (by first | rfl | exact wanted_on rfl rfl rfl (by assumption)) rfl rfl (by first | (simp only [List.map_toArray, List.map_cons, List.map_nil, Act.eval, Array.getD_eq_getD_getElem?, Option.getD_some, lP, lQ, dZ]; done) | (simp only [List.map_toArray, List.map_cons, List.map_nil, Act.eval, Array.getD_eq_getD_getElem?, Option.getD_some, lP, lQ, dZ]; rfl)) ?_
              with_reducible refine (laws_eaRas.calls kj2 iR iS _ _ fR jD jE _ _ jF dV _ ?side1 ?side2 ?side3 ?side4 yO.out).mono ?_
              (case side1 => repeat (first | exact (Kd.V_reads' dR.out).2.2 | (with_reducible refine Kd.C_alloc ?_ _) | (with_reducible refine Kd.C_drewN ?_ _) | (with_reducible refine Kd.C_drew ?_)))
              (case side2 => exact (Kd.V_reads' dR.out).2.1)
              (case side3 => repeat (first | exact (Kd.V_reads' eE.out).2.2 | (with_reducible refine Kd.C_alloc ?_ _) | (with_reducible refine Kd.C_drewN ?_ _) | (with_reducible refine Kd.C_drew ?_)))
              (case side4 => exact (Kd.V_reads' eE.out).2.1)
              rintro e uH ⟨rfl, hb⟩
              refine ⟨_, rfl, ?_⟩
              have n_ := o2_ (Kd.Q_below aS.out hb) (o2_ (Kd.R_below bE.out hb) (o2_ (Kd.V_below bI.out hb) (o2_ (Kd.R_below bK.out hb) (o2_ (Kd.V_below bW.out hb) (o2_ (Kd.R_below bP.out hb) (o2_ (Kd.V_below bX.out hb) (o2_ (Kd.R_below cF.out hb) (o2_ (Kd.V_below dE.out hb) (o2_ (Kd.R_below dD.out hb) (o2_ (Kd.V_below dF.out hb) (o2_ (Kd.R_below dM.out hb) (o2_ (Kd.V_below dR.out hb) (o2_ (Kd.R_below dP.out hb) (o2_ (Kd.V_below eE.out hb) (o2_ (blk_below aC.out hb) (o2_ (blk_below aD.out hb) (o2_ (blk_below aE.out hb) (o2_ (blk_below aP.out hb) (o2_ (blk_below aR.out hb) (o2_ (blk_below aU.out hb) (o2_ (blk_below aV.out hb) (o2_ (blk_below aW.out hb) (o2_ (blk_below aX.out hb) (o1_ (below_step (oB HB) hb)))))))))))))))))))))))))
              clear aS bE bI bK bW bP bX cF dE dD dF dM dR dP eE aC aD aE aP aR aU aV aW aX HB
              obtain ⟨aS, bE, bI, bK, bW, bP, bX, cF, dE, dD, dF, dM, dR, dP, eE, aC, aD, aE, aP, aR, aU, aV, aW, aX, HB⟩ := n_
              (try clear hb)
              (try clear hb2)
              (try clear hk)
              (try clear hi)
              refine hK.out _ _ ⟨cM, cW, cJ, cN, cG, cX, cK, cO, cH, cY, cL, .slice kB fR.length kT, cI, .slice kC jF.length kU, dK, cQ, cR, cS, cT, cU, cV, (by rw [ha.out]; exact putSel_upk 42 hb_ rfl rfl rfl), aS.out, aC.out, aD.out, aE.out, aP.out, aR.out, aU.out, aV.out, aW.out, aX.out, (oB HB), fun _ => bE.out, fun _ => bI.out, fun _ => bK.out, fun _ => bW.out, fun _ => bP.out, fun _ => bX.out, fun _ => cF.out, fun _ => dE.out, fun _ => dD.out, fun _ => dF.out, fun _ => dM.out, fun _ => dR.out, fun _ => dP.out, fun _ => eE.out, bR, bJ, bM, bQ, bU, bZ, cC⟩
             refine steps_cons ?_ ?_
             ·intro b a w' hR_
              refine hide_ (fun G_ hG_ => exVVVVVVVVVVVVVVVVVVVVV_ hR_ (fun cM cW cJ cN cG cX cK cO cH cY cL cP cI cZ dK cQ cR cS cT cU cV hS_ => an33_ hS_ (fun ha aO aF aG aH aI aJ aK aL aM aN Q_HB aQ aT aZ bA aY bB bD bF bC bG bN bO bL bS bR bJ bM bQ bU bZ cC => ?_)))
              refine hG_ ?_
              clear hG_ hR_ hS_
              intro hb_ hon hoff
              refine ⟨_, rfl, fun K hK => ?_⟩
              have dZ : a.tmps[137]? = some (.bool true) := by rw [ha]; exact putSel_on (e := (31, 137, .bool true)) 31 rfl rfl (hon 31 oK) rfl
              have zJ : a.tmps[148]? = some (.bool dV) := by rw [ha]; exact putSel_on (e := (42, 148, .bool dV)) 42 rfl rfl (hon 42 oK) rfl
              replace ha := Aside0.mk ha
              obtain ⟨aS, aC, aD, aE, aP, aR, aU, aV, aW, aX, HB, bE, bI, bK, bW, bP, bX, cF, dE, dD, dF, dM, dR, dP, eE⟩ := o2_ aO (o2_ aF (o2_ aG (o2_ aH (o2_ aI (o2_ aJ (o2_ aK (o2_ aL (o2_ aM (o2_ aN (o2_ Q_HB (o2_ (aQ (hon 2 oK)) (o2_ (aT (hon 3 oK)) (o2_ (aZ (hon 9 oK)) (o2_ (bA (hon 10 oK)) (o2_ (aY (hon 14 oK)) (o2_ (bB (hon 15 oK)) (o2_ (bD (hon 22 oK)) (o2_ (bF (hon 23 oK)) (o2_ (bC (hon 27 oK)) (o2_ (bG (hon 28 oK)) (o2_ (bN (hon 35 oK)) (o2_ (bO (hon 36 oK)) (o2_ (bL (hon 40 oK)) (o1_ (bS (hon 41 oK))))))))))))))))))))))))))
              refine value_ (w1 := w') (v := .bool dV) (by rfl) rfl ?_ ?_
              ·go_simp
               (try simp only [i64_w])
               try rfl
              refine hK.out _ _ ⟨cM, cW, cJ, cN, cG, cX, cK, cO, cH, cY, cL, cP, cI, cZ, dK, cQ, cR, cS, cT, cU, cV, (by rw [ha.out]; exact putSel_upk 43 hb_ rfl rfl rfl), aO, aF, aG, aH, aI, aJ, aK, aL, aM, aN, Q_HB, aQ, aT, aZ, bA, aY, bB, bD, bF, bC, bG, bN, bO, bL, bS, bR, bJ, bM, bQ, bU, bZ, cC⟩
             refine steps_cons ?_ ?_
             ·intro b a w' hR_
              refine hide_ (fun G_ hG_ => exVVVVVVVVVVVVVVVVVVVVV_ hR_ (fun cM cW cJ cN cG cX cK cO cH cY cL cP cI cZ dK cQ cR cS cT cU cV hS_ => an33_ hS_ (fun ha aO aF aG aH aI aJ aK aL aM aN Q_HB aQ aT aZ bA aY bB bD bF bC bG bN bO bL bS bR bJ bM bQ bU bZ cC => ?_)))
              refine hG_ ?_
              clear hG_ hR_ hS_
              intro hb_ hon hoff
              refine ⟨_, rfl, fun K hK => ?_⟩
              have zK : a.tmps[149]? = some (.bool dV) := by rw [ha]; exact putSel_on (e := (43, 149, .bool dV)) 43 rfl rfl (hon 43 oK) rfl
              replace ha := Aside0.mk ha
              obtain ⟨aS, aC, aD, aE, aP, aR, aU, aV, aW, aX, HB, bE, bI, bK, bW, bP, bX, cF, dE, dD, dF, dM, dR, dP, eE⟩ := o2_ aO (o2_ aF (o2_ aG (o2_ aH (o2_ aI (o2_ aJ (o2_ aK (o2_ aL (o2_ aM (o2_ aN (o2_ Q_HB (o2_ (aQ (hon 2 oK)) (o2_ (aT (hon 3 oK)) (o2_ (aZ (hon 9 oK)) (o2_ (bA (hon 10 oK)) (o2_ (aY (hon 14 oK)) (o2_ (bB (hon 15 oK)) (o2_ (bD (hon 22 oK)) (o2_ (bF (hon 23 oK)) (o2_ (bC (hon 27 oK)) (o2_ (bG (hon 28 oK)) (o2_ (bN (hon 35 oK)) (o2_ (bO (hon 36 oK)) (o2_ (bL (hon 40 oK)) (o1_ (bS (hon 41 oK))))))))))))))))))))))))))
              refine value_ (w1 := w') (v := .bool dV) (by rfl) rfl ?_ ?_
              ·go_simp
               (try simp only [i64_w])
               try rfl
              refine hK.out _ _ ⟨cM, cW, cJ, cN, cG, cX, cK, cO, cH, cY, cL, cP, cI, cZ, dK, cQ, cR, cS, cT, cU, cV, (by rw [ha.out]; exact putSel_upk 44 hb_ rfl rfl rfl), aO, aF, aG, aH, aI, aJ, aK, aL, aM, aN, Q_HB, aQ, aT, aZ, bA, aY, bB, bD, bF, bC, bG, bN, bO, bL, bS, bR, bJ, bM, bQ, bU, bZ, cC⟩
             exact steps_nil
            intro b a uH hall hR_
            refine hide_ (fun G_ hG_ => exVVVVVVVVVVVVVVVVVVVVV_ hR_ (fun cM cW cJ cN cG cX cK cO cH cY cL cP cI cZ dK cQ cR cS cT cU cV hS_ => an33_ hS_ (fun ha aO aF aG aH aI aJ aK aL aM aN Q_HB aQ aT aZ bA aY bB bD bF bC bG bN bO bL bS bR bJ bM bQ bU bZ cC => ?_)))
            refine hG_ ?_
            clear hG_ hR_ hS_
            clear aC aD aE aP aR aU aV aW aX HB aS
            have hb0_ := hall 0 oK
            have hb1_ := hall 1 oK
            have hb2_ := hall 2 oK
            have hb3_ := hall 3 oK
            have hb4_ := hall 4 oK
            have hb5_ := hall 5 oK
            have hb6_ := hall 6 oK
            have hb7_ := hall 7 oK
            have hb8_ := hall 8 oK
            have hb9_ := hall 9 oK
            have hb10_ := hall 10 oK
            have hb11_ := hall 11 oK
            have hb12_ := hall 12 oK
            have hb13_ := hall 13 oK
            have hb14_ := hall 14 oK
            have hb15_ := hall 15 oK
            have hb16_ := hall 16 oK
            have hb17_ := hall 17 oK
            have hb18_ := hall 18 oK
            have hb19_ := hall 19 oK
            have hb20_ := hall 20 oK
            have hb21_ := hall 21 oK
            have hb22_ := hall 22 oK
            have hb23_ := hall 23 oK
            have hb24_ := hall 24 oK
            have hb25_ := hall 25 oK
            have hb26_ := hall 26 oK
            have hb27_ := hall 27 oK
            have hb28_ := hall 28 oK
            have hb29_ := hall 29 oK
            have hb30_ := hall 30 oK
            have hb31_ := hall 31 oK
            have hb32_ := hall 32 oK
            have hb33_ := hall 33 oK
            have hb34_ := hall 34 oK
            have hb35_ := hall 35 oK
            have hb36_ := hall 36 oK
            have hb37_ := hall 37 oK
            have hb38_ := hall 38 oK
            have hb39_ := hall 39 oK
            have hb40_ := hall 40 oK
            have hb41_ := hall 41 oK
            have hb42_ := hall 42 oK
            have hb43_ := hall 43 oK
            have hb44_ := hall 44 oK
            subst ha
            obtain rfl := bR hb3_
            obtain rfl := bJ hb10_
            obtain rfl := bM hb15_
            obtain rfl := bQ hb23_
            obtain rfl := bU hb28_
            obtain rfl := bZ hb36_
            obtain rfl := cC hb41_
            simp only [putSel, hb0_, hb1_, hb2_, hb3_, hb4_, hb5_, hb6_, hb7_, hb8_, hb9_, hb10_, hb11_, hb12_, hb13_, hb14_, hb15_, hb16_, hb17_, hb18_, hb19_, hb20_, hb21_, hb22_, hb23_, hb24_, hb25_, hb26_, hb27_, hb28_, hb29_, hb30_, hb31_, hb32_, hb33_, hb34_, hb35_, hb36_, hb37_, hb38_, hb39_, hb40_, hb41_, hb42_, hb43_, hb44_, if_true, Act.put, List.setIfInBounds_toArray, List.set_cons_zero, List.set_cons_succ]
            have aS := Aside0.mk aO
            clear aO
            have aC := Aside0.mk aF
            clear aF
            have aD := Aside0.mk aG
            clear aG
            have aE := Aside0.mk aH
            clear aH
            have aP := Aside0.mk aI
            clear aI
            have aR := Aside0.mk aJ
            clear aJ
            have aU := Aside0.mk aK
            clear aK
            have aV := Aside0.mk aL
            clear aL
            have aW := Aside0.mk aM
            clear aM
            have aX := Aside0.mk aN
            clear aN
            have HB := Aside0.mk Q_HB
            clear Q_HB
            have bE := Aside0.mk (aQ hb2_)
            clear aQ
            have bI := Aside0.mk (aT hb3_)
            clear aT
            have bK := Aside0.mk (aZ hb9_)
            clear aZ
            have bW := Aside0.mk (bA hb10_)
            clear bA
            have bP := Aside0.mk (aY hb14_)
            clear aY
            have bX := Aside0.mk (bB hb15_)
            clear bB
            have cF := Aside0.mk (bD hb22_)
            clear bD
            have dE := Aside0.mk (bF hb23_)
            clear bF
            have dD := Aside0.mk (bC hb27_)
            clear bC
            have dF := Aside0.mk (bG hb28_)
            clear bG
            have dM := Aside0.mk (bN hb35_)
            clear bN
            have dR := Aside0.mk (bO hb36_)
            clear bO
            have dP := Aside0.mk (bL hb40_)
            clear bL
            have eE := Aside0.mk (bS hb41_)
            clear bS
            clear hall hb0_ hb1_ hb2_ hb3_ hb4_ hb5_ hb6_ hb7_ hb8_ hb9_ hb10_ hb11_ hb12_ hb13_ hb14_ hb15_ hb16_ hb17_ hb18_ hb19_ hb20_ hb21_ hb22_ hb23_ hb24_ hb25_ hb26_ hb27_ hb28_ hb29_ hb30_ hb31_ hb32_ hb33_ hb34_ hb35_ hb36_ hb37_ hb38_ hb39_ hb40_ hb41_ hb42_ hb43_ hb44_
            try go_wp2
            go_ret
            exact ⟨by first | rfl | (simp [errW_none, errW_some] <;> rfl) | (simp [*, errW_none, errW_some] <;> rfl), oB HB⟩
           ·replace pM := Bool.eq_false_iff.mpr pM
            subst pM
            rw [if_neg (show ¬ (false = true) by decide)] at H
            exact absurd H (by simp)
          ·replace pL := Bool.eq_false_iff.mpr pL
           subst pL
           rw [if_neg (show ¬ (false = true) by decide)] at H
           exact absurd H (by simp)
         ·replace pK := Bool.eq_false_iff.mpr pK
          subst pK
          rw [if_neg (show ¬ (false = true) by decide)] at H
          exact absurd H (by simp)
    ·replace c8 := Bool.eq_false_iff.mpr c8
     subst c8
     rw [if_neg (show ¬ (false = true) by decide)] at H
     replace H := Option.bind_eq_some_iff.mp H
     obtain ⟨lS, jQ, H⟩ := H
     (try dsimp only at H)
     have jG := Aside0.mk jQ
     clear jQ
     by_cases jH : lS = true
     ·subst jH
      rw [if_pos rfl] at H
      exact absurd H (by simp)
     ·replace jH := Bool.eq_false_iff.mpr jH
      subst jH
      rw [if_neg (show ¬ (false = true) by decide)] at H
      replace H := Option.bind_eq_some_iff.mp H
      obtain ⟨lT, jR, H⟩ := H
      (try dsimp only at H)
      have tW := Aside0.mk jR
      clear jR
      obtain rfl := Option.some.inj H
      go_wp2_with (first | ((with_reducible refine gate_callee (f := 18) rfl ?_); refine goesL_ (some 29) rfl rfl Try.func18 oK rfl #[.slice A0 l0.length c0] rfl oA ?_; (with_reducible refine (spec_DrawOpDo.calls kj2 _ _ l0 aB aA cA fB fC fD fE fF _ ?side1 ?side2 A6.out).mono ?_); (case side1 => repeat (first | exact (Kd.C_below vD.out HB.out) | (with_reducible refine Kd.C_alloc ?_ _) | (with_reducible refine Kd.C_drewN ?_ _) | (with_reducible refine Kd.C_drew ?_))); (case side2 => exact vC.out); rintro e zU ⟨uD, rfl, ho0, hb⟩; refine ⟨_, rfl, ?_⟩; have n_ := o2_ (Kd.Q_lower ho0 (below_size (oB HB))) (o1_ (below_step (oB HB) hb)); clear HB; obtain ⟨aS, HB⟩ := n_; (try clear hb); (try clear hb2); (try clear hk); (try clear hi); (try clear ho0)) | ((with_reducible refine gate_dst (N := 5) rfl ?_); (try (refine gate_guard (by rfl) ?_; dsimp only)); refine box_event rfl (N := 5) rfl (cs := #[.int .i64 0, .int .i64 0, .slice none 0 0]) (t := 25) oS ?_; intro bT hg zV hbox hb; have n_ := o2_ (Kd.Q_below (oQ aS) hb) (o2_ (below_step (oB HB) hb) (o2_ (hbox) (o2_ ((oG hg (below_size (oB HB)) : w.heap.size ≤ bT)) (o1_ ((oG hg (below_size (oB HB)) : w.heap.size ≤ bT)))))); clear aS HB; obtain ⟨aS, HB, aC, mK, mI⟩ := n_; clear hb hbox hg) | ((with_reducible refine gate_dst (N := 6) rfl ?_); (try (refine gate_guard (by rfl) ?_; dsimp only)); refine box_event rfl (N := 6) rfl (cs := #[.int .i64 0, .int .i64 0, .int .i64 0, .int .i64 0, .int .i64 0]) (t := 27) oS ?_; intro cB hg fN hbox hb; have n_ := o2_ (Kd.Q_below (oQ aS) hb) (o2_ (blk_below (oP aC) hb) (o2_ (below_step (oB HB) hb) (o2_ (hbox) (o2_ ((oG hg (below_size (oB HB)) : w.heap.size ≤ cB)) (o2_ ((oG hg (below_size (oB HB)) : w.heap.size ≤ cB)) (o2_ ((oL hg (blk_lt (oP aC)))) (o1_ ((oN hg (blk_lt (oP aC))))))))))); clear aS aC HB; obtain ⟨aS, aC, HB, aD, mL, mJ, dI, eT⟩ := n_; clear hb hbox hg; have uA := dI.out; have uB := eT.out; have nI : fN.cell? ⟨bT, 0, none⟩ = some (.int .i64 0) := (blk_cell aC.out 0).trans rfl; have nJ : fN.cell? ⟨bT, 1, none⟩ = some (.int .i64 0) := (blk_cell aC.out 1).trans rfl; have nK : fN.cell? ⟨bT, 2, none⟩ = some (.slice none 0 0) := (blk_cell aC.out 2).trans rfl; have nT := blk_frozen aC.out 0; have nU := blk_frozen aC.out 1; have nV := blk_frozen aC.out 2; obtain ⟨fA, eY, nE, _⟩ := Kd.Q_slice aS.out; subst nE; have nL : fN.cell? ⟨cB, 0, none⟩ = some (.int .i64 0) := (blk_cell aD.out 0).trans rfl; have nM : fN.cell? ⟨cB, 1, none⟩ = some (.int .i64 0) := (blk_cell aD.out 1).trans rfl; have nN : fN.cell? ⟨cB, 2, none⟩ = some (.int .i64 0) := (blk_cell aD.out 2).trans rfl; have nO : fN.cell? ⟨cB, 3, none⟩ = some (.int .i64 0) := (blk_cell aD.out 3).trans rfl; have nP : fN.cell? ⟨cB, 4, none⟩ = some (.int .i64 0) := (blk_cell aD.out 4).trans rfl; have nW := blk_frozen aD.out 0; have nX := blk_frozen aD.out 1; have nY := blk_frozen aD.out 2; have nZ := blk_frozen aD.out 3; have oO := blk_frozen aD.out 4) | ((with_reducible refine gate_callee (f := 24) rfl ?_); refine goesL_ (some 33) rfl rfl Try.func24 oK rfl #[.agg #[.int .i64 aB, .int .i64 aA, .slice fA cA.length eY]] rfl oA ?_; (with_reducible refine (spec_RasOk.calls kj2 aB aA _ _ cA false _ ?side1 ?side2 A7.out).mono ?_); (case side1 => refine (Kd.Q_reads' (e := 38) (base := w.heap.size) (ok := fun k_ => True) (n := cA.length) (c := eY) ?_).2.2; exact (by (with_reducible repeat (first | apply Kd.Q_alloc | apply Kd.Q_drewN | apply Kd.Q_drew)); exact (Kd.Q_mono (Kd.Q_mono (Kd.Q_far (p := ⟨cB, 4, none⟩) (Kd.Q_far (p := ⟨cB, 3, none⟩) (Kd.Q_far (p := ⟨cB, 2, none⟩) (Kd.Q_far (p := ⟨cB, 1, none⟩) (Kd.Q_far (p := ⟨cB, 0, none⟩) (Kd.Q_far (p := ⟨bT, 2, none⟩) (Kd.Q_far (p := ⟨bT, 1, none⟩) (Kd.Q_far (p := ⟨bT, 0, none⟩) (Kd.Q_types (Kd.Q_types aS.out aC.out oD) aD.out oD) (fun _ hk => hk.1.2) (.int .i64 aB)) (fun _ hk => hk.1.2) (.int .i64 aA)) (fun _ hk => hk.1.2) (.slice fA cA.length eY)) (fun _ hk => hk.2) (.int .i64 fB)) (fun _ hk => hk.2) (.int .i64 fC)) (fun _ hk => hk.2) (.int .i64 fD)) (fun _ hk => hk.2) (.int .i64 fE)) (fun _ hk => hk.2) (.int .i64 fF)) (fun _ h_ => h_.1)) (fun _ h_ => h_.1)))); (case side2 => exact (Kd.Q_reads' aS.out).2.1); rintro e lU ⟨rfl, hb⟩; refine ⟨_, rfl, ?_⟩; have n_ := o2_ (Kd.Q_below (by (with_reducible repeat (first | apply Kd.Q_alloc | apply Kd.Q_drewN | apply Kd.Q_drew)); exact (Kd.Q_mono (Kd.Q_mono (Kd.Q_far (p := ⟨cB, 4, none⟩) (Kd.Q_far (p := ⟨cB, 3, none⟩) (Kd.Q_far (p := ⟨cB, 2, none⟩) (Kd.Q_far (p := ⟨cB, 1, none⟩) (Kd.Q_far (p := ⟨cB, 0, none⟩) (Kd.Q_far (p := ⟨bT, 2, none⟩) (Kd.Q_far (p := ⟨bT, 1, none⟩) (Kd.Q_far (p := ⟨bT, 0, none⟩) (Kd.Q_types (Kd.Q_types aS.out aC.out oD) aD.out oD) (fun _ hk => hk.1.2) (.int .i64 aB)) (fun _ hk => hk.1.2) (.int .i64 aA)) (fun _ hk => hk.1.2) (.slice fA cA.length eY)) (fun _ hk => hk.2) (.int .i64 fB)) (fun _ hk => hk.2) (.int .i64 fC)) (fun _ hk => hk.2) (.int .i64 fD)) (fun _ hk => hk.2) (.int .i64 fE)) (fun _ hk => hk.2) (.int .i64 fF)) (fun _ h_ => h_.1)) (fun _ h_ => h_.1))) hb) (o2_ (blk_below (g := bT) (o := .cells #[.int .i64 aB, .int .i64 aA, .slice fA cA.length eY] 25 (0, 0)) (blk_far (blk_far (blk_far (blk_far (blk_far (blk_put (blk_put (blk_put (oP aC) 0 _ rfl) 1 _ rfl) 2 _ rfl) dI.out _) dI.out _) dI.out _) dI.out _) dI.out _) hb) (o1_ (below_step (oB HB) hb))); clear aS aC HB; obtain ⟨aS, aC, HB⟩ := n_; (try clear hb); (try clear hb2); (try clear hk); (try clear hi); have nQ : lU.cell? ⟨bT, 0, none⟩ = some (.int .i64 aB) := (blk_cell aC.out 0).trans rfl; have nR : lU.cell? ⟨bT, 1, none⟩ = some (.int .i64 aA) := (blk_cell aC.out 1).trans rfl; have nS : lU.cell? ⟨bT, 2, none⟩ = some (.slice fA cA.length eY) := (blk_cell aC.out 2).trans rfl; have pA := blk_frozen aC.out 0; have pB := blk_frozen aC.out 1; have pC := blk_frozen aC.out 2) | ((with_reducible refine gate_callee (f := 26) rfl ?_); refine goesL_ (some 36) rfl rfl Try.func26 oK rfl #[.agg #[.int .i64 aB, .int .i64 aA, .slice fA cA.length eY]] rfl oA ?_; (with_reducible refine (impl_RasOk.calls kj2 aB aA _ _ cA false _ ?side1 ?side2 jG.out).mono ?_); (case side1 => repeat (first | exact (Kd.Q_reads' aS.out).2.2 | (with_reducible refine Kd.C_alloc ?_ _) | (with_reducible refine Kd.C_drewN ?_ _) | (with_reducible refine Kd.C_drew ?_))); (case side2 => exact (Kd.Q_reads' aS.out).2.1); rintro e zW ⟨rfl, hb⟩; refine ⟨_, rfl, ?_⟩; replace HB := o1_ (below_step (oB HB) hb); (try clear hb); (try clear hb2); (try clear hk); (try clear hi)) | (go_at_call 25; (with_reducible refine (laws_eaOk.calls  lT _ tW.out).mono ?_); rintro e zX ⟨rfl, hb⟩; replace HB := o1_ (below_step (oB HB) hb); (try clear hb); (try clear hb2); (try clear hk); (try clear hi)))
      go_ret
      exact ⟨by first | rfl | (simp [errW_none, errW_some] <;> rfl) | (simp [*, errW_none, errW_some] <;> rfl), oB HB⟩

/-- THE ONE PURE STATEMENT of laws_FnOpCropFlip: yours. -/
def laws_FnOpCropFlip.Pure : Prop := ∀ (l0 : List Int) (l1 : List Int), l0.length ≤ maxLen → l0.length * 1 ≤ 140737488351232 → (∀ x ∈ l0, (Lit.int .u8 x).wf = true) → l1.length ≤ maxLen → l1.length * 1 ≤ 140737488351232 → (∀ x ∈ l1, (Lit.int .u8 x).wf = true) → ∃ k, laws_FnOpCropFlip.f k l0 l1 = some true
theorem laws_FnOpCropFlip.walk (P : laws_FnOpCropFlip.Pure) (a0 : Option Addr) (len0 cap0 : Nat) (z0 : List Int) (a1 : Option Addr) (len1 cap1 : Nat) (z1 : List Int) (w : World) (w0 : (a0 = none ∧ len0 = 0 ∧ cap0 = 0 ∧ z0 = []) ∨ ∃ x, a0 = some x ∧ len0 ≤ cap0 ∧ cap0 ≤ maxLen ∧ z0.length = cap0 ∧ (∀ i, i < z0.length → w.cell? (x.add i) = some (.int .u8 (z0.getD i 0))) ∧ ∀ n ∈ z0, (Lit.int .u8 n).wf = true) (y0 : len0 * 1 ≤ 140737488351232) (w1 : (a1 = none ∧ len1 = 0 ∧ cap1 = 0 ∧ z1 = []) ∨ ∃ x, a1 = some x ∧ len1 ≤ cap1 ∧ cap1 ≤ maxLen ∧ z1.length = cap1 ∧ (∀ i, i < z1.length → w.cell? (x.add i) = some (.int .u8 (z1.getD i 0))) ∧ ∀ n ∈ z1, (Lit.int .u8 n).wf = true) (y1 : len1 * 1 ≤ 140737488351232) :
  Calls Try.prog 7 #[.slice a0 len0 cap0, .slice a1 len1 cap1] w fun e w' => e = .returned (.bool true) ∧ Below w.heap.size w w' := by
 obtain ⟨l0, rfl, hr0, hm0, hw0, pN⟩ := ReadsInt.ofRowC w0
 obtain ⟨l1, rfl, hr1, hm1, hw1, pO⟩ := ReadsInt.ofRowC w1
 obtain ⟨k, h⟩ := P l0 l1 hm0 y0 hw0 hm1 y1 hw1
 refine (laws_FnOpCropFlip.calls k _ _ l0 _ _ l1 true w (Kd.C_of_reads (d := (0 : Int)) (h1 := fun _ => rfl) hr0) pN (Kd.C_of_reads (d := (0 : Int)) (h1 := fun _ => rfl) hr1) pO h).mono ?_
 rintro e w' ⟨rfl, hd⟩
 exact ⟨rfl, hd⟩

end Go.Proofs.Ythnmeogafklhnaa.X
