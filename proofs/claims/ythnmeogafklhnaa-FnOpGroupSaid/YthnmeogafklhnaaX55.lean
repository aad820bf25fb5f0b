/- Functions of the given program as plain Lean functions, and for each the proof that the machine's call comes to what its function says. No condition but what each theorem states. Written by a program of this session. -/
import Derived.Test.YthnmeogafklhnaaX0
import Derived.Test.YthnmeogafklhnaaX9
import Derived.Test.YthnmeogafklhnaaX15
import Derived.Test.YthnmeogafklhnaaX32
import Derived.Test.YthnmeogafklhnaaX44
import Derived.Test.YthnmeogafklhnaaX45
import Derived.Test.YthnmeogafklhnaaX48
namespace Go.Proofs.Ythnmeogafklhnaa.X
open Go.RowKit Go.Proofs.YthnmeogafklhnaaW.PrintWords Go.Proofs.YthnmeogafklhnaaW.PrintLast Go.Proofs.YthnmeogafklhnaaW.PrintMore Go.Proofs.Ythnmeogafklhnaa.Hyb
attribute [local go_sem] max2_int min2_int max_two min_two max_three min_three max_four min_four   -- for this text's walks alone
set_option linter.unusedVariables false
set_option linter.unusedSimpArgs false

/-! ### laws_FnOpGroup: function 9 -/
theorem oY {P Q : Nat → Prop} (h : ∀ k, P k → Q k := by intro _ hk; first | exact trivial | exact hk | exact hk.1 | exact hk.2 | ((repeat cases ‹_ ∧ _›); (repeat' apply And.intro) <;> first | assumption | trivial)) : ∀ k, P k → Q k := h
def laws_FnOpGroup.f (k : Nat) (l0 : List Int) : Option (Bool) := if (l0.length : Int) > 1048576 then (some true) else ((spec_DrawOpDo.f k l0).bind fun cM => ((spec_RasOk.f k cM.1 cM.2.1 cM.2.2.1).bind fun fF => (if fF = true then ((laws_eaDo.f k cM.1 cM.2.1 cM.2.2.1 (([(⟨2, 0, 0, 0, 0⟩ : S27), (⟨4, 0, 0, 0, 0⟩ : S27), (⟨2, 0, 0, 0, 0⟩ : S27)] : List (S27)))).bind fun dD => ((laws_eaDo.f k cM.1 cM.2.1 cM.2.2.1 (([(⟨4, 0, 0, 0, 0⟩ : S27), (⟨4, 0, 0, 0, 0⟩ : S27), (⟨4, 0, 0, 0, 0⟩ : S27)] : List (S27)))).bind fun cY => ((laws_eaRas.f k dD.1 dD.2.1 dD.2.2 cY.1 cY.2.1 cY.2.2).bind fun eJ => (if eJ = true then ((laws_eaDo.f k cM.1 cM.2.1 cM.2.2.1 (([(⟨3, 0, 0, 0, 0⟩ : S27)] : List (S27)))).bind fun cW => ((laws_eaDo.f k cM.1 cM.2.1 cM.2.2.1 (([(⟨2, 0, 0, 0, 0⟩ : S27), (⟨4, 0, 0, 0, 0⟩ : S27), (⟨4, 0, 0, 0, 0⟩ : S27)] : List (S27)))).bind fun cU => ((laws_eaRas.f k cW.1 cW.2.1 cW.2.2 cU.1 cU.2.1 cU.2.2).bind fun eA => (if eA = true then ((laws_eaDo.f k cM.1 cM.2.1 cM.2.2.1 (([(⟨4, 0, 0, 0, 0⟩ : S27), (⟨2, 0, 0, 0, 0⟩ : S27), (⟨4, 0, 0, 0, 0⟩ : S27), (⟨2, 0, 0, 0, 0⟩ : S27)] : List (S27)))).bind fun cT => ((laws_eaRas.f k cT.1 cT.2.1 cT.2.2 cM.1 cM.2.1 cM.2.2.1).bind fun dG => (if dG = true then ((laws_eaDo.f k cM.1 cM.2.1 cM.2.2.1 (([(⟨2, 0, 0, 0, 0⟩ : S27), (⟨4, 0, 0, 0, 0⟩ : S27)] : List (S27)))).bind fun cS => ((impl_RasOk.f k cS.1 cS.2.1 cS.2.2).bind fun cX => (some cX))) else (none)))) else (none))))) else (none))))) else ((impl_RasOk.f k cM.1 cM.2.1 cM.2.2.1).bind fun fG => (if fG = true then (none) else ((laws_eaOk.f).bind fun fH => (some fH)))))))
theorem laws_FnOpGroup.mono : ∀ a0 k, LeO (laws_FnOpGroup.f k a0) (laws_FnOpGroup.f (k + 1) a0) := by
 intro a0 k
 unfold laws_FnOpGroup.f
 repeat' first
   | (with_reducible exact impl_RasOk.mono _ _ _ _)
   | (with_reducible exact laws_eaDo.mono _ _ _ _ _)
   | (with_reducible exact laws_eaRas.mono _ _ _ _ _ _ _)
   | (with_reducible exact spec_DrawOpDo.mono _ _)
   | (with_reducible exact spec_RasOk.mono _ _ _ _)
   | (with_reducible exact LeO.refl _)
   | (with_reducible exact LeO.none _)
   | (with_reducible refine LeO.ite ?_ ?_)
   | (with_reducible refine LeO.bind ?_ (fun _ => ?_))
   | exact impl_RasOk.mono _ _ _ _
   | exact laws_eaDo.mono _ _ _ _ _
   | exact laws_eaRas.mono _ _ _ _ _ _ _
   | exact spec_DrawOpDo.mono _ _
   | exact spec_RasOk.mono _ _ _ _
   | exact LeO.none _
   | refine LeO.ite ?_ ?_
   | refine LeO.bind ?_ (fun _ => ?_)
def laws_FnOpGroup.T9 : Bool × List (List Nat × List Nat) := (true, [([], []), ([], []), ([], []), ([], []), ([1, 2, 3], [1, 2, 3]), ([0, 4], [0, 4]), ([], []), ([], []), ([], []), ([], []), ([7, 8, 9], [7, 8, 9]), ([6, 10, 5], [6, 10]), ([5, 11, 11], [5, 11]), ([12, 12], [12]), ([13], [13]), ([13], [13]), ([15, 13], [13, 15]), ([14, 16, 13, 13], [13, 14, 16]), ([13], [13]), ([13], [13]), ([13], [13]), ([13], [13]), ([19, 20, 21, 13], [13, 19, 20, 21]), ([18, 22, 17, 13], [13, 18, 22]), ([17, 23, 23, 13], [13, 17, 23]), ([13, 24], [13, 24]), ([25, 24], [25]), ([26], [26]), ([26], [26]), ([26], [26]), ([26], [26]), ([26], [26]), ([28, 29, 30, 31, 26], [26, 28, 29, 30, 31]), ([27, 32, 26, 26], [26, 27, 32]), ([26], [26]), ([33, 34, 33, 26], [26, 33, 34]), ([26, 35], [26, 35]), ([36, 35], [36]), ([37], [37]), ([37], [37]), ([37], [37]), ([39, 40, 37], [37, 39, 40]), ([38, 41, 37, 37], [37, 38, 41]), ([42, 42, 37], [37, 42]), ([37, 43], [37, 43]), ([44, 43, 0, 1, 2, 3, 4, 5, 6, 7, 8, 9, 10, 11, 12, 13, 14, 15, 16, 17, 18, 19, 20, 21, 22, 23, 24, 25, 26, 27, 28, 29, 30, 31, 32, 33, 34, 35, 36, 37, 38, 39, 40, 41, 42, 43, 44], [44])])
def laws_FnOpGroup.B9 : List Nat := [0, 0, 0, 0, 14, 31, 0, 0, 0, 0, 896, 2047, 4095, 8191, 16383, 16383, 49151, 131071, 16383, 16383, 16383, 16383, 3686399, 8388607, 16777215, 33554431, 67108863, 134217727, 134217727, 134217727, 134217727, 134217727, 4160749567, 8589934591, 134217727, 34359738367, 68719476735, 137438953471, 274877906943, 274877906943, 274877906943, 1924145348607, 4398046511103, 8796093022207, 17592186044415, 35184372088831]
theorem laws_FnOpGroup.tab9 : rtab .any (opsOf Try.f9 9) = laws_FnOpGroup.T9 := by kernel_rfl
theorem laws_FnOpGroup.bits9 : waitsOk laws_FnOpGroup.T9.2 laws_FnOpGroup.B9 = true := by kernel_rfl
set_option maxHeartbeats 8000000 in
set_option maxRecDepth 100000 in
theorem laws_FnOpGroup.calls (k : Nat) (A0 : Option Addr) (c0 : Nat) (l0 : List Int) (r : Bool) (w : World) (hr0 : Kd.C (Kd.int .u8) w A0 l0.length l0) (jS : l0.length ≤ c0) (h : laws_FnOpGroup.f k l0 = some r) :
  Calls Try.prog 9 #[.slice A0 l0.length c0] w fun e w' => e = .returned (.bool r) ∧ Below w.heap.size w w' := by
 have hu25 := Try.underlying25
 have hu27 := Try.underlying27
 have oT := Aside0.mk hr0
 have oS := Aside0.mk jS
 clear hr0 jS
 have HB := Aside0.mk (Below.refl w.heap.size w)
 have H : (if (l0.length : Int) > 1048576 then (some true) else ((spec_DrawOpDo.f k l0).bind fun cM => ((spec_RasOk.f k cM.1 cM.2.1 cM.2.2.1).bind fun fF => (if fF = true then ((laws_eaDo.f k cM.1 cM.2.1 cM.2.2.1 (([(⟨2, 0, 0, 0, 0⟩ : S27), (⟨4, 0, 0, 0, 0⟩ : S27), (⟨2, 0, 0, 0, 0⟩ : S27)] : List (S27)))).bind fun dD => ((laws_eaDo.f k cM.1 cM.2.1 cM.2.2.1 (([(⟨4, 0, 0, 0, 0⟩ : S27), (⟨4, 0, 0, 0, 0⟩ : S27), (⟨4, 0, 0, 0, 0⟩ : S27)] : List (S27)))).bind fun cY => ((laws_eaRas.f k dD.1 dD.2.1 dD.2.2 cY.1 cY.2.1 cY.2.2).bind fun eJ => (if eJ = true then ((laws_eaDo.f k cM.1 cM.2.1 cM.2.2.1 (([(⟨3, 0, 0, 0, 0⟩ : S27)] : List (S27)))).bind fun cW => ((laws_eaDo.f k cM.1 cM.2.1 cM.2.2.1 (([(⟨2, 0, 0, 0, 0⟩ : S27), (⟨4, 0, 0, 0, 0⟩ : S27), (⟨4, 0, 0, 0, 0⟩ : S27)] : List (S27)))).bind fun cU => ((laws_eaRas.f k cW.1 cW.2.1 cW.2.2 cU.1 cU.2.1 cU.2.2).bind fun eA => (if eA = true then ((laws_eaDo.f k cM.1 cM.2.1 cM.2.2.1 (([(⟨4, 0, 0, 0, 0⟩ : S27), (⟨2, 0, 0, 0, 0⟩ : S27), (⟨4, 0, 0, 0, 0⟩ : S27), (⟨2, 0, 0, 0, 0⟩ : S27)] : List (S27)))).bind fun cT => ((laws_eaRas.f k cT.1 cT.2.1 cT.2.2 cM.1 cM.2.1 cM.2.2.1).bind fun dG => (if dG = true then ((laws_eaDo.f k cM.1 cM.2.1 cM.2.2.1 (([(⟨2, 0, 0, 0, 0⟩ : S27), (⟨4, 0, 0, 0, 0⟩ : S27)] : List (S27)))).bind fun cS => ((impl_RasOk.f k cS.1 cS.2.1 cS.2.2).bind fun cX => (some cX))) else (none)))) else (none))))) else (none))))) else ((impl_RasOk.f k cM.1 cM.2.1 cM.2.2.1).bind fun fG => (if fG = true then (none) else ((laws_eaOk.f).bind fun fH => (some fH)))))))) = some r := h
 clear h
 by_cases c2 : (l0.length : Int) > 1048576
 ·rw [if_pos c2] at H
  have nF : decide (1048576 < (l0.length : Int)) = true := decide_eq_true c2
  have nG : decide (1048576 < l0.length) = true := decide_eq_true (by omega)
  clear c2
  obtain rfl := Option.some.inj H
  go_enter Try.func9, Try.ntmps9
  go_wp2
  go_ret
  exact ⟨by first | rfl | (simp [errW_none, errW_some] <;> rfl) | (simp [*, errW_none, errW_some] <;> rfl), oB HB⟩
 ·rw [if_neg c2] at H
  have nF : decide (1048576 < (l0.length : Int)) = false := decide_eq_false c2
  have nG : decide (1048576 < l0.length) = false := decide_eq_false (by omega)
  clear c2
  replace H := Option.bind_eq_some_iff.mp H
  obtain ⟨⟨cH, cI, bN, eC, eD, eE, eF, eG⟩, nW, H⟩ := H
  (try dsimp only at H)
  have A3 := Aside0.mk nW
  clear nW
  replace H := Option.bind_eq_some_iff.mp H
  obtain ⟨fF, nX, H⟩ := H
  (try dsimp only at H)
  have A4 := Aside0.mk nX
  clear nX
  by_cases c5 : fF = true
  ·subst c5
   rw [if_pos rfl] at H
   obtain ⟨y815, hy815⟩ : ∃ y_ : List (S27), y_ = (([(⟨2, 0, 0, 0, 0⟩ : S27), (⟨4, 0, 0, 0, 0⟩ : S27), (⟨2, 0, 0, 0, 0⟩ : S27)] : List (S27))) := ⟨_, rfl⟩
   replace H : ((laws_eaDo.f k cH cI bN y815).bind fun dD => ((laws_eaDo.f k cH cI bN (([(⟨4, 0, 0, 0, 0⟩ : S27), (⟨4, 0, 0, 0, 0⟩ : S27), (⟨4, 0, 0, 0, 0⟩ : S27)] : List (S27)))).bind fun cY => ((laws_eaRas.f k dD.1 dD.2.1 dD.2.2 cY.1 cY.2.1 cY.2.2).bind fun eJ => (if eJ = true then ((laws_eaDo.f k cH cI bN (([(⟨3, 0, 0, 0, 0⟩ : S27)] : List (S27)))).bind fun cW => ((laws_eaDo.f k cH cI bN (([(⟨2, 0, 0, 0, 0⟩ : S27), (⟨4, 0, 0, 0, 0⟩ : S27), (⟨4, 0, 0, 0, 0⟩ : S27)] : List (S27)))).bind fun cU => ((laws_eaRas.f k cW.1 cW.2.1 cW.2.2 cU.1 cU.2.1 cU.2.2).bind fun eA => (if eA = true then ((laws_eaDo.f k cH cI bN (([(⟨4, 0, 0, 0, 0⟩ : S27), (⟨2, 0, 0, 0, 0⟩ : S27), (⟨4, 0, 0, 0, 0⟩ : S27), (⟨2, 0, 0, 0, 0⟩ : S27)] : List (S27)))).bind fun cT => ((laws_eaRas.f k cT.1 cT.2.1 cT.2.2 cH cI bN).bind fun dG => (if dG = true then ((laws_eaDo.f k cH cI bN (([(⟨2, 0, 0, 0, 0⟩ : S27), (⟨4, 0, 0, 0, 0⟩ : S27)] : List (S27)))).bind fun cS => ((impl_RasOk.f k cS.1 cS.2.1 cS.2.2).bind fun cX => (some cX))) else (none)))) else (none))))) else (none))))) = some r := by first | (rw [hy815]; with_reducible exact H) | (have H2_ := (Option.bind_some _ _).symm.trans H; rw [hy815]; with_reducible exact H2_) | (have H2_ := (Option.bind_some _ _).symm.trans H; with_reducible exact H2_) | with_reducible exact H | (rw [hy815]; exact H) | exact H
   have fY := Aside0.mk hy815
   clear hy815
   replace H := Option.bind_eq_some_iff.mp H
   obtain ⟨⟨fA, fB, eX⟩, nY, H⟩ := H
   (try dsimp only at H)
   have A6 := Aside0.mk nY
   clear nY
   obtain ⟨y823, hy823⟩ : ∃ y_ : List (S27), y_ = (([(⟨4, 0, 0, 0, 0⟩ : S27), (⟨4, 0, 0, 0, 0⟩ : S27), (⟨4, 0, 0, 0, 0⟩ : S27)] : List (S27))) := ⟨_, rfl⟩
   replace H : ((laws_eaDo.f k cH cI bN y823).bind fun cY => ((laws_eaRas.f k fA fB eX cY.1 cY.2.1 cY.2.2).bind fun eJ => (if eJ = true then ((laws_eaDo.f k cH cI bN (([(⟨3, 0, 0, 0, 0⟩ : S27)] : List (S27)))).bind fun cW => ((laws_eaDo.f k cH cI bN (([(⟨2, 0, 0, 0, 0⟩ : S27), (⟨4, 0, 0, 0, 0⟩ : S27), (⟨4, 0, 0, 0, 0⟩ : S27)] : List (S27)))).bind fun cU => ((laws_eaRas.f k cW.1 cW.2.1 cW.2.2 cU.1 cU.2.1 cU.2.2).bind fun eA => (if eA = true then ((laws_eaDo.f k cH cI bN (([(⟨4, 0, 0, 0, 0⟩ : S27), (⟨2, 0, 0, 0, 0⟩ : S27), (⟨4, 0, 0, 0, 0⟩ : S27), (⟨2, 0, 0, 0, 0⟩ : S27)] : List (S27)))).bind fun cT => ((laws_eaRas.f k cT.1 cT.2.1 cT.2.2 cH cI bN).bind fun dG => (if dG = true then ((laws_eaDo.f k cH cI bN (([(⟨2, 0, 0, 0, 0⟩ : S27), (⟨4, 0, 0, 0, 0⟩ : S27)] : List (S27)))).bind fun cS => ((impl_RasOk.f k cS.1 cS.2.1 cS.2.2).bind fun cX => (some cX))) else (none)))) else (none))))) else (none)))) = some r := by first | (rw [hy823]; with_reducible exact H) | (have H2_ := (Option.bind_some _ _).symm.trans H; rw [hy823]; with_reducible exact H2_) | (have H2_ := (Option.bind_some _ _).symm.trans H; with_reducible exact H2_) | with_reducible exact H | (rw [hy823]; exact H) | exact H
   have fZ := Aside0.mk hy823
   clear hy823
   replace H := Option.bind_eq_some_iff.mp H
   obtain ⟨⟨fI, fJ, fK⟩, nZ, H⟩ := H
   (try dsimp only at H)
   have A7 := Aside0.mk nZ
   clear nZ
   replace H := Option.bind_eq_some_iff.mp H
   obtain ⟨eJ, oO, H⟩ := H
   (try dsimp only at H)
   have A8 := Aside0.mk oO
   clear oO
   by_cases c9 : eJ = true
   ·subst c9
    rw [if_pos rfl] at H
    obtain ⟨y832, hy832⟩ : ∃ y_ : List (S27), y_ = (([(⟨3, 0, 0, 0, 0⟩ : S27)] : List (S27))) := ⟨_, rfl⟩
    replace H : ((laws_eaDo.f k cH cI bN y832).bind fun cW => ((laws_eaDo.f k cH cI bN (([(⟨2, 0, 0, 0, 0⟩ : S27), (⟨4, 0, 0, 0, 0⟩ : S27), (⟨4, 0, 0, 0, 0⟩ : S27)] : List (S27)))).bind fun cU => ((laws_eaRas.f k cW.1 cW.2.1 cW.2.2 cU.1 cU.2.1 cU.2.2).bind fun eA => (if eA = true then ((laws_eaDo.f k cH cI bN (([(⟨4, 0, 0, 0, 0⟩ : S27), (⟨2, 0, 0, 0, 0⟩ : S27), (⟨4, 0, 0, 0, 0⟩ : S27), (⟨2, 0, 0, 0, 0⟩ : S27)] : List (S27)))).bind fun cT => ((laws_eaRas.f k cT.1 cT.2.1 cT.2.2 cH cI bN).bind fun dG => (if dG = true then ((laws_eaDo.f k cH cI bN (([(⟨2, 0, 0, 0, 0⟩ : S27), (⟨4, 0, 0, 0, 0⟩ : S27)] : List (S27)))).bind fun cS => ((impl_RasOk.f k cS.1 cS.2.1 cS.2.2).bind fun cX => (some cX))) else (none)))) else (none))))) = some r := by first | (rw [hy832]; with_reducible exact H) | (have H2_ := (Option.bind_some _ _).symm.trans H; rw [hy832]; with_reducible exact H2_) | (have H2_ := (Option.bind_some _ _).symm.trans H; with_reducible exact H2_) | with_reducible exact H | (rw [hy832]; exact H) | exact H
    have gA := Aside0.mk hy832
    clear hy832
    replace H := Option.bind_eq_some_iff.mp H
    obtain ⟨⟨fC, fD, eY⟩, gK, H⟩ := H
    (try dsimp only at H)
    have qU := Aside0.mk gK
    clear gK
    obtain ⟨y840, hy840⟩ : ∃ y_ : List (S27), y_ = (([(⟨2, 0, 0, 0, 0⟩ : S27), (⟨4, 0, 0, 0, 0⟩ : S27), (⟨4, 0, 0, 0, 0⟩ : S27)] : List (S27))) := ⟨_, rfl⟩
    replace H : ((laws_eaDo.f k cH cI bN y840).bind fun cU => ((laws_eaRas.f k fC fD eY cU.1 cU.2.1 cU.2.2).bind fun eA => (if eA = true then ((laws_eaDo.f k cH cI bN (([(⟨4, 0, 0, 0, 0⟩ : S27), (⟨2, 0, 0, 0, 0⟩ : S27), (⟨4, 0, 0, 0, 0⟩ : S27), (⟨2, 0, 0, 0, 0⟩ : S27)] : List (S27)))).bind fun cT => ((laws_eaRas.f k cT.1 cT.2.1 cT.2.2 cH cI bN).bind fun dG => (if dG = true then ((laws_eaDo.f k cH cI bN (([(⟨2, 0, 0, 0, 0⟩ : S27), (⟨4, 0, 0, 0, 0⟩ : S27)] : List (S27)))).bind fun cS => ((impl_RasOk.f k cS.1 cS.2.1 cS.2.2).bind fun cX => (some cX))) else (none)))) else (none)))) = some r := by first | (rw [hy840]; with_reducible exact H) | (have H2_ := (Option.bind_some _ _).symm.trans H; rw [hy840]; with_reducible exact H2_) | (have H2_ := (Option.bind_some _ _).symm.trans H; with_reducible exact H2_) | with_reducible exact H | (rw [hy840]; exact H) | exact H
    have gB := Aside0.mk hy840
    clear hy840
    replace H := Option.bind_eq_some_iff.mp H
    obtain ⟨⟨fL, fM, fN⟩, gL, H⟩ := H
    (try dsimp only at H)
    have qV := Aside0.mk gL
    clear gL
    replace H := Option.bind_eq_some_iff.mp H
    obtain ⟨eA, gM, H⟩ := H
    (try dsimp only at H)
    have qW := Aside0.mk gM
    clear gM
    by_cases jP : eA = true
    ·subst jP
     rw [if_pos rfl] at H
     obtain ⟨y849, hy849⟩ : ∃ y_ : List (S27), y_ = (([(⟨4, 0, 0, 0, 0⟩ : S27), (⟨2, 0, 0, 0, 0⟩ : S27), (⟨4, 0, 0, 0, 0⟩ : S27), (⟨2, 0, 0, 0, 0⟩ : S27)] : List (S27))) := ⟨_, rfl⟩
     replace H : ((laws_eaDo.f k cH cI bN y849).bind fun cT => ((laws_eaRas.f k cT.1 cT.2.1 cT.2.2 cH cI bN).bind fun dG => (if dG = true then ((laws_eaDo.f k cH cI bN (([(⟨2, 0, 0, 0, 0⟩ : S27), (⟨4, 0, 0, 0, 0⟩ : S27)] : List (S27)))).bind fun cS => ((impl_RasOk.f k cS.1 cS.2.1 cS.2.2).bind fun cX => (some cX))) else (none)))) = some r := by first | (rw [hy849]; with_reducible exact H) | (have H2_ := (Option.bind_some _ _).symm.trans H; rw [hy849]; with_reducible exact H2_) | (have H2_ := (Option.bind_some _ _).symm.trans H; with_reducible exact H2_) | with_reducible exact H | (rw [hy849]; exact H) | exact H
     have gC := Aside0.mk hy849
     clear hy849
     replace H := Option.bind_eq_some_iff.mp H
     obtain ⟨⟨fO, fP, fQ⟩, gN, H⟩ := H
     (try dsimp only at H)
     have qX := Aside0.mk gN
     clear gN
     replace H := Option.bind_eq_some_iff.mp H
     obtain ⟨dG, gO, H⟩ := H
     (try dsimp only at H)
     have qY := Aside0.mk gO
     clear gO
     by_cases jQ : dG = true
     ·subst jQ
      rw [if_pos rfl] at H
      obtain ⟨y858, hy858⟩ : ∃ y_ : List (S27), y_ = (([(⟨2, 0, 0, 0, 0⟩ : S27), (⟨4, 0, 0, 0, 0⟩ : S27)] : List (S27))) := ⟨_, rfl⟩
      replace H : ((laws_eaDo.f k cH cI bN y858).bind fun cS => ((impl_RasOk.f k cS.1 cS.2.1 cS.2.2).bind fun cX => (some cX))) = some r := by first | (rw [hy858]; with_reducible exact H) | (have H2_ := (Option.bind_some _ _).symm.trans H; rw [hy858]; with_reducible exact H2_) | (have H2_ := (Option.bind_some _ _).symm.trans H; with_reducible exact H2_) | with_reducible exact H | (rw [hy858]; exact H) | exact H
      have gD := Aside0.mk hy858
      clear hy858
      replace H := Option.bind_eq_some_iff.mp H
      obtain ⟨⟨fR, fS, fT⟩, gP, H⟩ := H
      (try dsimp only at H)
      have qZ := Aside0.mk gP
      clear gP
      replace H := Option.bind_eq_some_iff.mp H
      obtain ⟨cX, gQ, H⟩ := H
      (try dsimp only at H)
      have rA := Aside0.mk gQ
      clear gQ
      obtain rfl := Option.some.inj H
      go_enter Try.func9, Try.ntmps9
      try go_wp2_with (first | ((with_reducible refine gate_callee (f := 18) rfl ?_); refine goesL_ (some 13) rfl rfl Try.func18 oK rfl #[.slice A0 l0.length c0] rfl oA ?_; (with_reducible refine (spec_DrawOpDo.calls k _ _ l0 cH cI bN eC eD eE eF eG _ ?side1 ?side2 A3.out).mono ?_); (case side1 => repeat (first | exact oT.out | (with_reducible refine Kd.C_alloc ?_ _) | (with_reducible refine Kd.C_drewN ?_ _) | (with_reducible refine Kd.C_drew ?_))); (case side2 => exact oS.out); rintro e sG ⟨nV, rfl, ho0, hb⟩; refine ⟨_, rfl, ?_⟩; have n_ := o2_ (Kd.Q_lower ho0 (below_size (oB HB))) (o1_ (below_step (oB HB) hb)); clear HB; obtain ⟨aN, HB⟩ := n_; (try clear hb); (try clear hb2); (try clear hk); (try clear hi); (try clear ho0)) | ((with_reducible refine gate_dst (N := 3) rfl ?_); (try (refine gate_guard (by rfl) ?_; dsimp only)); refine box_event ?hg (N := 3) ?hd (cs := #[.int .i64 0, .int .i64 0, .slice none 0 0]) (t := 25) ?hr ?_; (case hd => rfl); (case hg => rfl); (case hr => first | (go_simp; done) | (go_simp; rfl)); intro bJ hg sH hbox hb; have n_ := o2_ (Kd.Q_below (oQ aN) hb) (o2_ (below_step (oB HB) hb) (o2_ (hbox) (o2_ ((oG hg (below_size (oB HB)) : w.heap.size ≤ bJ)) (o1_ ((oG hg (below_size (oB HB)) : w.heap.size ≤ bJ)))))); clear aN HB; obtain ⟨aN, HB, aA, hL, hF⟩ := n_; clear hb hbox hg) | ((with_reducible refine gate_dst (N := 4) rfl ?_); (try (refine gate_guard (by rfl) ?_; dsimp only)); refine box_event ?hg (N := 4) ?hd (cs := #[.int .i64 0, .int .i64 0, .int .i64 0, .int .i64 0, .int .i64 0]) (t := 27) ?hr ?_; (case hd => rfl); (case hg => rfl); (case hr => first | (go_simp; done) | (go_simp; rfl)); intro cJ hg gF hbox hb; have n_ := o2_ (Kd.Q_below (oQ aN) hb) (o2_ (blk_below (oP aA) hb) (o2_ (below_step (oB HB) hb) (o2_ (hbox) (o2_ ((oG hg (below_size (oB HB)) : w.heap.size ≤ cJ)) (o2_ ((oG hg (below_size (oB HB)) : w.heap.size ≤ cJ)) (o2_ ((oL hg (blk_lt (oP aA)))) (o1_ ((oN hg (blk_lt (oP aA))))))))))); clear aN aA HB; obtain ⟨aN, aA, HB, aJ, hM, hG, bK, dK⟩ := n_; clear hb hbox hg; have pM := bK.out; have qD := dK.out; have jT : gF.cell? ⟨bJ, 0, none⟩ = some (.int .i64 0) := (blk_cell aA.out 0).trans rfl; have jU : gF.cell? ⟨bJ, 1, none⟩ = some (.int .i64 0) := (blk_cell aA.out 1).trans rfl; have jV : gF.cell? ⟨bJ, 2, none⟩ = some (.slice none 0 0) := (blk_cell aA.out 2).trans rfl; have lL := blk_frozen aA.out 0; have lM := blk_frozen aA.out 1; have lN := blk_frozen aA.out 2; obtain ⟨cP, cO, nN, _⟩ := Kd.Q_slice aN.out; subst nN; have jW : gF.cell? ⟨cJ, 0, none⟩ = some (.int .i64 0) := (blk_cell aJ.out 0).trans rfl; have jX : gF.cell? ⟨cJ, 1, none⟩ = some (.int .i64 0) := (blk_cell aJ.out 1).trans rfl; have jY : gF.cell? ⟨cJ, 2, none⟩ = some (.int .i64 0) := (blk_cell aJ.out 2).trans rfl; have jZ : gF.cell? ⟨cJ, 3, none⟩ = some (.int .i64 0) := (blk_cell aJ.out 3).trans rfl; have kA : gF.cell? ⟨cJ, 4, none⟩ = some (.int .i64 0) := (blk_cell aJ.out 4).trans rfl; have lO := blk_frozen aJ.out 0; have lP := blk_frozen aJ.out 1; have lQ := blk_frozen aJ.out 2; have lR := blk_frozen aJ.out 3; have lS := blk_frozen aJ.out 4) | ((with_reducible refine gate_dst (N := 5) rfl ?_); (try (refine gate_guard (by rfl) ?_; dsimp only)); refine box_event ?hg (N := 5) ?hd (cs := #[.int .i64 0, .int .i64 0, .int .i64 0, .int .i64 0, .int .i64 0]) (t := 27) ?hr ?_; (case hd => rfl); (case hg => rfl); (case hr => first | (go_simp; done) | (go_simp; rfl)); intro aU hg jL hbox hb; have n_ := o2_ (Kd.Q_below (by (with_reducible repeat (first | apply Kd.Q_alloc | apply Kd.Q_drewN | apply Kd.Q_drew)); exact (Kd.Q_mono (Kd.Q_mono (Kd.Q_far (p := ⟨cJ, 4, none⟩) (Kd.Q_far (p := ⟨cJ, 3, none⟩) (Kd.Q_far (p := ⟨cJ, 2, none⟩) (Kd.Q_far (p := ⟨cJ, 1, none⟩) (Kd.Q_far (p := ⟨cJ, 0, none⟩) (Kd.Q_far (p := ⟨bJ, 2, none⟩) (Kd.Q_far (p := ⟨bJ, 1, none⟩) (Kd.Q_far (p := ⟨bJ, 0, none⟩) (Kd.Q_types (Kd.Q_types aN.out aA.out oD) aJ.out oD) (fun _ hk => hk.1.2) (.int .i64 cH)) (fun _ hk => hk.1.2) (.int .i64 cI)) (fun _ hk => hk.1.2) (.slice cP bN.length cO)) (fun _ hk => hk.2) (.int .i64 eC)) (fun _ hk => hk.2) (.int .i64 eD)) (fun _ hk => hk.2) (.int .i64 eE)) (fun _ hk => hk.2) (.int .i64 eF)) (fun _ hk => hk.2) (.int .i64 eG)) (fun _ h_ => h_.1)) (fun _ h_ => h_.1))) hb) (o2_ (blk_below (g := bJ) (o := .cells #[.int .i64 cH, .int .i64 cI, .slice cP bN.length cO] 25 (0, 0)) (blk_far (blk_far (blk_far (blk_far (blk_far (blk_put (blk_put (blk_put (oP aA) 0 _ rfl) 1 _ rfl) 2 _ rfl) bK.out _) bK.out _) bK.out _) bK.out _) bK.out _) hb) (o2_ (blk_below (g := cJ) (o := .cells #[.int .i64 eC, .int .i64 eD, .int .i64 eE, .int .i64 eF, .int .i64 eG] 27 (0, 0)) (blk_put (blk_put (blk_put (blk_put (blk_put (oP aJ) 0 _ rfl) 1 _ rfl) 2 _ rfl) 3 _ rfl) 4 _ rfl) hb) (o2_ (below_step (oB HB) hb) (o2_ (hbox) (o2_ ((oG hg (below_size (oB HB)) : w.heap.size ≤ aU)) (o2_ ((oG hg (below_size (oB HB)) : w.heap.size ≤ aU)) (o2_ ((by rw [hg]; exact Nat.ne_of_lt (blk_lt (g := bJ) (o := .cells #[.int .i64 cH, .int .i64 cI, .slice cP bN.length cO] 25 (0, 0)) (blk_far (blk_far (blk_far (blk_far (blk_far (blk_put (blk_put (blk_put (oP aA) 0 _ rfl) 1 _ rfl) 2 _ rfl) bK.out _) bK.out _) bK.out _) bK.out _) bK.out _)) : bJ ≠ aU)) (o2_ ((by rw [hg]; exact Nat.ne_of_gt (blk_lt (g := bJ) (o := .cells #[.int .i64 cH, .int .i64 cI, .slice cP bN.length cO] 25 (0, 0)) (blk_far (blk_far (blk_far (blk_far (blk_far (blk_put (blk_put (blk_put (oP aA) 0 _ rfl) 1 _ rfl) 2 _ rfl) bK.out _) bK.out _) bK.out _) bK.out _) bK.out _)) : aU ≠ bJ)) (o2_ ((by rw [hg]; exact Nat.ne_of_lt (blk_lt (g := cJ) (o := .cells #[.int .i64 eC, .int .i64 eD, .int .i64 eE, .int .i64 eF, .int .i64 eG] 27 (0, 0)) (blk_put (blk_put (blk_put (blk_put (blk_put (oP aJ) 0 _ rfl) 1 _ rfl) 2 _ rfl) 3 _ rfl) 4 _ rfl)) : cJ ≠ aU)) (o1_ ((by rw [hg]; exact Nat.ne_of_gt (blk_lt (g := cJ) (o := .cells #[.int .i64 eC, .int .i64 eD, .int .i64 eE, .int .i64 eF, .int .i64 eG] 27 (0, 0)) (blk_put (blk_put (blk_put (blk_put (blk_put (oP aJ) 0 _ rfl) 1 _ rfl) 2 _ rfl) 3 _ rfl) 4 _ rfl)) : aU ≠ cJ)))))))))))); clear aN aA aJ HB; obtain ⟨aN, aA, aJ, HB, aB, hN, hH, dH, dO, dL, dP⟩ := n_; clear hb hbox hg; have pN := dO.out; have qE := dH.out; have pO := dP.out; have qF := dL.out; have kB : jL.cell? ⟨aU, 0, none⟩ = some (.int .i64 0) := (blk_cell aB.out 0).trans rfl; have kC : jL.cell? ⟨aU, 1, none⟩ = some (.int .i64 0) := (blk_cell aB.out 1).trans rfl; have kD : jL.cell? ⟨aU, 2, none⟩ = some (.int .i64 0) := (blk_cell aB.out 2).trans rfl; have kE : jL.cell? ⟨aU, 3, none⟩ = some (.int .i64 0) := (blk_cell aB.out 3).trans rfl; have kF : jL.cell? ⟨aU, 4, none⟩ = some (.int .i64 0) := (blk_cell aB.out 4).trans rfl; have lT := blk_frozen aB.out 0; have lU := blk_frozen aB.out 1; have lV := blk_frozen aB.out 2; have lW := blk_frozen aB.out 3; have lX := blk_frozen aB.out 4) | ((with_reducible refine gate_dst (N := 6) rfl ?_); (try (refine gate_guard (by rfl) ?_; dsimp only)); refine box_event ?hg (N := 6) ?hd (cs := #[.int .i64 0, .int .i64 0, .int .i64 0, .int .i64 0, .int .i64 0]) (t := 27) ?hr ?_; (case hd => rfl); (case hg => rfl); (case hr => first | (go_simp; done) | (go_simp; rfl)); intro bB hg jM hbox hb; have n_ := o2_ (Kd.Q_below (by (with_reducible repeat (first | apply Kd.Q_alloc | apply Kd.Q_drewN | apply Kd.Q_drew)); exact (Kd.Q_mono (Kd.Q_far (p := ⟨aU, 4, none⟩) (Kd.Q_far (p := ⟨aU, 3, none⟩) (Kd.Q_far (p := ⟨aU, 2, none⟩) (Kd.Q_far (p := ⟨aU, 1, none⟩) (Kd.Q_far (p := ⟨aU, 0, none⟩) (Kd.Q_types aN.out aB.out oD) (fun _ hk => hk.2) (.int .i64 4)) (fun _ hk => hk.2) (.int .i64 0)) (fun _ hk => hk.2) (.int .i64 0)) (fun _ hk => hk.2) (.int .i64 0)) (fun _ hk => hk.2) (.int .i64 0)) (fun _ h_ => h_.1))) hb) (o2_ (blk_below (oP aA) hb) (o2_ (blk_below (oP aJ) hb) (o2_ (blk_below (g := aU) (o := .cells #[.int .i64 4, .int .i64 0, .int .i64 0, .int .i64 0, .int .i64 0] 27 (0, 0)) (blk_put (blk_put (blk_put (blk_put (blk_put aB.out 0 _ rfl) 1 _ rfl) 2 _ rfl) 3 _ rfl) 4 _ rfl) hb) (o2_ (below_step (oB HB) hb) (o2_ (hbox) (o2_ ((oG hg (below_size (oB HB)) : w.heap.size ≤ bB)) (o2_ ((oG hg (below_size (oB HB)) : w.heap.size ≤ bB)) (o2_ ((oL hg (blk_lt (oP aA)))) (o2_ ((oN hg (blk_lt (oP aA)))) (o2_ ((oL hg (blk_lt (oP aJ)))) (o2_ ((oN hg (blk_lt (oP aJ)))) (o2_ ((by rw [hg]; exact Nat.ne_of_lt (blk_lt (g := aU) (o := .cells #[.int .i64 4, .int .i64 0, .int .i64 0, .int .i64 0, .int .i64 0] 27 (0, 0)) (blk_put (blk_put (blk_put (blk_put (blk_put aB.out 0 _ rfl) 1 _ rfl) 2 _ rfl) 3 _ rfl) 4 _ rfl)) : aU ≠ bB)) (o1_ ((by rw [hg]; exact Nat.ne_of_gt (blk_lt (g := aU) (o := .cells #[.int .i64 4, .int .i64 0, .int .i64 0, .int .i64 0, .int .i64 0] 27 (0, 0)) (blk_put (blk_put (blk_put (blk_put (blk_put aB.out 0 _ rfl) 1 _ rfl) 2 _ rfl) 3 _ rfl) 4 _ rfl)) : bB ≠ aU))))))))))))))); clear aN aA aJ aB HB; obtain ⟨aN, aA, aJ, aB, HB, aI, hO, hI, dI, dS, dM, dT, dQ, dU⟩ := n_; clear hb hbox hg; have pP := dS.out; have qG := dI.out; have pQ := dT.out; have qH := dM.out; have pR := dU.out; have qI := dQ.out; have kG : jM.cell? ⟨bB, 0, none⟩ = some (.int .i64 0) := (blk_cell aI.out 0).trans rfl; have kH : jM.cell? ⟨bB, 1, none⟩ = some (.int .i64 0) := (blk_cell aI.out 1).trans rfl; have kI : jM.cell? ⟨bB, 2, none⟩ = some (.int .i64 0) := (blk_cell aI.out 2).trans rfl; have kJ : jM.cell? ⟨bB, 3, none⟩ = some (.int .i64 0) := (blk_cell aI.out 3).trans rfl; have kK : jM.cell? ⟨bB, 4, none⟩ = some (.int .i64 0) := (blk_cell aI.out 4).trans rfl; have lY := blk_frozen aI.out 0; have lZ := blk_frozen aI.out 1; have mA := blk_frozen aI.out 2; have mB := blk_frozen aI.out 3; have mC := blk_frozen aI.out 4) | ((with_reducible refine gate_dst (N := 7) rfl ?_); (try (refine gate_guard (by rfl) ?_; dsimp only)); refine box_event ?hg (N := 7) ?hd (cs := #[.int .i64 0, .int .i64 0, .int .i64 0, .int .i64 0, .int .i64 0]) (t := 27) ?hr ?_; (case hd => rfl); (case hg => rfl); (case hr => first | (go_simp; done) | (go_simp; rfl)); intro bM hg gG hbox hb; have n_ := o2_ (Kd.Q_below (by (with_reducible repeat (first | apply Kd.Q_alloc | apply Kd.Q_drewN | apply Kd.Q_drew)); exact (Kd.Q_mono (Kd.Q_far (p := ⟨bB, 4, none⟩) (Kd.Q_far (p := ⟨bB, 3, none⟩) (Kd.Q_far (p := ⟨bB, 2, none⟩) (Kd.Q_far (p := ⟨bB, 1, none⟩) (Kd.Q_far (p := ⟨bB, 0, none⟩) (Kd.Q_types aN.out aI.out oD) (fun _ hk => hk.2) (.int .i64 2)) (fun _ hk => hk.2) (.int .i64 0)) (fun _ hk => hk.2) (.int .i64 0)) (fun _ hk => hk.2) (.int .i64 0)) (fun _ hk => hk.2) (.int .i64 0)) (fun _ h_ => h_.1))) hb) (o2_ (blk_below (oP aA) hb) (o2_ (blk_below (oP aJ) hb) (o2_ (blk_below (oP aB) hb) (o2_ (blk_below (g := bB) (o := .cells #[.int .i64 2, .int .i64 0, .int .i64 0, .int .i64 0, .int .i64 0] 27 (0, 0)) (blk_put (blk_put (blk_put (blk_put (blk_put aI.out 0 _ rfl) 1 _ rfl) 2 _ rfl) 3 _ rfl) 4 _ rfl) hb) (o2_ (below_step (oB HB) hb) (o2_ (hbox) (o2_ ((oG hg (below_size (oB HB)) : w.heap.size ≤ bM)) (o2_ ((oG hg (below_size (oB HB)) : w.heap.size ≤ bM)) (o2_ ((oL hg (blk_lt (oP aA)))) (o2_ ((oN hg (blk_lt (oP aA)))) (o2_ ((oL hg (blk_lt (oP aJ)))) (o2_ ((oN hg (blk_lt (oP aJ)))) (o2_ ((oL hg (blk_lt (oP aB)))) (o2_ ((oN hg (blk_lt (oP aB)))) (o2_ ((by rw [hg]; exact Nat.ne_of_lt (blk_lt (g := bB) (o := .cells #[.int .i64 2, .int .i64 0, .int .i64 0, .int .i64 0, .int .i64 0] 27 (0, 0)) (blk_put (blk_put (blk_put (blk_put (blk_put aI.out 0 _ rfl) 1 _ rfl) 2 _ rfl) 3 _ rfl) 4 _ rfl)) : bB ≠ bM)) (o1_ ((by rw [hg]; exact Nat.ne_of_gt (blk_lt (g := bB) (o := .cells #[.int .i64 2, .int .i64 0, .int .i64 0, .int .i64 0, .int .i64 0] 27 (0, 0)) (blk_put (blk_put (blk_put (blk_put (blk_put aI.out 0 _ rfl) 1 _ rfl) 2 _ rfl) 3 _ rfl) 4 _ rfl)) : bM ≠ bB)))))))))))))))))); clear aN aA aJ aB aI HB; obtain ⟨aN, aA, aJ, aB, aI, HB, aO, hP, hJ, dJ, dW, dN, dX, dR, dY, dV, dZ⟩ := n_; clear hb hbox hg; have pS := dW.out; have qJ := dJ.out; have pT := dX.out; have qK := dN.out; have pU := dY.out; have qL := dR.out; have pV := dZ.out; have qM := dV.out; have kL : gG.cell? ⟨bM, 0, none⟩ = some (.int .i64 0) := (blk_cell aO.out 0).trans rfl; have kM : gG.cell? ⟨bM, 1, none⟩ = some (.int .i64 0) := (blk_cell aO.out 1).trans rfl; have kN : gG.cell? ⟨bM, 2, none⟩ = some (.int .i64 0) := (blk_cell aO.out 2).trans rfl; have kO : gG.cell? ⟨bM, 3, none⟩ = some (.int .i64 0) := (blk_cell aO.out 3).trans rfl; have kP : gG.cell? ⟨bM, 4, none⟩ = some (.int .i64 0) := (blk_cell aO.out 4).trans rfl; have mD := blk_frozen aO.out 0; have mE := blk_frozen aO.out 1; have mF := blk_frozen aO.out 2; have mG := blk_frozen aO.out 3; have mH := blk_frozen aO.out 4; have kQ : gG.cell? ⟨bJ, 0, none⟩ = some (.int .i64 cH) := (blk_cell aA.out 0).trans rfl; have kR : gG.cell? ⟨bJ, 1, none⟩ = some (.int .i64 cI) := (blk_cell aA.out 1).trans rfl; have kS : gG.cell? ⟨bJ, 2, none⟩ = some (.slice cP bN.length cO) := (blk_cell aA.out 2).trans rfl; have mI := blk_frozen aA.out 0; have mJ := blk_frozen aA.out 1; have mK := blk_frozen aA.out 2) | ((with_reducible refine gate_callee (f := 24) rfl ?_); refine goesL_ (some 20) rfl rfl Try.func24 oK rfl #[.agg #[.int .i64 cH, .int .i64 cI, .slice cP bN.length cO]] rfl oA ?_; (with_reducible refine (spec_RasOk.calls k cH cI _ _ bN true _ ?side1 ?side2 A4.out).mono ?_); (case side1 => refine (Kd.Q_reads' (e := 38) (base := w.heap.size) (ok := fun k_ => True) (n := bN.length) (c := cO) ?_).2.2; exact (by (with_reducible repeat (first | apply Kd.Q_alloc | apply Kd.Q_drewN | apply Kd.Q_drew)); exact (Kd.Q_mono (Kd.Q_far (p := ⟨bM, 4, none⟩) (Kd.Q_far (p := ⟨bM, 3, none⟩) (Kd.Q_far (p := ⟨bM, 2, none⟩) (Kd.Q_far (p := ⟨bM, 1, none⟩) (Kd.Q_far (p := ⟨bM, 0, none⟩) (Kd.Q_types aN.out aO.out oD) (fun _ hk => hk.2) (.int .i64 3)) (fun _ hk => hk.2) (.int .i64 0)) (fun _ hk => hk.2) (.int .i64 0)) (fun _ hk => hk.2) (.int .i64 0)) (fun _ hk => hk.2) (.int .i64 0)) (fun _ h_ => h_.1)))); (case side2 => exact (Kd.Q_reads' aN.out).2.1); rintro e rF ⟨rfl, hb⟩; refine ⟨_, rfl, ?_⟩; have n_ := o2_ (Kd.Q_below (by (with_reducible repeat (first | apply Kd.Q_alloc | apply Kd.Q_drewN | apply Kd.Q_drew)); exact (Kd.Q_mono (Kd.Q_far (p := ⟨bM, 4, none⟩) (Kd.Q_far (p := ⟨bM, 3, none⟩) (Kd.Q_far (p := ⟨bM, 2, none⟩) (Kd.Q_far (p := ⟨bM, 1, none⟩) (Kd.Q_far (p := ⟨bM, 0, none⟩) (Kd.Q_types aN.out aO.out oD) (fun _ hk => hk.2) (.int .i64 3)) (fun _ hk => hk.2) (.int .i64 0)) (fun _ hk => hk.2) (.int .i64 0)) (fun _ hk => hk.2) (.int .i64 0)) (fun _ hk => hk.2) (.int .i64 0)) (fun _ h_ => h_.1))) hb) (o2_ (blk_below (oP aA) hb) (o2_ (blk_below (oP aJ) hb) (o2_ (blk_below (oP aB) hb) (o2_ (blk_below (oP aI) hb) (o2_ (blk_below (g := bM) (o := .cells #[.int .i64 3, .int .i64 0, .int .i64 0, .int .i64 0, .int .i64 0] 27 (0, 0)) (blk_put (blk_put (blk_put (blk_put (blk_put aO.out 0 _ rfl) 1 _ rfl) 2 _ rfl) 3 _ rfl) 4 _ rfl) hb) (o1_ (below_step (oB HB) hb))))))); clear aN aA aJ aB aI aO HB; obtain ⟨aN, aA, aJ, aB, aI, aO, HB⟩ := n_; (try clear hb); (try clear hb2); (try clear hk); (try clear hi)))
      have n_ := o2_ (Kd.Q_drew aN.out) (o2_ (blk_drew aA.out) (o2_ (blk_drew aJ.out) (o2_ (blk_drew aB.out) (o2_ (blk_drew aI.out) (o2_ (blk_drew aO.out) (o1_ (below_drew1 HB.out)))))))
      clear aN aA aJ aB aI aO HB
      obtain ⟨aN, aA, aJ, aB, aI, aO, HB⟩ := n_
      refine start_ (n := 46) (S := fun w' => True) (ds := []) #[false, false, false, false, false, false, false, false, false, false, false, false, false, false, false, false, false, false, false, false, false, false, false, false, false, false, false, false, false, false, false, false, false, false, false, false, false, false, false, false, false, false, false, false, false, false] oK rfl rfl trivial (fun hHeld => ?_); refine with_tabW laws_FnOpGroup.tab9 laws_FnOpGroup.bits9 (fun HT_ HW_ => ?_)
      generalize rF.drew = sI at aN aA aJ aB aI aO HB hHeld ⊢
      refine inv_at [0, 1, 2, 3, 4, 5, 6, 7, 8, 9, 10, 11, 12, 13, 14, 15, 16, 17, 18, 19, 20, 21, 22, 23, 24, 25, 26, 27, 28, 29, 30, 31, 32, 33, 34, 35, 36, 37, 38, 39, 40, 41, 42, 43, 44, 45] (fun a0_ b a w' => ∃ (bS : Value) (bU : Value) (bQ : Value) (cD : Value) (bT : Value) (bV : Value) (bR : Value) (cE : Value) (bW : Value) (cF : Value) (bX : Value) (cG : Value) (cR : Value) (bY : Value) (bZ : Value) (cA : Value) (cB : Value) (cC : Value), a = putSel a0_ b [(0, 28, .agg #[.int .i64 cH, .int .i64 cI, .slice cP bN.length cO]), (1, 29, .agg #[.int .i64 2, .int .i64 0, .int .i64 0, .int .i64 0, .int .i64 0]), (2, 30, .agg #[.int .i64 4, .int .i64 0, .int .i64 0, .int .i64 0, .int .i64 0]), (3, 31, .agg #[.int .i64 2, .int .i64 0, .int .i64 0, .int .i64 0, .int .i64 0]), (4, 32, bS), (5, 33, cR), (6, 34, .agg #[.int .i64 cH, .int .i64 cI, .slice cP bN.length cO]), (7, 35, .agg #[.int .i64 4, .int .i64 0, .int .i64 0, .int .i64 0, .int .i64 0]), (8, 36, .agg #[.int .i64 4, .int .i64 0, .int .i64 0, .int .i64 0, .int .i64 0]), (9, 37, .agg #[.int .i64 4, .int .i64 0, .int .i64 0, .int .i64 0, .int .i64 0]), (10, 38, bQ), (11, 39, bY), (12, 40, .bool true), (13, 41, .bool true), (14, 42, .agg #[.int .i64 cH, .int .i64 cI, .slice cP bN.length cO]), (15, 43, .agg #[.int .i64 3, .int .i64 0, .int .i64 0, .int .i64 0, .int .i64 0]), (16, 44, bT), (17, 45, bZ), (18, 46, .agg #[.int .i64 cH, .int .i64 cI, .slice cP bN.length cO]), (19, 47, .agg #[.int .i64 2, .int .i64 0, .int .i64 0, .int .i64 0, .int .i64 0]), (20, 48, .agg #[.int .i64 4, .int .i64 0, .int .i64 0, .int .i64 0, .int .i64 0]), (21, 49, .agg #[.int .i64 4, .int .i64 0, .int .i64 0, .int .i64 0, .int .i64 0]), (22, 50, bR), (23, 51, cA), (24, 52, .bool true), (25, 53, .bool true), (26, 54, .bool true), (27, 55, .agg #[.int .i64 cH, .int .i64 cI, .slice cP bN.length cO]), (28, 56, .agg #[.int .i64 4, .int .i64 0, .int .i64 0, .int .i64 0, .int .i64 0]), (29, 57, .agg #[.int .i64 2, .int .i64 0, .int .i64 0, .int .i64 0, .int .i64 0]), (30, 58, .agg #[.int .i64 4, .int .i64 0, .int .i64 0, .int .i64 0, .int .i64 0]), (31, 59, .agg #[.int .i64 2, .int .i64 0, .int .i64 0, .int .i64 0, .int .i64 0]), (32, 60, bW), (33, 61, cB), (34, 62, .agg #[.int .i64 cH, .int .i64 cI, .slice cP bN.length cO]), (35, 63, .bool true), (36, 64, .bool true), (37, 65, .bool true), (38, 66, .agg #[.int .i64 cH, .int .i64 cI, .slice cP bN.length cO]), (39, 67, .agg #[.int .i64 2, .int .i64 0, .int .i64 0, .int .i64 0, .int .i64 0]), (40, 68, .agg #[.int .i64 4, .int .i64 0, .int .i64 0, .int .i64 0, .int .i64 0]), (41, 69, bX), (42, 70, cC), (43, 71, .bool cX), (44, 72, .bool cX), (45, 2, .bool cX)] ∧ (Kd.Q k38 38 w' w.heap.size (fun _ => True) (.slice cP bN.length cO) bN) ∧ (w'.heap[bJ]? = some (.cells #[.int .i64 cH, .int .i64 cI, .slice cP bN.length cO] 25 (0, 0))) ∧ (w'.heap[cJ]? = some (.cells #[.int .i64 eC, .int .i64 eD, .int .i64 eE, .int .i64 eF, .int .i64 eG] 27 (0, 0))) ∧ (w'.heap[aU]? = some (.cells #[.int .i64 4, .int .i64 0, .int .i64 0, .int .i64 0, .int .i64 0] 27 (0, 0))) ∧ (w'.heap[bB]? = some (.cells #[.int .i64 2, .int .i64 0, .int .i64 0, .int .i64 0, .int .i64 0] 27 (0, 0))) ∧ (w'.heap[bM]? = some (.cells #[.int .i64 3, .int .i64 0, .int .i64 0, .int .i64 0, .int .i64 0] 27 (0, 0))) ∧ (Below w.heap.size w w') ∧ (b 4 = true → Kd.R k27 27 w' w.heap.size (fun k_ => k_ ≠ cJ ∧ k_ ≠ aU ∧ k_ ≠ bB ∧ k_ ≠ bM) bS y815) ∧ (b 5 = true → Kd.V k38 38 w' w.heap.size (fun k_ => k_ ≠ bJ ∧ k_ ≠ cJ ∧ k_ ≠ aU ∧ k_ ≠ bB ∧ k_ ≠ bM) bU eX) ∧ (b 10 = true → Kd.R k27 27 w' w.heap.size (fun k_ => k_ ≠ cJ ∧ k_ ≠ aU ∧ k_ ≠ bB ∧ k_ ≠ bM) bQ y823) ∧ (b 11 = true → Kd.V k38 38 w' w.heap.size (fun k_ => k_ ≠ bJ ∧ k_ ≠ cJ ∧ k_ ≠ aU ∧ k_ ≠ bB ∧ k_ ≠ bM) cD fK) ∧ (b 16 = true → Kd.R k27 27 w' w.heap.size (fun k_ => k_ ≠ cJ ∧ k_ ≠ aU ∧ k_ ≠ bB ∧ k_ ≠ bM) bT y832) ∧ (b 17 = true → Kd.V k38 38 w' w.heap.size (fun k_ => k_ ≠ bJ ∧ k_ ≠ cJ ∧ k_ ≠ aU ∧ k_ ≠ bB ∧ k_ ≠ bM) bV eY) ∧ (b 22 = true → Kd.R k27 27 w' w.heap.size (fun k_ => k_ ≠ cJ ∧ k_ ≠ aU ∧ k_ ≠ bB ∧ k_ ≠ bM) bR y840) ∧ (b 23 = true → Kd.V k38 38 w' w.heap.size (fun k_ => k_ ≠ bJ ∧ k_ ≠ cJ ∧ k_ ≠ aU ∧ k_ ≠ bB ∧ k_ ≠ bM) cE fN) ∧ (b 32 = true → Kd.R k27 27 w' w.heap.size (fun k_ => k_ ≠ cJ ∧ k_ ≠ aU ∧ k_ ≠ bB ∧ k_ ≠ bM) bW y849) ∧ (b 33 = true → Kd.V k38 38 w' w.heap.size (fun k_ => k_ ≠ bJ ∧ k_ ≠ cJ ∧ k_ ≠ aU ∧ k_ ≠ bB ∧ k_ ≠ bM) cF fQ) ∧ (b 41 = true → Kd.R k27 27 w' w.heap.size (fun k_ => k_ ≠ cJ ∧ k_ ≠ aU ∧ k_ ≠ bB ∧ k_ ≠ bM) bX y858) ∧ (b 42 = true → Kd.V k38 38 w' w.heap.size (fun k_ => k_ ≠ bJ ∧ k_ ≠ cJ ∧ k_ ≠ aU ∧ k_ ≠ bB ∧ k_ ≠ bM) cG fT) ∧ (b 5 = true → (cR : Value) = .agg #[.int .i64 fA, .int .i64 fB, bU]) ∧ (b 11 = true → (bY : Value) = .agg #[.int .i64 fI, .int .i64 fJ, cD]) ∧ (b 17 = true → (bZ : Value) = .agg #[.int .i64 fC, .int .i64 fD, bV]) ∧ (b 23 = true → (cA : Value) = .agg #[.int .i64 fL, .int .i64 fM, cE]) ∧ (b 33 = true → (cB : Value) = .agg #[.int .i64 fO, .int .i64 fP, cF]) ∧ (b 42 = true → (cC : Value) = .agg #[.int .i64 fR, .int .i64 fS, cG])) HT_.out HW_.out oK oK ?_ ?_ ?_
      ·exact ⟨.bool false, .bool false, .bool false, .bool false, .bool false, .bool false, .bool false, .bool false, .bool false, .bool false, .bool false, .bool false, .bool false, .bool false, .bool false, .bool false, .bool false, .bool false, by simp only [putSel, Bool.false_eq_true, if_false], aN.out, aA.out, aJ.out, aB.out, aI.out, aO.out, HB.out, fun h_ => absurd h_ oD, fun h_ => absurd h_ oD, fun h_ => absurd h_ oD, fun h_ => absurd h_ oD, fun h_ => absurd h_ oD, fun h_ => absurd h_ oD, fun h_ => absurd h_ oD, fun h_ => absurd h_ oD, fun h_ => absurd h_ oD, fun h_ => absurd h_ oD, fun h_ => absurd h_ oD, fun h_ => absurd h_ oD, fun h_ => absurd h_ oD, fun h_ => absurd h_ oD, fun h_ => absurd h_ oD, fun h_ => absurd h_ oD, fun h_ => absurd h_ oD, fun h_ => absurd h_ oD⟩
      ·skip
       clear aA aJ aB aI aO HB aN
       refine steps_cons ?_ ?_
       ·rintro b a w' ⟨bS, bU, bQ, cD, bT, bV, bR, cE, bW, cF, bX, cG, cR, bY, bZ, cA, cB, cC, ha, aH, aC, aD, aE, aF, aG, Q_HB, aL, aM, aK, aP, aQ, aS, aR, aT, aV, aX, bD, bF, bG, aY, bA, bC, bI, bO⟩ hb_ hon hoff
        refine ⟨_, rfl, fun K hK => ?_⟩
        have e3 : a.tmps[3]? = some (.pointer (some ⟨bJ, 0, none⟩)) := by rw [ha]; exact (putSel_off rfl).trans rfl
        replace ha := Aside0.mk ha
        obtain ⟨aN, aA, aJ, aB, aI, aO, HB⟩ := o2_ aH (o2_ aC (o2_ aD (o2_ aE (o2_ aF (o2_ aG (o1_ Q_HB))))))
        have cZ : w'.cell? ⟨bJ, 0, none⟩ = some (.int .i64 cH) := (blk_cell aA.out 0).trans rfl
        have dA : w'.cell? ⟨bJ, 1, none⟩ = some (.int .i64 cI) := (blk_cell aA.out 1).trans rfl
        have dB : w'.cell? ⟨bJ, 2, none⟩ = some (.slice cP bN.length cO) := (blk_cell aA.out 2).trans rfl
        refine value_ (w1 := w') (v := .agg #[.int .i64 cH, .int .i64 cI, .slice cP bN.length cO]) (by rfl) rfl ?_ ?_
        ·go_simp
         (try simp only [i64_w])
         try rfl
        refine hK.out _ _ ⟨bS, bU, bQ, cD, bT, bV, bR, cE, bW, cF, bX, cG, cR, bY, bZ, cA, cB, cC, (by rw [ha.out]; exact putSel_upk 0 hb_ rfl rfl rfl), aH, aC, aD, aE, aF, aG, Q_HB, aL, oF (hoff 5 oK), aK, oF (hoff 11 oK), oF (hoff 16 oK), oF (hoff 17 oK), oF (hoff 22 oK), oF (hoff 23 oK), oF (hoff 32 oK), oF (hoff 33 oK), oF (hoff 41 oK), oF (hoff 42 oK), oF (hoff 5 oK), oF (hoff 11 oK), oF (hoff 17 oK), oF (hoff 23 oK), oF (hoff 33 oK), oF (hoff 42 oK)⟩
       refine steps_cons ?_ ?_
       ·rintro b a w' ⟨bS, bU, bQ, cD, bT, bV, bR, cE, bW, cF, bX, cG, cR, bY, bZ, cA, cB, cC, ha, aH, aC, aD, aE, aF, aG, Q_HB, aL, aM, aK, aP, aQ, aS, aR, aT, aV, aX, bD, bF, bG, aY, bA, bC, bI, bO⟩ hb_ hon hoff
        refine ⟨_, rfl, fun K hK => ?_⟩
        have e6 : a.tmps[6]? = some (.pointer (some ⟨bB, 0, none⟩)) := by rw [ha]; exact (putSel_off rfl).trans rfl
        replace ha := Aside0.mk ha
        obtain ⟨aN, aA, aJ, aB, aI, aO, HB⟩ := o2_ aH (o2_ aC (o2_ aD (o2_ aE (o2_ aF (o2_ aG (o1_ Q_HB))))))
        have cZ : w'.cell? ⟨bB, 0, none⟩ = some (.int .i64 2) := (blk_cell aI.out 0).trans rfl
        have dA : w'.cell? ⟨bB, 1, none⟩ = some (.int .i64 0) := (blk_cell aI.out 1).trans rfl
        have dB : w'.cell? ⟨bB, 2, none⟩ = some (.int .i64 0) := (blk_cell aI.out 2).trans rfl
        have dE : w'.cell? ⟨bB, 3, none⟩ = some (.int .i64 0) := (blk_cell aI.out 3).trans rfl
        have dF : w'.cell? ⟨bB, 4, none⟩ = some (.int .i64 0) := (blk_cell aI.out 4).trans rfl
        refine value_ (w1 := w') (v := .agg #[.int .i64 2, .int .i64 0, .int .i64 0, .int .i64 0, .int .i64 0]) (by rfl) rfl ?_ ?_
        ·go_simp
         (try simp only [i64_w])
         try rfl
        refine hK.out _ _ ⟨bS, bU, bQ, cD, bT, bV, bR, cE, bW, cF, bX, cG, cR, bY, bZ, cA, cB, cC, (by rw [ha.out]; exact putSel_upk 1 hb_ rfl rfl rfl), aH, aC, aD, aE, aF, aG, Q_HB, oF (hoff 4 oK), oF (hoff 5 oK), aK, oF (hoff 11 oK), oF (hoff 16 oK), oF (hoff 17 oK), oF (hoff 22 oK), oF (hoff 23 oK), oF (hoff 32 oK), oF (hoff 33 oK), oF (hoff 41 oK), oF (hoff 42 oK), oF (hoff 5 oK), oF (hoff 11 oK), oF (hoff 17 oK), oF (hoff 23 oK), oF (hoff 33 oK), oF (hoff 42 oK)⟩
       refine steps_cons ?_ ?_
       ·rintro b a w' ⟨bS, bU, bQ, cD, bT, bV, bR, cE, bW, cF, bX, cG, cR, bY, bZ, cA, cB, cC, ha, aH, aC, aD, aE, aF, aG, Q_HB, aL, aM, aK, aP, aQ, aS, aR, aT, aV, aX, bD, bF, bG, aY, bA, bC, bI, bO⟩ hb_ hon hoff
        refine ⟨_, rfl, fun K hK => ?_⟩
        have e5 : a.tmps[5]? = some (.pointer (some ⟨aU, 0, none⟩)) := by rw [ha]; exact (putSel_off rfl).trans rfl
        replace ha := Aside0.mk ha
        obtain ⟨aN, aA, aJ, aB, aI, aO, HB⟩ := o2_ aH (o2_ aC (o2_ aD (o2_ aE (o2_ aF (o2_ aG (o1_ Q_HB))))))
        have cZ : w'.cell? ⟨aU, 0, none⟩ = some (.int .i64 4) := (blk_cell aB.out 0).trans rfl
        have dA : w'.cell? ⟨aU, 1, none⟩ = some (.int .i64 0) := (blk_cell aB.out 1).trans rfl
        have dB : w'.cell? ⟨aU, 2, none⟩ = some (.int .i64 0) := (blk_cell aB.out 2).trans rfl
        have dE : w'.cell? ⟨aU, 3, none⟩ = some (.int .i64 0) := (blk_cell aB.out 3).trans rfl
        have dF : w'.cell? ⟨aU, 4, none⟩ = some (.int .i64 0) := (blk_cell aB.out 4).trans rfl
        refine value_ (w1 := w') (v := .agg #[.int .i64 4, .int .i64 0, .int .i64 0, .int .i64 0, .int .i64 0]) (by rfl) rfl ?_ ?_
        ·go_simp
         (try simp only [i64_w])
         try rfl
        refine hK.out _ _ ⟨bS, bU, bQ, cD, bT, bV, bR, cE, bW, cF, bX, cG, cR, bY, bZ, cA, cB, cC, (by rw [ha.out]; exact putSel_upk 2 hb_ rfl rfl rfl), aH, aC, aD, aE, aF, aG, Q_HB, oF (hoff 4 oK), oF (hoff 5 oK), aK, oF (hoff 11 oK), oF (hoff 16 oK), oF (hoff 17 oK), oF (hoff 22 oK), oF (hoff 23 oK), oF (hoff 32 oK), oF (hoff 33 oK), oF (hoff 41 oK), oF (hoff 42 oK), oF (hoff 5 oK), oF (hoff 11 oK), oF (hoff 17 oK), oF (hoff 23 oK), oF (hoff 33 oK), oF (hoff 42 oK)⟩
       refine steps_cons ?_ ?_
       ·rintro b a w' ⟨bS, bU, bQ, cD, bT, bV, bR, cE, bW, cF, bX, cG, cR, bY, bZ, cA, cB, cC, ha, aH, aC, aD, aE, aF, aG, Q_HB, aL, aM, aK, aP, aQ, aS, aR, aT, aV, aX, bD, bF, bG, aY, bA, bC, bI, bO⟩ hb_ hon hoff
        refine ⟨_, rfl, fun K hK => ?_⟩
        have e6 : a.tmps[6]? = some (.pointer (some ⟨bB, 0, none⟩)) := by rw [ha]; exact (putSel_off rfl).trans rfl
        replace ha := Aside0.mk ha
        obtain ⟨aN, aA, aJ, aB, aI, aO, HB⟩ := o2_ aH (o2_ aC (o2_ aD (o2_ aE (o2_ aF (o2_ aG (o1_ Q_HB))))))
        have cZ : w'.cell? ⟨bB, 0, none⟩ = some (.int .i64 2) := (blk_cell aI.out 0).trans rfl
        have dA : w'.cell? ⟨bB, 1, none⟩ = some (.int .i64 0) := (blk_cell aI.out 1).trans rfl
        have dB : w'.cell? ⟨bB, 2, none⟩ = some (.int .i64 0) := (blk_cell aI.out 2).trans rfl
        have dE : w'.cell? ⟨bB, 3, none⟩ = some (.int .i64 0) := (blk_cell aI.out 3).trans rfl
        have dF : w'.cell? ⟨bB, 4, none⟩ = some (.int .i64 0) := (blk_cell aI.out 4).trans rfl
        refine value_ (w1 := w') (v := .agg #[.int .i64 2, .int .i64 0, .int .i64 0, .int .i64 0, .int .i64 0]) (by rfl) rfl ?_ ?_
        ·go_simp
         (try simp only [i64_w])
         try rfl
        refine hK.out _ _ ⟨bS, bU, bQ, cD, bT, bV, bR, cE, bW, cF, bX, cG, cR, bY, bZ, cA, cB, cC, (by rw [ha.out]; exact putSel_upk 3 hb_ rfl rfl rfl), aH, aC, aD, aE, aF, aG, Q_HB, oF (hoff 4 oK), oF (hoff 5 oK), aK, oF (hoff 11 oK), oF (hoff 16 oK), oF (hoff 17 oK), oF (hoff 22 oK), oF (hoff 23 oK), oF (hoff 32 oK), oF (hoff 33 oK), oF (hoff 41 oK), oF (hoff 42 oK), oF (hoff 5 oK), oF (hoff 11 oK), oF (hoff 17 oK), oF (hoff 23 oK), oF (hoff 33 oK), oF (hoff 42 oK)⟩
       refine steps_cons ?_ ?_
       ·rintro b a w' ⟨bS, bU, bQ, cD, bT, bV, bR, cE, bW, cF, bX, cG, cR, bY, bZ, cA, cB, cC, ha, aH, aC, aD, aE, aF, aG, Q_HB, aL, aM, aK, aP, aQ, aS, aR, aT, aV, aX, bD, bF, bG, aY, bA, bC, bI, bO⟩ hb_ hon hoff
        refine ⟨_, rfl, fun K hK => ?_⟩
        have rJ : a.tmps[29]? = some (.agg #[.int .i64 2, .int .i64 0, .int .i64 0, .int .i64 0, .int .i64 0]) := by rw [ha]; exact putSel_on (e := (1, 29, .agg #[.int .i64 2, .int .i64 0, .int .i64 0, .int .i64 0, .int .i64 0])) 1 rfl rfl (hon 1 oK) rfl
        have rK : a.tmps[30]? = some (.agg #[.int .i64 4, .int .i64 0, .int .i64 0, .int .i64 0, .int .i64 0]) := by rw [ha]; exact putSel_on (e := (2, 30, .agg #[.int .i64 4, .int .i64 0, .int .i64 0, .int .i64 0, .int .i64 0])) 2 rfl rfl (hon 2 oK) rfl
        have rL : a.tmps[31]? = some (.agg #[.int .i64 2, .int .i64 0, .int .i64 0, .int .i64 0, .int .i64 0]) := by rw [ha]; exact putSel_on (e := (3, 31, .agg #[.int .i64 2, .int .i64 0, .int .i64 0, .int .i64 0, .int .i64 0])) 3 rfl rfl (hon 3 oK) rfl
        replace ha := Aside0.mk ha
        obtain ⟨aN, aA, aJ, aB, aI, aO, HB⟩ := o2_ aH (o2_ aC (o2_ aD (o2_ aE (o2_ aF (o2_ aG (o1_ Q_HB))))))
        refine Kd.R_lit_step k27 _ 27 ?hg (N := 32) ?hd (xs := ([(⟨2, 0, 0, 0, 0⟩ : S27), (⟨4, 0, 0, 0, 0⟩ : S27), (⟨2, 0, 0, 0, 0⟩ : S27)] : List (S27))) (inner := [.int .i64 2, .int .i64 0, .int .i64 0, .int .i64 0, .int .i64 0, .int .i64 4, .int .i64 0, .int .i64 0, .int .i64 0, .int .i64 0, .int .i64 2, .int .i64 0, .int .i64 0, .int .i64 0, .int .i64 0]) (ok := fun _ => True) (okp := fun _ => True) ?hr ?hp (fun _ hk => hk) trivial (Below.refl _ _) (Nat.le_refl _) (by simp) ?_; (case hd => rfl); (case hg => first | rfl | exact wanted_on rfl rfl rfl (by assumption)); (case hr => first | (go_simp; done) | (go_simp; rfl)); (case hp => exact (Reps.c5 (show Kd.M k27 _ _ _ (⟨2, 0, 0, 0, 0⟩ : S27) [.int .i64 2, .int .i64 0, .int .i64 0, .int .i64 0, .int .i64 0] from (k27_mkM _ _ _ (⟨2, 0, 0, 0, 0⟩ : S27) )) (Reps.c5 (show Kd.M k27 _ _ _ (⟨4, 0, 0, 0, 0⟩ : S27) [.int .i64 4, .int .i64 0, .int .i64 0, .int .i64 0, .int .i64 0] from (k27_mkM _ _ _ (⟨4, 0, 0, 0, 0⟩ : S27) )) (Reps.c5 (show Kd.M k27 _ _ _ (⟨2, 0, 0, 0, 0⟩ : S27) [.int .i64 2, .int .i64 0, .int .i64 0, .int .i64 0, .int .i64 0] from (k27_mkM _ _ _ (⟨2, 0, 0, 0, 0⟩ : S27) )) (Reps.none _ _)))))
        intro bS nD ho45 hb hg_ hnew_
        clear hg_ hnew_
        (first | rw [← fY.out] at ho45 | (simp only [Int.reduceToNat] at ho45; rw [← fY.out] at ho45))
        have eN := Aside0.mk (Kd.Q_below aN.out hb)
        have eQ := Aside0.mk (Kd.R_lower (Kd.R_newB (Kd.R_newB (Kd.R_newB (Kd.R_newB ho45 aJ.out) aB.out) aI.out) aO.out) (below_size (oB HB)))
        have eR := Aside0.mk (blk_below aA.out hb)
        have eS := Aside0.mk (blk_below aJ.out hb)
        have eT := Aside0.mk (blk_below aB.out hb)
        have eU := Aside0.mk (blk_below aI.out hb)
        have eV := Aside0.mk (blk_below aO.out hb)
        have eW := Aside0.mk (below_step (oB HB) hb)
        have eK := fun (h0_ : b 10 = true) => (show Kd.R k27 27 nD w.heap.size (fun k_ => k_ ≠ cJ ∧ k_ ≠ aU ∧ k_ ≠ bB ∧ k_ ≠ bM) bQ y823 from by first | exact (Kd.R_elder' (uR ((aK h0_))) (Kd.R_base ho45) hb) | exact Kd.R_mono (Kd.R_elder' (uR ((aK h0_))) (Kd.R_base ho45) hb) (fun _ h_ => by first | trivial | exact h_ | exact h_.1))
        clear aN
        clear aA
        clear aJ
        clear aB
        clear aI
        clear aO
        clear HB
        have aN := eN
        have aW := eQ
        have aA := eR
        have aJ := eS
        have aB := eT
        have aI := eU
        have aO := eV
        have HB := eW
        clear eN eQ eR eS eT eU eV eW
        clear hb ho45
        refine hK.out _ _ ⟨bS, bU, bQ, cD, bT, bV, bR, cE, bW, cF, bX, cG, cR, bY, bZ, cA, cB, cC, (by rw [ha.out]; exact putSel_upk 4 hb_ rfl rfl rfl), aN.out, aA.out, aJ.out, aB.out, aI.out, aO.out, (oB HB), fun _ => (by (with_reducible repeat (first | apply Kd.R_alloc | apply Kd.R_drewN | apply Kd.R_drew)); exact Kd.R_mono aW.out oY), oF (hoff 5 oK), eK, oF (hoff 11 oK), oF (hoff 16 oK), oF (hoff 17 oK), oF (hoff 22 oK), oF (hoff 23 oK), oF (hoff 32 oK), oF (hoff 33 oK), oF (hoff 41 oK), oF (hoff 42 oK), oF (hoff 5 oK), oF (hoff 11 oK), oF (hoff 17 oK), oF (hoff 23 oK), oF (hoff 33 oK), oF (hoff 42 oK)⟩
       refine steps_cons ?_ ?_
       ·rintro b a w' ⟨bS, bU, bQ, cD, bT, bV, bR, cE, bW, cF, bX, cG, cR, bY, bZ, cA, cB, cC, ha, aH, aC, aD, aE, aF, aG, Q_HB, aL, aM, aK, aP, aQ, aS, aR, aT, aV, aX, bD, bF, bG, aY, bA, bC, bI, bO⟩ hb_ hon hoff
        refine ⟨_, rfl, fun K hK => ?_⟩
        have oU : a.tmps[28]? = some (.agg #[.int .i64 cH, .int .i64 cI, .slice cP bN.length cO]) := by rw [ha]; exact putSel_on (e := (0, 28, .agg #[.int .i64 cH, .int .i64 cI, .slice cP bN.length cO])) 0 rfl rfl (hon 0 oK) rfl
        have pA : a.tmps[32]? = some (bS) := by rw [ha]; exact putSel_on (e := (4, 32, bS)) 4 rfl rfl (hon 4 oK) rfl
        replace ha := Aside0.mk ha
        obtain ⟨aN, aA, aJ, aB, aI, aO, HB, aW⟩ := o2_ aH (o2_ aC (o2_ aD (o2_ aE (o2_ aF (o2_ aG (o2_ Q_HB (o1_ (aL (hon 4 oK)))))))))
        obtain ⟨gT, hQ, iC⟩ := Kd.R_slice aW.out
        (first | subst iC | (injection iC with f1_ f2_ f3_; have f4_ := f1_.symm; have f5_ := f3_.symm; clear f1_ f2_ f3_; subst f4_; subst f5_))
        refine goes_ Try.func27 oK rfl #[.agg #[.int .i64 cH, .int .i64 cI, .slice cP bN.length cO], .slice gT y815.length hQ] (by first | rfl | exact wanted_on rfl rfl rfl (by assumption)) rfl rfl (by first | (simp only [List.map_toArray, List.map_cons, List.map_nil, Act.eval, Array.getD_eq_getD_getElem?, Option.getD_some, oU, pA]; done) | (simp only [List.map_toArray, List.map_cons, List.map_nil, Act.eval, Array.getD_eq_getD_getElem?, Option.getD_some, oU, pA]; rfl)) ?_
        with_reducible refine (laws_eaDo.calls k cH cI (fun k_ => some k_ = (.slice cP bN.length cO : Value).ownBlock) _ _ bN _ _ y815 fA fB eX _ ?side1 ?side2 ?side3 A6.out).mono ?_
        (case side1 => exact Kd.Q_V (Kd.Q_tight rfl (Kd.Q_types (Kd.Q_types (Kd.Q_types (Kd.Q_types (Kd.Q_types (Kd.Q_apart' (aN.out) (Kd.R_typed aW.out) oD) aA.out oD) aJ.out oD) aB.out oD) aI.out oD) aO.out oD)))
        (case side2 => repeat (first | exact (Kd.R_reads' aW.out).2.2 | (with_reducible refine Kd.C_alloc ?_ _) | (with_reducible refine Kd.C_drewN ?_ _) | (with_reducible refine Kd.C_drew ?_)))
        (case side3 => exact (Kd.R_reads' aW.out).2.1)
        rintro e rG ⟨bU, rfl, ho0, hb⟩
        refine ⟨_, rfl, ?_⟩
        have eN := Aside0.mk (Kd.Q_below aN.out hb)
        have eQ := Aside0.mk (Kd.R_below aW.out hb)
        have hq_ := (Kd.Q_types (Kd.Q_types (Kd.Q_types (Kd.Q_types (Kd.Q_types (Kd.Q_apart' (aN.out) (Kd.R_typed aW.out) oD) aA.out oD) aJ.out oD) aB.out oD) aI.out oD) aO.out oD)
        have eR := Aside0.mk (Kd.V_lower (Kd.V_mono (ok' := fun k_ => k_ ≠ bJ ∧ k_ ≠ cJ ∧ k_ ≠ aU ∧ k_ ≠ bB ∧ k_ ≠ bM) ho0 (fun k_ hk_ => ⟨Or.elim hk_ (fun hs_ => (hq_.1 k_ hs_.symm).1.1.1.1.2) (fun hn_ => (Kd.freshB aA.out k_ hn_)), Or.elim hk_ (fun hs_ => (hq_.1 k_ hs_.symm).1.1.1.2) (fun hn_ => (Kd.freshB aJ.out k_ hn_)), Or.elim hk_ (fun hs_ => (hq_.1 k_ hs_.symm).1.1.2) (fun hn_ => (Kd.freshB aB.out k_ hn_)), Or.elim hk_ (fun hs_ => (hq_.1 k_ hs_.symm).1.2) (fun hn_ => (Kd.freshB aI.out k_ hn_)), Or.elim hk_ (fun hs_ => (hq_.1 k_ hs_.symm).2) (fun hn_ => (Kd.freshB aO.out k_ hn_))⟩)) (below_size (oB HB)))
        clear hq_
        have eS := Aside0.mk (blk_below aA.out hb)
        have eT := Aside0.mk (blk_below aJ.out hb)
        have eU := Aside0.mk (blk_below aB.out hb)
        have eV := Aside0.mk (blk_below aI.out hb)
        have eW := Aside0.mk (blk_below aO.out hb)
        have fE := Aside0.mk (below_step (oB HB) hb)
        have eK := fun (h0_ : b 10 = true) => (show Kd.R k27 27 rG w.heap.size (fun k_ => k_ ≠ cJ ∧ k_ ≠ aU ∧ k_ ≠ bB ∧ k_ ≠ bM) bQ y823 from by first | exact (Kd.R_below (uR ((aK h0_))) hb) | exact Kd.R_mono (Kd.R_below (uR ((aK h0_))) hb) (fun _ h_ => by first | trivial | exact h_ | exact h_.1))
        clear aN
        clear aW
        clear aA
        clear aJ
        clear aB
        clear aI
        clear aO
        clear HB
        have aN := eN
        have aW := eQ
        have bE := eR
        have aA := eS
        have aJ := eT
        have aB := eU
        have aI := eV
        have aO := eW
        have HB := fE
        clear eN eQ eR eS eT eU eV eW fE
        (try clear hb)
        (try clear hb2)
        (try clear hk)
        (try clear hi)
        (try clear ho0)
        refine hK.out _ _ ⟨.slice gT y815.length hQ, bU, bQ, cD, bT, bV, bR, cE, bW, cF, bX, cG, (.agg #[.int .i64 fA, .int .i64 fB, bU]), bY, bZ, cA, cB, cC, (by rw [ha.out]; exact putSel_upk 5 hb_ rfl rfl rfl), aN.out, aA.out, aJ.out, aB.out, aI.out, aO.out, (oB HB), fun _ => aW.out, fun _ => bE.out, eK, oF (hoff 11 oK), oF (hoff 16 oK), oF (hoff 17 oK), oF (hoff 22 oK), oF (hoff 23 oK), oF (hoff 32 oK), oF (hoff 33 oK), oF (hoff 41 oK), oF (hoff 42 oK), fun _ => rfl, oF (hoff 11 oK), oF (hoff 17 oK), oF (hoff 23 oK), oF (hoff 33 oK), oF (hoff 42 oK)⟩
       refine steps_cons ?_ ?_
       ·rintro b a w' ⟨bS, bU, bQ, cD, bT, bV, bR, cE, bW, cF, bX, cG, cR, bY, bZ, cA, cB, cC, ha, aH, aC, aD, aE, aF, aG, Q_HB, aL, aM, aK, aP, aQ, aS, aR, aT, aV, aX, bD, bF, bG, aY, bA, bC, bI, bO⟩ hb_ hon hoff
        refine ⟨_, rfl, fun K hK => ?_⟩
        have e3 : a.tmps[3]? = some (.pointer (some ⟨bJ, 0, none⟩)) := by rw [ha]; exact (putSel_off rfl).trans rfl
        replace ha := Aside0.mk ha
        obtain ⟨aN, aA, aJ, aB, aI, aO, HB⟩ := o2_ aH (o2_ aC (o2_ aD (o2_ aE (o2_ aF (o2_ aG (o1_ Q_HB))))))
        have cZ : w'.cell? ⟨bJ, 0, none⟩ = some (.int .i64 cH) := (blk_cell aA.out 0).trans rfl
        have dA : w'.cell? ⟨bJ, 1, none⟩ = some (.int .i64 cI) := (blk_cell aA.out 1).trans rfl
        have dB : w'.cell? ⟨bJ, 2, none⟩ = some (.slice cP bN.length cO) := (blk_cell aA.out 2).trans rfl
        refine value_ (w1 := w') (v := .agg #[.int .i64 cH, .int .i64 cI, .slice cP bN.length cO]) (by rfl) rfl ?_ ?_
        ·go_simp
         (try simp only [i64_w])
         try rfl
        refine hK.out _ _ ⟨bS, bU, bQ, cD, bT, bV, bR, cE, bW, cF, bX, cG, cR, bY, bZ, cA, cB, cC, (by rw [ha.out]; exact putSel_upk 6 hb_ rfl rfl rfl), aH, aC, aD, aE, aF, aG, Q_HB, aL, aM, aK, oF (hoff 11 oK), oF (hoff 16 oK), oF (hoff 17 oK), oF (hoff 22 oK), oF (hoff 23 oK), oF (hoff 32 oK), oF (hoff 33 oK), oF (hoff 41 oK), oF (hoff 42 oK), bG, oF (hoff 11 oK), oF (hoff 17 oK), oF (hoff 23 oK), oF (hoff 33 oK), oF (hoff 42 oK)⟩
       refine steps_cons ?_ ?_
       ·rintro b a w' ⟨bS, bU, bQ, cD, bT, bV, bR, cE, bW, cF, bX, cG, cR, bY, bZ, cA, cB, cC, ha, aH, aC, aD, aE, aF, aG, Q_HB, aL, aM, aK, aP, aQ, aS, aR, aT, aV, aX, bD, bF, bG, aY, bA, bC, bI, bO⟩ hb_ hon hoff
        refine ⟨_, rfl, fun K hK => ?_⟩
        have e5 : a.tmps[5]? = some (.pointer (some ⟨aU, 0, none⟩)) := by rw [ha]; exact (putSel_off rfl).trans rfl
        replace ha := Aside0.mk ha
        obtain ⟨aN, aA, aJ, aB, aI, aO, HB⟩ := o2_ aH (o2_ aC (o2_ aD (o2_ aE (o2_ aF (o2_ aG (o1_ Q_HB))))))
        have cZ : w'.cell? ⟨aU, 0, none⟩ = some (.int .i64 4) := (blk_cell aB.out 0).trans rfl
        have dA : w'.cell? ⟨aU, 1, none⟩ = some (.int .i64 0) := (blk_cell aB.out 1).trans rfl
        have dB : w'.cell? ⟨aU, 2, none⟩ = some (.int .i64 0) := (blk_cell aB.out 2).trans rfl
        have dE : w'.cell? ⟨aU, 3, none⟩ = some (.int .i64 0) := (blk_cell aB.out 3).trans rfl
        have dF : w'.cell? ⟨aU, 4, none⟩ = some (.int .i64 0) := (blk_cell aB.out 4).trans rfl
        refine value_ (w1 := w') (v := .agg #[.int .i64 4, .int .i64 0, .int .i64 0, .int .i64 0, .int .i64 0]) (by rfl) rfl ?_ ?_
        ·go_simp
         (try simp only [i64_w])
         try rfl
        refine hK.out _ _ ⟨bS, bU, bQ, cD, bT, bV, bR, cE, bW, cF, bX, cG, cR, bY, bZ, cA, cB, cC, (by rw [ha.out]; exact putSel_upk 7 hb_ rfl rfl rfl), aH, aC, aD, aE, aF, aG, Q_HB, aL, aM, oF (hoff 10 oK), oF (hoff 11 oK), oF (hoff 16 oK), oF (hoff 17 oK), oF (hoff 22 oK), oF (hoff 23 oK), oF (hoff 32 oK), oF (hoff 33 oK), oF (hoff 41 oK), oF (hoff 42 oK), bG, oF (hoff 11 oK), oF (hoff 17 oK), oF (hoff 23 oK), oF (hoff 33 oK), oF (hoff 42 oK)⟩
       refine steps_cons ?_ ?_
       ·rintro b a w' ⟨bS, bU, bQ, cD, bT, bV, bR, cE, bW, cF, bX, cG, cR, bY, bZ, cA, cB, cC, ha, aH, aC, aD, aE, aF, aG, Q_HB, aL, aM, aK, aP, aQ, aS, aR, aT, aV, aX, bD, bF, bG, aY, bA, bC, bI, bO⟩ hb_ hon hoff
        refine ⟨_, rfl, fun K hK => ?_⟩
        have e5 : a.tmps[5]? = some (.pointer (some ⟨aU, 0, none⟩)) := by rw [ha]; exact (putSel_off rfl).trans rfl
        replace ha := Aside0.mk ha
        obtain ⟨aN, aA, aJ, aB, aI, aO, HB⟩ := o2_ aH (o2_ aC (o2_ aD (o2_ aE (o2_ aF (o2_ aG (o1_ Q_HB))))))
        have cZ : w'.cell? ⟨aU, 0, none⟩ = some (.int .i64 4) := (blk_cell aB.out 0).trans rfl
        have dA : w'.cell? ⟨aU, 1, none⟩ = some (.int .i64 0) := (blk_cell aB.out 1).trans rfl
        have dB : w'.cell? ⟨aU, 2, none⟩ = some (.int .i64 0) := (blk_cell aB.out 2).trans rfl
        have dE : w'.cell? ⟨aU, 3, none⟩ = some (.int .i64 0) := (blk_cell aB.out 3).trans rfl
        have dF : w'.cell? ⟨aU, 4, none⟩ = some (.int .i64 0) := (blk_cell aB.out 4).trans rfl
        refine value_ (w1 := w') (v := .agg #[.int .i64 4, .int .i64 0, .int .i64 0, .int .i64 0, .int .i64 0]) (by rfl) rfl ?_ ?_
        ·go_simp
         (try simp only [i64_w])
         try rfl
        refine hK.out _ _ ⟨bS, bU, bQ, cD, bT, bV, bR, cE, bW, cF, bX, cG, cR, bY, bZ, cA, cB, cC, (by rw [ha.out]; exact putSel_upk 8 hb_ rfl rfl rfl), aH, aC, aD, aE, aF, aG, Q_HB, aL, aM, oF (hoff 10 oK), oF (hoff 11 oK), oF (hoff 16 oK), oF (hoff 17 oK), oF (hoff 22 oK), oF (hoff 23 oK), oF (hoff 32 oK), oF (hoff 33 oK), oF (hoff 41 oK), oF (hoff 42 oK), bG, oF (hoff 11 oK), oF (hoff 17 oK), oF (hoff 23 oK), oF (hoff 33 oK), oF (hoff 42 oK)⟩
       refine steps_cons ?_ ?_
       ·rintro b a w' ⟨bS, bU, bQ, cD, bT, bV, bR, cE, bW, cF, bX, cG, cR, bY, bZ, cA, cB, cC, ha, aH, aC, aD, aE, aF, aG, Q_HB, aL, aM, aK, aP, aQ, aS, aR, aT, aV, aX, bD, bF, bG, aY, bA, bC, bI, bO⟩ hb_ hon hoff
        refine ⟨_, rfl, fun K hK => ?_⟩
        have e5 : a.tmps[5]? = some (.pointer (some ⟨aU, 0, none⟩)) := by rw [ha]; exact (putSel_off rfl).trans rfl
        replace ha := Aside0.mk ha
        obtain ⟨aN, aA, aJ, aB, aI, aO, HB⟩ := o2_ aH (o2_ aC (o2_ aD (o2_ aE (o2_ aF (o2_ aG (o1_ Q_HB))))))
        have cZ : w'.cell? ⟨aU, 0, none⟩ = some (.int .i64 4) := (blk_cell aB.out 0).trans rfl
        have dA : w'.cell? ⟨aU, 1, none⟩ = some (.int .i64 0) := (blk_cell aB.out 1).trans rfl
        have dB : w'.cell? ⟨aU, 2, none⟩ = some (.int .i64 0) := (blk_cell aB.out 2).trans rfl
        have dE : w'.cell? ⟨aU, 3, none⟩ = some (.int .i64 0) := (blk_cell aB.out 3).trans rfl
        have dF : w'.cell? ⟨aU, 4, none⟩ = some (.int .i64 0) := (blk_cell aB.out 4).trans rfl
        refine value_ (w1 := w') (v := .agg #[.int .i64 4, .int .i64 0, .int .i64 0, .int .i64 0, .int .i64 0]) (by rfl) rfl ?_ ?_
        ·go_simp
         (try simp only [i64_w])
         try rfl
        refine hK.out _ _ ⟨bS, bU, bQ, cD, bT, bV, bR, cE, bW, cF, bX, cG, cR, bY, bZ, cA, cB, cC, (by rw [ha.out]; exact putSel_upk 9 hb_ rfl rfl rfl), aH, aC, aD, aE, aF, aG, Q_HB, aL, aM, oF (hoff 10 oK), oF (hoff 11 oK), oF (hoff 16 oK), oF (hoff 17 oK), oF (hoff 22 oK), oF (hoff 23 oK), oF (hoff 32 oK), oF (hoff 33 oK), oF (hoff 41 oK), oF (hoff 42 oK), bG, oF (hoff 11 oK), oF (hoff 17 oK), oF (hoff 23 oK), oF (hoff 33 oK), oF (hoff 42 oK)⟩
       refine steps_cons ?_ ?_
       ·rintro b a w' ⟨bS, bU, bQ, cD, bT, bV, bR, cE, bW, cF, bX, cG, cR, bY, bZ, cA, cB, cC, ha, aH, aC, aD, aE, aF, aG, Q_HB, aL, aM, aK, aP, aQ, aS, aR, aT, aV, aX, bD, bF, bG, aY, bA, bC, bI, bO⟩ hb_ hon hoff
        refine ⟨_, rfl, fun K hK => ?_⟩
        have rM : a.tmps[35]? = some (.agg #[.int .i64 4, .int .i64 0, .int .i64 0, .int .i64 0, .int .i64 0]) := by rw [ha]; exact putSel_on (e := (7, 35, .agg #[.int .i64 4, .int .i64 0, .int .i64 0, .int .i64 0, .int .i64 0])) 7 rfl rfl (hon 7 oK) rfl
        have rN : a.tmps[36]? = some (.agg #[.int .i64 4, .int .i64 0, .int .i64 0, .int .i64 0, .int .i64 0]) := by rw [ha]; exact putSel_on (e := (8, 36, .agg #[.int .i64 4, .int .i64 0, .int .i64 0, .int .i64 0, .int .i64 0])) 8 rfl rfl (hon 8 oK) rfl
        have rO : a.tmps[37]? = some (.agg #[.int .i64 4, .int .i64 0, .int .i64 0, .int .i64 0, .int .i64 0]) := by rw [ha]; exact putSel_on (e := (9, 37, .agg #[.int .i64 4, .int .i64 0, .int .i64 0, .int .i64 0, .int .i64 0])) 9 rfl rfl (hon 9 oK) rfl
        replace ha := Aside0.mk ha
        obtain ⟨aN, aA, aJ, aB, aI, aO, HB⟩ := o2_ aH (o2_ aC (o2_ aD (o2_ aE (o2_ aF (o2_ aG (o1_ Q_HB))))))
        refine Kd.R_lit_step k27 _ 27 ?hg (N := 38) ?hd (xs := ([(⟨4, 0, 0, 0, 0⟩ : S27), (⟨4, 0, 0, 0, 0⟩ : S27), (⟨4, 0, 0, 0, 0⟩ : S27)] : List (S27))) (inner := [.int .i64 4, .int .i64 0, .int .i64 0, .int .i64 0, .int .i64 0, .int .i64 4, .int .i64 0, .int .i64 0, .int .i64 0, .int .i64 0, .int .i64 4, .int .i64 0, .int .i64 0, .int .i64 0, .int .i64 0]) (ok := fun _ => True) (okp := fun _ => True) ?hr ?hp (fun _ hk => hk) trivial (Below.refl _ _) (Nat.le_refl _) (by simp) ?_; (case hd => rfl); (case hg => first | rfl | exact wanted_on rfl rfl rfl (by assumption)); (case hr => first | (go_simp; done) | (go_simp; rfl)); (case hp => exact (Reps.c5 (show Kd.M k27 _ _ _ (⟨4, 0, 0, 0, 0⟩ : S27) [.int .i64 4, .int .i64 0, .int .i64 0, .int .i64 0, .int .i64 0] from (k27_mkM _ _ _ (⟨4, 0, 0, 0, 0⟩ : S27) )) (Reps.c5 (show Kd.M k27 _ _ _ (⟨4, 0, 0, 0, 0⟩ : S27) [.int .i64 4, .int .i64 0, .int .i64 0, .int .i64 0, .int .i64 0] from (k27_mkM _ _ _ (⟨4, 0, 0, 0, 0⟩ : S27) )) (Reps.c5 (show Kd.M k27 _ _ _ (⟨4, 0, 0, 0, 0⟩ : S27) [.int .i64 4, .int .i64 0, .int .i64 0, .int .i64 0, .int .i64 0] from (k27_mkM _ _ _ (⟨4, 0, 0, 0, 0⟩ : S27) )) (Reps.none _ _)))))
        intro bQ nD ho45 hb hg_ hnew_
        clear hg_ hnew_
        (first | rw [← fZ.out] at ho45 | (simp only [Int.reduceToNat] at ho45; rw [← fZ.out] at ho45))
        have eN := Aside0.mk (Kd.Q_below aN.out hb)
        have eQ := Aside0.mk (Kd.R_lower (Kd.R_newB (Kd.R_newB (Kd.R_newB (Kd.R_newB ho45 aJ.out) aB.out) aI.out) aO.out) (below_size (oB HB)))
        have eR := Aside0.mk (blk_below aA.out hb)
        have eS := Aside0.mk (blk_below aJ.out hb)
        have eT := Aside0.mk (blk_below aB.out hb)
        have eU := Aside0.mk (blk_below aI.out hb)
        have eV := Aside0.mk (blk_below aO.out hb)
        have eW := Aside0.mk (below_step (oB HB) hb)
        have fU := fun (h0_ : b 4 = true) => (show Kd.R k27 27 nD w.heap.size (fun k_ => k_ ≠ cJ ∧ k_ ≠ aU ∧ k_ ≠ bB ∧ k_ ≠ bM) bS y815 from by first | exact (Kd.R_elder' (uR ((aL h0_))) (Kd.R_base ho45) hb) | exact Kd.R_mono (Kd.R_elder' (uR ((aL h0_))) (Kd.R_base ho45) hb) (fun _ h_ => by first | trivial | exact h_ | exact h_.1))
        have fV := fun (h0_ : b 5 = true) => (show Kd.V k38 38 nD w.heap.size (fun k_ => k_ ≠ bJ ∧ k_ ≠ cJ ∧ k_ ≠ aU ∧ k_ ≠ bB ∧ k_ ≠ bM) bU eX from by first | exact (Kd.V_elder' (uV ((aM h0_))) (Kd.R_base ho45) hb) | exact Kd.V_mono (Kd.V_elder' (uV ((aM h0_))) (Kd.R_base ho45) hb) (fun _ h_ => by first | trivial | exact h_ | exact h_.1))
        clear aN
        clear aA
        clear aJ
        clear aB
        clear aI
        clear aO
        clear HB
        have aN := eN
        have aZ := eQ
        have aA := eR
        have aJ := eS
        have aB := eT
        have aI := eU
        have aO := eV
        have HB := eW
        clear eN eQ eR eS eT eU eV eW
        clear hb ho45
        refine hK.out _ _ ⟨bS, bU, bQ, cD, bT, bV, bR, cE, bW, cF, bX, cG, cR, bY, bZ, cA, cB, cC, (by rw [ha.out]; exact putSel_upk 10 hb_ rfl rfl rfl), aN.out, aA.out, aJ.out, aB.out, aI.out, aO.out, (oB HB), fU, fV, fun _ => (by (with_reducible repeat (first | apply Kd.R_alloc | apply Kd.R_drewN | apply Kd.R_drew)); exact Kd.R_mono aZ.out oY), oF (hoff 11 oK), oF (hoff 16 oK), oF (hoff 17 oK), oF (hoff 22 oK), oF (hoff 23 oK), oF (hoff 32 oK), oF (hoff 33 oK), oF (hoff 41 oK), oF (hoff 42 oK), bG, oF (hoff 11 oK), oF (hoff 17 oK), oF (hoff 23 oK), oF (hoff 33 oK), oF (hoff 42 oK)⟩
       refine steps_cons ?_ ?_
       ·rintro b a w' ⟨bS, bU, bQ, cD, bT, bV, bR, cE, bW, cF, bX, cG, cR, bY, bZ, cA, cB, cC, ha, aH, aC, aD, aE, aF, aG, Q_HB, aL, aM, aK, aP, aQ, aS, aR, aT, aV, aX, bD, bF, bG, aY, bA, bC, bI, bO⟩ hb_ hon hoff
        refine ⟨_, rfl, fun K hK => ?_⟩
        have pB : a.tmps[34]? = some (.agg #[.int .i64 cH, .int .i64 cI, .slice cP bN.length cO]) := by rw [ha]; exact putSel_on (e := (6, 34, .agg #[.int .i64 cH, .int .i64 cI, .slice cP bN.length cO])) 6 rfl rfl (hon 6 oK) rfl
        have pC : a.tmps[38]? = some (bQ) := by rw [ha]; exact putSel_on (e := (10, 38, bQ)) 10 rfl rfl (hon 10 oK) rfl
        replace ha := Aside0.mk ha
        obtain ⟨aN, aA, aJ, aB, aI, aO, HB, aW, bE, aZ⟩ := o2_ aH (o2_ aC (o2_ aD (o2_ aE (o2_ aF (o2_ aG (o2_ Q_HB (o2_ (aL (hon 4 oK)) (o2_ (aM (hon 5 oK)) (o1_ (aK (hon 10 oK)))))))))))
        obtain ⟨gU, hR, iD⟩ := Kd.R_slice aZ.out
        (first | subst iD | (injection iD with f1_ f2_ f3_; have f4_ := f1_.symm; have f5_ := f3_.symm; clear f1_ f2_ f3_; subst f4_; subst f5_))
        refine goes_ Try.func27 oK rfl #[.agg #[.int .i64 cH, .int .i64 cI, .slice cP bN.length cO], .slice gU y823.length hR] (by first | rfl | exact wanted_on rfl rfl rfl (by assumption)) rfl rfl (by first | (simp only [List.map_toArray, List.map_cons, List.map_nil, Act.eval, Array.getD_eq_getD_getElem?, Option.getD_some, pB, pC]; done) | (simp only [List.map_toArray, List.map_cons, List.map_nil, Act.eval, Array.getD_eq_getD_getElem?, Option.getD_some, pB, pC]; rfl)) ?_
        with_reducible refine (laws_eaDo.calls k cH cI (fun k_ => some k_ = (.slice cP bN.length cO : Value).ownBlock) _ _ bN _ _ y823 fI fJ fK _ ?side1 ?side2 ?side3 A7.out).mono ?_
        (case side1 => exact Kd.Q_V (Kd.Q_tight rfl (Kd.Q_types (Kd.Q_types (Kd.Q_types (Kd.Q_types (Kd.Q_types (Kd.Q_apart' (Kd.Q_apart' (aN.out) (Kd.R_typed aW.out) oD) (Kd.R_typed aZ.out) oD) aA.out oD) aJ.out oD) aB.out oD) aI.out oD) aO.out oD)))
        (case side2 => repeat (first | exact (Kd.R_reads' aZ.out).2.2 | (with_reducible refine Kd.C_alloc ?_ _) | (with_reducible refine Kd.C_drewN ?_ _) | (with_reducible refine Kd.C_drew ?_)))
        (case side3 => exact (Kd.R_reads' aZ.out).2.1)
        rintro e sJ ⟨cD, rfl, ho0, hb⟩
        refine ⟨_, rfl, ?_⟩
        have hq_ := (Kd.Q_types (Kd.Q_types (Kd.Q_types (Kd.Q_types (Kd.Q_types (Kd.Q_apart' (Kd.Q_apart' (aN.out) (Kd.R_typed aW.out) oD) (Kd.R_typed aZ.out) oD) aA.out oD) aJ.out oD) aB.out oD) aI.out oD) aO.out oD)
        have n_ := o2_ (Kd.Q_below aN.out hb) (o2_ (Kd.R_below aW.out hb) (o2_ (Kd.V_below bE.out hb) (o2_ (Kd.R_below aZ.out hb) (o2_ (Kd.V_lower (Kd.V_mono (ok' := fun k_ => k_ ≠ bJ ∧ k_ ≠ cJ ∧ k_ ≠ aU ∧ k_ ≠ bB ∧ k_ ≠ bM) ho0 (fun k_ hk_ => ⟨Or.elim hk_ (fun hs_ => (hq_.1 k_ hs_.symm).1.1.1.1.2) (fun hn_ => (Kd.freshB aA.out k_ hn_)), Or.elim hk_ (fun hs_ => (hq_.1 k_ hs_.symm).1.1.1.2) (fun hn_ => (Kd.freshB aJ.out k_ hn_)), Or.elim hk_ (fun hs_ => (hq_.1 k_ hs_.symm).1.1.2) (fun hn_ => (Kd.freshB aB.out k_ hn_)), Or.elim hk_ (fun hs_ => (hq_.1 k_ hs_.symm).1.2) (fun hn_ => (Kd.freshB aI.out k_ hn_)), Or.elim hk_ (fun hs_ => (hq_.1 k_ hs_.symm).2) (fun hn_ => (Kd.freshB aO.out k_ hn_))⟩)) (below_size (oB HB))) (o2_ (blk_below aA.out hb) (o2_ (blk_below aJ.out hb) (o2_ (blk_below aB.out hb) (o2_ (blk_below aI.out hb) (o2_ (blk_below aO.out hb) (o1_ (below_step (oB HB) hb)))))))))))
        clear aN aW bE aZ aA aJ aB aI aO HB
        obtain ⟨aN, aW, bE, aZ, bH, aA, aJ, aB, aI, aO, HB⟩ := n_
        clear hq_
        (try clear hb)
        (try clear hb2)
        (try clear hk)
        (try clear hi)
        (try clear ho0)
        refine hK.out _ _ ⟨bS, bU, .slice gU y823.length hR, cD, bT, bV, bR, cE, bW, cF, bX, cG, cR, (.agg #[.int .i64 fI, .int .i64 fJ, cD]), bZ, cA, cB, cC, (by rw [ha.out]; exact putSel_upk 11 hb_ rfl rfl rfl), aN.out, aA.out, aJ.out, aB.out, aI.out, aO.out, (oB HB), fun _ => aW.out, fun _ => bE.out, fun _ => aZ.out, fun _ => bH.out, oF (hoff 16 oK), oF (hoff 17 oK), oF (hoff 22 oK), oF (hoff 23 oK), oF (hoff 32 oK), oF (hoff 33 oK), oF (hoff 41 oK), oF (hoff 42 oK), bG, fun _ => rfl, oF (hoff 17 oK), oF (hoff 23 oK), oF (hoff 33 oK), oF (hoff 42 oK)⟩
       refine steps_cons ?_ ?_
       ·rintro b a w' ⟨bS, bU, bQ, cD, bT, bV, bR, cE, bW, cF, bX, cG, cR, bY, bZ, cA, cB, cC, ha, aH, aC, aD, aE, aF, aG, Q_HB, aL, aM, aK, aP, aQ, aS, aR, aT, aV, aX, bD, bF, bG, aY, bA, bC, bI, bO⟩ hb_ hon hoff
        refine ⟨_, rfl, fun K hK => ?_⟩
        have nH : a.tmps[33]? = some (cR) := by rw [ha]; exact putSel_on (e := (5, 33, cR)) 5 rfl rfl (hon 5 oK) rfl
        rw [bG (hon 5 oK)] at nH
        have nI : a.tmps[39]? = some (bY) := by rw [ha]; exact putSel_on (e := (11, 39, bY)) 11 rfl rfl (hon 11 oK) rfl
        rw [aY (hon 11 oK)] at nI
        replace ha := Aside0.mk ha
        obtain ⟨aN, aA, aJ, aB, aI, aO, HB, aW, bE, aZ, bH⟩ := o2_ aH (o2_ aC (o2_ aD (o2_ aE (o2_ aF (o2_ aG (o2_ Q_HB (o2_ (aL (hon 4 oK)) (o2_ (aM (hon 5 oK)) (o2_ (aK (hon 10 oK)) (o1_ (aP (hon 11 oK))))))))))))
        obtain ⟨gV, hS, iE⟩ := Kd.V_slice bE.out
        (first | subst iE | (injection iE with f1_ f2_ f3_; have f4_ := f1_.symm; have f5_ := f3_.symm; clear f1_ f2_ f3_; subst f4_; subst f5_))
        obtain ⟨gW, hT, iF⟩ := Kd.V_slice bH.out
        (first | subst iF | (injection iF with f1_ f2_ f3_; have f4_ := f1_.symm; have f5_ := f3_.symm; clear f1_ f2_ f3_; subst f4_; subst f5_))
        refine goes_ Try.func21 oK rfl #[.agg #[.int .i64 fA, .int .i64 fB, .slice gV eX.length hS], .agg #[.int .i64 fI, .int .i64 fJ, .slice gW fK.length hT]] (by first | rfl | exact wanted_on rfl rfl rfl (by assumption)) rfl rfl (by first | (simp only [List.map_toArray, List.map_cons, List.map_nil, Act.eval, Array.getD_eq_getD_getElem?, Option.getD_some, nH, nI]; done) | (simp only [List.map_toArray, List.map_cons, List.map_nil, Act.eval, Array.getD_eq_getD_getElem?, Option.getD_some, nH, nI]; rfl)) ?_
        with_reducible refine (laws_eaRas.calls k fA fB _ _ eX fI fJ _ _ fK true _ ?side1 ?side2 ?side3 ?side4 A8.out).mono ?_
        (case side1 => repeat (first | exact (Kd.V_reads' bE.out).2.2 | (with_reducible refine Kd.C_alloc ?_ _) | (with_reducible refine Kd.C_drewN ?_ _) | (with_reducible refine Kd.C_drew ?_)))
        (case side2 => exact (Kd.V_reads' bE.out).2.1)
        (case side3 => repeat (first | exact (Kd.V_reads' bH.out).2.2 | (with_reducible refine Kd.C_alloc ?_ _) | (with_reducible refine Kd.C_drewN ?_ _) | (with_reducible refine Kd.C_drew ?_)))
        (case side4 => exact (Kd.V_reads' bH.out).2.1)
        rintro e sK ⟨rfl, hb⟩
        refine ⟨_, rfl, ?_⟩
        have n_ := o2_ (Kd.Q_below aN.out hb) (o2_ (Kd.R_below aW.out hb) (o2_ (Kd.V_below bE.out hb) (o2_ (Kd.R_below aZ.out hb) (o2_ (Kd.V_below bH.out hb) (o2_ (blk_below aA.out hb) (o2_ (blk_below aJ.out hb) (o2_ (blk_below aB.out hb) (o2_ (blk_below aI.out hb) (o2_ (blk_below aO.out hb) (o1_ (below_step (oB HB) hb)))))))))))
        clear aN aW bE aZ bH aA aJ aB aI aO HB
        obtain ⟨aN, aW, bE, aZ, bH, aA, aJ, aB, aI, aO, HB⟩ := n_
        (try clear hb)
        (try clear hb2)
        (try clear hk)
        (try clear hi)
        refine hK.out _ _ ⟨bS, .slice gV eX.length hS, bQ, .slice gW fK.length hT, bT, bV, bR, cE, bW, cF, bX, cG, cR, bY, bZ, cA, cB, cC, (by rw [ha.out]; exact putSel_upk 12 hb_ rfl rfl rfl), aN.out, aA.out, aJ.out, aB.out, aI.out, aO.out, (oB HB), fun _ => aW.out, fun _ => bE.out, fun _ => aZ.out, fun _ => bH.out, oF (hoff 16 oK), oF (hoff 17 oK), oF (hoff 22 oK), oF (hoff 23 oK), oF (hoff 32 oK), oF (hoff 33 oK), oF (hoff 41 oK), oF (hoff 42 oK), bG, aY, oF (hoff 17 oK), oF (hoff 23 oK), oF (hoff 33 oK), oF (hoff 42 oK)⟩
       refine steps_cons ?_ ?_
       ·rintro b a w' ⟨bS, bU, bQ, cD, bT, bV, bR, cE, bW, cF, bX, cG, cR, bY, bZ, cA, cB, cC, ha, aH, aC, aD, aE, aF, aG, Q_HB, aL, aM, aK, aP, aQ, aS, aR, aT, aV, aX, bD, bF, bG, aY, bA, bC, bI, bO⟩ hb_ hon hoff
        refine ⟨_, rfl, fun K hK => ?_⟩
        have rP : a.tmps[40]? = some (.bool true) := by rw [ha]; exact putSel_on (e := (12, 40, .bool true)) 12 rfl rfl (hon 12 oK) rfl
        replace ha := Aside0.mk ha
        obtain ⟨aN, aA, aJ, aB, aI, aO, HB, aW, bE, aZ, bH⟩ := o2_ aH (o2_ aC (o2_ aD (o2_ aE (o2_ aF (o2_ aG (o2_ Q_HB (o2_ (aL (hon 4 oK)) (o2_ (aM (hon 5 oK)) (o2_ (aK (hon 10 oK)) (o1_ (aP (hon 11 oK))))))))))))
        refine value_ (w1 := w') (v := .bool true) (by rfl) rfl ?_ ?_
        ·go_simp
         (try simp only [i64_w])
         try rfl
        refine hK.out _ _ ⟨bS, bU, bQ, cD, bT, bV, bR, cE, bW, cF, bX, cG, cR, bY, bZ, cA, cB, cC, (by rw [ha.out]; exact putSel_upk 13 hb_ rfl rfl rfl), aH, aC, aD, aE, aF, aG, Q_HB, aL, aM, aK, aP, oF (hoff 16 oK), oF (hoff 17 oK), oF (hoff 22 oK), oF (hoff 23 oK), oF (hoff 32 oK), oF (hoff 33 oK), oF (hoff 41 oK), oF (hoff 42 oK), bG, aY, oF (hoff 17 oK), oF (hoff 23 oK), oF (hoff 33 oK), oF (hoff 42 oK)⟩
       refine steps_cons ?_ ?_
       ·rintro b a w' ⟨bS, bU, bQ, cD, bT, bV, bR, cE, bW, cF, bX, cG, cR, bY, bZ, cA, cB, cC, ha, aH, aC, aD, aE, aF, aG, Q_HB, aL, aM, aK, aP, aQ, aS, aR, aT, aV, aX, bD, bF, bG, aY, bA, bC, bI, bO⟩ hb_ hon hoff
        refine ⟨_, rfl, fun K hK => ?_⟩
        have e3 : a.tmps[3]? = some (.pointer (some ⟨bJ, 0, none⟩)) := by rw [ha]; exact (putSel_off rfl).trans rfl
        have eB : a.tmps[41]? = some (.bool true) := by rw [ha]; exact putSel_on (e := (13, 41, .bool true)) 13 rfl rfl (hon 13 oK) rfl
        replace ha := Aside0.mk ha
        obtain ⟨aN, aA, aJ, aB, aI, aO, HB, aW, bE, aZ, bH⟩ := o2_ aH (o2_ aC (o2_ aD (o2_ aE (o2_ aF (o2_ aG (o2_ Q_HB (o2_ (aL (hon 4 oK)) (o2_ (aM (hon 5 oK)) (o2_ (aK (hon 10 oK)) (o1_ (aP (hon 11 oK))))))))))))
        have cZ : w'.cell? ⟨bJ, 0, none⟩ = some (.int .i64 cH) := (blk_cell aA.out 0).trans rfl
        have dA : w'.cell? ⟨bJ, 1, none⟩ = some (.int .i64 cI) := (blk_cell aA.out 1).trans rfl
        have dB : w'.cell? ⟨bJ, 2, none⟩ = some (.slice cP bN.length cO) := (blk_cell aA.out 2).trans rfl
        refine value_ (w1 := w') (v := .agg #[.int .i64 cH, .int .i64 cI, .slice cP bN.length cO]) (wanted_on rfl rfl rfl (eB.trans (by first | rfl | (simp [*]; done)))) rfl ?_ ?_
        ·go_simp
         (try simp only [i64_w])
         try rfl
        refine hK.out _ _ ⟨bS, bU, bQ, cD, bT, bV, bR, cE, bW, cF, bX, cG, cR, bY, bZ, cA, cB, cC, (by rw [ha.out]; exact putSel_upk 14 hb_ rfl rfl rfl), aH, aC, aD, aE, aF, aG, Q_HB, aL, aM, aK, aP, aQ, oF (hoff 17 oK), aR, oF (hoff 23 oK), oF (hoff 32 oK), oF (hoff 33 oK), oF (hoff 41 oK), oF (hoff 42 oK), bG, aY, oF (hoff 17 oK), oF (hoff 23 oK), oF (hoff 33 oK), oF (hoff 42 oK)⟩
       refine steps_cons ?_ ?_
       ·rintro b a w' ⟨bS, bU, bQ, cD, bT, bV, bR, cE, bW, cF, bX, cG, cR, bY, bZ, cA, cB, cC, ha, aH, aC, aD, aE, aF, aG, Q_HB, aL, aM, aK, aP, aQ, aS, aR, aT, aV, aX, bD, bF, bG, aY, bA, bC, bI, bO⟩ hb_ hon hoff
        refine ⟨_, rfl, fun K hK => ?_⟩
        have e7 : a.tmps[7]? = some (.pointer (some ⟨bM, 0, none⟩)) := by rw [ha]; exact (putSel_off rfl).trans rfl
        have eB : a.tmps[41]? = some (.bool true) := by rw [ha]; exact putSel_on (e := (13, 41, .bool true)) 13 rfl rfl (hon 13 oK) rfl
        replace ha := Aside0.mk ha
        obtain ⟨aN, aA, aJ, aB, aI, aO, HB, aW, bE, aZ, bH⟩ := o2_ aH (o2_ aC (o2_ aD (o2_ aE (o2_ aF (o2_ aG (o2_ Q_HB (o2_ (aL (hon 4 oK)) (o2_ (aM (hon 5 oK)) (o2_ (aK (hon 10 oK)) (o1_ (aP (hon 11 oK))))))))))))
        have cZ : w'.cell? ⟨bM, 0, none⟩ = some (.int .i64 3) := (blk_cell aO.out 0).trans rfl
        have dA : w'.cell? ⟨bM, 1, none⟩ = some (.int .i64 0) := (blk_cell aO.out 1).trans rfl
        have dB : w'.cell? ⟨bM, 2, none⟩ = some (.int .i64 0) := (blk_cell aO.out 2).trans rfl
        have dE : w'.cell? ⟨bM, 3, none⟩ = some (.int .i64 0) := (blk_cell aO.out 3).trans rfl
        have dF : w'.cell? ⟨bM, 4, none⟩ = some (.int .i64 0) := (blk_cell aO.out 4).trans rfl
        refine value_ (w1 := w') (v := .agg #[.int .i64 3, .int .i64 0, .int .i64 0, .int .i64 0, .int .i64 0]) (wanted_on rfl rfl rfl (eB.trans (by first | rfl | (simp [*]; done)))) rfl ?_ ?_
        ·go_simp
         (try simp only [i64_w])
         try rfl
        refine hK.out _ _ ⟨bS, bU, bQ, cD, bT, bV, bR, cE, bW, cF, bX, cG, cR, bY, bZ, cA, cB, cC, (by rw [ha.out]; exact putSel_upk 15 hb_ rfl rfl rfl), aH, aC, aD, aE, aF, aG, Q_HB, aL, aM, aK, aP, oF (hoff 16 oK), oF (hoff 17 oK), aR, oF (hoff 23 oK), oF (hoff 32 oK), oF (hoff 33 oK), oF (hoff 41 oK), oF (hoff 42 oK), bG, aY, oF (hoff 17 oK), oF (hoff 23 oK), oF (hoff 33 oK), oF (hoff 42 oK)⟩
       refine steps_cons ?_ ?_
       ·rintro b a w' ⟨bS, bU, bQ, cD, bT, bV, bR, cE, bW, cF, bX, cG, cR, bY, bZ, cA, cB, cC, ha, aH, aC, aD, aE, aF, aG, Q_HB, aL, aM, aK, aP, aQ, aS, aR, aT, aV, aX, bD, bF, bG, aY, bA, bC, bI, bO⟩ hb_ hon hoff
        refine ⟨_, rfl, fun K hK => ?_⟩
        have rQ : a.tmps[43]? = some (.agg #[.int .i64 3, .int .i64 0, .int .i64 0, .int .i64 0, .int .i64 0]) := by rw [ha]; exact putSel_on (e := (15, 43, .agg #[.int .i64 3, .int .i64 0, .int .i64 0, .int .i64 0, .int .i64 0])) 15 rfl rfl (hon 15 oK) rfl
        have eB : a.tmps[41]? = some (.bool true) := by rw [ha]; exact putSel_on (e := (13, 41, .bool true)) 13 rfl rfl (hon 13 oK) rfl
        replace ha := Aside0.mk ha
        obtain ⟨aN, aA, aJ, aB, aI, aO, HB, aW, bE, aZ, bH⟩ := o2_ aH (o2_ aC (o2_ aD (o2_ aE (o2_ aF (o2_ aG (o2_ Q_HB (o2_ (aL (hon 4 oK)) (o2_ (aM (hon 5 oK)) (o2_ (aK (hon 10 oK)) (o1_ (aP (hon 11 oK))))))))))))
        refine Kd.R_lit_step k27 _ 27 ?hg (N := 44) ?hd (xs := ([(⟨3, 0, 0, 0, 0⟩ : S27)] : List (S27))) (inner := [.int .i64 3, .int .i64 0, .int .i64 0, .int .i64 0, .int .i64 0]) (ok := fun _ => True) (okp := fun _ => True) ?hr ?hp (fun _ hk => hk) trivial (Below.refl _ _) (Nat.le_refl _) (by simp) ?_; (case hd => rfl); (case hg => first | rfl | exact wanted_on rfl rfl rfl (by assumption)); (case hr => first | (go_simp; done) | (go_simp; rfl)); (case hp => exact (Reps.c5 (show Kd.M k27 _ _ _ (⟨3, 0, 0, 0, 0⟩ : S27) [.int .i64 3, .int .i64 0, .int .i64 0, .int .i64 0, .int .i64 0] from (k27_mkM _ _ _ (⟨3, 0, 0, 0, 0⟩ : S27) )) (Reps.none _ _)))
        intro bT nE ho57 hb hg_ hnew_
        clear hg_ hnew_
        (first | rw [← gA.out] at ho57 | (simp only [Int.reduceToNat] at ho57; rw [← gA.out] at ho57))
        have eN := Aside0.mk (Kd.Q_below aN.out hb)
        have eQ := Aside0.mk (Kd.R_elder' aW.out (Kd.R_base ho57) hb)
        have eR := Aside0.mk (Kd.V_elder' bE.out (Kd.R_base ho57) hb)
        have eS := Aside0.mk (Kd.R_elder' aZ.out (Kd.R_base ho57) hb)
        have eT := Aside0.mk (Kd.V_elder' bH.out (Kd.R_base ho57) hb)
        have eU := Aside0.mk (Kd.R_lower (Kd.R_newB (Kd.R_newB (Kd.R_newB (Kd.R_newB (Kd.R_new' (Kd.R_new' ho57 (Kd.R_lt aW.out)) (Kd.R_lt aZ.out)) aJ.out) aB.out) aI.out) aO.out) (below_size (oB HB)))
        have eV := Aside0.mk (blk_below aA.out hb)
        have eW := Aside0.mk (blk_below aJ.out hb)
        have fE := Aside0.mk (blk_below aB.out hb)
        have gE := Aside0.mk (blk_below aI.out hb)
        have eO := Aside0.mk (blk_below aO.out hb)
        have eP := Aside0.mk (below_step (oB HB) hb)
        have eL := fun (h0_ : b 22 = true) => (show Kd.R k27 27 nE w.heap.size (fun k_ => k_ ≠ cJ ∧ k_ ≠ aU ∧ k_ ≠ bB ∧ k_ ≠ bM) bR y840 from by first | exact (Kd.R_elder' (uR ((aR h0_))) (Kd.R_base ho57) hb) | exact Kd.R_mono (Kd.R_elder' (uR ((aR h0_))) (Kd.R_base ho57) hb) (fun _ h_ => by first | trivial | exact h_ | exact h_.1))
        clear aN
        clear aW
        clear bE
        clear aZ
        clear bH
        clear aA
        clear aJ
        clear aB
        clear aI
        clear aO
        clear HB
        have aN := eN
        have aW := eQ
        have bE := eR
        have aZ := eS
        have bH := eT
        have bL := eU
        have aA := eV
        have aJ := eW
        have aB := fE
        have aI := gE
        have aO := eO
        have HB := eP
        clear eN eQ eR eS eT eU eV eW fE gE eO eP
        clear hb ho57
        refine hK.out _ _ ⟨bS, bU, bQ, cD, bT, bV, bR, cE, bW, cF, bX, cG, cR, bY, bZ, cA, cB, cC, (by rw [ha.out]; exact putSel_upk 16 hb_ rfl rfl rfl), aN.out, aA.out, aJ.out, aB.out, aI.out, aO.out, (oB HB), fun _ => (by (with_reducible repeat (first | apply Kd.R_alloc | apply Kd.R_drewN | apply Kd.R_drew)); exact Kd.R_mono aW.out oY), fun _ => (by (with_reducible repeat (first | apply Kd.V_alloc | apply Kd.V_drewN | apply Kd.V_drew)); exact Kd.V_mono bE.out oY), fun _ => (by (with_reducible repeat (first | apply Kd.R_alloc | apply Kd.R_drewN | apply Kd.R_drew)); exact Kd.R_mono aZ.out oY), fun _ => (by (with_reducible repeat (first | apply Kd.V_alloc | apply Kd.V_drewN | apply Kd.V_drew)); exact Kd.V_mono bH.out oY), fun _ => (by (with_reducible repeat (first | apply Kd.R_alloc | apply Kd.R_drewN | apply Kd.R_drew)); exact Kd.R_mono bL.out oY), oF (hoff 17 oK), eL, oF (hoff 23 oK), oF (hoff 32 oK), oF (hoff 33 oK), oF (hoff 41 oK), oF (hoff 42 oK), bG, aY, oF (hoff 17 oK), oF (hoff 23 oK), oF (hoff 33 oK), oF (hoff 42 oK)⟩
       refine steps_cons ?_ ?_
       ·rintro b a w' ⟨bS, bU, bQ, cD, bT, bV, bR, cE, bW, cF, bX, cG, cR, bY, bZ, cA, cB, cC, ha, aH, aC, aD, aE, aF, aG, Q_HB, aL, aM, aK, aP, aQ, aS, aR, aT, aV, aX, bD, bF, bG, aY, bA, bC, bI, bO⟩ hb_ hon hoff
        refine ⟨_, rfl, fun K hK => ?_⟩
        have pD : a.tmps[42]? = some (.agg #[.int .i64 cH, .int .i64 cI, .slice cP bN.length cO]) := by rw [ha]; exact putSel_on (e := (14, 42, .agg #[.int .i64 cH, .int .i64 cI, .slice cP bN.length cO])) 14 rfl rfl (hon 14 oK) rfl
        have pE : a.tmps[44]? = some (bT) := by rw [ha]; exact putSel_on (e := (16, 44, bT)) 16 rfl rfl (hon 16 oK) rfl
        have eB : a.tmps[41]? = some (.bool true) := by rw [ha]; exact putSel_on (e := (13, 41, .bool true)) 13 rfl rfl (hon 13 oK) rfl
        replace ha := Aside0.mk ha
        obtain ⟨aN, aA, aJ, aB, aI, aO, HB, aW, bE, aZ, bH, bL⟩ := o2_ aH (o2_ aC (o2_ aD (o2_ aE (o2_ aF (o2_ aG (o2_ Q_HB (o2_ (aL (hon 4 oK)) (o2_ (aM (hon 5 oK)) (o2_ (aK (hon 10 oK)) (o2_ (aP (hon 11 oK)) (o1_ (aQ (hon 16 oK)))))))))))))
        obtain ⟨gX, hU, iG⟩ := Kd.R_slice bL.out
        (first | subst iG | (injection iG with f1_ f2_ f3_; have f4_ := f1_.symm; have f5_ := f3_.symm; clear f1_ f2_ f3_; subst f4_; subst f5_))
        refine goes_ Try.func27 oK rfl #[.agg #[.int .i64 cH, .int .i64 cI, .slice cP bN.length cO], .slice gX y832.length hU] (by first | rfl | exact wanted_on rfl rfl rfl (by assumption)) rfl rfl (by first | (simp only [List.map_toArray, List.map_cons, List.map_nil, Act.eval, Array.getD_eq_getD_getElem?, Option.getD_some, pD, pE, eB]; done) | (simp only [List.map_toArray, List.map_cons, List.map_nil, Act.eval, Array.getD_eq_getD_getElem?, Option.getD_some, pD, pE, eB]; rfl)) ?_
        with_reducible refine (laws_eaDo.calls k cH cI (fun k_ => some k_ = (.slice cP bN.length cO : Value).ownBlock) _ _ bN _ _ y832 fC fD eY _ ?side1 ?side2 ?side3 qU.out).mono ?_
        (case side1 => exact Kd.Q_V (Kd.Q_tight rfl (Kd.Q_types (Kd.Q_types (Kd.Q_types (Kd.Q_types (Kd.Q_types (Kd.Q_apart' (Kd.Q_apart' (Kd.Q_apart' (aN.out) (Kd.R_typed aW.out) oD) (Kd.R_typed aZ.out) oD) (Kd.R_typed bL.out) oD) aA.out oD) aJ.out oD) aB.out oD) aI.out oD) aO.out oD)))
        (case side2 => repeat (first | exact (Kd.R_reads' bL.out).2.2 | (with_reducible refine Kd.C_alloc ?_ _) | (with_reducible refine Kd.C_drewN ?_ _) | (with_reducible refine Kd.C_drew ?_)))
        (case side3 => exact (Kd.R_reads' bL.out).2.1)
        rintro e rH ⟨bV, rfl, ho0, hb⟩
        refine ⟨_, rfl, ?_⟩
        have eN := Aside0.mk (Kd.Q_below aN.out hb)
        have eQ := Aside0.mk (Kd.R_below aW.out hb)
        have eR := Aside0.mk (Kd.V_below bE.out hb)
        have eS := Aside0.mk (Kd.R_below aZ.out hb)
        have eT := Aside0.mk (Kd.V_below bH.out hb)
        have eU := Aside0.mk (Kd.R_below bL.out hb)
        have hq_ := (Kd.Q_types (Kd.Q_types (Kd.Q_types (Kd.Q_types (Kd.Q_types (Kd.Q_apart' (Kd.Q_apart' (Kd.Q_apart' (aN.out) (Kd.R_typed aW.out) oD) (Kd.R_typed aZ.out) oD) (Kd.R_typed bL.out) oD) aA.out oD) aJ.out oD) aB.out oD) aI.out oD) aO.out oD)
        have eV := Aside0.mk (Kd.V_lower (Kd.V_mono (ok' := fun k_ => k_ ≠ bJ ∧ k_ ≠ cJ ∧ k_ ≠ aU ∧ k_ ≠ bB ∧ k_ ≠ bM) ho0 (fun k_ hk_ => ⟨Or.elim hk_ (fun hs_ => (hq_.1 k_ hs_.symm).1.1.1.1.2) (fun hn_ => (Kd.freshB aA.out k_ hn_)), Or.elim hk_ (fun hs_ => (hq_.1 k_ hs_.symm).1.1.1.2) (fun hn_ => (Kd.freshB aJ.out k_ hn_)), Or.elim hk_ (fun hs_ => (hq_.1 k_ hs_.symm).1.1.2) (fun hn_ => (Kd.freshB aB.out k_ hn_)), Or.elim hk_ (fun hs_ => (hq_.1 k_ hs_.symm).1.2) (fun hn_ => (Kd.freshB aI.out k_ hn_)), Or.elim hk_ (fun hs_ => (hq_.1 k_ hs_.symm).2) (fun hn_ => (Kd.freshB aO.out k_ hn_))⟩)) (below_size (oB HB)))
        clear hq_
        have eW := Aside0.mk (blk_below aA.out hb)
        have fE := Aside0.mk (blk_below aJ.out hb)
        have gE := Aside0.mk (blk_below aB.out hb)
        have eO := Aside0.mk (blk_below aI.out hb)
        have eP := Aside0.mk (blk_below aO.out hb)
        have jK := Aside0.mk (below_step (oB HB) hb)
        have eL := fun (h0_ : b 22 = true) => (show Kd.R k27 27 rH w.heap.size (fun k_ => k_ ≠ cJ ∧ k_ ≠ aU ∧ k_ ≠ bB ∧ k_ ≠ bM) bR y840 from by first | exact (Kd.R_below (uR ((aR h0_))) hb) | exact Kd.R_mono (Kd.R_below (uR ((aR h0_))) hb) (fun _ h_ => by first | trivial | exact h_ | exact h_.1))
        clear aN
        clear aW
        clear bE
        clear aZ
        clear bH
        clear bL
        clear aA
        clear aJ
        clear aB
        clear aI
        clear aO
        clear HB
        have aN := eN
        have aW := eQ
        have bE := eR
        have aZ := eS
        have bH := eT
        have bL := eU
        have cK := eV
        have aA := eW
        have aJ := fE
        have aB := gE
        have aI := eO
        have aO := eP
        have HB := jK
        clear eN eQ eR eS eT eU eV eW fE gE eO eP jK
        (try clear hb)
        (try clear hb2)
        (try clear hk)
        (try clear hi)
        (try clear ho0)
        refine hK.out _ _ ⟨bS, bU, bQ, cD, .slice gX y832.length hU, bV, bR, cE, bW, cF, bX, cG, cR, bY, (.agg #[.int .i64 fC, .int .i64 fD, bV]), cA, cB, cC, (by rw [ha.out]; exact putSel_upk 17 hb_ rfl rfl rfl), aN.out, aA.out, aJ.out, aB.out, aI.out, aO.out, (oB HB), fun _ => aW.out, fun _ => bE.out, fun _ => aZ.out, fun _ => bH.out, fun _ => bL.out, fun _ => cK.out, eL, oF (hoff 23 oK), oF (hoff 32 oK), oF (hoff 33 oK), oF (hoff 41 oK), oF (hoff 42 oK), bG, aY, fun _ => rfl, oF (hoff 23 oK), oF (hoff 33 oK), oF (hoff 42 oK)⟩
       refine steps_cons ?_ ?_
       ·rintro b a w' ⟨bS, bU, bQ, cD, bT, bV, bR, cE, bW, cF, bX, cG, cR, bY, bZ, cA, cB, cC, ha, aH, aC, aD, aE, aF, aG, Q_HB, aL, aM, aK, aP, aQ, aS, aR, aT, aV, aX, bD, bF, bG, aY, bA, bC, bI, bO⟩ hb_ hon hoff
        refine ⟨_, rfl, fun K hK => ?_⟩
        have e3 : a.tmps[3]? = some (.pointer (some ⟨bJ, 0, none⟩)) := by rw [ha]; exact (putSel_off rfl).trans rfl
        have eB : a.tmps[41]? = some (.bool true) := by rw [ha]; exact putSel_on (e := (13, 41, .bool true)) 13 rfl rfl (hon 13 oK) rfl
        replace ha := Aside0.mk ha
        obtain ⟨aN, aA, aJ, aB, aI, aO, HB, aW, bE, aZ, bH⟩ := o2_ aH (o2_ aC (o2_ aD (o2_ aE (o2_ aF (o2_ aG (o2_ Q_HB (o2_ (aL (hon 4 oK)) (o2_ (aM (hon 5 oK)) (o2_ (aK (hon 10 oK)) (o1_ (aP (hon 11 oK))))))))))))
        have cZ : w'.cell? ⟨bJ, 0, none⟩ = some (.int .i64 cH) := (blk_cell aA.out 0).trans rfl
        have dA : w'.cell? ⟨bJ, 1, none⟩ = some (.int .i64 cI) := (blk_cell aA.out 1).trans rfl
        have dB : w'.cell? ⟨bJ, 2, none⟩ = some (.slice cP bN.length cO) := (blk_cell aA.out 2).trans rfl
        refine value_ (w1 := w') (v := .agg #[.int .i64 cH, .int .i64 cI, .slice cP bN.length cO]) (wanted_on rfl rfl rfl (eB.trans (by first | rfl | (simp [*]; done)))) rfl ?_ ?_
        ·go_simp
         (try simp only [i64_w])
         try rfl
        refine hK.out _ _ ⟨bS, bU, bQ, cD, bT, bV, bR, cE, bW, cF, bX, cG, cR, bY, bZ, cA, cB, cC, (by rw [ha.out]; exact putSel_upk 18 hb_ rfl rfl rfl), aH, aC, aD, aE, aF, aG, Q_HB, aL, aM, aK, aP, aQ, aS, aR, oF (hoff 23 oK), oF (hoff 32 oK), oF (hoff 33 oK), oF (hoff 41 oK), oF (hoff 42 oK), bG, aY, bA, oF (hoff 23 oK), oF (hoff 33 oK), oF (hoff 42 oK)⟩
       refine steps_cons ?_ ?_
       ·rintro b a w' ⟨bS, bU, bQ, cD, bT, bV, bR, cE, bW, cF, bX, cG, cR, bY, bZ, cA, cB, cC, ha, aH, aC, aD, aE, aF, aG, Q_HB, aL, aM, aK, aP, aQ, aS, aR, aT, aV, aX, bD, bF, bG, aY, bA, bC, bI, bO⟩ hb_ hon hoff
        refine ⟨_, rfl, fun K hK => ?_⟩
        have e6 : a.tmps[6]? = some (.pointer (some ⟨bB, 0, none⟩)) := by rw [ha]; exact (putSel_off rfl).trans rfl
        have eB : a.tmps[41]? = some (.bool true) := by rw [ha]; exact putSel_on (e := (13, 41, .bool true)) 13 rfl rfl (hon 13 oK) rfl
        replace ha := Aside0.mk ha
        obtain ⟨aN, aA, aJ, aB, aI, aO, HB, aW, bE, aZ, bH⟩ := o2_ aH (o2_ aC (o2_ aD (o2_ aE (o2_ aF (o2_ aG (o2_ Q_HB (o2_ (aL (hon 4 oK)) (o2_ (aM (hon 5 oK)) (o2_ (aK (hon 10 oK)) (o1_ (aP (hon 11 oK))))))))))))
        have cZ : w'.cell? ⟨bB, 0, none⟩ = some (.int .i64 2) := (blk_cell aI.out 0).trans rfl
        have dA : w'.cell? ⟨bB, 1, none⟩ = some (.int .i64 0) := (blk_cell aI.out 1).trans rfl
        have dB : w'.cell? ⟨bB, 2, none⟩ = some (.int .i64 0) := (blk_cell aI.out 2).trans rfl
        have dE : w'.cell? ⟨bB, 3, none⟩ = some (.int .i64 0) := (blk_cell aI.out 3).trans rfl
        have dF : w'.cell? ⟨bB, 4, none⟩ = some (.int .i64 0) := (blk_cell aI.out 4).trans rfl
        refine value_ (w1 := w') (v := .agg #[.int .i64 2, .int .i64 0, .int .i64 0, .int .i64 0, .int .i64 0]) (wanted_on rfl rfl rfl (eB.trans (by first | rfl | (simp [*]; done)))) rfl ?_ ?_
        ·go_simp
         (try simp only [i64_w])
         try rfl
        refine hK.out _ _ ⟨bS, bU, bQ, cD, bT, bV, bR, cE, bW, cF, bX, cG, cR, bY, bZ, cA, cB, cC, (by rw [ha.out]; exact putSel_upk 19 hb_ rfl rfl rfl), aH, aC, aD, aE, aF, aG, Q_HB, aL, aM, aK, aP, aQ, aS, oF (hoff 22 oK), oF (hoff 23 oK), oF (hoff 32 oK), oF (hoff 33 oK), oF (hoff 41 oK), oF (hoff 42 oK), bG, aY, bA, oF (hoff 23 oK), oF (hoff 33 oK), oF (hoff 42 oK)⟩
       refine steps_cons ?_ ?_
       ·rintro b a w' ⟨bS, bU, bQ, cD, bT, bV, bR, cE, bW, cF, bX, cG, cR, bY, bZ, cA, cB, cC, ha, aH, aC, aD, aE, aF, aG, Q_HB, aL, aM, aK, aP, aQ, aS, aR, aT, aV, aX, bD, bF, bG, aY, bA, bC, bI, bO⟩ hb_ hon hoff
        refine ⟨_, rfl, fun K hK => ?_⟩
        have e5 : a.tmps[5]? = some (.pointer (some ⟨aU, 0, none⟩)) := by rw [ha]; exact (putSel_off rfl).trans rfl
        have eB : a.tmps[41]? = some (.bool true) := by rw [ha]; exact putSel_on (e := (13, 41, .bool true)) 13 rfl rfl (hon 13 oK) rfl
        replace ha := Aside0.mk ha
        obtain ⟨aN, aA, aJ, aB, aI, aO, HB, aW, bE, aZ, bH⟩ := o2_ aH (o2_ aC (o2_ aD (o2_ aE (o2_ aF (o2_ aG (o2_ Q_HB (o2_ (aL (hon 4 oK)) (o2_ (aM (hon 5 oK)) (o2_ (aK (hon 10 oK)) (o1_ (aP (hon 11 oK))))))))))))
        have cZ : w'.cell? ⟨aU, 0, none⟩ = some (.int .i64 4) := (blk_cell aB.out 0).trans rfl
        have dA : w'.cell? ⟨aU, 1, none⟩ = some (.int .i64 0) := (blk_cell aB.out 1).trans rfl
        have dB : w'.cell? ⟨aU, 2, none⟩ = some (.int .i64 0) := (blk_cell aB.out 2).trans rfl
        have dE : w'.cell? ⟨aU, 3, none⟩ = some (.int .i64 0) := (blk_cell aB.out 3).trans rfl
        have dF : w'.cell? ⟨aU, 4, none⟩ = some (.int .i64 0) := (blk_cell aB.out 4).trans rfl
        refine value_ (w1 := w') (v := .agg #[.int .i64 4, .int .i64 0, .int .i64 0, .int .i64 0, .int .i64 0]) (wanted_on rfl rfl rfl (eB.trans (by first | rfl | (simp [*]; done)))) rfl ?_ ?_
        ·go_simp
         (try simp only [i64_w])
         try rfl
        refine hK.out _ _ ⟨bS, bU, bQ, cD, bT, bV, bR, cE, bW, cF, bX, cG, cR, bY, bZ, cA, cB, cC, (by rw [ha.out]; exact putSel_upk 20 hb_ rfl rfl rfl), aH, aC, aD, aE, aF, aG, Q_HB, aL, aM, aK, aP, aQ, aS, oF (hoff 22 oK), oF (hoff 23 oK), oF (hoff 32 oK), oF (hoff 33 oK), oF (hoff 41 oK), oF (hoff 42 oK), bG, aY, bA, oF (hoff 23 oK), oF (hoff 33 oK), oF (hoff 42 oK)⟩
       refine steps_cons ?_ ?_
       ·rintro b a w' ⟨bS, bU, bQ, cD, bT, bV, bR, cE, bW, cF, bX, cG, cR, bY, bZ, cA, cB, cC, ha, aH, aC, aD, aE, aF, aG, Q_HB, aL, aM, aK, aP, aQ, aS, aR, aT, aV, aX, bD, bF, bG, aY, bA, bC, bI, bO⟩ hb_ hon hoff
        refine ⟨_, rfl, fun K hK => ?_⟩
        have e5 : a.tmps[5]? = some (.pointer (some ⟨aU, 0, none⟩)) := by rw [ha]; exact (putSel_off rfl).trans rfl
        have eB : a.tmps[41]? = some (.bool true) := by rw [ha]; exact putSel_on (e := (13, 41, .bool true)) 13 rfl rfl (hon 13 oK) rfl
        replace ha := Aside0.mk ha
        obtain ⟨aN, aA, aJ, aB, aI, aO, HB, aW, bE, aZ, bH⟩ := o2_ aH (o2_ aC (o2_ aD (o2_ aE (o2_ aF (o2_ aG (o2_ Q_HB (o2_ (aL (hon 4 oK)) (o2_ (aM (hon 5 oK)) (o2_ (aK (hon 10 oK)) (o1_ (aP (hon 11 oK))))))))))))
        have cZ : w'.cell? ⟨aU, 0, none⟩ = some (.int .i64 4) := (blk_cell aB.out 0).trans rfl
        have dA : w'.cell? ⟨aU, 1, none⟩ = some (.int .i64 0) := (blk_cell aB.out 1).trans rfl
        have dB : w'.cell? ⟨aU, 2, none⟩ = some (.int .i64 0) := (blk_cell aB.out 2).trans rfl
        have dE : w'.cell? ⟨aU, 3, none⟩ = some (.int .i64 0) := (blk_cell aB.out 3).trans rfl
        have dF : w'.cell? ⟨aU, 4, none⟩ = some (.int .i64 0) := (blk_cell aB.out 4).trans rfl
        refine value_ (w1 := w') (v := .agg #[.int .i64 4, .int .i64 0, .int .i64 0, .int .i64 0, .int .i64 0]) (wanted_on rfl rfl rfl (eB.trans (by first | rfl | (simp [*]; done)))) rfl ?_ ?_
        ·go_simp
         (try simp only [i64_w])
         try rfl
        refine hK.out _ _ ⟨bS, bU, bQ, cD, bT, bV, bR, cE, bW, cF, bX, cG, cR, bY, bZ, cA, cB, cC, (by rw [ha.out]; exact putSel_upk 21 hb_ rfl rfl rfl), aH, aC, aD, aE, aF, aG, Q_HB, aL, aM, aK, aP, aQ, aS, oF (hoff 22 oK), oF (hoff 23 oK), oF (hoff 32 oK), oF (hoff 33 oK), oF (hoff 41 oK), oF (hoff 42 oK), bG, aY, bA, oF (hoff 23 oK), oF (hoff 33 oK), oF (hoff 42 oK)⟩
       refine steps_cons ?_ ?_
       ·rintro b a w' ⟨bS, bU, bQ, cD, bT, bV, bR, cE, bW, cF, bX, cG, cR, bY, bZ, cA, cB, cC, ha, aH, aC, aD, aE, aF, aG, Q_HB, aL, aM, aK, aP, aQ, aS, aR, aT, aV, aX, bD, bF, bG, aY, bA, bC, bI, bO⟩ hb_ hon hoff
        refine ⟨_, rfl, fun K hK => ?_⟩
        have rR : a.tmps[47]? = some (.agg #[.int .i64 2, .int .i64 0, .int .i64 0, .int .i64 0, .int .i64 0]) := by rw [ha]; exact putSel_on (e := (19, 47, .agg #[.int .i64 2, .int .i64 0, .int .i64 0, .int .i64 0, .int .i64 0])) 19 rfl rfl (hon 19 oK) rfl
        have rS : a.tmps[48]? = some (.agg #[.int .i64 4, .int .i64 0, .int .i64 0, .int .i64 0, .int .i64 0]) := by rw [ha]; exact putSel_on (e := (20, 48, .agg #[.int .i64 4, .int .i64 0, .int .i64 0, .int .i64 0, .int .i64 0])) 20 rfl rfl (hon 20 oK) rfl
        have rT : a.tmps[49]? = some (.agg #[.int .i64 4, .int .i64 0, .int .i64 0, .int .i64 0, .int .i64 0]) := by rw [ha]; exact putSel_on (e := (21, 49, .agg #[.int .i64 4, .int .i64 0, .int .i64 0, .int .i64 0, .int .i64 0])) 21 rfl rfl (hon 21 oK) rfl
        have eB : a.tmps[41]? = some (.bool true) := by rw [ha]; exact putSel_on (e := (13, 41, .bool true)) 13 rfl rfl (hon 13 oK) rfl
        replace ha := Aside0.mk ha
        obtain ⟨aN, aA, aJ, aB, aI, aO, HB, aW, bE, aZ, bH⟩ := o2_ aH (o2_ aC (o2_ aD (o2_ aE (o2_ aF (o2_ aG (o2_ Q_HB (o2_ (aL (hon 4 oK)) (o2_ (aM (hon 5 oK)) (o2_ (aK (hon 10 oK)) (o1_ (aP (hon 11 oK))))))))))))
        refine Kd.R_lit_step k27 _ 27 ?hg (N := 50) ?hd (xs := ([(⟨2, 0, 0, 0, 0⟩ : S27), (⟨4, 0, 0, 0, 0⟩ : S27), (⟨4, 0, 0, 0, 0⟩ : S27)] : List (S27))) (inner := [.int .i64 2, .int .i64 0, .int .i64 0, .int .i64 0, .int .i64 0, .int .i64 4, .int .i64 0, .int .i64 0, .int .i64 0, .int .i64 0, .int .i64 4, .int .i64 0, .int .i64 0, .int .i64 0, .int .i64 0]) (ok := fun _ => True) (okp := fun _ => True) ?hr ?hp (fun _ hk => hk) trivial (Below.refl _ _) (Nat.le_refl _) (by simp) ?_; (case hd => rfl); (case hg => first | rfl | exact wanted_on rfl rfl rfl (by assumption)); (case hr => first | (go_simp; done) | (go_simp; rfl)); (case hp => exact (Reps.c5 (show Kd.M k27 _ _ _ (⟨2, 0, 0, 0, 0⟩ : S27) [.int .i64 2, .int .i64 0, .int .i64 0, .int .i64 0, .int .i64 0] from (k27_mkM _ _ _ (⟨2, 0, 0, 0, 0⟩ : S27) )) (Reps.c5 (show Kd.M k27 _ _ _ (⟨4, 0, 0, 0, 0⟩ : S27) [.int .i64 4, .int .i64 0, .int .i64 0, .int .i64 0, .int .i64 0] from (k27_mkM _ _ _ (⟨4, 0, 0, 0, 0⟩ : S27) )) (Reps.c5 (show Kd.M k27 _ _ _ (⟨4, 0, 0, 0, 0⟩ : S27) [.int .i64 4, .int .i64 0, .int .i64 0, .int .i64 0, .int .i64 0] from (k27_mkM _ _ _ (⟨4, 0, 0, 0, 0⟩ : S27) )) (Reps.none _ _)))))
        intro bR nE ho57 hb hg_ hnew_
        clear hg_ hnew_
        (first | rw [← gB.out] at ho57 | (simp only [Int.reduceToNat] at ho57; rw [← gB.out] at ho57))
        have eN := Aside0.mk (Kd.Q_below aN.out hb)
        have eQ := Aside0.mk (Kd.R_elder' aW.out (Kd.R_base ho57) hb)
        have eR := Aside0.mk (Kd.V_elder' bE.out (Kd.R_base ho57) hb)
        have eS := Aside0.mk (Kd.R_elder' aZ.out (Kd.R_base ho57) hb)
        have eT := Aside0.mk (Kd.V_elder' bH.out (Kd.R_base ho57) hb)
        have eU := Aside0.mk (Kd.R_lower (Kd.R_newB (Kd.R_newB (Kd.R_newB (Kd.R_newB (Kd.R_new' (Kd.R_new' ho57 (Kd.R_lt aW.out)) (Kd.R_lt aZ.out)) aJ.out) aB.out) aI.out) aO.out) (below_size (oB HB)))
        have eV := Aside0.mk (blk_below aA.out hb)
        have eW := Aside0.mk (blk_below aJ.out hb)
        have fE := Aside0.mk (blk_below aB.out hb)
        have gE := Aside0.mk (blk_below aI.out hb)
        have eO := Aside0.mk (blk_below aO.out hb)
        have eP := Aside0.mk (below_step (oB HB) hb)
        have fW := fun (h0_ : b 16 = true) => (show Kd.R k27 27 nE w.heap.size (fun k_ => k_ ≠ cJ ∧ k_ ≠ aU ∧ k_ ≠ bB ∧ k_ ≠ bM) bT y832 from by first | exact (Kd.R_elder' (uR ((aQ h0_))) (Kd.R_base ho57) hb) | exact Kd.R_mono (Kd.R_elder' (uR ((aQ h0_))) (Kd.R_base ho57) hb) (fun _ h_ => by first | trivial | exact h_ | exact h_.1))
        have fX := fun (h0_ : b 17 = true) => (show Kd.V k38 38 nE w.heap.size (fun k_ => k_ ≠ bJ ∧ k_ ≠ cJ ∧ k_ ≠ aU ∧ k_ ≠ bB ∧ k_ ≠ bM) bV eY from by first | exact (Kd.V_elder' (uV ((aS h0_))) (Kd.R_base ho57) hb) | exact Kd.V_mono (Kd.V_elder' (uV ((aS h0_))) (Kd.R_base ho57) hb) (fun _ h_ => by first | trivial | exact h_ | exact h_.1))
        clear aN
        clear aW
        clear bE
        clear aZ
        clear bH
        clear aA
        clear aJ
        clear aB
        clear aI
        clear aO
        clear HB
        have aN := eN
        have aW := eQ
        have bE := eR
        have aZ := eS
        have bH := eT
        have bP := eU
        have aA := eV
        have aJ := eW
        have aB := fE
        have aI := gE
        have aO := eO
        have HB := eP
        clear eN eQ eR eS eT eU eV eW fE gE eO eP
        clear hb ho57
        refine hK.out _ _ ⟨bS, bU, bQ, cD, bT, bV, bR, cE, bW, cF, bX, cG, cR, bY, bZ, cA, cB, cC, (by rw [ha.out]; exact putSel_upk 22 hb_ rfl rfl rfl), aN.out, aA.out, aJ.out, aB.out, aI.out, aO.out, (oB HB), fun _ => (by (with_reducible repeat (first | apply Kd.R_alloc | apply Kd.R_drewN | apply Kd.R_drew)); exact Kd.R_mono aW.out oY), fun _ => (by (with_reducible repeat (first | apply Kd.V_alloc | apply Kd.V_drewN | apply Kd.V_drew)); exact Kd.V_mono bE.out oY), fun _ => (by (with_reducible repeat (first | apply Kd.R_alloc | apply Kd.R_drewN | apply Kd.R_drew)); exact Kd.R_mono aZ.out oY), fun _ => (by (with_reducible repeat (first | apply Kd.V_alloc | apply Kd.V_drewN | apply Kd.V_drew)); exact Kd.V_mono bH.out oY), fW, fX, fun _ => (by (with_reducible repeat (first | apply Kd.R_alloc | apply Kd.R_drewN | apply Kd.R_drew)); exact Kd.R_mono bP.out oY), oF (hoff 23 oK), oF (hoff 32 oK), oF (hoff 33 oK), oF (hoff 41 oK), oF (hoff 42 oK), bG, aY, bA, oF (hoff 23 oK), oF (hoff 33 oK), oF (hoff 42 oK)⟩
       refine steps_cons ?_ ?_
       ·rintro b a w' ⟨bS, bU, bQ, cD, bT, bV, bR, cE, bW, cF, bX, cG, cR, bY, bZ, cA, cB, cC, ha, aH, aC, aD, aE, aF, aG, Q_HB, aL, aM, aK, aP, aQ, aS, aR, aT, aV, aX, bD, bF, bG, aY, bA, bC, bI, bO⟩ hb_ hon hoff
        refine ⟨_, rfl, fun K hK => ?_⟩
        have pF : a.tmps[46]? = some (.agg #[.int .i64 cH, .int .i64 cI, .slice cP bN.length cO]) := by rw [ha]; exact putSel_on (e := (18, 46, .agg #[.int .i64 cH, .int .i64 cI, .slice cP bN.length cO])) 18 rfl rfl (hon 18 oK) rfl
        have pG : a.tmps[50]? = some (bR) := by rw [ha]; exact putSel_on (e := (22, 50, bR)) 22 rfl rfl (hon 22 oK) rfl
        have eB : a.tmps[41]? = some (.bool true) := by rw [ha]; exact putSel_on (e := (13, 41, .bool true)) 13 rfl rfl (hon 13 oK) rfl
        replace ha := Aside0.mk ha
        obtain ⟨aN, aA, aJ, aB, aI, aO, HB, aW, bE, aZ, bH, bL, cK, bP⟩ := o2_ aH (o2_ aC (o2_ aD (o2_ aE (o2_ aF (o2_ aG (o2_ Q_HB (o2_ (aL (hon 4 oK)) (o2_ (aM (hon 5 oK)) (o2_ (aK (hon 10 oK)) (o2_ (aP (hon 11 oK)) (o2_ (aQ (hon 16 oK)) (o2_ (aS (hon 17 oK)) (o1_ (aR (hon 22 oK)))))))))))))))
        obtain ⟨gY, hV, iH⟩ := Kd.R_slice bP.out
        (first | subst iH | (injection iH with f1_ f2_ f3_; have f4_ := f1_.symm; have f5_ := f3_.symm; clear f1_ f2_ f3_; subst f4_; subst f5_))
        refine goes_ Try.func27 oK rfl #[.agg #[.int .i64 cH, .int .i64 cI, .slice cP bN.length cO], .slice gY y840.length hV] (by first | rfl | exact wanted_on rfl rfl rfl (by assumption)) rfl rfl (by first | (simp only [List.map_toArray, List.map_cons, List.map_nil, Act.eval, Array.getD_eq_getD_getElem?, Option.getD_some, pF, pG, eB]; done) | (simp only [List.map_toArray, List.map_cons, List.map_nil, Act.eval, Array.getD_eq_getD_getElem?, Option.getD_some, pF, pG, eB]; rfl)) ?_
        with_reducible refine (laws_eaDo.calls k cH cI (fun k_ => some k_ = (.slice cP bN.length cO : Value).ownBlock) _ _ bN _ _ y840 fL fM fN _ ?side1 ?side2 ?side3 qV.out).mono ?_
        (case side1 => exact Kd.Q_V (Kd.Q_tight rfl (Kd.Q_types (Kd.Q_types (Kd.Q_types (Kd.Q_types (Kd.Q_types (Kd.Q_apart' (Kd.Q_apart' (Kd.Q_apart' (Kd.Q_apart' (aN.out) (Kd.R_typed aW.out) oD) (Kd.R_typed aZ.out) oD) (Kd.R_typed bL.out) oD) (Kd.R_typed bP.out) oD) aA.out oD) aJ.out oD) aB.out oD) aI.out oD) aO.out oD)))
        (case side2 => repeat (first | exact (Kd.R_reads' bP.out).2.2 | (with_reducible refine Kd.C_alloc ?_ _) | (with_reducible refine Kd.C_drewN ?_ _) | (with_reducible refine Kd.C_drew ?_)))
        (case side3 => exact (Kd.R_reads' bP.out).2.1)
        rintro e sL ⟨cE, rfl, ho0, hb⟩
        refine ⟨_, rfl, ?_⟩
        have hq_ := (Kd.Q_types (Kd.Q_types (Kd.Q_types (Kd.Q_types (Kd.Q_types (Kd.Q_apart' (Kd.Q_apart' (Kd.Q_apart' (Kd.Q_apart' (aN.out) (Kd.R_typed aW.out) oD) (Kd.R_typed aZ.out) oD) (Kd.R_typed bL.out) oD) (Kd.R_typed bP.out) oD) aA.out oD) aJ.out oD) aB.out oD) aI.out oD) aO.out oD)
        have n_ := o2_ (Kd.Q_below aN.out hb) (o2_ (Kd.R_below aW.out hb) (o2_ (Kd.V_below bE.out hb) (o2_ (Kd.R_below aZ.out hb) (o2_ (Kd.V_below bH.out hb) (o2_ (Kd.R_below bL.out hb) (o2_ (Kd.V_below cK.out hb) (o2_ (Kd.R_below bP.out hb) (o2_ (Kd.V_lower (Kd.V_mono (ok' := fun k_ => k_ ≠ bJ ∧ k_ ≠ cJ ∧ k_ ≠ aU ∧ k_ ≠ bB ∧ k_ ≠ bM) ho0 (fun k_ hk_ => ⟨Or.elim hk_ (fun hs_ => (hq_.1 k_ hs_.symm).1.1.1.1.2) (fun hn_ => (Kd.freshB aA.out k_ hn_)), Or.elim hk_ (fun hs_ => (hq_.1 k_ hs_.symm).1.1.1.2) (fun hn_ => (Kd.freshB aJ.out k_ hn_)), Or.elim hk_ (fun hs_ => (hq_.1 k_ hs_.symm).1.1.2) (fun hn_ => (Kd.freshB aB.out k_ hn_)), Or.elim hk_ (fun hs_ => (hq_.1 k_ hs_.symm).1.2) (fun hn_ => (Kd.freshB aI.out k_ hn_)), Or.elim hk_ (fun hs_ => (hq_.1 k_ hs_.symm).2) (fun hn_ => (Kd.freshB aO.out k_ hn_))⟩)) (below_size (oB HB))) (o2_ (blk_below aA.out hb) (o2_ (blk_below aJ.out hb) (o2_ (blk_below aB.out hb) (o2_ (blk_below aI.out hb) (o2_ (blk_below aO.out hb) (o1_ (below_step (oB HB) hb)))))))))))))))
        clear aN aW bE aZ bH bL cK bP aA aJ aB aI aO HB
        obtain ⟨aN, aW, bE, aZ, bH, bL, cK, bP, cL, aA, aJ, aB, aI, aO, HB⟩ := n_
        clear hq_
        (try clear hb)
        (try clear hb2)
        (try clear hk)
        (try clear hi)
        (try clear ho0)
        refine hK.out _ _ ⟨bS, bU, bQ, cD, bT, bV, .slice gY y840.length hV, cE, bW, cF, bX, cG, cR, bY, bZ, (.agg #[.int .i64 fL, .int .i64 fM, cE]), cB, cC, (by rw [ha.out]; exact putSel_upk 23 hb_ rfl rfl rfl), aN.out, aA.out, aJ.out, aB.out, aI.out, aO.out, (oB HB), fun _ => aW.out, fun _ => bE.out, fun _ => aZ.out, fun _ => bH.out, fun _ => bL.out, fun _ => cK.out, fun _ => bP.out, fun _ => cL.out, oF (hoff 32 oK), oF (hoff 33 oK), oF (hoff 41 oK), oF (hoff 42 oK), bG, aY, bA, fun _ => rfl, oF (hoff 33 oK), oF (hoff 42 oK)⟩
       refine steps_cons ?_ ?_
       ·rintro b a w' ⟨bS, bU, bQ, cD, bT, bV, bR, cE, bW, cF, bX, cG, cR, bY, bZ, cA, cB, cC, ha, aH, aC, aD, aE, aF, aG, Q_HB, aL, aM, aK, aP, aQ, aS, aR, aT, aV, aX, bD, bF, bG, aY, bA, bC, bI, bO⟩ hb_ hon hoff
        refine ⟨_, rfl, fun K hK => ?_⟩
        have nJ : a.tmps[45]? = some (bZ) := by rw [ha]; exact putSel_on (e := (17, 45, bZ)) 17 rfl rfl (hon 17 oK) rfl
        rw [bA (hon 17 oK)] at nJ
        have nK : a.tmps[51]? = some (cA) := by rw [ha]; exact putSel_on (e := (23, 51, cA)) 23 rfl rfl (hon 23 oK) rfl
        rw [bC (hon 23 oK)] at nK
        have eB : a.tmps[41]? = some (.bool true) := by rw [ha]; exact putSel_on (e := (13, 41, .bool true)) 13 rfl rfl (hon 13 oK) rfl
        replace ha := Aside0.mk ha
        obtain ⟨aN, aA, aJ, aB, aI, aO, HB, aW, bE, aZ, bH, bL, cK, bP, cL⟩ := o2_ aH (o2_ aC (o2_ aD (o2_ aE (o2_ aF (o2_ aG (o2_ Q_HB (o2_ (aL (hon 4 oK)) (o2_ (aM (hon 5 oK)) (o2_ (aK (hon 10 oK)) (o2_ (aP (hon 11 oK)) (o2_ (aQ (hon 16 oK)) (o2_ (aS (hon 17 oK)) (o2_ (aR (hon 22 oK)) (o1_ (aT (hon 23 oK))))))))))))))))
        obtain ⟨gZ, hW, iI⟩ := Kd.V_slice cK.out
        (first | subst iI | (injection iI with f1_ f2_ f3_; have f4_ := f1_.symm; have f5_ := f3_.symm; clear f1_ f2_ f3_; subst f4_; subst f5_))
        obtain ⟨hA, hX, iJ⟩ := Kd.V_slice cL.out
        (first | subst iJ | (injection iJ with f1_ f2_ f3_; have f4_ := f1_.symm; have f5_ := f3_.symm; clear f1_ f2_ f3_; subst f4_; subst f5_))
        refine goes_ Try.func21 oK rfl #[.agg #[.int .i64 fC, .int .i64 fD, .slice gZ eY.length hW], .agg #[.int .i64 fL, .int .i64 fM, .slice hA fN.length hX]] (by first | rfl | exact wanted_on rfl rfl rfl (by assumption)) rfl rfl (by first | (simp only [List.map_toArray, List.map_cons, List.map_nil, Act.eval, Array.getD_eq_getD_getElem?, Option.getD_some, nJ, nK, eB]; done) | (simp only [List.map_toArray, List.map_cons, List.map_nil, Act.eval, Array.getD_eq_getD_getElem?, Option.getD_some, nJ, nK, eB]; rfl)) ?_
        with_reducible refine (laws_eaRas.calls k fC fD _ _ eY fL fM _ _ fN true _ ?side1 ?side2 ?side3 ?side4 qW.out).mono ?_
        (case side1 => repeat (first | exact (Kd.V_reads' cK.out).2.2 | (with_reducible refine Kd.C_alloc ?_ _) | (with_reducible refine Kd.C_drewN ?_ _) | (with_reducible refine Kd.C_drew ?_)))
        (case side2 => exact (Kd.V_reads' cK.out).2.1)
        (case side3 => repeat (first | exact (Kd.V_reads' cL.out).2.2 | (with_reducible refine Kd.C_alloc ?_ _) | (with_reducible refine Kd.C_drewN ?_ _) | (with_reducible refine Kd.C_drew ?_)))
        (case side4 => exact (Kd.V_reads' cL.out).2.1)
        rintro e sM ⟨rfl, hb⟩
        refine ⟨_, rfl, ?_⟩
        have n_ := o2_ (Kd.Q_below aN.out hb) (o2_ (Kd.R_below aW.out hb) (o2_ (Kd.V_below bE.out hb) (o2_ (Kd.R_below aZ.out hb) (o2_ (Kd.V_below bH.out hb) (o2_ (Kd.R_below bL.out hb) (o2_ (Kd.V_below cK.out hb) (o2_ (Kd.R_below bP.out hb) (o2_ (Kd.V_below cL.out hb) (o2_ (blk_below aA.out hb) (o2_ (blk_below aJ.out hb) (o2_ (blk_below aB.out hb) (o2_ (blk_below aI.out hb) (o2_ (blk_below aO.out hb) (o1_ (below_step (oB HB) hb)))))))))))))))
        clear aN aW bE aZ bH bL cK bP cL aA aJ aB aI aO HB
        obtain ⟨aN, aW, bE, aZ, bH, bL, cK, bP, cL, aA, aJ, aB, aI, aO, HB⟩ := n_
        (try clear hb)
        (try clear hb2)
        (try clear hk)
        (try clear hi)
        refine hK.out _ _ ⟨bS, bU, bQ, cD, bT, .slice gZ eY.length hW, bR, .slice hA fN.length hX, bW, cF, bX, cG, cR, bY, bZ, cA, cB, cC, (by rw [ha.out]; exact putSel_upk 24 hb_ rfl rfl rfl), aN.out, aA.out, aJ.out, aB.out, aI.out, aO.out, (oB HB), fun _ => aW.out, fun _ => bE.out, fun _ => aZ.out, fun _ => bH.out, fun _ => bL.out, fun _ => cK.out, fun _ => bP.out, fun _ => cL.out, oF (hoff 32 oK), oF (hoff 33 oK), oF (hoff 41 oK), oF (hoff 42 oK), bG, aY, bA, bC, oF (hoff 33 oK), oF (hoff 42 oK)⟩
       refine steps_cons ?_ ?_
       ·rintro b a w' ⟨bS, bU, bQ, cD, bT, bV, bR, cE, bW, cF, bX, cG, cR, bY, bZ, cA, cB, cC, ha, aH, aC, aD, aE, aF, aG, Q_HB, aL, aM, aK, aP, aQ, aS, aR, aT, aV, aX, bD, bF, bG, aY, bA, bC, bI, bO⟩ hb_ hon hoff
        refine ⟨_, rfl, fun K hK => ?_⟩
        have eB : a.tmps[41]? = some (.bool true) := by rw [ha]; exact putSel_on (e := (13, 41, .bool true)) 13 rfl rfl (hon 13 oK) rfl
        have rU : a.tmps[52]? = some (.bool true) := by rw [ha]; exact putSel_on (e := (24, 52, .bool true)) 24 rfl rfl (hon 24 oK) rfl
        replace ha := Aside0.mk ha
        obtain ⟨aN, aA, aJ, aB, aI, aO, HB, aW, bE, aZ, bH, bL, cK, bP, cL⟩ := o2_ aH (o2_ aC (o2_ aD (o2_ aE (o2_ aF (o2_ aG (o2_ Q_HB (o2_ (aL (hon 4 oK)) (o2_ (aM (hon 5 oK)) (o2_ (aK (hon 10 oK)) (o2_ (aP (hon 11 oK)) (o2_ (aQ (hon 16 oK)) (o2_ (aS (hon 17 oK)) (o2_ (aR (hon 22 oK)) (o1_ (aT (hon 23 oK))))))))))))))))
        refine value_ (w1 := w') (v := .bool true) (by rfl) rfl ?_ ?_
        ·go_simp
         (try simp only [i64_w])
         try rfl
        refine hK.out _ _ ⟨bS, bU, bQ, cD, bT, bV, bR, cE, bW, cF, bX, cG, cR, bY, bZ, cA, cB, cC, (by rw [ha.out]; exact putSel_upk 25 hb_ rfl rfl rfl), aH, aC, aD, aE, aF, aG, Q_HB, aL, aM, aK, aP, aQ, aS, aR, aT, oF (hoff 32 oK), oF (hoff 33 oK), oF (hoff 41 oK), oF (hoff 42 oK), bG, aY, bA, bC, oF (hoff 33 oK), oF (hoff 42 oK)⟩
       refine steps_cons ?_ ?_
       ·rintro b a w' ⟨bS, bU, bQ, cD, bT, bV, bR, cE, bW, cF, bX, cG, cR, bY, bZ, cA, cB, cC, ha, aH, aC, aD, aE, aF, aG, Q_HB, aL, aM, aK, aP, aQ, aS, aR, aT, aV, aX, bD, bF, bG, aY, bA, bC, bI, bO⟩ hb_ hon hoff
        refine ⟨_, rfl, fun K hK => ?_⟩
        have rV : a.tmps[53]? = some (.bool true) := by rw [ha]; exact putSel_on (e := (25, 53, .bool true)) 25 rfl rfl (hon 25 oK) rfl
        replace ha := Aside0.mk ha
        obtain ⟨aN, aA, aJ, aB, aI, aO, HB, aW, bE, aZ, bH, bL, cK, bP, cL⟩ := o2_ aH (o2_ aC (o2_ aD (o2_ aE (o2_ aF (o2_ aG (o2_ Q_HB (o2_ (aL (hon 4 oK)) (o2_ (aM (hon 5 oK)) (o2_ (aK (hon 10 oK)) (o2_ (aP (hon 11 oK)) (o2_ (aQ (hon 16 oK)) (o2_ (aS (hon 17 oK)) (o2_ (aR (hon 22 oK)) (o1_ (aT (hon 23 oK))))))))))))))))
        refine value_ (w1 := w') (v := .bool true) (by rfl) rfl ?_ ?_
        ·go_simp
         (try simp only [i64_w])
         try rfl
        refine hK.out _ _ ⟨bS, bU, bQ, cD, bT, bV, bR, cE, bW, cF, bX, cG, cR, bY, bZ, cA, cB, cC, (by rw [ha.out]; exact putSel_upk 26 hb_ rfl rfl rfl), aH, aC, aD, aE, aF, aG, Q_HB, aL, aM, aK, aP, aQ, aS, aR, aT, oF (hoff 32 oK), oF (hoff 33 oK), oF (hoff 41 oK), oF (hoff 42 oK), bG, aY, bA, bC, oF (hoff 33 oK), oF (hoff 42 oK)⟩
       refine steps_cons ?_ ?_
       ·rintro b a w' ⟨bS, bU, bQ, cD, bT, bV, bR, cE, bW, cF, bX, cG, cR, bY, bZ, cA, cB, cC, ha, aH, aC, aD, aE, aF, aG, Q_HB, aL, aM, aK, aP, aQ, aS, aR, aT, aV, aX, bD, bF, bG, aY, bA, bC, bI, bO⟩ hb_ hon hoff
        refine ⟨_, rfl, fun K hK => ?_⟩
        have e3 : a.tmps[3]? = some (.pointer (some ⟨bJ, 0, none⟩)) := by rw [ha]; exact (putSel_off rfl).trans rfl
        have eI : a.tmps[54]? = some (.bool true) := by rw [ha]; exact putSel_on (e := (26, 54, .bool true)) 26 rfl rfl (hon 26 oK) rfl
        replace ha := Aside0.mk ha
        obtain ⟨aN, aA, aJ, aB, aI, aO, HB, aW, bE, aZ, bH, bL, cK, bP, cL⟩ := o2_ aH (o2_ aC (o2_ aD (o2_ aE (o2_ aF (o2_ aG (o2_ Q_HB (o2_ (aL (hon 4 oK)) (o2_ (aM (hon 5 oK)) (o2_ (aK (hon 10 oK)) (o2_ (aP (hon 11 oK)) (o2_ (aQ (hon 16 oK)) (o2_ (aS (hon 17 oK)) (o2_ (aR (hon 22 oK)) (o1_ (aT (hon 23 oK))))))))))))))))
        have cZ : w'.cell? ⟨bJ, 0, none⟩ = some (.int .i64 cH) := (blk_cell aA.out 0).trans rfl
        have dA : w'.cell? ⟨bJ, 1, none⟩ = some (.int .i64 cI) := (blk_cell aA.out 1).trans rfl
        have dB : w'.cell? ⟨bJ, 2, none⟩ = some (.slice cP bN.length cO) := (blk_cell aA.out 2).trans rfl
        refine value_ (w1 := w') (v := .agg #[.int .i64 cH, .int .i64 cI, .slice cP bN.length cO]) (wanted_on rfl rfl rfl (eI.trans (by first | rfl | (simp [*]; done)))) rfl ?_ ?_
        ·go_simp
         (try simp only [i64_w])
         try rfl
        refine hK.out _ _ ⟨bS, bU, bQ, cD, bT, bV, bR, cE, bW, cF, bX, cG, cR, bY, bZ, cA, cB, cC, (by rw [ha.out]; exact putSel_upk 27 hb_ rfl rfl rfl), aH, aC, aD, aE, aF, aG, Q_HB, aL, aM, aK, aP, aQ, aS, aR, aT, aV, oF (hoff 33 oK), oF (hoff 41 oK), oF (hoff 42 oK), bG, aY, bA, bC, oF (hoff 33 oK), oF (hoff 42 oK)⟩
       refine steps_cons ?_ ?_
       ·rintro b a w' ⟨bS, bU, bQ, cD, bT, bV, bR, cE, bW, cF, bX, cG, cR, bY, bZ, cA, cB, cC, ha, aH, aC, aD, aE, aF, aG, Q_HB, aL, aM, aK, aP, aQ, aS, aR, aT, aV, aX, bD, bF, bG, aY, bA, bC, bI, bO⟩ hb_ hon hoff
        refine ⟨_, rfl, fun K hK => ?_⟩
        have e5 : a.tmps[5]? = some (.pointer (some ⟨aU, 0, none⟩)) := by rw [ha]; exact (putSel_off rfl).trans rfl
        have eI : a.tmps[54]? = some (.bool true) := by rw [ha]; exact putSel_on (e := (26, 54, .bool true)) 26 rfl rfl (hon 26 oK) rfl
        replace ha := Aside0.mk ha
        obtain ⟨aN, aA, aJ, aB, aI, aO, HB, aW, bE, aZ, bH, bL, cK, bP, cL⟩ := o2_ aH (o2_ aC (o2_ aD (o2_ aE (o2_ aF (o2_ aG (o2_ Q_HB (o2_ (aL (hon 4 oK)) (o2_ (aM (hon 5 oK)) (o2_ (aK (hon 10 oK)) (o2_ (aP (hon 11 oK)) (o2_ (aQ (hon 16 oK)) (o2_ (aS (hon 17 oK)) (o2_ (aR (hon 22 oK)) (o1_ (aT (hon 23 oK))))))))))))))))
        have cZ : w'.cell? ⟨aU, 0, none⟩ = some (.int .i64 4) := (blk_cell aB.out 0).trans rfl
        have dA : w'.cell? ⟨aU, 1, none⟩ = some (.int .i64 0) := (blk_cell aB.out 1).trans rfl
        have dB : w'.cell? ⟨aU, 2, none⟩ = some (.int .i64 0) := (blk_cell aB.out 2).trans rfl
        have dE : w'.cell? ⟨aU, 3, none⟩ = some (.int .i64 0) := (blk_cell aB.out 3).trans rfl
        have dF : w'.cell? ⟨aU, 4, none⟩ = some (.int .i64 0) := (blk_cell aB.out 4).trans rfl
        refine value_ (w1 := w') (v := .agg #[.int .i64 4, .int .i64 0, .int .i64 0, .int .i64 0, .int .i64 0]) (wanted_on rfl rfl rfl (eI.trans (by first | rfl | (simp [*]; done)))) rfl ?_ ?_
        ·go_simp
         (try simp only [i64_w])
         try rfl
        refine hK.out _ _ ⟨bS, bU, bQ, cD, bT, bV, bR, cE, bW, cF, bX, cG, cR, bY, bZ, cA, cB, cC, (by rw [ha.out]; exact putSel_upk 28 hb_ rfl rfl rfl), aH, aC, aD, aE, aF, aG, Q_HB, aL, aM, aK, aP, aQ, aS, aR, aT, oF (hoff 32 oK), oF (hoff 33 oK), oF (hoff 41 oK), oF (hoff 42 oK), bG, aY, bA, bC, oF (hoff 33 oK), oF (hoff 42 oK)⟩
       refine steps_cons ?_ ?_
       ·rintro b a w' ⟨bS, bU, bQ, cD, bT, bV, bR, cE, bW, cF, bX, cG, cR, bY, bZ, cA, cB, cC, ha, aH, aC, aD, aE, aF, aG, Q_HB, aL, aM, aK, aP, aQ, aS, aR, aT, aV, aX, bD, bF, bG, aY, bA, bC, bI, bO⟩ hb_ hon hoff
        refine ⟨_, rfl, fun K hK => ?_⟩
        have e6 : a.tmps[6]? = some (.pointer (some ⟨bB, 0, none⟩)) := by rw [ha]; exact (putSel_off rfl).trans rfl
        have eI : a.tmps[54]? = some (.bool true) := by rw [ha]; exact putSel_on (e := (26, 54, .bool true)) 26 rfl rfl (hon 26 oK) rfl
        replace ha := Aside0.mk ha
        obtain ⟨aN, aA, aJ, aB, aI, aO, HB, aW, bE, aZ, bH, bL, cK, bP, cL⟩ := o2_ aH (o2_ aC (o2_ aD (o2_ aE (o2_ aF (o2_ aG (o2_ Q_HB (o2_ (aL (hon 4 oK)) (o2_ (aM (hon 5 oK)) (o2_ (aK (hon 10 oK)) (o2_ (aP (hon 11 oK)) (o2_ (aQ (hon 16 oK)) (o2_ (aS (hon 17 oK)) (o2_ (aR (hon 22 oK)) (o1_ (aT (hon 23 oK))))))))))))))))
        have cZ : w'.cell? ⟨bB, 0, none⟩ = some (.int .i64 2) := (blk_cell aI.out 0).trans rfl
        have dA : w'.cell? ⟨bB, 1, none⟩ = some (.int .i64 0) := (blk_cell aI.out 1).trans rfl
        have dB : w'.cell? ⟨bB, 2, none⟩ = some (.int .i64 0) := (blk_cell aI.out 2).trans rfl
        have dE : w'.cell? ⟨bB, 3, none⟩ = some (.int .i64 0) := (blk_cell aI.out 3).trans rfl
        have dF : w'.cell? ⟨bB, 4, none⟩ = some (.int .i64 0) := (blk_cell aI.out 4).trans rfl
        refine value_ (w1 := w') (v := .agg #[.int .i64 2, .int .i64 0, .int .i64 0, .int .i64 0, .int .i64 0]) (wanted_on rfl rfl rfl (eI.trans (by first | rfl | (simp [*]; done)))) rfl ?_ ?_
        ·go_simp
         (try simp only [i64_w])
         try rfl
        refine hK.out _ _ ⟨bS, bU, bQ, cD, bT, bV, bR, cE, bW, cF, bX, cG, cR, bY, bZ, cA, cB, cC, (by rw [ha.out]; exact putSel_upk 29 hb_ rfl rfl rfl), aH, aC, aD, aE, aF, aG, Q_HB, aL, aM, aK, aP, aQ, aS, aR, aT, oF (hoff 32 oK), oF (hoff 33 oK), oF (hoff 41 oK), oF (hoff 42 oK), bG, aY, bA, bC, oF (hoff 33 oK), oF (hoff 42 oK)⟩
       refine steps_cons ?_ ?_
       ·rintro b a w' ⟨bS, bU, bQ, cD, bT, bV, bR, cE, bW, cF, bX, cG, cR, bY, bZ, cA, cB, cC, ha, aH, aC, aD, aE, aF, aG, Q_HB, aL, aM, aK, aP, aQ, aS, aR, aT, aV, aX, bD, bF, bG, aY, bA, bC, bI, bO⟩ hb_ hon hoff
        refine ⟨_, rfl, fun K hK => ?_⟩
        have e5 : a.tmps[5]? = some (.pointer (some ⟨aU, 0, none⟩)) := by rw [ha]; exact (putSel_off rfl).trans rfl
        have eI : a.tmps[54]? = some (.bool true) := by rw [ha]; exact putSel_on (e := (26, 54, .bool true)) 26 rfl rfl (hon 26 oK) rfl
        replace ha := Aside0.mk ha
        obtain ⟨aN, aA, aJ, aB, aI, aO, HB, aW, bE, aZ, bH, bL, cK, bP, cL⟩ := o2_ aH (o2_ aC (o2_ aD (o2_ aE (o2_ aF (o2_ aG (o2_ Q_HB (o2_ (aL (hon 4 oK)) (o2_ (aM (hon 5 oK)) (o2_ (aK (hon 10 oK)) (o2_ (aP (hon 11 oK)) (o2_ (aQ (hon 16 oK)) (o2_ (aS (hon 17 oK)) (o2_ (aR (hon 22 oK)) (o1_ (aT (hon 23 oK))))))))))))))))
        have cZ : w'.cell? ⟨aU, 0, none⟩ = some (.int .i64 4) := (blk_cell aB.out 0).trans rfl
        have dA : w'.cell? ⟨aU, 1, none⟩ = some (.int .i64 0) := (blk_cell aB.out 1).trans rfl
        have dB : w'.cell? ⟨aU, 2, none⟩ = some (.int .i64 0) := (blk_cell aB.out 2).trans rfl
        have dE : w'.cell? ⟨aU, 3, none⟩ = some (.int .i64 0) := (blk_cell aB.out 3).trans rfl
        have dF : w'.cell? ⟨aU, 4, none⟩ = some (.int .i64 0) := (blk_cell aB.out 4).trans rfl
        refine value_ (w1 := w') (v := .agg #[.int .i64 4, .int .i64 0, .int .i64 0, .int .i64 0, .int .i64 0]) (wanted_on rfl rfl rfl (eI.trans (by first | rfl | (simp [*]; done)))) rfl ?_ ?_
        ·go_simp
         (try simp only [i64_w])
         try rfl
        refine hK.out _ _ ⟨bS, bU, bQ, cD, bT, bV, bR, cE, bW, cF, bX, cG, cR, bY, bZ, cA, cB, cC, (by rw [ha.out]; exact putSel_upk 30 hb_ rfl rfl rfl), aH, aC, aD, aE, aF, aG, Q_HB, aL, aM, aK, aP, aQ, aS, aR, aT, oF (hoff 32 oK), oF (hoff 33 oK), oF (hoff 41 oK), oF (hoff 42 oK), bG, aY, bA, bC, oF (hoff 33 oK), oF (hoff 42 oK)⟩
       refine steps_cons ?_ ?_
       ·rintro b a w' ⟨bS, bU, bQ, cD, bT, bV, bR, cE, bW, cF, bX, cG, cR, bY, bZ, cA, cB, cC, ha, aH, aC, aD, aE, aF, aG, Q_HB, aL, aM, aK, aP, aQ, aS, aR, aT, aV, aX, bD, bF, bG, aY, bA, bC, bI, bO⟩ hb_ hon hoff
        refine ⟨_, rfl, fun K hK => ?_⟩
        have e6 : a.tmps[6]? = some (.pointer (some ⟨bB, 0, none⟩)) := by rw [ha]; exact (putSel_off rfl).trans rfl
        have eI : a.tmps[54]? = some (.bool true) := by rw [ha]; exact putSel_on (e := (26, 54, .bool true)) 26 rfl rfl (hon 26 oK) rfl
        replace ha := Aside0.mk ha
        obtain ⟨aN, aA, aJ, aB, aI, aO, HB, aW, bE, aZ, bH, bL, cK, bP, cL⟩ := o2_ aH (o2_ aC (o2_ aD (o2_ aE (o2_ aF (o2_ aG (o2_ Q_HB (o2_ (aL (hon 4 oK)) (o2_ (aM (hon 5 oK)) (o2_ (aK (hon 10 oK)) (o2_ (aP (hon 11 oK)) (o2_ (aQ (hon 16 oK)) (o2_ (aS (hon 17 oK)) (o2_ (aR (hon 22 oK)) (o1_ (aT (hon 23 oK))))))))))))))))
        have cZ : w'.cell? ⟨bB, 0, none⟩ = some (.int .i64 2) := (blk_cell aI.out 0).trans rfl
        have dA : w'.cell? ⟨bB, 1, none⟩ = some (.int .i64 0) := (blk_cell aI.out 1).trans rfl
        have dB : w'.cell? ⟨bB, 2, none⟩ = some (.int .i64 0) := (blk_cell aI.out 2).trans rfl
        have dE : w'.cell? ⟨bB, 3, none⟩ = some (.int .i64 0) := (blk_cell aI.out 3).trans rfl
        have dF : w'.cell? ⟨bB, 4, none⟩ = some (.int .i64 0) := (blk_cell aI.out 4).trans rfl
        refine value_ (w1 := w') (v := .agg #[.int .i64 2, .int .i64 0, .int .i64 0, .int .i64 0, .int .i64 0]) (wanted_on rfl rfl rfl (eI.trans (by first | rfl | (simp [*]; done)))) rfl ?_ ?_
        ·go_simp
         (try simp only [i64_w])
         try rfl
        refine hK.out _ _ ⟨bS, bU, bQ, cD, bT, bV, bR, cE, bW, cF, bX, cG, cR, bY, bZ, cA, cB, cC, (by rw [ha.out]; exact putSel_upk 31 hb_ rfl rfl rfl), aH, aC, aD, aE, aF, aG, Q_HB, aL, aM, aK, aP, aQ, aS, aR, aT, oF (hoff 32 oK), oF (hoff 33 oK), oF (hoff 41 oK), oF (hoff 42 oK), bG, aY, bA, bC, oF (hoff 33 oK), oF (hoff 42 oK)⟩
       refine steps_cons ?_ ?_
       ·rintro b a w' ⟨bS, bU, bQ, cD, bT, bV, bR, cE, bW, cF, bX, cG, cR, bY, bZ, cA, cB, cC, ha, aH, aC, aD, aE, aF, aG, Q_HB, aL, aM, aK, aP, aQ, aS, aR, aT, aV, aX, bD, bF, bG, aY, bA, bC, bI, bO⟩ hb_ hon hoff
        refine ⟨_, rfl, fun K hK => ?_⟩
        have rW : a.tmps[56]? = some (.agg #[.int .i64 4, .int .i64 0, .int .i64 0, .int .i64 0, .int .i64 0]) := by rw [ha]; exact putSel_on (e := (28, 56, .agg #[.int .i64 4, .int .i64 0, .int .i64 0, .int .i64 0, .int .i64 0])) 28 rfl rfl (hon 28 oK) rfl
        have rX : a.tmps[57]? = some (.agg #[.int .i64 2, .int .i64 0, .int .i64 0, .int .i64 0, .int .i64 0]) := by rw [ha]; exact putSel_on (e := (29, 57, .agg #[.int .i64 2, .int .i64 0, .int .i64 0, .int .i64 0, .int .i64 0])) 29 rfl rfl (hon 29 oK) rfl
        have rY : a.tmps[58]? = some (.agg #[.int .i64 4, .int .i64 0, .int .i64 0, .int .i64 0, .int .i64 0]) := by rw [ha]; exact putSel_on (e := (30, 58, .agg #[.int .i64 4, .int .i64 0, .int .i64 0, .int .i64 0, .int .i64 0])) 30 rfl rfl (hon 30 oK) rfl
        have rZ : a.tmps[59]? = some (.agg #[.int .i64 2, .int .i64 0, .int .i64 0, .int .i64 0, .int .i64 0]) := by rw [ha]; exact putSel_on (e := (31, 59, .agg #[.int .i64 2, .int .i64 0, .int .i64 0, .int .i64 0, .int .i64 0])) 31 rfl rfl (hon 31 oK) rfl
        have eI : a.tmps[54]? = some (.bool true) := by rw [ha]; exact putSel_on (e := (26, 54, .bool true)) 26 rfl rfl (hon 26 oK) rfl
        replace ha := Aside0.mk ha
        obtain ⟨aN, aA, aJ, aB, aI, aO, HB, aW, bE, aZ, bH, bL, cK, bP, cL⟩ := o2_ aH (o2_ aC (o2_ aD (o2_ aE (o2_ aF (o2_ aG (o2_ Q_HB (o2_ (aL (hon 4 oK)) (o2_ (aM (hon 5 oK)) (o2_ (aK (hon 10 oK)) (o2_ (aP (hon 11 oK)) (o2_ (aQ (hon 16 oK)) (o2_ (aS (hon 17 oK)) (o2_ (aR (hon 22 oK)) (o1_ (aT (hon 23 oK))))))))))))))))
        refine Kd.R_lit_step k27 _ 27 ?hg (N := 60) ?hd (xs := ([(⟨4, 0, 0, 0, 0⟩ : S27), (⟨2, 0, 0, 0, 0⟩ : S27), (⟨4, 0, 0, 0, 0⟩ : S27), (⟨2, 0, 0, 0, 0⟩ : S27)] : List (S27))) (inner := [.int .i64 4, .int .i64 0, .int .i64 0, .int .i64 0, .int .i64 0, .int .i64 2, .int .i64 0, .int .i64 0, .int .i64 0, .int .i64 0, .int .i64 4, .int .i64 0, .int .i64 0, .int .i64 0, .int .i64 0, .int .i64 2, .int .i64 0, .int .i64 0, .int .i64 0, .int .i64 0]) (ok := fun _ => True) (okp := fun _ => True) ?hr ?hp (fun _ hk => hk) trivial (Below.refl _ _) (Nat.le_refl _) (by simp) ?_; (case hd => rfl); (case hg => first | rfl | exact wanted_on rfl rfl rfl (by assumption)); (case hr => first | (go_simp; done) | (go_simp; rfl)); (case hp => exact (Reps.c5 (show Kd.M k27 _ _ _ (⟨4, 0, 0, 0, 0⟩ : S27) [.int .i64 4, .int .i64 0, .int .i64 0, .int .i64 0, .int .i64 0] from (k27_mkM _ _ _ (⟨4, 0, 0, 0, 0⟩ : S27) )) (Reps.c5 (show Kd.M k27 _ _ _ (⟨2, 0, 0, 0, 0⟩ : S27) [.int .i64 2, .int .i64 0, .int .i64 0, .int .i64 0, .int .i64 0] from (k27_mkM _ _ _ (⟨2, 0, 0, 0, 0⟩ : S27) )) (Reps.c5 (show Kd.M k27 _ _ _ (⟨4, 0, 0, 0, 0⟩ : S27) [.int .i64 4, .int .i64 0, .int .i64 0, .int .i64 0, .int .i64 0] from (k27_mkM _ _ _ (⟨4, 0, 0, 0, 0⟩ : S27) )) (Reps.c5 (show Kd.M k27 _ _ _ (⟨2, 0, 0, 0, 0⟩ : S27) [.int .i64 2, .int .i64 0, .int .i64 0, .int .i64 0, .int .i64 0] from (k27_mkM _ _ _ (⟨2, 0, 0, 0, 0⟩ : S27) )) (Reps.none _ _))))))
        intro bW sN ho68 hb hg_ hnew_
        clear hg_ hnew_
        (first | rw [← gC.out] at ho68 | (simp only [Int.reduceToNat] at ho68; rw [← gC.out] at ho68))
        have n_ := o2_ (Kd.Q_below aN.out hb) (o2_ (Kd.R_elder' aW.out (Kd.R_base ho68) hb) (o2_ (Kd.V_elder' bE.out (Kd.R_base ho68) hb) (o2_ (Kd.R_elder' aZ.out (Kd.R_base ho68) hb) (o2_ (Kd.V_elder' bH.out (Kd.R_base ho68) hb) (o2_ (Kd.R_elder' bL.out (Kd.R_base ho68) hb) (o2_ (Kd.V_elder' cK.out (Kd.R_base ho68) hb) (o2_ (Kd.R_elder' bP.out (Kd.R_base ho68) hb) (o2_ (Kd.V_elder' cL.out (Kd.R_base ho68) hb) (o2_ (Kd.R_lower (Kd.R_newB (Kd.R_newB (Kd.R_newB (Kd.R_newB (Kd.R_new' (Kd.R_new' (Kd.R_new' (Kd.R_new' ho68 (Kd.R_lt aW.out)) (Kd.R_lt aZ.out)) (Kd.R_lt bL.out)) (Kd.R_lt bP.out)) aJ.out) aB.out) aI.out) aO.out) (below_size (oB HB))) (o2_ (blk_below aA.out hb) (o2_ (blk_below aJ.out hb) (o2_ (blk_below aB.out hb) (o2_ (blk_below aI.out hb) (o2_ (blk_below aO.out hb) (o1_ (below_step (oB HB) hb))))))))))))))))
        clear aN aW bE aZ bH bL cK bP cL aA aJ aB aI aO HB
        obtain ⟨aN, aW, bE, aZ, bH, bL, cK, bP, cL, cN, aA, aJ, aB, aI, aO, HB⟩ := n_
        clear hb ho68
        refine hK.out _ _ ⟨bS, bU, bQ, cD, bT, bV, bR, cE, bW, cF, bX, cG, cR, bY, bZ, cA, cB, cC, (by rw [ha.out]; exact putSel_upk 32 hb_ rfl rfl rfl), aN.out, aA.out, aJ.out, aB.out, aI.out, aO.out, (oB HB), fun _ => (by (with_reducible repeat (first | apply Kd.R_alloc | apply Kd.R_drewN | apply Kd.R_drew)); exact Kd.R_mono aW.out oY), fun _ => (by (with_reducible repeat (first | apply Kd.V_alloc | apply Kd.V_drewN | apply Kd.V_drew)); exact Kd.V_mono bE.out oY), fun _ => (by (with_reducible repeat (first | apply Kd.R_alloc | apply Kd.R_drewN | apply Kd.R_drew)); exact Kd.R_mono aZ.out oY), fun _ => (by (with_reducible repeat (first | apply Kd.V_alloc | apply Kd.V_drewN | apply Kd.V_drew)); exact Kd.V_mono bH.out oY), fun _ => (by (with_reducible repeat (first | apply Kd.R_alloc | apply Kd.R_drewN | apply Kd.R_drew)); exact Kd.R_mono bL.out oY), fun _ => (by (with_reducible repeat (first | apply Kd.V_alloc | apply Kd.V_drewN | apply Kd.V_drew)); exact Kd.V_mono cK.out oY), fun _ => (by (with_reducible repeat (first | apply Kd.R_alloc | apply Kd.R_drewN | apply Kd.R_drew)); exact Kd.R_mono bP.out oY), fun _ => (by (with_reducible repeat (first | apply Kd.V_alloc | apply Kd.V_drewN | apply Kd.V_drew)); exact Kd.V_mono cL.out oY), fun _ => (by (with_reducible repeat (first | apply Kd.R_alloc | apply Kd.R_drewN | apply Kd.R_drew)); exact Kd.R_mono cN.out oY), oF (hoff 33 oK), oF (hoff 41 oK), oF (hoff 42 oK), bG, aY, bA, bC, oF (hoff 33 oK), oF (hoff 42 oK)⟩
       refine steps_cons ?_ ?_
       ·rintro b a w' ⟨bS, bU, bQ, cD, bT, bV, bR, cE, bW, cF, bX, cG, cR, bY, bZ, cA, cB, cC, ha, aH, aC, aD, aE, aF, aG, Q_HB, aL, aM, aK, aP, aQ, aS, aR, aT, aV, aX, bD, bF, bG, aY, bA, bC, bI, bO⟩ hb_ hon hoff
        refine ⟨_, rfl, fun K hK => ?_⟩
        have pH : a.tmps[55]? = some (.agg #[.int .i64 cH, .int .i64 cI, .slice cP bN.length cO]) := by rw [ha]; exact putSel_on (e := (27, 55, .agg #[.int .i64 cH, .int .i64 cI, .slice cP bN.length cO])) 27 rfl rfl (hon 27 oK) rfl
        have pI : a.tmps[60]? = some (bW) := by rw [ha]; exact putSel_on (e := (32, 60, bW)) 32 rfl rfl (hon 32 oK) rfl
        have eI : a.tmps[54]? = some (.bool true) := by rw [ha]; exact putSel_on (e := (26, 54, .bool true)) 26 rfl rfl (hon 26 oK) rfl
        replace ha := Aside0.mk ha
        obtain ⟨aN, aA, aJ, aB, aI, aO, HB, aW, bE, aZ, bH, bL, cK, bP, cL, cN⟩ := o2_ aH (o2_ aC (o2_ aD (o2_ aE (o2_ aF (o2_ aG (o2_ Q_HB (o2_ (aL (hon 4 oK)) (o2_ (aM (hon 5 oK)) (o2_ (aK (hon 10 oK)) (o2_ (aP (hon 11 oK)) (o2_ (aQ (hon 16 oK)) (o2_ (aS (hon 17 oK)) (o2_ (aR (hon 22 oK)) (o2_ (aT (hon 23 oK)) (o1_ (aV (hon 32 oK)))))))))))))))))
        obtain ⟨hB, hY, iK⟩ := Kd.R_slice cN.out
        (first | subst iK | (injection iK with f1_ f2_ f3_; have f4_ := f1_.symm; have f5_ := f3_.symm; clear f1_ f2_ f3_; subst f4_; subst f5_))
        refine goes_ Try.func27 oK rfl #[.agg #[.int .i64 cH, .int .i64 cI, .slice cP bN.length cO], .slice hB y849.length hY] (by first | rfl | exact wanted_on rfl rfl rfl (by assumption)) rfl rfl (by first | (simp only [List.map_toArray, List.map_cons, List.map_nil, Act.eval, Array.getD_eq_getD_getElem?, Option.getD_some, pH, pI, eI]; done) | (simp only [List.map_toArray, List.map_cons, List.map_nil, Act.eval, Array.getD_eq_getD_getElem?, Option.getD_some, pH, pI, eI]; rfl)) ?_
        with_reducible refine (laws_eaDo.calls k cH cI (fun k_ => some k_ = (.slice cP bN.length cO : Value).ownBlock) _ _ bN _ _ y849 fO fP fQ _ ?side1 ?side2 ?side3 qX.out).mono ?_
        (case side1 => exact Kd.Q_V (Kd.Q_tight rfl (Kd.Q_types (Kd.Q_types (Kd.Q_types (Kd.Q_types (Kd.Q_types (Kd.Q_apart' (Kd.Q_apart' (Kd.Q_apart' (Kd.Q_apart' (Kd.Q_apart' (aN.out) (Kd.R_typed aW.out) oD) (Kd.R_typed aZ.out) oD) (Kd.R_typed bL.out) oD) (Kd.R_typed bP.out) oD) (Kd.R_typed cN.out) oD) aA.out oD) aJ.out oD) aB.out oD) aI.out oD) aO.out oD)))
        (case side2 => repeat (first | exact (Kd.R_reads' cN.out).2.2 | (with_reducible refine Kd.C_alloc ?_ _) | (with_reducible refine Kd.C_drewN ?_ _) | (with_reducible refine Kd.C_drew ?_)))
        (case side3 => exact (Kd.R_reads' cN.out).2.1)
        rintro e sO ⟨cF, rfl, ho0, hb⟩
        refine ⟨_, rfl, ?_⟩
        have hq_ := (Kd.Q_types (Kd.Q_types (Kd.Q_types (Kd.Q_types (Kd.Q_types (Kd.Q_apart' (Kd.Q_apart' (Kd.Q_apart' (Kd.Q_apart' (Kd.Q_apart' (aN.out) (Kd.R_typed aW.out) oD) (Kd.R_typed aZ.out) oD) (Kd.R_typed bL.out) oD) (Kd.R_typed bP.out) oD) (Kd.R_typed cN.out) oD) aA.out oD) aJ.out oD) aB.out oD) aI.out oD) aO.out oD)
        have n_ := o2_ (Kd.Q_below aN.out hb) (o2_ (Kd.R_below aW.out hb) (o2_ (Kd.V_below bE.out hb) (o2_ (Kd.R_below aZ.out hb) (o2_ (Kd.V_below bH.out hb) (o2_ (Kd.R_below bL.out hb) (o2_ (Kd.V_below cK.out hb) (o2_ (Kd.R_below bP.out hb) (o2_ (Kd.V_below cL.out hb) (o2_ (Kd.R_below cN.out hb) (o2_ (Kd.V_lower (Kd.V_mono (ok' := fun k_ => k_ ≠ bJ ∧ k_ ≠ cJ ∧ k_ ≠ aU ∧ k_ ≠ bB ∧ k_ ≠ bM) ho0 (fun k_ hk_ => ⟨Or.elim hk_ (fun hs_ => (hq_.1 k_ hs_.symm).1.1.1.1.2) (fun hn_ => (Kd.freshB aA.out k_ hn_)), Or.elim hk_ (fun hs_ => (hq_.1 k_ hs_.symm).1.1.1.2) (fun hn_ => (Kd.freshB aJ.out k_ hn_)), Or.elim hk_ (fun hs_ => (hq_.1 k_ hs_.symm).1.1.2) (fun hn_ => (Kd.freshB aB.out k_ hn_)), Or.elim hk_ (fun hs_ => (hq_.1 k_ hs_.symm).1.2) (fun hn_ => (Kd.freshB aI.out k_ hn_)), Or.elim hk_ (fun hs_ => (hq_.1 k_ hs_.symm).2) (fun hn_ => (Kd.freshB aO.out k_ hn_))⟩)) (below_size (oB HB))) (o2_ (blk_below aA.out hb) (o2_ (blk_below aJ.out hb) (o2_ (blk_below aB.out hb) (o2_ (blk_below aI.out hb) (o2_ (blk_below aO.out hb) (o1_ (below_step (oB HB) hb)))))))))))))))))
        clear aN aW bE aZ bH bL cK bP cL cN aA aJ aB aI aO HB
        obtain ⟨aN, aW, bE, aZ, bH, bL, cK, bP, cL, cN, cQ, aA, aJ, aB, aI, aO, HB⟩ := n_
        clear hq_
        (try clear hb)
        (try clear hb2)
        (try clear hk)
        (try clear hi)
        (try clear ho0)
        refine hK.out _ _ ⟨bS, bU, bQ, cD, bT, bV, bR, cE, .slice hB y849.length hY, cF, bX, cG, cR, bY, bZ, cA, (.agg #[.int .i64 fO, .int .i64 fP, cF]), cC, (by rw [ha.out]; exact putSel_upk 33 hb_ rfl rfl rfl), aN.out, aA.out, aJ.out, aB.out, aI.out, aO.out, (oB HB), fun _ => aW.out, fun _ => bE.out, fun _ => aZ.out, fun _ => bH.out, fun _ => bL.out, fun _ => cK.out, fun _ => bP.out, fun _ => cL.out, fun _ => cN.out, fun _ => cQ.out, oF (hoff 41 oK), oF (hoff 42 oK), bG, aY, bA, bC, fun _ => rfl, oF (hoff 42 oK)⟩
       refine steps_cons ?_ ?_
       ·rintro b a w' ⟨bS, bU, bQ, cD, bT, bV, bR, cE, bW, cF, bX, cG, cR, bY, bZ, cA, cB, cC, ha, aH, aC, aD, aE, aF, aG, Q_HB, aL, aM, aK, aP, aQ, aS, aR, aT, aV, aX, bD, bF, bG, aY, bA, bC, bI, bO⟩ hb_ hon hoff
        refine ⟨_, rfl, fun K hK => ?_⟩
        have e3 : a.tmps[3]? = some (.pointer (some ⟨bJ, 0, none⟩)) := by rw [ha]; exact (putSel_off rfl).trans rfl
        have eI : a.tmps[54]? = some (.bool true) := by rw [ha]; exact putSel_on (e := (26, 54, .bool true)) 26 rfl rfl (hon 26 oK) rfl
        replace ha := Aside0.mk ha
        obtain ⟨aN, aA, aJ, aB, aI, aO, HB, aW, bE, aZ, bH, bL, cK, bP, cL⟩ := o2_ aH (o2_ aC (o2_ aD (o2_ aE (o2_ aF (o2_ aG (o2_ Q_HB (o2_ (aL (hon 4 oK)) (o2_ (aM (hon 5 oK)) (o2_ (aK (hon 10 oK)) (o2_ (aP (hon 11 oK)) (o2_ (aQ (hon 16 oK)) (o2_ (aS (hon 17 oK)) (o2_ (aR (hon 22 oK)) (o1_ (aT (hon 23 oK))))))))))))))))
        have cZ : w'.cell? ⟨bJ, 0, none⟩ = some (.int .i64 cH) := (blk_cell aA.out 0).trans rfl
        have dA : w'.cell? ⟨bJ, 1, none⟩ = some (.int .i64 cI) := (blk_cell aA.out 1).trans rfl
        have dB : w'.cell? ⟨bJ, 2, none⟩ = some (.slice cP bN.length cO) := (blk_cell aA.out 2).trans rfl
        refine value_ (w1 := w') (v := .agg #[.int .i64 cH, .int .i64 cI, .slice cP bN.length cO]) (wanted_on rfl rfl rfl (eI.trans (by first | rfl | (simp [*]; done)))) rfl ?_ ?_
        ·go_simp
         (try simp only [i64_w])
         try rfl
        refine hK.out _ _ ⟨bS, bU, bQ, cD, bT, bV, bR, cE, bW, cF, bX, cG, cR, bY, bZ, cA, cB, cC, (by rw [ha.out]; exact putSel_upk 34 hb_ rfl rfl rfl), aH, aC, aD, aE, aF, aG, Q_HB, aL, aM, aK, aP, aQ, aS, aR, aT, aV, aX, oF (hoff 41 oK), oF (hoff 42 oK), bG, aY, bA, bC, bI, oF (hoff 42 oK)⟩
       refine steps_cons ?_ ?_
       ·rintro b a w' ⟨bS, bU, bQ, cD, bT, bV, bR, cE, bW, cF, bX, cG, cR, bY, bZ, cA, cB, cC, ha, aH, aC, aD, aE, aF, aG, Q_HB, aL, aM, aK, aP, aQ, aS, aR, aT, aV, aX, bD, bF, bG, aY, bA, bC, bI, bO⟩ hb_ hon hoff
        refine ⟨_, rfl, fun K hK => ?_⟩
        have nL : a.tmps[61]? = some (cB) := by rw [ha]; exact putSel_on (e := (33, 61, cB)) 33 rfl rfl (hon 33 oK) rfl
        rw [bI (hon 33 oK)] at nL
        have pJ : a.tmps[62]? = some (.agg #[.int .i64 cH, .int .i64 cI, .slice cP bN.length cO]) := by rw [ha]; exact putSel_on (e := (34, 62, .agg #[.int .i64 cH, .int .i64 cI, .slice cP bN.length cO])) 34 rfl rfl (hon 34 oK) rfl
        have eI : a.tmps[54]? = some (.bool true) := by rw [ha]; exact putSel_on (e := (26, 54, .bool true)) 26 rfl rfl (hon 26 oK) rfl
        replace ha := Aside0.mk ha
        obtain ⟨aN, aA, aJ, aB, aI, aO, HB, aW, bE, aZ, bH, bL, cK, bP, cL, cN, cQ⟩ := o2_ aH (o2_ aC (o2_ aD (o2_ aE (o2_ aF (o2_ aG (o2_ Q_HB (o2_ (aL (hon 4 oK)) (o2_ (aM (hon 5 oK)) (o2_ (aK (hon 10 oK)) (o2_ (aP (hon 11 oK)) (o2_ (aQ (hon 16 oK)) (o2_ (aS (hon 17 oK)) (o2_ (aR (hon 22 oK)) (o2_ (aT (hon 23 oK)) (o2_ (aV (hon 32 oK)) (o1_ (aX (hon 33 oK))))))))))))))))))
        obtain ⟨hC, hZ, iL⟩ := Kd.V_slice cQ.out
        (first | subst iL | (injection iL with f1_ f2_ f3_; have f4_ := f1_.symm; have f5_ := f3_.symm; clear f1_ f2_ f3_; subst f4_; subst f5_))
        refine goes_ Try.func21 oK rfl #[.agg #[.int .i64 fO, .int .i64 fP, .slice hC fQ.length hZ], .agg #[.int .i64 cH, .int .i64 cI, .slice cP bN.length cO]] (by first | rfl | exact wanted_on rfl rfl rfl (by assumption)) rfl rfl (by first | (simp only [List.map_toArray, List.map_cons, List.map_nil, Act.eval, Array.getD_eq_getD_getElem?, Option.getD_some, nL, pJ, eI]; done) | (simp only [List.map_toArray, List.map_cons, List.map_nil, Act.eval, Array.getD_eq_getD_getElem?, Option.getD_some, nL, pJ, eI]; rfl)) ?_
        with_reducible refine (laws_eaRas.calls k fO fP _ _ fQ cH cI _ _ bN true _ ?side1 ?side2 ?side3 ?side4 qY.out).mono ?_
        (case side1 => repeat (first | exact (Kd.V_reads' cQ.out).2.2 | (with_reducible refine Kd.C_alloc ?_ _) | (with_reducible refine Kd.C_drewN ?_ _) | (with_reducible refine Kd.C_drew ?_)))
        (case side2 => exact (Kd.V_reads' cQ.out).2.1)
        (case side3 => repeat (first | exact (Kd.Q_reads' aN.out).2.2 | (with_reducible refine Kd.C_alloc ?_ _) | (with_reducible refine Kd.C_drewN ?_ _) | (with_reducible refine Kd.C_drew ?_)))
        (case side4 => exact (Kd.Q_reads' aN.out).2.1)
        rintro e sP ⟨rfl, hb⟩
        refine ⟨_, rfl, ?_⟩
        have n_ := o2_ (Kd.Q_below aN.out hb) (o2_ (Kd.R_below aW.out hb) (o2_ (Kd.V_below bE.out hb) (o2_ (Kd.R_below aZ.out hb) (o2_ (Kd.V_below bH.out hb) (o2_ (Kd.R_below bL.out hb) (o2_ (Kd.V_below cK.out hb) (o2_ (Kd.R_below bP.out hb) (o2_ (Kd.V_below cL.out hb) (o2_ (Kd.R_below cN.out hb) (o2_ (Kd.V_below cQ.out hb) (o2_ (blk_below aA.out hb) (o2_ (blk_below aJ.out hb) (o2_ (blk_below aB.out hb) (o2_ (blk_below aI.out hb) (o2_ (blk_below aO.out hb) (o1_ (below_step (oB HB) hb)))))))))))))))))
        clear aN aW bE aZ bH bL cK bP cL cN cQ aA aJ aB aI aO HB
        obtain ⟨aN, aW, bE, aZ, bH, bL, cK, bP, cL, cN, cQ, aA, aJ, aB, aI, aO, HB⟩ := n_
        (try clear hb)
        (try clear hb2)
        (try clear hk)
        (try clear hi)
        refine hK.out _ _ ⟨bS, bU, bQ, cD, bT, bV, bR, cE, bW, .slice hC fQ.length hZ, bX, cG, cR, bY, bZ, cA, cB, cC, (by rw [ha.out]; exact putSel_upk 35 hb_ rfl rfl rfl), aN.out, aA.out, aJ.out, aB.out, aI.out, aO.out, (oB HB), fun _ => aW.out, fun _ => bE.out, fun _ => aZ.out, fun _ => bH.out, fun _ => bL.out, fun _ => cK.out, fun _ => bP.out, fun _ => cL.out, fun _ => cN.out, fun _ => cQ.out, oF (hoff 41 oK), oF (hoff 42 oK), bG, aY, bA, bC, bI, oF (hoff 42 oK)⟩
       refine steps_cons ?_ ?_
       ·rintro b a w' ⟨bS, bU, bQ, cD, bT, bV, bR, cE, bW, cF, bX, cG, cR, bY, bZ, cA, cB, cC, ha, aH, aC, aD, aE, aF, aG, Q_HB, aL, aM, aK, aP, aQ, aS, aR, aT, aV, aX, bD, bF, bG, aY, bA, bC, bI, bO⟩ hb_ hon hoff
        refine ⟨_, rfl, fun K hK => ?_⟩
        have eI : a.tmps[54]? = some (.bool true) := by rw [ha]; exact putSel_on (e := (26, 54, .bool true)) 26 rfl rfl (hon 26 oK) rfl
        have sA : a.tmps[63]? = some (.bool true) := by rw [ha]; exact putSel_on (e := (35, 63, .bool true)) 35 rfl rfl (hon 35 oK) rfl
        replace ha := Aside0.mk ha
        obtain ⟨aN, aA, aJ, aB, aI, aO, HB, aW, bE, aZ, bH, bL, cK, bP, cL, cN, cQ⟩ := o2_ aH (o2_ aC (o2_ aD (o2_ aE (o2_ aF (o2_ aG (o2_ Q_HB (o2_ (aL (hon 4 oK)) (o2_ (aM (hon 5 oK)) (o2_ (aK (hon 10 oK)) (o2_ (aP (hon 11 oK)) (o2_ (aQ (hon 16 oK)) (o2_ (aS (hon 17 oK)) (o2_ (aR (hon 22 oK)) (o2_ (aT (hon 23 oK)) (o2_ (aV (hon 32 oK)) (o1_ (aX (hon 33 oK))))))))))))))))))
        refine value_ (w1 := w') (v := .bool true) (by rfl) rfl ?_ ?_
        ·go_simp
         (try simp only [i64_w])
         try rfl
        refine hK.out _ _ ⟨bS, bU, bQ, cD, bT, bV, bR, cE, bW, cF, bX, cG, cR, bY, bZ, cA, cB, cC, (by rw [ha.out]; exact putSel_upk 36 hb_ rfl rfl rfl), aH, aC, aD, aE, aF, aG, Q_HB, aL, aM, aK, aP, aQ, aS, aR, aT, aV, aX, oF (hoff 41 oK), oF (hoff 42 oK), bG, aY, bA, bC, bI, oF (hoff 42 oK)⟩
       refine steps_cons ?_ ?_
       ·rintro b a w' ⟨bS, bU, bQ, cD, bT, bV, bR, cE, bW, cF, bX, cG, cR, bY, bZ, cA, cB, cC, ha, aH, aC, aD, aE, aF, aG, Q_HB, aL, aM, aK, aP, aQ, aS, aR, aT, aV, aX, bD, bF, bG, aY, bA, bC, bI, bO⟩ hb_ hon hoff
        refine ⟨_, rfl, fun K hK => ?_⟩
        have sB : a.tmps[64]? = some (.bool true) := by rw [ha]; exact putSel_on (e := (36, 64, .bool true)) 36 rfl rfl (hon 36 oK) rfl
        replace ha := Aside0.mk ha
        obtain ⟨aN, aA, aJ, aB, aI, aO, HB, aW, bE, aZ, bH, bL, cK, bP, cL, cN, cQ⟩ := o2_ aH (o2_ aC (o2_ aD (o2_ aE (o2_ aF (o2_ aG (o2_ Q_HB (o2_ (aL (hon 4 oK)) (o2_ (aM (hon 5 oK)) (o2_ (aK (hon 10 oK)) (o2_ (aP (hon 11 oK)) (o2_ (aQ (hon 16 oK)) (o2_ (aS (hon 17 oK)) (o2_ (aR (hon 22 oK)) (o2_ (aT (hon 23 oK)) (o2_ (aV (hon 32 oK)) (o1_ (aX (hon 33 oK))))))))))))))))))
        refine value_ (w1 := w') (v := .bool true) (by rfl) rfl ?_ ?_
        ·go_simp
         (try simp only [i64_w])
         try rfl
        refine hK.out _ _ ⟨bS, bU, bQ, cD, bT, bV, bR, cE, bW, cF, bX, cG, cR, bY, bZ, cA, cB, cC, (by rw [ha.out]; exact putSel_upk 37 hb_ rfl rfl rfl), aH, aC, aD, aE, aF, aG, Q_HB, aL, aM, aK, aP, aQ, aS, aR, aT, aV, aX, oF (hoff 41 oK), oF (hoff 42 oK), bG, aY, bA, bC, bI, oF (hoff 42 oK)⟩
       refine steps_cons ?_ ?_
       ·rintro b a w' ⟨bS, bU, bQ, cD, bT, bV, bR, cE, bW, cF, bX, cG, cR, bY, bZ, cA, cB, cC, ha, aH, aC, aD, aE, aF, aG, Q_HB, aL, aM, aK, aP, aQ, aS, aR, aT, aV, aX, bD, bF, bG, aY, bA, bC, bI, bO⟩ hb_ hon hoff
        refine ⟨_, rfl, fun K hK => ?_⟩
        have e3 : a.tmps[3]? = some (.pointer (some ⟨bJ, 0, none⟩)) := by rw [ha]; exact (putSel_off rfl).trans rfl
        have eZ : a.tmps[65]? = some (.bool true) := by rw [ha]; exact putSel_on (e := (37, 65, .bool true)) 37 rfl rfl (hon 37 oK) rfl
        replace ha := Aside0.mk ha
        obtain ⟨aN, aA, aJ, aB, aI, aO, HB, aW, bE, aZ, bH, bL, cK, bP, cL, cN, cQ⟩ := o2_ aH (o2_ aC (o2_ aD (o2_ aE (o2_ aF (o2_ aG (o2_ Q_HB (o2_ (aL (hon 4 oK)) (o2_ (aM (hon 5 oK)) (o2_ (aK (hon 10 oK)) (o2_ (aP (hon 11 oK)) (o2_ (aQ (hon 16 oK)) (o2_ (aS (hon 17 oK)) (o2_ (aR (hon 22 oK)) (o2_ (aT (hon 23 oK)) (o2_ (aV (hon 32 oK)) (o1_ (aX (hon 33 oK))))))))))))))))))
        have cZ : w'.cell? ⟨bJ, 0, none⟩ = some (.int .i64 cH) := (blk_cell aA.out 0).trans rfl
        have dA : w'.cell? ⟨bJ, 1, none⟩ = some (.int .i64 cI) := (blk_cell aA.out 1).trans rfl
        have dB : w'.cell? ⟨bJ, 2, none⟩ = some (.slice cP bN.length cO) := (blk_cell aA.out 2).trans rfl
        refine value_ (w1 := w') (v := .agg #[.int .i64 cH, .int .i64 cI, .slice cP bN.length cO]) (wanted_on rfl rfl rfl (eZ.trans (by first | rfl | (simp [*]; done)))) rfl ?_ ?_
        ·go_simp
         (try simp only [i64_w])
         try rfl
        refine hK.out _ _ ⟨bS, bU, bQ, cD, bT, bV, bR, cE, bW, cF, bX, cG, cR, bY, bZ, cA, cB, cC, (by rw [ha.out]; exact putSel_upk 38 hb_ rfl rfl rfl), aH, aC, aD, aE, aF, aG, Q_HB, aL, aM, aK, aP, aQ, aS, aR, aT, aV, aX, bD, oF (hoff 42 oK), bG, aY, bA, bC, bI, oF (hoff 42 oK)⟩
       refine steps_cons ?_ ?_
       ·rintro b a w' ⟨bS, bU, bQ, cD, bT, bV, bR, cE, bW, cF, bX, cG, cR, bY, bZ, cA, cB, cC, ha, aH, aC, aD, aE, aF, aG, Q_HB, aL, aM, aK, aP, aQ, aS, aR, aT, aV, aX, bD, bF, bG, aY, bA, bC, bI, bO⟩ hb_ hon hoff
        refine ⟨_, rfl, fun K hK => ?_⟩
        have e6 : a.tmps[6]? = some (.pointer (some ⟨bB, 0, none⟩)) := by rw [ha]; exact (putSel_off rfl).trans rfl
        have eZ : a.tmps[65]? = some (.bool true) := by rw [ha]; exact putSel_on (e := (37, 65, .bool true)) 37 rfl rfl (hon 37 oK) rfl
        replace ha := Aside0.mk ha
        obtain ⟨aN, aA, aJ, aB, aI, aO, HB, aW, bE, aZ, bH, bL, cK, bP, cL, cN, cQ⟩ := o2_ aH (o2_ aC (o2_ aD (o2_ aE (o2_ aF (o2_ aG (o2_ Q_HB (o2_ (aL (hon 4 oK)) (o2_ (aM (hon 5 oK)) (o2_ (aK (hon 10 oK)) (o2_ (aP (hon 11 oK)) (o2_ (aQ (hon 16 oK)) (o2_ (aS (hon 17 oK)) (o2_ (aR (hon 22 oK)) (o2_ (aT (hon 23 oK)) (o2_ (aV (hon 32 oK)) (o1_ (aX (hon 33 oK))))))))))))))))))
        have cZ : w'.cell? ⟨bB, 0, none⟩ = some (.int .i64 2) := (blk_cell aI.out 0).trans rfl
        have dA : w'.cell? ⟨bB, 1, none⟩ = some (.int .i64 0) := (blk_cell aI.out 1).trans rfl
        have dB : w'.cell? ⟨bB, 2, none⟩ = some (.int .i64 0) := (blk_cell aI.out 2).trans rfl
        have dE : w'.cell? ⟨bB, 3, none⟩ = some (.int .i64 0) := (blk_cell aI.out 3).trans rfl
        have dF : w'.cell? ⟨bB, 4, none⟩ = some (.int .i64 0) := (blk_cell aI.out 4).trans rfl
        refine value_ (w1 := w') (v := .agg #[.int .i64 2, .int .i64 0, .int .i64 0, .int .i64 0, .int .i64 0]) (wanted_on rfl rfl rfl (eZ.trans (by first | rfl | (simp [*]; done)))) rfl ?_ ?_
        ·go_simp
         (try simp only [i64_w])
         try rfl
        refine hK.out _ _ ⟨bS, bU, bQ, cD, bT, bV, bR, cE, bW, cF, bX, cG, cR, bY, bZ, cA, cB, cC, (by rw [ha.out]; exact putSel_upk 39 hb_ rfl rfl rfl), aH, aC, aD, aE, aF, aG, Q_HB, aL, aM, aK, aP, aQ, aS, aR, aT, aV, aX, oF (hoff 41 oK), oF (hoff 42 oK), bG, aY, bA, bC, bI, oF (hoff 42 oK)⟩
       refine steps_cons ?_ ?_
       ·rintro b a w' ⟨bS, bU, bQ, cD, bT, bV, bR, cE, bW, cF, bX, cG, cR, bY, bZ, cA, cB, cC, ha, aH, aC, aD, aE, aF, aG, Q_HB, aL, aM, aK, aP, aQ, aS, aR, aT, aV, aX, bD, bF, bG, aY, bA, bC, bI, bO⟩ hb_ hon hoff
        refine ⟨_, rfl, fun K hK => ?_⟩
        have e5 : a.tmps[5]? = some (.pointer (some ⟨aU, 0, none⟩)) := by rw [ha]; exact (putSel_off rfl).trans rfl
        have eZ : a.tmps[65]? = some (.bool true) := by rw [ha]; exact putSel_on (e := (37, 65, .bool true)) 37 rfl rfl (hon 37 oK) rfl
        replace ha := Aside0.mk ha
        obtain ⟨aN, aA, aJ, aB, aI, aO, HB, aW, bE, aZ, bH, bL, cK, bP, cL, cN, cQ⟩ := o2_ aH (o2_ aC (o2_ aD (o2_ aE (o2_ aF (o2_ aG (o2_ Q_HB (o2_ (aL (hon 4 oK)) (o2_ (aM (hon 5 oK)) (o2_ (aK (hon 10 oK)) (o2_ (aP (hon 11 oK)) (o2_ (aQ (hon 16 oK)) (o2_ (aS (hon 17 oK)) (o2_ (aR (hon 22 oK)) (o2_ (aT (hon 23 oK)) (o2_ (aV (hon 32 oK)) (o1_ (aX (hon 33 oK))))))))))))))))))
        have cZ : w'.cell? ⟨aU, 0, none⟩ = some (.int .i64 4) := (blk_cell aB.out 0).trans rfl
        have dA : w'.cell? ⟨aU, 1, none⟩ = some (.int .i64 0) := (blk_cell aB.out 1).trans rfl
        have dB : w'.cell? ⟨aU, 2, none⟩ = some (.int .i64 0) := (blk_cell aB.out 2).trans rfl
        have dE : w'.cell? ⟨aU, 3, none⟩ = some (.int .i64 0) := (blk_cell aB.out 3).trans rfl
        have dF : w'.cell? ⟨aU, 4, none⟩ = some (.int .i64 0) := (blk_cell aB.out 4).trans rfl
        refine value_ (w1 := w') (v := .agg #[.int .i64 4, .int .i64 0, .int .i64 0, .int .i64 0, .int .i64 0]) (wanted_on rfl rfl rfl (eZ.trans (by first | rfl | (simp [*]; done)))) rfl ?_ ?_
        ·go_simp
         (try simp only [i64_w])
         try rfl
        refine hK.out _ _ ⟨bS, bU, bQ, cD, bT, bV, bR, cE, bW, cF, bX, cG, cR, bY, bZ, cA, cB, cC, (by rw [ha.out]; exact putSel_upk 40 hb_ rfl rfl rfl), aH, aC, aD, aE, aF, aG, Q_HB, aL, aM, aK, aP, aQ, aS, aR, aT, aV, aX, oF (hoff 41 oK), oF (hoff 42 oK), bG, aY, bA, bC, bI, oF (hoff 42 oK)⟩
       refine steps_cons ?_ ?_
       ·rintro b a w' ⟨bS, bU, bQ, cD, bT, bV, bR, cE, bW, cF, bX, cG, cR, bY, bZ, cA, cB, cC, ha, aH, aC, aD, aE, aF, aG, Q_HB, aL, aM, aK, aP, aQ, aS, aR, aT, aV, aX, bD, bF, bG, aY, bA, bC, bI, bO⟩ hb_ hon hoff
        refine ⟨_, rfl, fun K hK => ?_⟩
        have sC : a.tmps[67]? = some (.agg #[.int .i64 2, .int .i64 0, .int .i64 0, .int .i64 0, .int .i64 0]) := by rw [ha]; exact putSel_on (e := (39, 67, .agg #[.int .i64 2, .int .i64 0, .int .i64 0, .int .i64 0, .int .i64 0])) 39 rfl rfl (hon 39 oK) rfl
        have sD : a.tmps[68]? = some (.agg #[.int .i64 4, .int .i64 0, .int .i64 0, .int .i64 0, .int .i64 0]) := by rw [ha]; exact putSel_on (e := (40, 68, .agg #[.int .i64 4, .int .i64 0, .int .i64 0, .int .i64 0, .int .i64 0])) 40 rfl rfl (hon 40 oK) rfl
        have eZ : a.tmps[65]? = some (.bool true) := by rw [ha]; exact putSel_on (e := (37, 65, .bool true)) 37 rfl rfl (hon 37 oK) rfl
        replace ha := Aside0.mk ha
        obtain ⟨aN, aA, aJ, aB, aI, aO, HB, aW, bE, aZ, bH, bL, cK, bP, cL, cN, cQ⟩ := o2_ aH (o2_ aC (o2_ aD (o2_ aE (o2_ aF (o2_ aG (o2_ Q_HB (o2_ (aL (hon 4 oK)) (o2_ (aM (hon 5 oK)) (o2_ (aK (hon 10 oK)) (o2_ (aP (hon 11 oK)) (o2_ (aQ (hon 16 oK)) (o2_ (aS (hon 17 oK)) (o2_ (aR (hon 22 oK)) (o2_ (aT (hon 23 oK)) (o2_ (aV (hon 32 oK)) (o1_ (aX (hon 33 oK))))))))))))))))))
        refine Kd.R_lit_step k27 _ 27 ?hg (N := 69) ?hd (xs := ([(⟨2, 0, 0, 0, 0⟩ : S27), (⟨4, 0, 0, 0, 0⟩ : S27)] : List (S27))) (inner := [.int .i64 2, .int .i64 0, .int .i64 0, .int .i64 0, .int .i64 0, .int .i64 4, .int .i64 0, .int .i64 0, .int .i64 0, .int .i64 0]) (ok := fun _ => True) (okp := fun _ => True) ?hr ?hp (fun _ hk => hk) trivial (Below.refl _ _) (Nat.le_refl _) (by simp) ?_; (case hd => rfl); (case hg => first | rfl | exact wanted_on rfl rfl rfl (by assumption)); (case hr => first | (go_simp; done) | (go_simp; rfl)); (case hp => exact (Reps.c5 (show Kd.M k27 _ _ _ (⟨2, 0, 0, 0, 0⟩ : S27) [.int .i64 2, .int .i64 0, .int .i64 0, .int .i64 0, .int .i64 0] from (k27_mkM _ _ _ (⟨2, 0, 0, 0, 0⟩ : S27) )) (Reps.c5 (show Kd.M k27 _ _ _ (⟨4, 0, 0, 0, 0⟩ : S27) [.int .i64 4, .int .i64 0, .int .i64 0, .int .i64 0, .int .i64 0] from (k27_mkM _ _ _ (⟨4, 0, 0, 0, 0⟩ : S27) )) (Reps.none _ _))))
        intro bX sQ ho74 hb hg_ hnew_
        clear hg_ hnew_
        (first | rw [← gD.out] at ho74 | (simp only [Int.reduceToNat] at ho74; rw [← gD.out] at ho74))
        have n_ := o2_ (Kd.Q_below aN.out hb) (o2_ (Kd.R_elder' aW.out (Kd.R_base ho74) hb) (o2_ (Kd.V_elder' bE.out (Kd.R_base ho74) hb) (o2_ (Kd.R_elder' aZ.out (Kd.R_base ho74) hb) (o2_ (Kd.V_elder' bH.out (Kd.R_base ho74) hb) (o2_ (Kd.R_elder' bL.out (Kd.R_base ho74) hb) (o2_ (Kd.V_elder' cK.out (Kd.R_base ho74) hb) (o2_ (Kd.R_elder' bP.out (Kd.R_base ho74) hb) (o2_ (Kd.V_elder' cL.out (Kd.R_base ho74) hb) (o2_ (Kd.R_elder' cN.out (Kd.R_base ho74) hb) (o2_ (Kd.V_elder' cQ.out (Kd.R_base ho74) hb) (o2_ (Kd.R_lower (Kd.R_newB (Kd.R_newB (Kd.R_newB (Kd.R_newB (Kd.R_new' (Kd.R_new' (Kd.R_new' (Kd.R_new' (Kd.R_new' ho74 (Kd.R_lt aW.out)) (Kd.R_lt aZ.out)) (Kd.R_lt bL.out)) (Kd.R_lt bP.out)) (Kd.R_lt cN.out)) aJ.out) aB.out) aI.out) aO.out) (below_size (oB HB))) (o2_ (blk_below aA.out hb) (o2_ (blk_below aJ.out hb) (o2_ (blk_below aB.out hb) (o2_ (blk_below aI.out hb) (o2_ (blk_below aO.out hb) (o1_ (below_step (oB HB) hb))))))))))))))))))
        clear aN aW bE aZ bH bL cK bP cL cN cQ aA aJ aB aI aO HB
        obtain ⟨aN, aW, bE, aZ, bH, bL, cK, bP, cL, cN, cQ, cV, aA, aJ, aB, aI, aO, HB⟩ := n_
        clear hb ho74
        refine hK.out _ _ ⟨bS, bU, bQ, cD, bT, bV, bR, cE, bW, cF, bX, cG, cR, bY, bZ, cA, cB, cC, (by rw [ha.out]; exact putSel_upk 41 hb_ rfl rfl rfl), aN.out, aA.out, aJ.out, aB.out, aI.out, aO.out, (oB HB), fun _ => (by (with_reducible repeat (first | apply Kd.R_alloc | apply Kd.R_drewN | apply Kd.R_drew)); exact Kd.R_mono aW.out oY), fun _ => (by (with_reducible repeat (first | apply Kd.V_alloc | apply Kd.V_drewN | apply Kd.V_drew)); exact Kd.V_mono bE.out oY), fun _ => (by (with_reducible repeat (first | apply Kd.R_alloc | apply Kd.R_drewN | apply Kd.R_drew)); exact Kd.R_mono aZ.out oY), fun _ => (by (with_reducible repeat (first | apply Kd.V_alloc | apply Kd.V_drewN | apply Kd.V_drew)); exact Kd.V_mono bH.out oY), fun _ => (by (with_reducible repeat (first | apply Kd.R_alloc | apply Kd.R_drewN | apply Kd.R_drew)); exact Kd.R_mono bL.out oY), fun _ => (by (with_reducible repeat (first | apply Kd.V_alloc | apply Kd.V_drewN | apply Kd.V_drew)); exact Kd.V_mono cK.out oY), fun _ => (by (with_reducible repeat (first | apply Kd.R_alloc | apply Kd.R_drewN | apply Kd.R_drew)); exact Kd.R_mono bP.out oY), fun _ => (by (with_reducible repeat (first | apply Kd.V_alloc | apply Kd.V_drewN | apply Kd.V_drew)); exact Kd.V_mono cL.out oY), fun _ => (by (with_reducible repeat (first | apply Kd.R_alloc | apply Kd.R_drewN | apply Kd.R_drew)); exact Kd.R_mono cN.out oY), fun _ => (by (with_reducible repeat (first | apply Kd.V_alloc | apply Kd.V_drewN | apply Kd.V_drew)); exact Kd.V_mono cQ.out oY), fun _ => (by (with_reducible repeat (first | apply Kd.R_alloc | apply Kd.R_drewN | apply Kd.R_drew)); exact Kd.R_mono cV.out oY), oF (hoff 42 oK), bG, aY, bA, bC, bI, oF (hoff 42 oK)⟩
       refine steps_cons ?_ ?_
       ·rintro b a w' ⟨bS, bU, bQ, cD, bT, bV, bR, cE, bW, cF, bX, cG, cR, bY, bZ, cA, cB, cC, ha, aH, aC, aD, aE, aF, aG, Q_HB, aL, aM, aK, aP, aQ, aS, aR, aT, aV, aX, bD, bF, bG, aY, bA, bC, bI, bO⟩ hb_ hon hoff
        refine ⟨_, rfl, fun K hK => ?_⟩
        have pK : a.tmps[66]? = some (.agg #[.int .i64 cH, .int .i64 cI, .slice cP bN.length cO]) := by rw [ha]; exact putSel_on (e := (38, 66, .agg #[.int .i64 cH, .int .i64 cI, .slice cP bN.length cO])) 38 rfl rfl (hon 38 oK) rfl
        have pL : a.tmps[69]? = some (bX) := by rw [ha]; exact putSel_on (e := (41, 69, bX)) 41 rfl rfl (hon 41 oK) rfl
        have eZ : a.tmps[65]? = some (.bool true) := by rw [ha]; exact putSel_on (e := (37, 65, .bool true)) 37 rfl rfl (hon 37 oK) rfl
        replace ha := Aside0.mk ha
        obtain ⟨aN, aA, aJ, aB, aI, aO, HB, aW, bE, aZ, bH, bL, cK, bP, cL, cN, cQ, cV⟩ := o2_ aH (o2_ aC (o2_ aD (o2_ aE (o2_ aF (o2_ aG (o2_ Q_HB (o2_ (aL (hon 4 oK)) (o2_ (aM (hon 5 oK)) (o2_ (aK (hon 10 oK)) (o2_ (aP (hon 11 oK)) (o2_ (aQ (hon 16 oK)) (o2_ (aS (hon 17 oK)) (o2_ (aR (hon 22 oK)) (o2_ (aT (hon 23 oK)) (o2_ (aV (hon 32 oK)) (o2_ (aX (hon 33 oK)) (o1_ (bD (hon 41 oK)))))))))))))))))))
        obtain ⟨hD, iA, iM⟩ := Kd.R_slice cV.out
        (first | subst iM | (injection iM with f1_ f2_ f3_; have f4_ := f1_.symm; have f5_ := f3_.symm; clear f1_ f2_ f3_; subst f4_; subst f5_))
        refine goes_ Try.func27 oK rfl #[.agg #[.int .i64 cH, .int .i64 cI, .slice cP bN.length cO], .slice hD y858.length iA] (by first | rfl | exact wanted_on rfl rfl rfl (by assumption)) rfl rfl (by first | (simp only [List.map_toArray, List.map_cons, List.map_nil, Act.eval, Array.getD_eq_getD_getElem?, Option.getD_some, pK, pL, eZ]; done) | (simp only [List.map_toArray, List.map_cons, List.map_nil, Act.eval, Array.getD_eq_getD_getElem?, Option.getD_some, pK, pL, eZ]; rfl)) ?_
        with_reducible refine (laws_eaDo.calls k cH cI (fun k_ => some k_ = (.slice cP bN.length cO : Value).ownBlock) _ _ bN _ _ y858 fR fS fT _ ?side1 ?side2 ?side3 qZ.out).mono ?_
        (case side1 => exact Kd.Q_V (Kd.Q_tight rfl (Kd.Q_types (Kd.Q_types (Kd.Q_types (Kd.Q_types (Kd.Q_types (Kd.Q_apart' (Kd.Q_apart' (Kd.Q_apart' (Kd.Q_apart' (Kd.Q_apart' (Kd.Q_apart' (aN.out) (Kd.R_typed aW.out) oD) (Kd.R_typed aZ.out) oD) (Kd.R_typed bL.out) oD) (Kd.R_typed bP.out) oD) (Kd.R_typed cN.out) oD) (Kd.R_typed cV.out) oD) aA.out oD) aJ.out oD) aB.out oD) aI.out oD) aO.out oD)))
        (case side2 => repeat (first | exact (Kd.R_reads' cV.out).2.2 | (with_reducible refine Kd.C_alloc ?_ _) | (with_reducible refine Kd.C_drewN ?_ _) | (with_reducible refine Kd.C_drew ?_)))
        (case side3 => exact (Kd.R_reads' cV.out).2.1)
        rintro e sR ⟨cG, rfl, ho0, hb⟩
        refine ⟨_, rfl, ?_⟩
        have hq_ := (Kd.Q_types (Kd.Q_types (Kd.Q_types (Kd.Q_types (Kd.Q_types (Kd.Q_apart' (Kd.Q_apart' (Kd.Q_apart' (Kd.Q_apart' (Kd.Q_apart' (Kd.Q_apart' (aN.out) (Kd.R_typed aW.out) oD) (Kd.R_typed aZ.out) oD) (Kd.R_typed bL.out) oD) (Kd.R_typed bP.out) oD) (Kd.R_typed cN.out) oD) (Kd.R_typed cV.out) oD) aA.out oD) aJ.out oD) aB.out oD) aI.out oD) aO.out oD)
        have n_ := o2_ (Kd.Q_below aN.out hb) (o2_ (Kd.R_below aW.out hb) (o2_ (Kd.V_below bE.out hb) (o2_ (Kd.R_below aZ.out hb) (o2_ (Kd.V_below bH.out hb) (o2_ (Kd.R_below bL.out hb) (o2_ (Kd.V_below cK.out hb) (o2_ (Kd.R_below bP.out hb) (o2_ (Kd.V_below cL.out hb) (o2_ (Kd.R_below cN.out hb) (o2_ (Kd.V_below cQ.out hb) (o2_ (Kd.R_below cV.out hb) (o2_ (Kd.V_lower (Kd.V_mono (ok' := fun k_ => k_ ≠ bJ ∧ k_ ≠ cJ ∧ k_ ≠ aU ∧ k_ ≠ bB ∧ k_ ≠ bM) ho0 (fun k_ hk_ => ⟨Or.elim hk_ (fun hs_ => (hq_.1 k_ hs_.symm).1.1.1.1.2) (fun hn_ => (Kd.freshB aA.out k_ hn_)), Or.elim hk_ (fun hs_ => (hq_.1 k_ hs_.symm).1.1.1.2) (fun hn_ => (Kd.freshB aJ.out k_ hn_)), Or.elim hk_ (fun hs_ => (hq_.1 k_ hs_.symm).1.1.2) (fun hn_ => (Kd.freshB aB.out k_ hn_)), Or.elim hk_ (fun hs_ => (hq_.1 k_ hs_.symm).1.2) (fun hn_ => (Kd.freshB aI.out k_ hn_)), Or.elim hk_ (fun hs_ => (hq_.1 k_ hs_.symm).2) (fun hn_ => (Kd.freshB aO.out k_ hn_))⟩)) (below_size (oB HB))) (o2_ (blk_below aA.out hb) (o2_ (blk_below aJ.out hb) (o2_ (blk_below aB.out hb) (o2_ (blk_below aI.out hb) (o2_ (blk_below aO.out hb) (o1_ (below_step (oB HB) hb)))))))))))))))))))
        clear aN aW bE aZ bH bL cK bP cL cN cQ cV aA aJ aB aI aO HB
        obtain ⟨aN, aW, bE, aZ, bH, bL, cK, bP, cL, cN, cQ, cV, dC, aA, aJ, aB, aI, aO, HB⟩ := n_
        clear hq_
        (try clear hb)
        (try clear hb2)
        (try clear hk)
        (try clear hi)
        (try clear ho0)
        refine hK.out _ _ ⟨bS, bU, bQ, cD, bT, bV, bR, cE, bW, cF, .slice hD y858.length iA, cG, cR, bY, bZ, cA, cB, (.agg #[.int .i64 fR, .int .i64 fS, cG]), (by rw [ha.out]; exact putSel_upk 42 hb_ rfl rfl rfl), aN.out, aA.out, aJ.out, aB.out, aI.out, aO.out, (oB HB), fun _ => aW.out, fun _ => bE.out, fun _ => aZ.out, fun _ => bH.out, fun _ => bL.out, fun _ => cK.out, fun _ => bP.out, fun _ => cL.out, fun _ => cN.out, fun _ => cQ.out, fun _ => cV.out, fun _ => dC.out, bG, aY, bA, bC, bI, fun _ => rfl⟩
       refine steps_cons ?_ ?_
       ·rintro b a w' ⟨bS, bU, bQ, cD, bT, bV, bR, cE, bW, cF, bX, cG, cR, bY, bZ, cA, cB, cC, ha, aH, aC, aD, aE, aF, aG, Q_HB, aL, aM, aK, aP, aQ, aS, aR, aT, aV, aX, bD, bF, bG, aY, bA, bC, bI, bO⟩ hb_ hon hoff
        refine ⟨_, rfl, fun K hK => ?_⟩
        have nM : a.tmps[70]? = some (cC) := by rw [ha]; exact putSel_on (e := (42, 70, cC)) 42 rfl rfl (hon 42 oK) rfl
        rw [bO (hon 42 oK)] at nM
        have eZ : a.tmps[65]? = some (.bool true) := by rw [ha]; exact putSel_on (e := (37, 65, .bool true)) 37 rfl rfl (hon 37 oK) rfl
        replace ha := Aside0.mk ha
        obtain ⟨aN, aA, aJ, aB, aI, aO, HB, aW, bE, aZ, bH, bL, cK, bP, cL, cN, cQ, cV, dC⟩ := o2_ aH (o2_ aC (o2_ aD (o2_ aE (o2_ aF (o2_ aG (o2_ Q_HB (o2_ (aL (hon 4 oK)) (o2_ (aM (hon 5 oK)) (o2_ (aK (hon 10 oK)) (o2_ (aP (hon 11 oK)) (o2_ (aQ (hon 16 oK)) (o2_ (aS (hon 17 oK)) (o2_ (aR (hon 22 oK)) (o2_ (aT (hon 23 oK)) (o2_ (aV (hon 32 oK)) (o2_ (aX (hon 33 oK)) (o2_ (bD (hon 41 oK)) (o1_ (bF (hon 42 oK))))))))))))))))))))
        obtain ⟨hE, iB, iN⟩ := Kd.V_slice dC.out
        (first | subst iN | (injection iN with f1_ f2_ f3_; have f4_ := f1_.symm; have f5_ := f3_.symm; clear f1_ f2_ f3_; subst f4_; subst f5_))
        refine goes_ Try.func26 oK rfl #[.agg #[.int .i64 fR, .int .i64 fS, .slice hE fT.length iB]] (by first | rfl | exact wanted_on rfl rfl rfl (by assumption)) rfl rfl (by first | (simp only [List.map_toArray, List.map_cons, List.map_nil, Act.eval, Array.getD_eq_getD_getElem?, Option.getD_some, nM, eZ]; done) | (simp only [List.map_toArray, List.map_cons, List.map_nil, Act.eval, Array.getD_eq_getD_getElem?, Option.getD_some, nM, eZ]; rfl)) ?_
        with_reducible refine (impl_RasOk.calls k fR fS _ _ fT cX _ ?side1 ?side2 rA.out).mono ?_
        (case side1 => repeat (first | exact (Kd.V_reads' dC.out).2.2 | (with_reducible refine Kd.C_alloc ?_ _) | (with_reducible refine Kd.C_drewN ?_ _) | (with_reducible refine Kd.C_drew ?_)))
        (case side2 => exact (Kd.V_reads' dC.out).2.1)
        rintro e rI ⟨rfl, hb⟩
        refine ⟨_, rfl, ?_⟩
        have n_ := o2_ (Kd.Q_below aN.out hb) (o2_ (Kd.R_below aW.out hb) (o2_ (Kd.V_below bE.out hb) (o2_ (Kd.R_below aZ.out hb) (o2_ (Kd.V_below bH.out hb) (o2_ (Kd.R_below bL.out hb) (o2_ (Kd.V_below cK.out hb) (o2_ (Kd.R_below bP.out hb) (o2_ (Kd.V_below cL.out hb) (o2_ (Kd.R_below cN.out hb) (o2_ (Kd.V_below cQ.out hb) (o2_ (Kd.R_below cV.out hb) (o2_ (Kd.V_below dC.out hb) (o2_ (blk_below aA.out hb) (o2_ (blk_below aJ.out hb) (o2_ (blk_below aB.out hb) (o2_ (blk_below aI.out hb) (o2_ (blk_below aO.out hb) (o1_ (below_step (oB HB) hb)))))))))))))))))))
        clear aN aW bE aZ bH bL cK bP cL cN cQ cV dC aA aJ aB aI aO HB
        obtain ⟨aN, aW, bE, aZ, bH, bL, cK, bP, cL, cN, cQ, cV, dC, aA, aJ, aB, aI, aO, HB⟩ := n_
        (try clear hb)
        (try clear hb2)
        (try clear hk)
        (try clear hi)
        refine hK.out _ _ ⟨bS, bU, bQ, cD, bT, bV, bR, cE, bW, cF, bX, .slice hE fT.length iB, cR, bY, bZ, cA, cB, cC, (by rw [ha.out]; exact putSel_upk 43 hb_ rfl rfl rfl), aN.out, aA.out, aJ.out, aB.out, aI.out, aO.out, (oB HB), fun _ => aW.out, fun _ => bE.out, fun _ => aZ.out, fun _ => bH.out, fun _ => bL.out, fun _ => cK.out, fun _ => bP.out, fun _ => cL.out, fun _ => cN.out, fun _ => cQ.out, fun _ => cV.out, fun _ => dC.out, bG, aY, bA, bC, bI, bO⟩
       refine steps_cons ?_ ?_
       ·rintro b a w' ⟨bS, bU, bQ, cD, bT, bV, bR, cE, bW, cF, bX, cG, cR, bY, bZ, cA, cB, cC, ha, aH, aC, aD, aE, aF, aG, Q_HB, aL, aM, aK, aP, aQ, aS, aR, aT, aV, aX, bD, bF, bG, aY, bA, bC, bI, bO⟩ hb_ hon hoff
        refine ⟨_, rfl, fun K hK => ?_⟩
        have eZ : a.tmps[65]? = some (.bool true) := by rw [ha]; exact putSel_on (e := (37, 65, .bool true)) 37 rfl rfl (hon 37 oK) rfl
        have sE : a.tmps[71]? = some (.bool cX) := by rw [ha]; exact putSel_on (e := (43, 71, .bool cX)) 43 rfl rfl (hon 43 oK) rfl
        replace ha := Aside0.mk ha
        obtain ⟨aN, aA, aJ, aB, aI, aO, HB, aW, bE, aZ, bH, bL, cK, bP, cL, cN, cQ, cV, dC⟩ := o2_ aH (o2_ aC (o2_ aD (o2_ aE (o2_ aF (o2_ aG (o2_ Q_HB (o2_ (aL (hon 4 oK)) (o2_ (aM (hon 5 oK)) (o2_ (aK (hon 10 oK)) (o2_ (aP (hon 11 oK)) (o2_ (aQ (hon 16 oK)) (o2_ (aS (hon 17 oK)) (o2_ (aR (hon 22 oK)) (o2_ (aT (hon 23 oK)) (o2_ (aV (hon 32 oK)) (o2_ (aX (hon 33 oK)) (o2_ (bD (hon 41 oK)) (o1_ (bF (hon 42 oK))))))))))))))))))))
        refine value_ (w1 := w') (v := .bool cX) (by rfl) rfl ?_ ?_
        ·go_simp
         (try simp only [i64_w])
         try rfl
        refine hK.out _ _ ⟨bS, bU, bQ, cD, bT, bV, bR, cE, bW, cF, bX, cG, cR, bY, bZ, cA, cB, cC, (by rw [ha.out]; exact putSel_upk 44 hb_ rfl rfl rfl), aH, aC, aD, aE, aF, aG, Q_HB, aL, aM, aK, aP, aQ, aS, aR, aT, aV, aX, bD, bF, bG, aY, bA, bC, bI, bO⟩
       refine steps_cons ?_ ?_
       ·rintro b a w' ⟨bS, bU, bQ, cD, bT, bV, bR, cE, bW, cF, bX, cG, cR, bY, bZ, cA, cB, cC, ha, aH, aC, aD, aE, aF, aG, Q_HB, aL, aM, aK, aP, aQ, aS, aR, aT, aV, aX, bD, bF, bG, aY, bA, bC, bI, bO⟩ hb_ hon hoff
        refine ⟨_, rfl, fun K hK => ?_⟩
        have sF : a.tmps[72]? = some (.bool cX) := by rw [ha]; exact putSel_on (e := (44, 72, .bool cX)) 44 rfl rfl (hon 44 oK) rfl
        replace ha := Aside0.mk ha
        obtain ⟨aN, aA, aJ, aB, aI, aO, HB, aW, bE, aZ, bH, bL, cK, bP, cL, cN, cQ, cV, dC⟩ := o2_ aH (o2_ aC (o2_ aD (o2_ aE (o2_ aF (o2_ aG (o2_ Q_HB (o2_ (aL (hon 4 oK)) (o2_ (aM (hon 5 oK)) (o2_ (aK (hon 10 oK)) (o2_ (aP (hon 11 oK)) (o2_ (aQ (hon 16 oK)) (o2_ (aS (hon 17 oK)) (o2_ (aR (hon 22 oK)) (o2_ (aT (hon 23 oK)) (o2_ (aV (hon 32 oK)) (o2_ (aX (hon 33 oK)) (o2_ (bD (hon 41 oK)) (o1_ (bF (hon 42 oK))))))))))))))))))))
        refine value_ (w1 := w') (v := .bool cX) (by rfl) rfl ?_ ?_
        ·go_simp
         (try simp only [i64_w])
         try rfl
        refine hK.out _ _ ⟨bS, bU, bQ, cD, bT, bV, bR, cE, bW, cF, bX, cG, cR, bY, bZ, cA, cB, cC, (by rw [ha.out]; exact putSel_upk 45 hb_ rfl rfl rfl), aH, aC, aD, aE, aF, aG, Q_HB, aL, aM, aK, aP, aQ, aS, aR, aT, aV, aX, bD, bF, bG, aY, bA, bC, bI, bO⟩
       exact steps_nil
      rintro b a rI hall ⟨bS, bU, bQ, cD, bT, bV, bR, cE, bW, cF, bX, cG, cR, bY, bZ, cA, cB, cC, ha, aH, aC, aD, aE, aF, aG, Q_HB, aL, aM, aK, aP, aQ, aS, aR, aT, aV, aX, bD, bF, bG, aY, bA, bC, bI, bO⟩
      clear aA aJ aB aI aO HB aN
      have hb0_ := hall 0 oK
      have hb1_ := hall 1 oK
      have hb2_ := hall 2 oK
      have hb3_ := hall 3 oK
      have hb4_ := hall 4 oK
      have hb5_ := hall 5 oK
      have hb6_ := hall 6 oK
      have hb7_ := hall 7 oK
      have hb8_ := hall 8 oK
      have hb9_ := hall 9 oK
      have hb10_ := hall 10 oK
      have hb11_ := hall 11 oK
      have hb12_ := hall 12 oK
      have hb13_ := hall 13 oK
      have hb14_ := hall 14 oK
      have hb15_ := hall 15 oK
      have hb16_ := hall 16 oK
      have hb17_ := hall 17 oK
      have hb18_ := hall 18 oK
      have hb19_ := hall 19 oK
      have hb20_ := hall 20 oK
      have hb21_ := hall 21 oK
      have hb22_ := hall 22 oK
      have hb23_ := hall 23 oK
      have hb24_ := hall 24 oK
      have hb25_ := hall 25 oK
      have hb26_ := hall 26 oK
      have hb27_ := hall 27 oK
      have hb28_ := hall 28 oK
      have hb29_ := hall 29 oK
      have hb30_ := hall 30 oK
      have hb31_ := hall 31 oK
      have hb32_ := hall 32 oK
      have hb33_ := hall 33 oK
      have hb34_ := hall 34 oK
      have hb35_ := hall 35 oK
      have hb36_ := hall 36 oK
      have hb37_ := hall 37 oK
      have hb38_ := hall 38 oK
      have hb39_ := hall 39 oK
      have hb40_ := hall 40 oK
      have hb41_ := hall 41 oK
      have hb42_ := hall 42 oK
      have hb43_ := hall 43 oK
      have hb44_ := hall 44 oK
      have hb45_ := hall 45 oK
      subst ha
      obtain rfl := bG hb5_
      obtain rfl := aY hb11_
      obtain rfl := bA hb17_
      obtain rfl := bC hb23_
      obtain rfl := bI hb33_
      obtain rfl := bO hb42_
      simp only [putSel, hb0_, hb1_, hb2_, hb3_, hb4_, hb5_, hb6_, hb7_, hb8_, hb9_, hb10_, hb11_, hb12_, hb13_, hb14_, hb15_, hb16_, hb17_, hb18_, hb19_, hb20_, hb21_, hb22_, hb23_, hb24_, hb25_, hb26_, hb27_, hb28_, hb29_, hb30_, hb31_, hb32_, hb33_, hb34_, hb35_, hb36_, hb37_, hb38_, hb39_, hb40_, hb41_, hb42_, hb43_, hb44_, hb45_, if_true, Act.put, List.setIfInBounds_toArray, List.set_cons_zero, List.set_cons_succ]
      have aN := Aside0.mk aH
      clear aH
      have aA := Aside0.mk aC
      clear aC
      have aJ := Aside0.mk aD
      clear aD
      have aB := Aside0.mk aE
      clear aE
      have aI := Aside0.mk aF
      clear aF
      have aO := Aside0.mk aG
      clear aG
      have HB := Aside0.mk Q_HB
      clear Q_HB
      have aW := Aside0.mk (aL hb4_)
      clear aL
      have bE := Aside0.mk (aM hb5_)
      clear aM
      have aZ := Aside0.mk (aK hb10_)
      clear aK
      have bH := Aside0.mk (aP hb11_)
      clear aP
      have bL := Aside0.mk (aQ hb16_)
      clear aQ
      have cK := Aside0.mk (aS hb17_)
      clear aS
      have bP := Aside0.mk (aR hb22_)
      clear aR
      have cL := Aside0.mk (aT hb23_)
      clear aT
      have cN := Aside0.mk (aV hb32_)
      clear aV
      have cQ := Aside0.mk (aX hb33_)
      clear aX
      have cV := Aside0.mk (bD hb41_)
      clear bD
      have dC := Aside0.mk (bF hb42_)
      clear bF
      clear hall hb0_ hb1_ hb2_ hb3_ hb4_ hb5_ hb6_ hb7_ hb8_ hb9_ hb10_ hb11_ hb12_ hb13_ hb14_ hb15_ hb16_ hb17_ hb18_ hb19_ hb20_ hb21_ hb22_ hb23_ hb24_ hb25_ hb26_ hb27_ hb28_ hb29_ hb30_ hb31_ hb32_ hb33_ hb34_ hb35_ hb36_ hb37_ hb38_ hb39_ hb40_ hb41_ hb42_ hb43_ hb44_ hb45_
      try go_wp2
      go_ret
      exact ⟨by first | rfl | (simp [errW_none, errW_some] <;> rfl) | (simp [*, errW_none, errW_some] <;> rfl), oB HB⟩
     ·replace jQ := Bool.eq_false_iff.mpr jQ
      subst jQ
      rw [if_neg (show ¬ (false = true) by decide)] at H
      exact absurd H (by simp)
    ·replace jP := Bool.eq_false_iff.mpr jP
     subst jP
     rw [if_neg (show ¬ (false = true) by decide)] at H
     exact absurd H (by simp)
   ·replace c9 := Bool.eq_false_iff.mpr c9
    subst c9
    rw [if_neg (show ¬ (false = true) by decide)] at H
    exact absurd H (by simp)
  ·replace c5 := Bool.eq_false_iff.mpr c5
   subst c5
   rw [if_neg (show ¬ (false = true) by decide)] at H
   replace H := Option.bind_eq_some_iff.mp H
   obtain ⟨fG, gR, H⟩ := H
   (try dsimp only at H)
   have rB := Aside0.mk gR
   clear gR
   by_cases jR : fG = true
   ·subst jR
    rw [if_pos rfl] at H
    exact absurd H (by simp)
   ·replace jR := Bool.eq_false_iff.mpr jR
    subst jR
    rw [if_neg (show ¬ (false = true) by decide)] at H
    replace H := Option.bind_eq_some_iff.mp H
    obtain ⟨fH, gS, H⟩ := H
    (try dsimp only at H)
    have rC := Aside0.mk gS
    clear gS
    obtain rfl := Option.some.inj H
    go_enter Try.func9, Try.ntmps9
    go_wp2_with (first | ((with_reducible refine gate_callee (f := 18) rfl ?_); refine goesL_ (some 13) rfl rfl Try.func18 oK rfl #[.slice A0 l0.length c0] rfl oA ?_; (with_reducible refine (spec_DrawOpDo.calls k _ _ l0 cH cI bN eC eD eE eF eG _ ?side1 ?side2 A3.out).mono ?_); (case side1 => repeat (first | exact oT.out | (with_reducible refine Kd.C_alloc ?_ _) | (with_reducible refine Kd.C_drewN ?_ _) | (with_reducible refine Kd.C_drew ?_))); (case side2 => exact oS.out); rintro e sS ⟨nV, rfl, ho0, hb⟩; refine ⟨_, rfl, ?_⟩; have n_ := o2_ (Kd.Q_lower ho0 (below_size (oB HB))) (o1_ (below_step (oB HB) hb)); clear HB; obtain ⟨aN, HB⟩ := n_; (try clear hb); (try clear hb2); (try clear hk); (try clear hi); (try clear ho0)) | ((with_reducible refine gate_dst (N := 3) rfl ?_); (try (refine gate_guard (by rfl) ?_; dsimp only)); refine box_event ?hg (N := 3) ?hd (cs := #[.int .i64 0, .int .i64 0, .slice none 0 0]) (t := 25) ?hr ?_; (case hd => rfl); (case hg => rfl); (case hr => first | (go_simp; done) | (go_simp; rfl)); intro bJ hg sT hbox hb; have n_ := o2_ (Kd.Q_below (oQ aN) hb) (o2_ (below_step (oB HB) hb) (o2_ (hbox) (o2_ ((oG hg (below_size (oB HB)) : w.heap.size ≤ bJ)) (o1_ ((oG hg (below_size (oB HB)) : w.heap.size ≤ bJ)))))); clear aN HB; obtain ⟨aN, HB, aA, hL, hF⟩ := n_; clear hb hbox hg) | ((with_reducible refine gate_dst (N := 4) rfl ?_); (try (refine gate_guard (by rfl) ?_; dsimp only)); refine box_event ?hg (N := 4) ?hd (cs := #[.int .i64 0, .int .i64 0, .int .i64 0, .int .i64 0, .int .i64 0]) (t := 27) ?hr ?_; (case hd => rfl); (case hg => rfl); (case hr => first | (go_simp; done) | (go_simp; rfl)); intro cJ hg gH hbox hb; have n_ := o2_ (Kd.Q_below (oQ aN) hb) (o2_ (blk_below (oP aA) hb) (o2_ (below_step (oB HB) hb) (o2_ (hbox) (o2_ ((oG hg (below_size (oB HB)) : w.heap.size ≤ cJ)) (o2_ ((oG hg (below_size (oB HB)) : w.heap.size ≤ cJ)) (o2_ ((oL hg (blk_lt (oP aA)))) (o1_ ((oN hg (blk_lt (oP aA))))))))))); clear aN aA HB; obtain ⟨aN, aA, HB, aJ, hM, hG, bK, dK⟩ := n_; clear hb hbox hg; have pW := bK.out; have qN := dK.out; have kT : gH.cell? ⟨bJ, 0, none⟩ = some (.int .i64 0) := (blk_cell aA.out 0).trans rfl; have kU : gH.cell? ⟨bJ, 1, none⟩ = some (.int .i64 0) := (blk_cell aA.out 1).trans rfl; have kV : gH.cell? ⟨bJ, 2, none⟩ = some (.slice none 0 0) := (blk_cell aA.out 2).trans rfl; have mL := blk_frozen aA.out 0; have mM := blk_frozen aA.out 1; have mN := blk_frozen aA.out 2; obtain ⟨eM, eH, nO, _⟩ := Kd.Q_slice aN.out; subst nO; have kW : gH.cell? ⟨cJ, 0, none⟩ = some (.int .i64 0) := (blk_cell aJ.out 0).trans rfl; have kX : gH.cell? ⟨cJ, 1, none⟩ = some (.int .i64 0) := (blk_cell aJ.out 1).trans rfl; have kY : gH.cell? ⟨cJ, 2, none⟩ = some (.int .i64 0) := (blk_cell aJ.out 2).trans rfl; have kZ : gH.cell? ⟨cJ, 3, none⟩ = some (.int .i64 0) := (blk_cell aJ.out 3).trans rfl; have lA : gH.cell? ⟨cJ, 4, none⟩ = some (.int .i64 0) := (blk_cell aJ.out 4).trans rfl; have mO := blk_frozen aJ.out 0; have mP := blk_frozen aJ.out 1; have mQ := blk_frozen aJ.out 2; have mR := blk_frozen aJ.out 3; have mS := blk_frozen aJ.out 4) | ((with_reducible refine gate_dst (N := 5) rfl ?_); (try (refine gate_guard (by rfl) ?_; dsimp only)); refine box_event ?hg (N := 5) ?hd (cs := #[.int .i64 0, .int .i64 0, .int .i64 0, .int .i64 0, .int .i64 0]) (t := 27) ?hr ?_; (case hd => rfl); (case hg => rfl); (case hr => first | (go_simp; done) | (go_simp; rfl)); intro aU hg jN hbox hb; have n_ := o2_ (Kd.Q_below (by (with_reducible repeat (first | apply Kd.Q_alloc | apply Kd.Q_drewN | apply Kd.Q_drew)); exact (Kd.Q_mono (Kd.Q_mono (Kd.Q_far (p := ⟨cJ, 4, none⟩) (Kd.Q_far (p := ⟨cJ, 3, none⟩) (Kd.Q_far (p := ⟨cJ, 2, none⟩) (Kd.Q_far (p := ⟨cJ, 1, none⟩) (Kd.Q_far (p := ⟨cJ, 0, none⟩) (Kd.Q_far (p := ⟨bJ, 2, none⟩) (Kd.Q_far (p := ⟨bJ, 1, none⟩) (Kd.Q_far (p := ⟨bJ, 0, none⟩) (Kd.Q_types (Kd.Q_types aN.out aA.out oD) aJ.out oD) (fun _ hk => hk.1.2) (.int .i64 cH)) (fun _ hk => hk.1.2) (.int .i64 cI)) (fun _ hk => hk.1.2) (.slice eM bN.length eH)) (fun _ hk => hk.2) (.int .i64 eC)) (fun _ hk => hk.2) (.int .i64 eD)) (fun _ hk => hk.2) (.int .i64 eE)) (fun _ hk => hk.2) (.int .i64 eF)) (fun _ hk => hk.2) (.int .i64 eG)) (fun _ h_ => h_.1)) (fun _ h_ => h_.1))) hb) (o2_ (blk_below (g := bJ) (o := .cells #[.int .i64 cH, .int .i64 cI, .slice eM bN.length eH] 25 (0, 0)) (blk_far (blk_far (blk_far (blk_far (blk_far (blk_put (blk_put (blk_put (oP aA) 0 _ rfl) 1 _ rfl) 2 _ rfl) bK.out _) bK.out _) bK.out _) bK.out _) bK.out _) hb) (o2_ (blk_below (g := cJ) (o := .cells #[.int .i64 eC, .int .i64 eD, .int .i64 eE, .int .i64 eF, .int .i64 eG] 27 (0, 0)) (blk_put (blk_put (blk_put (blk_put (blk_put (oP aJ) 0 _ rfl) 1 _ rfl) 2 _ rfl) 3 _ rfl) 4 _ rfl) hb) (o2_ (below_step (oB HB) hb) (o2_ (hbox) (o2_ ((oG hg (below_size (oB HB)) : w.heap.size ≤ aU)) (o2_ ((oG hg (below_size (oB HB)) : w.heap.size ≤ aU)) (o2_ ((by rw [hg]; exact Nat.ne_of_lt (blk_lt (g := bJ) (o := .cells #[.int .i64 cH, .int .i64 cI, .slice eM bN.length eH] 25 (0, 0)) (blk_far (blk_far (blk_far (blk_far (blk_far (blk_put (blk_put (blk_put (oP aA) 0 _ rfl) 1 _ rfl) 2 _ rfl) bK.out _) bK.out _) bK.out _) bK.out _) bK.out _)) : bJ ≠ aU)) (o2_ ((by rw [hg]; exact Nat.ne_of_gt (blk_lt (g := bJ) (o := .cells #[.int .i64 cH, .int .i64 cI, .slice eM bN.length eH] 25 (0, 0)) (blk_far (blk_far (blk_far (blk_far (blk_far (blk_put (blk_put (blk_put (oP aA) 0 _ rfl) 1 _ rfl) 2 _ rfl) bK.out _) bK.out _) bK.out _) bK.out _) bK.out _)) : aU ≠ bJ)) (o2_ ((by rw [hg]; exact Nat.ne_of_lt (blk_lt (g := cJ) (o := .cells #[.int .i64 eC, .int .i64 eD, .int .i64 eE, .int .i64 eF, .int .i64 eG] 27 (0, 0)) (blk_put (blk_put (blk_put (blk_put (blk_put (oP aJ) 0 _ rfl) 1 _ rfl) 2 _ rfl) 3 _ rfl) 4 _ rfl)) : cJ ≠ aU)) (o1_ ((by rw [hg]; exact Nat.ne_of_gt (blk_lt (g := cJ) (o := .cells #[.int .i64 eC, .int .i64 eD, .int .i64 eE, .int .i64 eF, .int .i64 eG] 27 (0, 0)) (blk_put (blk_put (blk_put (blk_put (blk_put (oP aJ) 0 _ rfl) 1 _ rfl) 2 _ rfl) 3 _ rfl) 4 _ rfl)) : aU ≠ cJ)))))))))))); clear aN aA aJ HB; obtain ⟨aN, aA, aJ, HB, aB, hN, hH, dH, dO, dL, dP⟩ := n_; clear hb hbox hg; have pX := dO.out; have qO := dH.out; have pY := dP.out; have qP := dL.out; have lB : jN.cell? ⟨aU, 0, none⟩ = some (.int .i64 0) := (blk_cell aB.out 0).trans rfl; have lC : jN.cell? ⟨aU, 1, none⟩ = some (.int .i64 0) := (blk_cell aB.out 1).trans rfl; have lD : jN.cell? ⟨aU, 2, none⟩ = some (.int .i64 0) := (blk_cell aB.out 2).trans rfl; have lE : jN.cell? ⟨aU, 3, none⟩ = some (.int .i64 0) := (blk_cell aB.out 3).trans rfl; have lF : jN.cell? ⟨aU, 4, none⟩ = some (.int .i64 0) := (blk_cell aB.out 4).trans rfl; have mT := blk_frozen aB.out 0; have mU := blk_frozen aB.out 1; have mV := blk_frozen aB.out 2; have mW := blk_frozen aB.out 3; have mX := blk_frozen aB.out 4) | ((with_reducible refine gate_dst (N := 6) rfl ?_); (try (refine gate_guard (by rfl) ?_; dsimp only)); refine box_event ?hg (N := 6) ?hd (cs := #[.int .i64 0, .int .i64 0, .int .i64 0, .int .i64 0, .int .i64 0]) (t := 27) ?hr ?_; (case hd => rfl); (case hg => rfl); (case hr => first | (go_simp; done) | (go_simp; rfl)); intro bB hg jO hbox hb; have n_ := o2_ (Kd.Q_below (by (with_reducible repeat (first | apply Kd.Q_alloc | apply Kd.Q_drewN | apply Kd.Q_drew)); exact (Kd.Q_mono (Kd.Q_far (p := ⟨aU, 4, none⟩) (Kd.Q_far (p := ⟨aU, 3, none⟩) (Kd.Q_far (p := ⟨aU, 2, none⟩) (Kd.Q_far (p := ⟨aU, 1, none⟩) (Kd.Q_far (p := ⟨aU, 0, none⟩) (Kd.Q_types aN.out aB.out oD) (fun _ hk => hk.2) (.int .i64 4)) (fun _ hk => hk.2) (.int .i64 0)) (fun _ hk => hk.2) (.int .i64 0)) (fun _ hk => hk.2) (.int .i64 0)) (fun _ hk => hk.2) (.int .i64 0)) (fun _ h_ => h_.1))) hb) (o2_ (blk_below (oP aA) hb) (o2_ (blk_below (oP aJ) hb) (o2_ (blk_below (g := aU) (o := .cells #[.int .i64 4, .int .i64 0, .int .i64 0, .int .i64 0, .int .i64 0] 27 (0, 0)) (blk_put (blk_put (blk_put (blk_put (blk_put aB.out 0 _ rfl) 1 _ rfl) 2 _ rfl) 3 _ rfl) 4 _ rfl) hb) (o2_ (below_step (oB HB) hb) (o2_ (hbox) (o2_ ((oG hg (below_size (oB HB)) : w.heap.size ≤ bB)) (o2_ ((oG hg (below_size (oB HB)) : w.heap.size ≤ bB)) (o2_ ((oL hg (blk_lt (oP aA)))) (o2_ ((oN hg (blk_lt (oP aA)))) (o2_ ((oL hg (blk_lt (oP aJ)))) (o2_ ((oN hg (blk_lt (oP aJ)))) (o2_ ((by rw [hg]; exact Nat.ne_of_lt (blk_lt (g := aU) (o := .cells #[.int .i64 4, .int .i64 0, .int .i64 0, .int .i64 0, .int .i64 0] 27 (0, 0)) (blk_put (blk_put (blk_put (blk_put (blk_put aB.out 0 _ rfl) 1 _ rfl) 2 _ rfl) 3 _ rfl) 4 _ rfl)) : aU ≠ bB)) (o1_ ((by rw [hg]; exact Nat.ne_of_gt (blk_lt (g := aU) (o := .cells #[.int .i64 4, .int .i64 0, .int .i64 0, .int .i64 0, .int .i64 0] 27 (0, 0)) (blk_put (blk_put (blk_put (blk_put (blk_put aB.out 0 _ rfl) 1 _ rfl) 2 _ rfl) 3 _ rfl) 4 _ rfl)) : bB ≠ aU))))))))))))))); clear aN aA aJ aB HB; obtain ⟨aN, aA, aJ, aB, HB, aI, hO, hI, dI, dS, dM, dT, dQ, dU⟩ := n_; clear hb hbox hg; have pZ := dS.out; have qQ := dI.out; have qA := dT.out; have qR := dM.out; have qB := dU.out; have qS := dQ.out; have lG : jO.cell? ⟨bB, 0, none⟩ = some (.int .i64 0) := (blk_cell aI.out 0).trans rfl; have lH : jO.cell? ⟨bB, 1, none⟩ = some (.int .i64 0) := (blk_cell aI.out 1).trans rfl; have lI : jO.cell? ⟨bB, 2, none⟩ = some (.int .i64 0) := (blk_cell aI.out 2).trans rfl; have lJ : jO.cell? ⟨bB, 3, none⟩ = some (.int .i64 0) := (blk_cell aI.out 3).trans rfl; have lK : jO.cell? ⟨bB, 4, none⟩ = some (.int .i64 0) := (blk_cell aI.out 4).trans rfl; have mY := blk_frozen aI.out 0; have mZ := blk_frozen aI.out 1; have nA := blk_frozen aI.out 2; have nB := blk_frozen aI.out 3; have nC := blk_frozen aI.out 4) | ((with_reducible refine gate_dst (N := 7) rfl ?_); (try (refine gate_guard (by rfl) ?_; dsimp only)); refine box_event ?hg (N := 7) ?hd (cs := #[.int .i64 0, .int .i64 0, .int .i64 0, .int .i64 0, .int .i64 0]) (t := 27) ?hr ?_; (case hd => rfl); (case hg => rfl); (case hr => first | (go_simp; done) | (go_simp; rfl)); intro bM hg gI hbox hb; have n_ := o2_ (Kd.Q_below (by (with_reducible repeat (first | apply Kd.Q_alloc | apply Kd.Q_drewN | apply Kd.Q_drew)); exact (Kd.Q_mono (Kd.Q_far (p := ⟨bB, 4, none⟩) (Kd.Q_far (p := ⟨bB, 3, none⟩) (Kd.Q_far (p := ⟨bB, 2, none⟩) (Kd.Q_far (p := ⟨bB, 1, none⟩) (Kd.Q_far (p := ⟨bB, 0, none⟩) (Kd.Q_types aN.out aI.out oD) (fun _ hk => hk.2) (.int .i64 2)) (fun _ hk => hk.2) (.int .i64 0)) (fun _ hk => hk.2) (.int .i64 0)) (fun _ hk => hk.2) (.int .i64 0)) (fun _ hk => hk.2) (.int .i64 0)) (fun _ h_ => h_.1))) hb) (o2_ (blk_below (oP aA) hb) (o2_ (below_step (oB HB) hb) (o2_ (hbox) (o2_ ((oG hg (below_size (oB HB)) : w.heap.size ≤ bM)) (o2_ ((oG hg (below_size (oB HB)) : w.heap.size ≤ bM)) (o2_ ((oL hg (blk_lt (oP aA)))) (o2_ ((oN hg (blk_lt (oP aA)))) (o2_ ((oL hg (blk_lt (oP aJ)))) (o2_ ((oN hg (blk_lt (oP aJ)))) (o2_ ((oL hg (blk_lt (oP aB)))) (o2_ ((oN hg (blk_lt (oP aB)))) (o2_ ((by rw [hg]; exact Nat.ne_of_lt (blk_lt (g := bB) (o := .cells #[.int .i64 2, .int .i64 0, .int .i64 0, .int .i64 0, .int .i64 0] 27 (0, 0)) (blk_put (blk_put (blk_put (blk_put (blk_put aI.out 0 _ rfl) 1 _ rfl) 2 _ rfl) 3 _ rfl) 4 _ rfl)) : bB ≠ bM)) (o1_ ((by rw [hg]; exact Nat.ne_of_gt (blk_lt (g := bB) (o := .cells #[.int .i64 2, .int .i64 0, .int .i64 0, .int .i64 0, .int .i64 0] 27 (0, 0)) (blk_put (blk_put (blk_put (blk_put (blk_put aI.out 0 _ rfl) 1 _ rfl) 2 _ rfl) 3 _ rfl) 4 _ rfl)) : bM ≠ bB))))))))))))))); clear aN aA HB; obtain ⟨aN, aA, HB, aO, hP, hJ, dJ, dW, dN, dX, dR, dY, dV, dZ⟩ := n_; clear hb hbox hg; have qC := dW.out; have qT := dJ.out; have nP := dX.out; have nS := dN.out; have nQ := dY.out; have nT := dR.out; have nR := dZ.out; have nU := dV.out; have iO : gI.cell? ⟨bM, 0, none⟩ = some (.int .i64 0) := (blk_cell aO.out 0).trans rfl; have iP : gI.cell? ⟨bM, 1, none⟩ = some (.int .i64 0) := (blk_cell aO.out 1).trans rfl; have iQ : gI.cell? ⟨bM, 2, none⟩ = some (.int .i64 0) := (blk_cell aO.out 2).trans rfl; have iR : gI.cell? ⟨bM, 3, none⟩ = some (.int .i64 0) := (blk_cell aO.out 3).trans rfl; have iS : gI.cell? ⟨bM, 4, none⟩ = some (.int .i64 0) := (blk_cell aO.out 4).trans rfl; have iZ := blk_frozen aO.out 0; have jA := blk_frozen aO.out 1; have jB := blk_frozen aO.out 2; have jC := blk_frozen aO.out 3; have jD := blk_frozen aO.out 4; have iT : gI.cell? ⟨bJ, 0, none⟩ = some (.int .i64 cH) := (blk_cell aA.out 0).trans rfl; have iU : gI.cell? ⟨bJ, 1, none⟩ = some (.int .i64 cI) := (blk_cell aA.out 1).trans rfl; have iV : gI.cell? ⟨bJ, 2, none⟩ = some (.slice eM bN.length eH) := (blk_cell aA.out 2).trans rfl; have jE := blk_frozen aA.out 0; have jF := blk_frozen aA.out 1; have jG := blk_frozen aA.out 2) | ((with_reducible refine gate_callee (f := 24) rfl ?_); refine goesL_ (some 20) rfl rfl Try.func24 oK rfl #[.agg #[.int .i64 cH, .int .i64 cI, .slice eM bN.length eH]] rfl oA ?_; (with_reducible refine (spec_RasOk.calls k cH cI _ _ bN false _ ?side1 ?side2 A4.out).mono ?_); (case side1 => refine (Kd.Q_reads' (e := 38) (base := w.heap.size) (ok := fun k_ => True) (n := bN.length) (c := eH) ?_).2.2; exact (by (with_reducible repeat (first | apply Kd.Q_alloc | apply Kd.Q_drewN | apply Kd.Q_drew)); exact (Kd.Q_mono (Kd.Q_far (p := ⟨bM, 4, none⟩) (Kd.Q_far (p := ⟨bM, 3, none⟩) (Kd.Q_far (p := ⟨bM, 2, none⟩) (Kd.Q_far (p := ⟨bM, 1, none⟩) (Kd.Q_far (p := ⟨bM, 0, none⟩) (Kd.Q_types aN.out aO.out oD) (fun _ hk => hk.2) (.int .i64 3)) (fun _ hk => hk.2) (.int .i64 0)) (fun _ hk => hk.2) (.int .i64 0)) (fun _ hk => hk.2) (.int .i64 0)) (fun _ hk => hk.2) (.int .i64 0)) (fun _ h_ => h_.1)))); (case side2 => exact (Kd.Q_reads' aN.out).2.1); rintro e gJ ⟨rfl, hb⟩; refine ⟨_, rfl, ?_⟩; have n_ := o2_ (Kd.Q_below (by (with_reducible repeat (first | apply Kd.Q_alloc | apply Kd.Q_drewN | apply Kd.Q_drew)); exact (Kd.Q_mono (Kd.Q_far (p := ⟨bM, 4, none⟩) (Kd.Q_far (p := ⟨bM, 3, none⟩) (Kd.Q_far (p := ⟨bM, 2, none⟩) (Kd.Q_far (p := ⟨bM, 1, none⟩) (Kd.Q_far (p := ⟨bM, 0, none⟩) (Kd.Q_types aN.out aO.out oD) (fun _ hk => hk.2) (.int .i64 3)) (fun _ hk => hk.2) (.int .i64 0)) (fun _ hk => hk.2) (.int .i64 0)) (fun _ hk => hk.2) (.int .i64 0)) (fun _ hk => hk.2) (.int .i64 0)) (fun _ h_ => h_.1))) hb) (o2_ (blk_below (oP aA) hb) (o1_ (below_step (oB HB) hb))); clear aN aA HB; obtain ⟨aN, aA, HB⟩ := n_; (try clear hb); (try clear hb2); (try clear hk); (try clear hi); have iW : gJ.cell? ⟨bJ, 0, none⟩ = some (.int .i64 cH) := (blk_cell aA.out 0).trans rfl; have iX : gJ.cell? ⟨bJ, 1, none⟩ = some (.int .i64 cI) := (blk_cell aA.out 1).trans rfl; have iY : gJ.cell? ⟨bJ, 2, none⟩ = some (.slice eM bN.length eH) := (blk_cell aA.out 2).trans rfl; have jH := blk_frozen aA.out 0; have jI := blk_frozen aA.out 1; have jJ := blk_frozen aA.out 2) | ((with_reducible refine gate_callee (f := 26) rfl ?_); refine goesL_ (some 23) rfl rfl Try.func26 oK rfl #[.agg #[.int .i64 cH, .int .i64 cI, .slice eM bN.length eH]] rfl oA ?_; (with_reducible refine (impl_RasOk.calls k cH cI _ _ bN false _ ?side1 ?side2 rB.out).mono ?_); (case side1 => repeat (first | exact (Kd.Q_reads' aN.out).2.2 | (with_reducible refine Kd.C_alloc ?_ _) | (with_reducible refine Kd.C_drewN ?_ _) | (with_reducible refine Kd.C_drew ?_))); (case side2 => exact (Kd.Q_reads' aN.out).2.1); rintro e rD ⟨rfl, hb⟩; refine ⟨_, rfl, ?_⟩; replace HB := o1_ (below_step (oB HB) hb); (try clear hb); (try clear hb2); (try clear hk); (try clear hi)) | (go_at_call 25; (with_reducible refine (laws_eaOk.calls  fH _ rC.out).mono ?_); rintro e rE ⟨rfl, hb⟩; replace HB := o1_ (below_step (oB HB) hb); (try clear hb); (try clear hb2); (try clear hk); (try clear hi)))
    go_ret
    exact ⟨by first | rfl | (simp [errW_none, errW_some] <;> rfl) | (simp [*, errW_none, errW_some] <;> rfl), oB HB⟩

/-- THE ONE PURE STATEMENT of laws_FnOpGroup: yours. -/
def laws_FnOpGroup.Pure : Prop := ∀ (l0 : List Int), l0.length ≤ maxLen → l0.length * 1 ≤ 140737488351232 → (∀ x ∈ l0, (Lit.int .u8 x).wf = true) → ∃ k, laws_FnOpGroup.f k l0 = some true
theorem laws_FnOpGroup.walk (P : laws_FnOpGroup.Pure) (a0 : Option Addr) (len0 cap0 : Nat) (z0 : List Int) (w : World) (w0 : (a0 = none ∧ len0 = 0 ∧ cap0 = 0 ∧ z0 = []) ∨ ∃ x, a0 = some x ∧ len0 ≤ cap0 ∧ cap0 ≤ maxLen ∧ z0.length = cap0 ∧ (∀ i, i < z0.length → w.cell? (x.add i) = some (.int .u8 (z0.getD i 0))) ∧ ∀ n ∈ z0, (Lit.int .u8 n).wf = true) (y0 : len0 * 1 ≤ 140737488351232) :
  Calls Try.prog 9 #[.slice a0 len0 cap0] w fun e w' => e = .returned (.bool true) ∧ Below w.heap.size w w' := by
 obtain ⟨l0, rfl, hr0, hm0, hw0, jS⟩ := ReadsInt.ofRowC w0
 obtain ⟨k, h⟩ := P l0 hm0 y0 hw0
 refine (laws_FnOpGroup.calls k _ _ l0 true w (Kd.C_of_reads (d := (0 : Int)) (h1 := fun _ => rfl) hr0) jS h).mono ?_
 rintro e w' ⟨rfl, hd⟩
 exact ⟨rfl, hd⟩

end Go.Proofs.Ythnmeogafklhnaa.X
