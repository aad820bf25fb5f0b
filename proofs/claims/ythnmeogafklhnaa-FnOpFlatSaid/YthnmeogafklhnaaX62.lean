/- Functions of the given program as plain Lean functions, and for each the proof that the machine's call comes to what its function says. No condition but what each theorem states. Written by a program of this session. -/
import Derived.Test.YthnmeogafklhnaaX0
import Derived.Test.YthnmeogafklhnaaX2
import Derived.Test.YthnmeogafklhnaaX9
import Derived.Test.YthnmeogafklhnaaX15
import Derived.Test.YthnmeogafklhnaaX31
import Derived.Test.YthnmeogafklhnaaX32
import Derived.Test.YthnmeogafklhnaaX44
import Derived.Test.YthnmeogafklhnaaX45
import Derived.Test.YthnmeogafklhnaaX48
import Derived.Test.YthnmeogafklhnaaX61
namespace Go.Proofs.Ythnmeogafklhnaa.X
open Go.RowKit Go.Proofs.YthnmeogafklhnaaW.PrintWords Go.Proofs.YthnmeogafklhnaaW.PrintLast Go.Proofs.YthnmeogafklhnaaW.PrintMore Go.Proofs.Ythnmeogafklhnaa.Hyb
attribute [local go_sem] max2_int min2_int max_two min_two max_three min_three max_four min_four   -- for this text's walks alone
set_option linter.unusedVariables false
set_option linter.unusedSimpArgs false

attribute [local go_sem high] eqA38
/-! ### laws_FnOpFlat: function 15 -/
mutual
def laws_FnOpFlat.j0 : Nat → Bool → Int → Int → List (S38) → Int → Int → Int → Int → Option (Bool)
 | 0, _, _, _, _, _, _, _, _ => none
 | k + 1, x28, x1182000, x1182001, x1182002, x1188000, x1188001, x1188002, x1188003 => if x28 = true then ((impl_RasOk.f k x1182000 x1182001 x1182002).bind fun t1190 => ((spec_RasOk.f k x1182000 x1182001 x1182002).bind fun t1191 => (if (t1190 == t1191) = true then ((laws_eaOk.f).bind fun t1192 => (some t1192)) else (none)))) else ((laws_eaDo.f k x1182000 x1182001 x1182002 (([(⟨8, x1188000, x1188001, x1188002, 0⟩ : S27)] : List (S27)))).bind fun bt1197 => ((impl_RasOk.f k bt1197.1 bt1197.2.1 bt1197.2.2).bind fun t1203 => (if t1203 = true then ((laws_eaDo.f k bt1197.1 bt1197.2.1 bt1197.2.2 (([(⟨8, x1188000, x1188001, x1188002, 0⟩ : S27)] : List (S27)))).bind fun bt1207 => ((laws_eaRas.f k bt1207.1 bt1207.2.1 bt1207.2.2 bt1197.1 bt1197.2.1 bt1197.2.2).bind fun t1212 => (laws_FnOpFlat.j1 k (!t1212) x1182000 x1182001 x1182002 x1188000 x1188001 x1188002 x1188003 bt1197.1 bt1197.2.1 bt1197.2.2))) else (laws_FnOpFlat.j1 k true x1182000 x1182001 x1182002 x1188000 x1188001 x1188002 x1188003 bt1197.1 bt1197.2.1 bt1197.2.2))))
def laws_FnOpFlat.j1 : Nat → Bool → Int → Int → List (S38) → Int → Int → Int → Int → Int → Int → List (S38) → Option (Bool)
 | 0, _, _, _, _, _, _, _, _, _, _, _ => none
 | k + 1, x59, x1182000, x1182001, x1182002, x1188000, x1188001, x1188002, x1188003, x1203000, x1203001, x1203002 => if x59 = true then (none) else (laws_FnOpFlat.l0 k 0 x1182000 x1182001 x1182002 x1188000 x1188001 x1188002 x1188003 x1203000 x1203001 x1203002)
def laws_FnOpFlat.l0 : Nat → Int → Int → Int → List (S38) → Int → Int → Int → Int → Int → Int → List (S38) → Option (Bool)
 | 0, _, _, _, _, _, _, _, _, _, _, _ => none
 | k + 1, x8, x1182000, x1182001, x1182002, x1188000, x1188001, x1188002, x1188003, x1203000, x1203001, x1203002 => if x8 < (x1203002.length : Int) then (if 0 ≤ x8 then (if x8 < (x1182002.length : Int) then (if ((rd_T38 x1203002 x8).f3) = 255 then (if ((rd_T38 x1182002 x8).f3) = 255 then (if (!(((rd_T38 x1203002 x8).f0) == ((rd_T38 x1182002 x8).f0)) || (!(((rd_T38 x1203002 x8).f1) == ((rd_T38 x1182002 x8).f1)) || (!(((rd_T38 x1203002 x8).f2) == ((rd_T38 x1182002 x8).f2)) || (!(((rd_T38 x1203002 x8).f3) == ((rd_T38 x1182002 x8).f3)))))) = true then (laws_FnOpFlat.j3 k x8 true x1182000 x1182001 x1182002 x1188000 x1188001 x1188002 x1188003 x1203000 x1203001 x1203002 ((rd_T38 x1203002 x8).f0) ((rd_T38 x1203002 x8).f1) ((rd_T38 x1203002 x8).f2) ((rd_T38 x1203002 x8).f3) ((rd_T38 x1182002 x8).f0) ((rd_T38 x1182002 x8).f1) ((rd_T38 x1182002 x8).f2) ((rd_T38 x1182002 x8).f3)) else (if ((rd_T38 x1182002 x8).f3) = 0 then (laws_FnOpFlat.j3 k x8 (!(((rd_T38 x1203002 x8).f0) == x1188000) || (!(((rd_T38 x1203002 x8).f1) == x1188001) || (!(((rd_T38 x1203002 x8).f2) == x1188002) || (!(((rd_T38 x1203002 x8).f3) == 255))))) x1182000 x1182001 x1182002 x1188000 x1188001 x1188002 x1188003 x1203000 x1203001 x1203002 ((rd_T38 x1203002 x8).f0) ((rd_T38 x1203002 x8).f1) ((rd_T38 x1203002 x8).f2) ((rd_T38 x1203002 x8).f3) ((rd_T38 x1182002 x8).f0) ((rd_T38 x1182002 x8).f1) ((rd_T38 x1182002 x8).f2) ((rd_T38 x1182002 x8).f3)) else (laws_FnOpFlat.j3 k x8 false x1182000 x1182001 x1182002 x1188000 x1188001 x1188002 x1188003 x1203000 x1203001 x1203002 ((rd_T38 x1203002 x8).f0) ((rd_T38 x1203002 x8).f1) ((rd_T38 x1203002 x8).f2) ((rd_T38 x1203002 x8).f3) ((rd_T38 x1182002 x8).f0) ((rd_T38 x1182002 x8).f1) ((rd_T38 x1182002 x8).f2) ((rd_T38 x1182002 x8).f3)))) else (if ((rd_T38 x1182002 x8).f3) = 0 then (laws_FnOpFlat.j3 k x8 (!(((rd_T38 x1203002 x8).f0) == x1188000) || (!(((rd_T38 x1203002 x8).f1) == x1188001) || (!(((rd_T38 x1203002 x8).f2) == x1188002) || (!(((rd_T38 x1203002 x8).f3) == 255))))) x1182000 x1182001 x1182002 x1188000 x1188001 x1188002 x1188003 x1203000 x1203001 x1203002 ((rd_T38 x1203002 x8).f0) ((rd_T38 x1203002 x8).f1) ((rd_T38 x1203002 x8).f2) ((rd_T38 x1203002 x8).f3) ((rd_T38 x1182002 x8).f0) ((rd_T38 x1182002 x8).f1) ((rd_T38 x1182002 x8).f2) ((rd_T38 x1182002 x8).f3)) else (laws_FnOpFlat.j3 k x8 false x1182000 x1182001 x1182002 x1188000 x1188001 x1188002 x1188003 x1203000 x1203001 x1203002 ((rd_T38 x1203002 x8).f0) ((rd_T38 x1203002 x8).f1) ((rd_T38 x1203002 x8).f2) ((rd_T38 x1203002 x8).f3) ((rd_T38 x1182002 x8).f0) ((rd_T38 x1182002 x8).f1) ((rd_T38 x1182002 x8).f2) ((rd_T38 x1182002 x8).f3)))) else (laws_FnOpFlat.j3 k x8 true x1182000 x1182001 x1182002 x1188000 x1188001 x1188002 x1188003 x1203000 x1203001 x1203002 ((rd_T38 x1203002 x8).f0) ((rd_T38 x1203002 x8).f1) ((rd_T38 x1203002 x8).f2) ((rd_T38 x1203002 x8).f3) ((rd_T38 x1182002 x8).f0) ((rd_T38 x1182002 x8).f1) ((rd_T38 x1182002 x8).f2) ((rd_T38 x1182002 x8).f3))) else (none)) else (none)) else (some true)
def laws_FnOpFlat.j3 : Nat → Int → Bool → Int → Int → List (S38) → Int → Int → Int → Int → Int → Int → List (S38) → Int → Int → Int → Int → Int → Int → Int → Int → Option (Bool)
 | 0, _, _, _, _, _, _, _, _, _, _, _, _, _, _, _, _, _, _, _, _ => none
 | k + 1, x8, x105, x1182000, x1182001, x1182002, x1188000, x1188001, x1188002, x1188003, x1203000, x1203001, x1203002, x1215000, x1215001, x1215002, x1215003, x1217000, x1217001, x1217002, x1217003 => if x105 = true then (none) else (if x1215000 < (wrap64 ((mn x1217000 x1188000) - 1)) then (none) else (if x1215000 > (mx x1217000 x1188000) then (none) else (laws_FnOpFlat.l0 k (wrap64 (x8 + 1)) x1182000 x1182001 x1182002 x1188000 x1188001 x1188002 x1188003 x1203000 x1203001 x1203002)))
end
def laws_FnOpFlat.f (k : Nat) (l0 : List Int) : Option (Bool) := if (l0.length : Int) > 1048576 then (some true) else ((spec_DrawOpDo.f k l0).bind fun bt1171 => ((spec_DrawPixOk.f k l0).bind fun bt1183 => ((spec_RasOk.f k bt1171.1 bt1171.2.1 bt1171.2.2.1).bind fun t1188 => (if t1188 = true then ((spec_PixOk.f bt1183.1 bt1183.2.1 bt1183.2.2.1 bt1183.2.2.2).bind fun t1189 => (laws_FnOpFlat.j0 k (!t1189) bt1171.1 bt1171.2.1 bt1171.2.2.1 bt1183.1 bt1183.2.1 bt1183.2.2.1 bt1183.2.2.2)) else (laws_FnOpFlat.j0 k true bt1171.1 bt1171.2.1 bt1171.2.2.1 bt1183.1 bt1183.2.1 bt1183.2.2.1 bt1183.2.2.2)))))
theorem laws_FnOpFlat.mono_l : ∀ k, (∀ y0 y1 y2 y3 y4 y5 y6 y7, LeO (laws_FnOpFlat.j0 k y0 y1 y2 y3 y4 y5 y6 y7) (laws_FnOpFlat.j0 (k + 1) y0 y1 y2 y3 y4 y5 y6 y7)) ∧ (∀ y0 y1 y2 y3 y4 y5 y6 y7 y8 y9 y10, LeO (laws_FnOpFlat.j1 k y0 y1 y2 y3 y4 y5 y6 y7 y8 y9 y10) (laws_FnOpFlat.j1 (k + 1) y0 y1 y2 y3 y4 y5 y6 y7 y8 y9 y10)) ∧ (∀ y0 y1 y2 y3 y4 y5 y6 y7 y8 y9 y10, LeO (laws_FnOpFlat.l0 k y0 y1 y2 y3 y4 y5 y6 y7 y8 y9 y10) (laws_FnOpFlat.l0 (k + 1) y0 y1 y2 y3 y4 y5 y6 y7 y8 y9 y10)) ∧ (∀ y0 y1 y2 y3 y4 y5 y6 y7 y8 y9 y10 y11 y12 y13 y14 y15 y16 y17 y18 y19, LeO (laws_FnOpFlat.j3 k y0 y1 y2 y3 y4 y5 y6 y7 y8 y9 y10 y11 y12 y13 y14 y15 y16 y17 y18 y19) (laws_FnOpFlat.j3 (k + 1) y0 y1 y2 y3 y4 y5 y6 y7 y8 y9 y10 y11 y12 y13 y14 y15 y16 y17 y18 y19))
 | 0 => ⟨(fun _ _ _ _ _ _ _ _ r h => nomatch (show none = some r from h)), (fun _ _ _ _ _ _ _ _ _ _ _ r h => nomatch (show none = some r from h)), (fun _ _ _ _ _ _ _ _ _ _ _ r h => nomatch (show none = some r from h)), (fun _ _ _ _ _ _ _ _ _ _ _ _ _ _ _ _ _ _ _ _ r h => nomatch (show none = some r from h))⟩
 | k + 1 => by
  obtain ⟨ih0, ih1, ih2, ih3⟩ := laws_FnOpFlat.mono_l k
  refine ⟨?_, ?_, ?_, ?_⟩
  ·intro y0 y1 y2 y3 y4 y5 y6 y7
   unfold laws_FnOpFlat.j0
   repeat' first
   | (with_reducible exact ih0 _ _ _ _ _ _ _ _)
   | (with_reducible exact ih1 _ _ _ _ _ _ _ _ _ _ _)
   | (with_reducible exact ih2 _ _ _ _ _ _ _ _ _ _ _)
   | (with_reducible exact ih3 _ _ _ _ _ _ _ _ _ _ _ _ _ _ _ _ _ _ _ _)
   | (with_reducible exact impl_RasOk.mono _ _ _ _)
   | (with_reducible exact laws_eaDo.mono _ _ _ _ _)
   | (with_reducible exact laws_eaRas.mono _ _ _ _ _ _ _)
   | (with_reducible exact spec_DrawOpDo.mono _ _)
   | (with_reducible exact spec_DrawPixOk.mono _ _)
   | (with_reducible exact spec_RasOk.mono _ _ _ _)
   | (with_reducible exact LeO.refl _)
   | (with_reducible exact LeO.none _)
   | (with_reducible refine LeO.ite ?_ ?_)
   | (with_reducible refine LeO.bind ?_ (fun _ => ?_))
   | exact ih0 _ _ _ _ _ _ _ _
   | exact ih1 _ _ _ _ _ _ _ _ _ _ _
   | exact ih2 _ _ _ _ _ _ _ _ _ _ _
   | exact ih3 _ _ _ _ _ _ _ _ _ _ _ _ _ _ _ _ _ _ _ _
   | exact impl_RasOk.mono _ _ _ _
   | exact laws_eaDo.mono _ _ _ _ _
   | exact laws_eaRas.mono _ _ _ _ _ _ _
   | exact spec_DrawOpDo.mono _ _
   | exact spec_DrawPixOk.mono _ _
   | exact spec_RasOk.mono _ _ _ _
   | exact LeO.none _
   | refine LeO.ite ?_ ?_
   | refine LeO.bind ?_ (fun _ => ?_)
  ·intro y0 y1 y2 y3 y4 y5 y6 y7 y8 y9 y10
   unfold laws_FnOpFlat.j1
   repeat' first
   | (with_reducible exact ih0 _ _ _ _ _ _ _ _)
   | (with_reducible exact ih1 _ _ _ _ _ _ _ _ _ _ _)
   | (with_reducible exact ih2 _ _ _ _ _ _ _ _ _ _ _)
   | (with_reducible exact ih3 _ _ _ _ _ _ _ _ _ _ _ _ _ _ _ _ _ _ _ _)
   | (with_reducible exact impl_RasOk.mono _ _ _ _)
   | (with_reducible exact laws_eaDo.mono _ _ _ _ _)
   | (with_reducible exact laws_eaRas.mono _ _ _ _ _ _ _)
   | (with_reducible exact spec_DrawOpDo.mono _ _)
   | (with_reducible exact spec_DrawPixOk.mono _ _)
   | (with_reducible exact spec_RasOk.mono _ _ _ _)
   | (with_reducible exact LeO.refl _)
   | (with_reducible exact LeO.none _)
   | (with_reducible refine LeO.ite ?_ ?_)
   | (with_reducible refine LeO.bind ?_ (fun _ => ?_))
   | exact ih0 _ _ _ _ _ _ _ _
   | exact ih1 _ _ _ _ _ _ _ _ _ _ _
   | exact ih2 _ _ _ _ _ _ _ _ _ _ _
   | exact ih3 _ _ _ _ _ _ _ _ _ _ _ _ _ _ _ _ _ _ _ _
   | exact impl_RasOk.mono _ _ _ _
   | exact laws_eaDo.mono _ _ _ _ _
   | exact laws_eaRas.mono _ _ _ _ _ _ _
   | exact spec_DrawOpDo.mono _ _
   | exact spec_DrawPixOk.mono _ _
   | exact spec_RasOk.mono _ _ _ _
   | exact LeO.none _
   | refine LeO.ite ?_ ?_
   | refine LeO.bind ?_ (fun _ => ?_)
  ·intro y0 y1 y2 y3 y4 y5 y6 y7 y8 y9 y10
   unfold laws_FnOpFlat.l0
   repeat' first
   | (with_reducible exact ih0 _ _ _ _ _ _ _ _)
   | (with_reducible exact ih1 _ _ _ _ _ _ _ _ _ _ _)
   | (with_reducible exact ih2 _ _ _ _ _ _ _ _ _ _ _)
   | (with_reducible exact ih3 _ _ _ _ _ _ _ _ _ _ _ _ _ _ _ _ _ _ _ _)
   | (with_reducible exact impl_RasOk.mono _ _ _ _)
   | (with_reducible exact laws_eaDo.mono _ _ _ _ _)
   | (with_reducible exact laws_eaRas.mono _ _ _ _ _ _ _)
   | (with_reducible exact spec_DrawOpDo.mono _ _)
   | (with_reducible exact spec_DrawPixOk.mono _ _)
   | (with_reducible exact spec_RasOk.mono _ _ _ _)
   | (with_reducible exact LeO.refl _)
   | (with_reducible exact LeO.none _)
   | (with_reducible refine LeO.ite ?_ ?_)
   | (with_reducible refine LeO.bind ?_ (fun _ => ?_))
   | exact ih0 _ _ _ _ _ _ _ _
   | exact ih1 _ _ _ _ _ _ _ _ _ _ _
   | exact ih2 _ _ _ _ _ _ _ _ _ _ _
   | exact ih3 _ _ _ _ _ _ _ _ _ _ _ _ _ _ _ _ _ _ _ _
   | exact impl_RasOk.mono _ _ _ _
   | exact laws_eaDo.mono _ _ _ _ _
   | exact laws_eaRas.mono _ _ _ _ _ _ _
   | exact spec_DrawOpDo.mono _ _
   | exact spec_DrawPixOk.mono _ _
   | exact spec_RasOk.mono _ _ _ _
   | exact LeO.none _
   | refine LeO.ite ?_ ?_
   | refine LeO.bind ?_ (fun _ => ?_)
  ·intro y0 y1 y2 y3 y4 y5 y6 y7 y8 y9 y10 y11 y12 y13 y14 y15 y16 y17 y18 y19
   unfold laws_FnOpFlat.j3
   repeat' first
   | (with_reducible exact ih0 _ _ _ _ _ _ _ _)
   | (with_reducible exact ih1 _ _ _ _ _ _ _ _ _ _ _)
   | (with_reducible exact ih2 _ _ _ _ _ _ _ _ _ _ _)
   | (with_reducible exact ih3 _ _ _ _ _ _ _ _ _ _ _ _ _ _ _ _ _ _ _ _)
   | (with_reducible exact impl_RasOk.mono _ _ _ _)
   | (with_reducible exact laws_eaDo.mono _ _ _ _ _)
   | (with_reducible exact laws_eaRas.mono _ _ _ _ _ _ _)
   | (with_reducible exact spec_DrawOpDo.mono _ _)
   | (with_reducible exact spec_DrawPixOk.mono _ _)
   | (with_reducible exact spec_RasOk.mono _ _ _ _)
   | (with_reducible exact LeO.refl _)
   | (with_reducible exact LeO.none _)
   | (with_reducible refine LeO.ite ?_ ?_)
   | (with_reducible refine LeO.bind ?_ (fun _ => ?_))
   | exact ih0 _ _ _ _ _ _ _ _
   | exact ih1 _ _ _ _ _ _ _ _ _ _ _
   | exact ih2 _ _ _ _ _ _ _ _ _ _ _
   | exact ih3 _ _ _ _ _ _ _ _ _ _ _ _ _ _ _ _ _ _ _ _
   | exact impl_RasOk.mono _ _ _ _
   | exact laws_eaDo.mono _ _ _ _ _
   | exact laws_eaRas.mono _ _ _ _ _ _ _
   | exact spec_DrawOpDo.mono _ _
   | exact spec_DrawPixOk.mono _ _
   | exact spec_RasOk.mono _ _ _ _
   | exact LeO.none _
   | refine LeO.ite ?_ ?_
   | refine LeO.bind ?_ (fun _ => ?_)
theorem laws_FnOpFlat.mono : ∀ a0 k, LeO (laws_FnOpFlat.f k a0) (laws_FnOpFlat.f (k + 1) a0) := by
 intro a0 k
 obtain ⟨ih0, ih1, ih2, ih3⟩ := laws_FnOpFlat.mono_l k
 unfold laws_FnOpFlat.f
 repeat' first
   | (with_reducible exact ih0 _ _ _ _ _ _ _ _)
   | (with_reducible exact ih1 _ _ _ _ _ _ _ _ _ _ _)
   | (with_reducible exact ih2 _ _ _ _ _ _ _ _ _ _ _)
   | (with_reducible exact ih3 _ _ _ _ _ _ _ _ _ _ _ _ _ _ _ _ _ _ _ _)
   | (with_reducible exact impl_RasOk.mono _ _ _ _)
   | (with_reducible exact laws_eaDo.mono _ _ _ _ _)
   | (with_reducible exact laws_eaRas.mono _ _ _ _ _ _ _)
   | (with_reducible exact spec_DrawOpDo.mono _ _)
   | (with_reducible exact spec_DrawPixOk.mono _ _)
   | (with_reducible exact spec_RasOk.mono _ _ _ _)
   | (with_reducible exact LeO.refl _)
   | (with_reducible exact LeO.none _)
   | (with_reducible refine LeO.ite ?_ ?_)
   | (with_reducible refine LeO.bind ?_ (fun _ => ?_))
   | exact ih0 _ _ _ _ _ _ _ _
   | exact ih1 _ _ _ _ _ _ _ _ _ _ _
   | exact ih2 _ _ _ _ _ _ _ _ _ _ _
   | exact ih3 _ _ _ _ _ _ _ _ _ _ _ _ _ _ _ _ _ _ _ _
   | exact impl_RasOk.mono _ _ _ _
   | exact laws_eaDo.mono _ _ _ _ _
   | exact laws_eaRas.mono _ _ _ _ _ _ _
   | exact spec_DrawOpDo.mono _ _
   | exact spec_DrawPixOk.mono _ _
   | exact spec_RasOk.mono _ _ _ _
   | exact LeO.none _
   | refine LeO.ite ?_ ?_
   | refine LeO.bind ?_ (fun _ => ?_)
def laws_FnOpFlat.T6 : Bool × List (List Nat × List Nat) := (true, [([], []), ([0], [0]), ([], []), ([2, 1], [2]), ([1, 3], [1, 3]), ([4, 3], [4]), ([5, 5], [5]), ([5, 6], [5, 6]), ([7, 6, 0, 1, 2, 3, 4, 5, 6, 7], [7])])
def laws_FnOpFlat.B6 : List Nat := [0, 1, 0, 7, 15, 31, 63, 127, 255]
theorem laws_FnOpFlat.tab6 : rtab .any (opsOf Try.f15 6) = laws_FnOpFlat.T6 := by kernel_rfl
theorem laws_FnOpFlat.bits6 : waitsOk laws_FnOpFlat.T6.2 laws_FnOpFlat.B6 = true := by kernel_rfl
def laws_FnOpFlat.T9 : Bool × List (List Nat × List Nat) := (true, [([], []), ([0], [0]), ([1], [1]), ([2, 1], [2]), ([3], [3]), ([3], [3]), ([5, 3], [3, 5]), ([4, 6, 3, 3], [3, 4, 6]), ([3], [3]), ([7, 8, 7, 3], [3, 7, 8]), ([9, 3], [3, 9]), ([3, 10], [3, 10])])
def laws_FnOpFlat.B9 : List Nat := [0, 1, 3, 7, 15, 15, 47, 127, 15, 511, 1023, 2047]
theorem laws_FnOpFlat.tab9 : rtab .any (opsOf Try.f15 9) = laws_FnOpFlat.T9 := by kernel_rfl
theorem laws_FnOpFlat.bits9 : waitsOk laws_FnOpFlat.T9.2 laws_FnOpFlat.B9 = true := by kernel_rfl
set_option maxHeartbeats 8000000 in
set_option maxRecDepth 100000 in
theorem laws_FnOpFlat.calls (k : Nat) (A0 : Option Addr) (c0 : Nat) (l0 : List Int) (r : Bool) (w : World) (hr0 : Kd.C (Kd.int .u8) w A0 l0.length l0) (hc0 : l0.length ≤ c0) (h : laws_FnOpFlat.f k l0 = some r) :
  Calls Try.prog 15 #[.slice A0 l0.length c0] w fun e w' => e = .returned (.bool r) ∧ Below w.heap.size w w' := by
 have hu25 := Try.underlying25
 have hu27 := Try.underlying27
 have hu38 := Try.underlying38
 have HR0 := Aside0.mk hr0
 have HC0 := Aside0.mk hc0
 clear hr0 hc0
 have HB := Aside0.mk (Below.refl w.heap.size w)
 have H : (if (l0.length : Int) > 1048576 then (some true) else ((spec_DrawOpDo.f k l0).bind fun bt1171 => ((spec_DrawPixOk.f k l0).bind fun bt1183 => ((spec_RasOk.f k bt1171.1 bt1171.2.1 bt1171.2.2.1).bind fun t1188 => (if t1188 = true then ((spec_PixOk.f bt1183.1 bt1183.2.1 bt1183.2.2.1 bt1183.2.2.2).bind fun t1189 => (laws_FnOpFlat.j0 k (!t1189) bt1171.1 bt1171.2.1 bt1171.2.2.1 bt1183.1 bt1183.2.1 bt1183.2.2.1 bt1183.2.2.2)) else (laws_FnOpFlat.j0 k true bt1171.1 bt1171.2.1 bt1171.2.2.1 bt1183.1 bt1183.2.1 bt1183.2.2.1 bt1183.2.2.2)))))) = some r := h
 clear h
 by_cases c2 : (l0.length : Int) > 1048576
 ·rw [if_pos c2] at H
  have c2b0 : decide (1048576 < (l0.length : Int)) = true := decide_eq_true c2
  have c2b1 : decide (1048576 < l0.length) = true := decide_eq_true (by omega)
  clear c2
  obtain rfl := Option.some.inj H
  go_enter Try.func15, Try.ntmps15
  go_wp2
  go_ret
  exact ⟨by first | rfl | (simp [errW_none, errW_some] <;> rfl) | (simp [*, errW_none, errW_some] <;> rfl), oB HB⟩
 ·rw [if_neg c2] at H
  have c2b0 : decide (1048576 < (l0.length : Int)) = false := decide_eq_false c2
  have c2b1 : decide (1048576 < l0.length) = false := decide_eq_false (by omega)
  clear c2
  replace H := Option.bind_eq_some_iff.mp H
  obtain ⟨⟨t1171, t1172, t1173, t1176, t1177, t1178, t1179, t1180⟩, A30, H⟩ := H
  (try dsimp only at H)
  have A3 := Aside0.mk A30
  clear A30
  replace H := Option.bind_eq_some_iff.mp H
  obtain ⟨⟨t1183, t1184, t1185, t1186⟩, A40, H⟩ := H
  (try dsimp only at H)
  have A4 := Aside0.mk A40
  clear A40
  have HC5 := Aside0.mk H
  clear H
  go_enter Try.func15, Try.ntmps15
  go_upto_region 5 with (first | ((with_reducible refine gate_callee (f := 18) rfl ?_); refine goesL_ (some 16) rfl rfl Try.func18 oK rfl #[.slice A0 l0.length c0] rfl oA ?_; (with_reducible refine (spec_DrawOpDo.calls k _ _ l0 t1171 t1172 t1173 t1176 t1177 t1178 t1179 t1180 _ ?side1 ?side2 A3.out).mono ?_); (case side1 => repeat (first | exact HR0.out | (with_reducible refine Kd.C_alloc ?_ _) | (with_reducible refine Kd.C_drewN ?_ _) | (with_reducible refine Kd.C_drew ?_))); (case side2 => exact HC0.out); rintro e w6 ⟨v1174, rfl, ho0, hb⟩; refine ⟨_, rfl, ?_⟩; have n_ := o2_ (Kd.Q_lower ho0 (below_size (oB HB))) (o1_ (below_step (oB HB) hb)); clear HB; obtain ⟨HO1175, HB⟩ := n_; (try clear hb); (try clear hb2); (try clear hk); (try clear hi); (try clear ho0)) | ((with_reducible refine gate_dst (N := 3) rfl ?_); (try (refine gate_guard (by rfl) ?_; dsimp only)); refine box_event ?hg (N := 3) ?hd (cs := #[.int .i64 0, .int .i64 0, .slice none 0 0]) (t := 25) ?hr ?_; (case hd => rfl); (case hg => rfl); (case hr => first | (go_simp; done) | (go_simp; rfl)); intro gb1181 hg w7 hbox hb; have n_ := o2_ (Kd.Q_below (oQ HO1175) hb) (o2_ (below_step (oB HB) hb) (o2_ (hbox) (o2_ ((oG hg (below_size (oB HB)) : w.heap.size ≤ gb1181)) (o1_ ((oG hg (below_size (oB HB)) : w.heap.size ≤ gb1181)))))); clear HO1175 HB; obtain ⟨HO1175, HB, BK1181, GW1181, GE1181⟩ := n_; clear hb hbox hg) | ((with_reducible refine gate_dst (N := 4) rfl ?_); (try (refine gate_guard (by rfl) ?_; dsimp only)); refine box_event ?hg (N := 4) ?hd (cs := #[.int .i64 0, .int .i64 0, .int .i64 0, .int .i64 0, .int .i64 0]) (t := 27) ?hr ?_; (case hd => rfl); (case hg => rfl); (case hr => first | (go_simp; done) | (go_simp; rfl)); intro gb1182 hg w8 hbox hb; have n_ := o2_ (Kd.Q_below (oQ HO1175) hb) (o2_ (blk_below (oP BK1181) hb) (o2_ (below_step (oB HB) hb) (o2_ (hbox) (o2_ ((oG hg (below_size (oB HB)) : w.heap.size ≤ gb1182)) (o2_ ((oG hg (below_size (oB HB)) : w.heap.size ≤ gb1182)) (o2_ ((oL hg (blk_lt (oP BK1181)))) (o1_ ((oN hg (blk_lt (oP BK1181))))))))))); clear HO1175 BK1181 HB; obtain ⟨HO1175, BK1181, HB, BK1182, GW1182, GE1182, NB1181_1182, NB1182_1181⟩ := n_; clear hb hbox hg; have hnb9 := NB1181_1182.out; have hnc9 := NB1182_1181.out; have hcz10_0 : w8.cell? ⟨gb1181, 0, none⟩ = some (.int .i64 0) := (blk_cell BK1181.out 0).trans rfl; have hcz10_1 : w8.cell? ⟨gb1181, 1, none⟩ = some (.int .i64 0) := (blk_cell BK1181.out 1).trans rfl; have hcz10_2 : w8.cell? ⟨gb1181, 2, none⟩ = some (.slice none 0 0) := (blk_cell BK1181.out 2).trans rfl; have hfz10_0 := blk_frozen BK1181.out 0; have hfz10_1 := blk_frozen BK1181.out 1; have hfz10_2 := blk_frozen BK1181.out 2; obtain ⟨Ao11, co11, eo11, _⟩ := Kd.Q_slice HO1175.out; subst eo11; have hcz12_0 : w8.cell? ⟨gb1182, 0, none⟩ = some (.int .i64 0) := (blk_cell BK1182.out 0).trans rfl; have hcz12_1 : w8.cell? ⟨gb1182, 1, none⟩ = some (.int .i64 0) := (blk_cell BK1182.out 1).trans rfl; have hcz12_2 : w8.cell? ⟨gb1182, 2, none⟩ = some (.int .i64 0) := (blk_cell BK1182.out 2).trans rfl; have hcz12_3 : w8.cell? ⟨gb1182, 3, none⟩ = some (.int .i64 0) := (blk_cell BK1182.out 3).trans rfl; have hcz12_4 : w8.cell? ⟨gb1182, 4, none⟩ = some (.int .i64 0) := (blk_cell BK1182.out 4).trans rfl; have hfz12_0 := blk_frozen BK1182.out 0; have hfz12_1 := blk_frozen BK1182.out 1; have hfz12_2 := blk_frozen BK1182.out 2; have hfz12_3 := blk_frozen BK1182.out 3; have hfz12_4 := blk_frozen BK1182.out 4) | ((with_reducible refine gate_callee (f := 29) rfl ?_); refine goesL_ (some 20) rfl rfl Try.func29 oK rfl #[.slice A0 l0.length c0] rfl oA ?_; (with_reducible refine (spec_DrawPixOk.calls k _ _ l0 t1183 t1184 t1185 t1186 _ ?side1 ?side2 A4.out).mono ?_); (case side1 => exact Kd.C_below HR0.out (oB HB)); (case side2 => exact HC0.out); rintro e w13 ⟨rfl, hb⟩; refine ⟨_, rfl, ?_⟩; have n_ := o2_ (Kd.Q_below (by (with_reducible repeat (first | apply Kd.Q_alloc | apply Kd.Q_drewN | apply Kd.Q_drew)); exact (Kd.Q_mono (Kd.Q_mono (Kd.Q_far (p := ⟨gb1182, 4, none⟩) (Kd.Q_far (p := ⟨gb1182, 3, none⟩) (Kd.Q_far (p := ⟨gb1182, 2, none⟩) (Kd.Q_far (p := ⟨gb1182, 1, none⟩) (Kd.Q_far (p := ⟨gb1182, 0, none⟩) (Kd.Q_far (p := ⟨gb1181, 2, none⟩) (Kd.Q_far (p := ⟨gb1181, 1, none⟩) (Kd.Q_far (p := ⟨gb1181, 0, none⟩) (Kd.Q_types (Kd.Q_types HO1175.out BK1181.out oD) BK1182.out oD) (fun _ hk => by first | exact hk.1.2 | exact trivial | (revert hk; simp; done) | (simp_all; done)) (.int .i64 t1171)) (fun _ hk => by first | exact hk.1.2 | exact trivial | (revert hk; simp; done) | (simp_all; done)) (.int .i64 t1172)) (fun _ hk => by first | exact hk.1.2 | exact trivial | (revert hk; simp; done) | (simp_all; done)) (.slice Ao11 t1173.length co11)) oX2 (.int .i64 t1176)) oX2 (.int .i64 t1177)) oX2 (.int .i64 t1178)) oX2 (.int .i64 t1179)) oX2 (.int .i64 t1180)) (fun _ h_ => h_.1)) (fun _ h_ => h_.1))) hb) (o2_ (blk_below (g := gb1181) (o := .cells #[.int .i64 t1171, .int .i64 t1172, .slice Ao11 t1173.length co11] 25 (0, 0)) (by (with_reducible repeat (first | refine blk_drewN ?_ _ | refine blk_drew ?_ | refine blk_alloc ?_ _)); refine blk_far ?_ NB1181_1182.out _; (with_reducible repeat (first | refine blk_drewN ?_ _ | refine blk_drew ?_ | refine blk_alloc ?_ _)); refine blk_far ?_ NB1181_1182.out _; (with_reducible repeat (first | refine blk_drewN ?_ _ | refine blk_drew ?_ | refine blk_alloc ?_ _)); refine blk_far ?_ NB1181_1182.out _; (with_reducible repeat (first | refine blk_drewN ?_ _ | refine blk_drew ?_ | refine blk_alloc ?_ _)); refine blk_far ?_ NB1181_1182.out _; (with_reducible repeat (first | refine blk_drewN ?_ _ | refine blk_drew ?_ | refine blk_alloc ?_ _)); refine blk_far ?_ NB1181_1182.out _; (with_reducible repeat (first | refine blk_drewN ?_ _ | refine blk_drew ?_ | refine blk_alloc ?_ _)); refine blk_put (cs := #[.int .i64 t1171, .int .i64 t1172, .slice none 0 0]) ?_ 2 _ rfl; (with_reducible repeat (first | refine blk_drewN ?_ _ | refine blk_drew ?_ | refine blk_alloc ?_ _)); refine blk_put (cs := #[.int .i64 t1171, .int .i64 0, .slice none 0 0]) ?_ 1 _ rfl; (with_reducible repeat (first | refine blk_drewN ?_ _ | refine blk_drew ?_ | refine blk_alloc ?_ _)); refine blk_put (cs := #[.int .i64 0, .int .i64 0, .slice none 0 0]) ?_ 0 _ rfl; (with_reducible repeat (first | refine blk_drewN ?_ _ | refine blk_drew ?_ | refine blk_alloc ?_ _)); exact BK1181.out) hb) (o2_ (blk_below (g := gb1182) (o := .cells #[.int .i64 t1176, .int .i64 t1177, .int .i64 t1178, .int .i64 t1179, .int .i64 t1180] 27 (0, 0)) (by (with_reducible repeat (first | refine blk_drewN ?_ _ | refine blk_drew ?_ | refine blk_alloc ?_ _)); refine blk_put (cs := #[.int .i64 t1176, .int .i64 t1177, .int .i64 t1178, .int .i64 t1179, .int .i64 0]) ?_ 4 _ rfl; (with_reducible repeat (first | refine blk_drewN ?_ _ | refine blk_drew ?_ | refine blk_alloc ?_ _)); refine blk_put (cs := #[.int .i64 t1176, .int .i64 t1177, .int .i64 t1178, .int .i64 0, .int .i64 0]) ?_ 3 _ rfl; (with_reducible repeat (first | refine blk_drewN ?_ _ | refine blk_drew ?_ | refine blk_alloc ?_ _)); refine blk_put (cs := #[.int .i64 t1176, .int .i64 t1177, .int .i64 0, .int .i64 0, .int .i64 0]) ?_ 2 _ rfl; (with_reducible repeat (first | refine blk_drewN ?_ _ | refine blk_drew ?_ | refine blk_alloc ?_ _)); refine blk_put (cs := #[.int .i64 t1176, .int .i64 0, .int .i64 0, .int .i64 0, .int .i64 0]) ?_ 1 _ rfl; (with_reducible repeat (first | refine blk_drewN ?_ _ | refine blk_drew ?_ | refine blk_alloc ?_ _)); refine blk_put (cs := #[.int .i64 0, .int .i64 0, .int .i64 0, .int .i64 0, .int .i64 0]) ?_ 0 _ rfl; (with_reducible repeat (first | refine blk_drewN ?_ _ | refine blk_drew ?_ | refine blk_alloc ?_ _)); refine blk_far ?_ NB1182_1181.out _; (with_reducible repeat (first | refine blk_drewN ?_ _ | refine blk_drew ?_ | refine blk_alloc ?_ _)); refine blk_far ?_ NB1182_1181.out _; (with_reducible repeat (first | refine blk_drewN ?_ _ | refine blk_drew ?_ | refine blk_alloc ?_ _)); refine blk_far ?_ NB1182_1181.out _; (with_reducible repeat (first | refine blk_drewN ?_ _ | refine blk_drew ?_ | refine blk_alloc ?_ _)); exact BK1182.out) hb) (o1_ (below_step (oB HB) hb)))); clear HO1175 BK1181 BK1182 HB; obtain ⟨HO1175, BK1181, BK1182, HB⟩ := n_; (try clear hb); (try clear hb2); (try clear hk); (try clear hi)) | ((with_reducible refine gate_dst (N := 5) rfl ?_); (try (refine gate_guard (by rfl) ?_; dsimp only)); refine box_event ?hg (N := 5) ?hd (cs := #[.int .i64 0, .int .i64 0, .int .i64 0, .int .i64 0]) (t := 38) ?hr ?_; (case hd => rfl); (case hg => rfl); (case hr => first | (go_simp; done) | (go_simp; rfl)); intro gb1187 hg w14 hbox hb; have n_ := o2_ (Kd.Q_below (Kd.Q_elderB (oQ HO1175) gb1187 (Nat.le_of_eq hg.symm)) hb) (o2_ (blk_below (oP BK1181) hb) (o2_ (blk_below (oP BK1182) hb) (o2_ (below_step (oB HB) hb) (o2_ (hbox) (o2_ ((oG hg (below_size (oB HB)) : w.heap.size ≤ gb1187)) (o2_ ((oG hg (below_size (oB HB)) : w.heap.size ≤ gb1187)) (o2_ ((oL hg (blk_lt (oP BK1181)))) (o2_ ((oN hg (blk_lt (oP BK1181)))) (o2_ ((oL hg (blk_lt (oP BK1182)))) (o1_ ((oN hg (blk_lt (oP BK1182)))))))))))))); clear HO1175 BK1181 BK1182 HB; obtain ⟨HO1175, BK1181, BK1182, HB, BK1187, GW1187, GE1187, NB1181_1187, NB1187_1181, NB1182_1187, NB1187_1182⟩ := n_; clear hb hbox hg; have hnb15 := NB1187_1181.out; have hnc15 := NB1181_1187.out; have hnb16 := NB1187_1182.out; have hnc16 := NB1182_1187.out; have hcz17_0 : w14.cell? ⟨gb1187, 0, none⟩ = some (.int .i64 0) := (blk_cell BK1187.out 0).trans rfl; have hcz17_1 : w14.cell? ⟨gb1187, 1, none⟩ = some (.int .i64 0) := (blk_cell BK1187.out 1).trans rfl; have hcz17_2 : w14.cell? ⟨gb1187, 2, none⟩ = some (.int .i64 0) := (blk_cell BK1187.out 2).trans rfl; have hcz17_3 : w14.cell? ⟨gb1187, 3, none⟩ = some (.int .i64 0) := (blk_cell BK1187.out 3).trans rfl; have hfz17_0 := blk_frozen BK1187.out 0; have hfz17_1 := blk_frozen BK1187.out 1; have hfz17_2 := blk_frozen BK1187.out 2; have hfz17_3 := blk_frozen BK1187.out 3))
  (try simp only [Act.put, List.setIfInBounds_toArray, List.set_cons_zero, List.set_cons_succ])
  go_cut [28] (fun v28 wc => ∃ (kq : Nat) (x28_4 : Bool), v28 = .bool x28_4 ∧ Aside0 (laws_FnOpFlat.j0 kq x28_4 t1171 t1172 t1173 t1183 t1184 t1185 t1186 = some r) ∧ Aside0 (kq ≤ k) ∧ Aside0 (Kd.Q k38 38 wc w.heap.size (fun k_ => k_ ≠ gb1187) (.slice Ao11 t1173.length co11) t1173) ∧ Aside0 (wc.heap[gb1181]? = some (.cells #[.int .i64 t1171, .int .i64 t1172, (.slice Ao11 t1173.length co11)] 25 (0, 0))) ∧ Aside0 (wc.heap[gb1182]? = some (.cells #[.int .i64 t1176, .int .i64 t1177, .int .i64 t1178, .int .i64 t1179, .int .i64 t1180] 27 (0, 0))) ∧ Aside0 (wc.heap[gb1187]? = some (.cells #[.int .i64 t1183, .int .i64 t1184, .int .i64 t1185, .int .i64 t1186] 38 (0, 0))) ∧ Aside0 (Below w.heap.size w wc))
  case first =>
   have H := HC5.out
   clear HC5
   replace H := Option.bind_eq_some_iff.mp H
   obtain ⟨t1188, A180, H⟩ := H
   (try dsimp only at H)
   have A18 := Aside0.mk A180
   clear A180
   by_cases c19 : t1188 = true
   ·subst c19
    rw [if_pos rfl] at H
    replace H := Option.bind_eq_some_iff.mp H
    obtain ⟨t1189, A200, H⟩ := H
    (try dsimp only at H)
    have A20 := Aside0.mk A200
    clear A200
    have H' := Aside0.mk H
    clear H
    have hnb21 := NB1181_1182.out
    have hnc21 := NB1182_1181.out
    have hnb22 := NB1181_1187.out
    have hnc22 := NB1187_1181.out
    have hcz23_0 : w14.cell? ⟨gb1181, 0, none⟩ = some (.int .i64 t1171) := (blk_cell BK1181.out 0).trans rfl
    have hcz23_1 : w14.cell? ⟨gb1181, 1, none⟩ = some (.int .i64 t1172) := (blk_cell BK1181.out 1).trans rfl
    have hcz23_2 : w14.cell? ⟨gb1181, 2, none⟩ = some (.slice Ao11 t1173.length co11) := (blk_cell BK1181.out 2).trans rfl
    have hfz23_0 := blk_frozen BK1181.out 0
    have hfz23_1 := blk_frozen BK1181.out 1
    have hfz23_2 := blk_frozen BK1181.out 2
    go_wp2_with (first | ((with_reducible refine gate_callee (f := 24) rfl ?_); refine goesL_ (some 22) rfl rfl Try.func24 oK rfl #[.agg #[.int .i64 t1171, .int .i64 t1172, .slice Ao11 t1173.length co11]] rfl oA ?_; (with_reducible refine (spec_RasOk.calls k t1171 t1172 _ _ t1173 true _ ?side1 ?side2 A18.out).mono ?_); (case side1 => refine (Kd.Q_reads' (e := 38) (base := w.heap.size) (ok := fun k_ => (True ∧ k_ ≠ gb1187)) (n := t1173.length) (c := co11) ?_).2.2; exact (by (with_reducible repeat (first | apply Kd.Q_alloc | apply Kd.Q_drewN | apply Kd.Q_drew)); exact (Kd.Q_mono (Kd.Q_far (p := ⟨gb1187, 3, none⟩) (Kd.Q_far (p := ⟨gb1187, 2, none⟩) (Kd.Q_far (p := ⟨gb1187, 1, none⟩) (Kd.Q_far (p := ⟨gb1187, 0, none⟩) (Kd.Q_mono HO1175.out (fun k_ hk => (⟨hk, hk.2⟩ : _ ∧ k_ ≠ gb1187))) oX2 (.int .i64 t1183)) oX2 (.int .i64 t1184)) oX2 (.int .i64 t1185)) oX2 (.int .i64 t1186)) (fun _ h_ => h_.1)))); (case side2 => exact (Kd.Q_reads' HO1175.out).2.1); rintro e w24 ⟨rfl, hb⟩; refine ⟨_, rfl, ?_⟩; have n_ := o2_ (Kd.Q_below (by (with_reducible repeat (first | apply Kd.Q_alloc | apply Kd.Q_drewN | apply Kd.Q_drew)); exact (Kd.Q_mono (Kd.Q_far (p := ⟨gb1187, 3, none⟩) (Kd.Q_far (p := ⟨gb1187, 2, none⟩) (Kd.Q_far (p := ⟨gb1187, 1, none⟩) (Kd.Q_far (p := ⟨gb1187, 0, none⟩) (Kd.Q_mono HO1175.out (fun k_ hk => (⟨hk, hk.2⟩ : _ ∧ k_ ≠ gb1187))) oX2 (.int .i64 t1183)) oX2 (.int .i64 t1184)) oX2 (.int .i64 t1185)) oX2 (.int .i64 t1186)) (fun _ h_ => h_.1))) hb) (o2_ (blk_below (oP BK1181) hb) (o2_ (blk_below (oP BK1182) hb) (o2_ (blk_below (g := gb1187) (o := .cells #[.int .i64 t1183, .int .i64 t1184, .int .i64 t1185, .int .i64 t1186] 38 (0, 0)) (blk_put (blk_put (blk_put (blk_put BK1187.out 0 _ rfl) 1 _ rfl) 2 _ rfl) 3 _ rfl) hb) (o1_ (below_step (oB HB) hb))))); clear HO1175 BK1181 BK1182 BK1187 HB; obtain ⟨HO1175, BK1181, BK1182, BK1187, HB⟩ := n_; (try clear hb); (try clear hb2); (try clear hk); (try clear hi); have hnb25 := NB1187_1182.out; have hnc25 := NB1182_1187.out; have hcz26_0 : w24.cell? ⟨gb1187, 0, none⟩ = some (.int .i64 t1183) := (blk_cell BK1187.out 0).trans rfl; have hcz26_1 : w24.cell? ⟨gb1187, 1, none⟩ = some (.int .i64 t1184) := (blk_cell BK1187.out 1).trans rfl; have hcz26_2 : w24.cell? ⟨gb1187, 2, none⟩ = some (.int .i64 t1185) := (blk_cell BK1187.out 2).trans rfl; have hcz26_3 : w24.cell? ⟨gb1187, 3, none⟩ = some (.int .i64 t1186) := (blk_cell BK1187.out 3).trans rfl; have hfz26_0 := blk_frozen BK1187.out 0; have hfz26_1 := blk_frozen BK1187.out 1; have hfz26_2 := blk_frozen BK1187.out 2; have hfz26_3 := blk_frozen BK1187.out 3) | (go_at_call 30; (with_reducible refine (spec_PixOk.calls t1183 t1184 t1185 t1186 t1189 _ A20.out).mono ?_); rintro e w27 ⟨rfl, hb⟩; have n_ := o2_ (Kd.Q_below (oQ HO1175) hb) (o2_ (blk_below (oP BK1181) hb) (o2_ (blk_below (oP BK1182) hb) (o2_ (blk_below (oP BK1187) hb) (o1_ (below_step (oB HB) hb))))); clear HO1175 BK1181 BK1182 BK1187 HB; obtain ⟨HO1175, BK1181, BK1182, BK1187, HB⟩ := n_; (try clear hb); (try clear hb2); (try clear hk); (try clear hi)))
    go_meet
    case rel => exact ⟨_, (!t1189), (by first | rfl | (simp; done) | (simp [*]; done)), H', ⟨(by first | omega | exact Nat.le_refl _)⟩, ⟨(by (with_reducible repeat (first | apply Kd.Q_alloc | apply Kd.Q_drewN | apply Kd.Q_drew)); exact Kd.Q_mono HO1175.out oX2)⟩, ⟨(oP BK1181)⟩, ⟨(oP BK1182)⟩, ⟨(oP BK1187)⟩, ⟨(oB HB)⟩⟩
   ·replace c19 := Bool.eq_false_iff.mpr c19
    subst c19
    rw [if_neg (show ¬ (false = true) by decide)] at H
    have H' := Aside0.mk H
    clear H
    have hnb28 := NB1181_1182.out
    have hnc28 := NB1182_1181.out
    have hnb29 := NB1181_1187.out
    have hnc29 := NB1187_1181.out
    have hcz30_0 : w14.cell? ⟨gb1181, 0, none⟩ = some (.int .i64 t1171) := (blk_cell BK1181.out 0).trans rfl
    have hcz30_1 : w14.cell? ⟨gb1181, 1, none⟩ = some (.int .i64 t1172) := (blk_cell BK1181.out 1).trans rfl
    have hcz30_2 : w14.cell? ⟨gb1181, 2, none⟩ = some (.slice Ao11 t1173.length co11) := (blk_cell BK1181.out 2).trans rfl
    have hfz30_0 := blk_frozen BK1181.out 0
    have hfz30_1 := blk_frozen BK1181.out 1
    have hfz30_2 := blk_frozen BK1181.out 2
    go_wp2_with (first | ((with_reducible refine gate_callee (f := 24) rfl ?_); refine goesL_ (some 22) rfl rfl Try.func24 oK rfl #[.agg #[.int .i64 t1171, .int .i64 t1172, .slice Ao11 t1173.length co11]] rfl oA ?_; (with_reducible refine (spec_RasOk.calls k t1171 t1172 _ _ t1173 false _ ?side1 ?side2 A18.out).mono ?_); (case side1 => refine (Kd.Q_reads' (e := 38) (base := w.heap.size) (ok := fun k_ => (True ∧ k_ ≠ gb1187)) (n := t1173.length) (c := co11) ?_).2.2; exact (by (with_reducible repeat (first | apply Kd.Q_alloc | apply Kd.Q_drewN | apply Kd.Q_drew)); exact (Kd.Q_mono (Kd.Q_far (p := ⟨gb1187, 3, none⟩) (Kd.Q_far (p := ⟨gb1187, 2, none⟩) (Kd.Q_far (p := ⟨gb1187, 1, none⟩) (Kd.Q_far (p := ⟨gb1187, 0, none⟩) (Kd.Q_mono HO1175.out (fun k_ hk => (⟨hk, hk.2⟩ : _ ∧ k_ ≠ gb1187))) oX2 (.int .i64 t1183)) oX2 (.int .i64 t1184)) oX2 (.int .i64 t1185)) oX2 (.int .i64 t1186)) (fun _ h_ => h_.1)))); (case side2 => exact (Kd.Q_reads' HO1175.out).2.1); rintro e w31 ⟨rfl, hb⟩; refine ⟨_, rfl, ?_⟩; have n_ := o2_ (Kd.Q_below (by (with_reducible repeat (first | apply Kd.Q_alloc | apply Kd.Q_drewN | apply Kd.Q_drew)); exact (Kd.Q_mono (Kd.Q_far (p := ⟨gb1187, 3, none⟩) (Kd.Q_far (p := ⟨gb1187, 2, none⟩) (Kd.Q_far (p := ⟨gb1187, 1, none⟩) (Kd.Q_far (p := ⟨gb1187, 0, none⟩) (Kd.Q_mono HO1175.out (fun k_ hk => (⟨hk, hk.2⟩ : _ ∧ k_ ≠ gb1187))) oX2 (.int .i64 t1183)) oX2 (.int .i64 t1184)) oX2 (.int .i64 t1185)) oX2 (.int .i64 t1186)) (fun _ h_ => h_.1))) hb) (o2_ (blk_below (oP BK1181) hb) (o2_ (blk_below (oP BK1182) hb) (o2_ (blk_below (g := gb1187) (o := .cells #[.int .i64 t1183, .int .i64 t1184, .int .i64 t1185, .int .i64 t1186] 38 (0, 0)) (blk_put (blk_put (blk_put (blk_put BK1187.out 0 _ rfl) 1 _ rfl) 2 _ rfl) 3 _ rfl) hb) (o1_ (below_step (oB HB) hb))))); clear HO1175 BK1181 BK1182 BK1187 HB; obtain ⟨HO1175, BK1181, BK1182, BK1187, HB⟩ := n_; (try clear hb); (try clear hb2); (try clear hk); (try clear hi)))
    go_meet
    case rel => exact ⟨_, (true), (by first | rfl | (simp; done) | (simp [*]; done)), H', ⟨(by first | omega | exact Nat.le_refl _)⟩, ⟨(by (with_reducible repeat (first | apply Kd.Q_alloc | apply Kd.Q_drewN | apply Kd.Q_drew)); exact Kd.Q_mono HO1175.out oX2)⟩, ⟨(oP BK1181)⟩, ⟨(oP BK1182)⟩, ⟨(oP BK1187)⟩, ⟨(oB HB)⟩⟩
  case rest =>
   clear HC5
   try clear c1
   try clear c2
   try clear c2b0
   try clear c2b1
   try clear p2
   try clear c9
   try clear c15
   try clear c16
   try clear c18
   try clear c19
   try clear c21
   try clear c22
   try clear c24
   try clear c25
   try clear c28
   try clear c29
   try clear hcz10_0
   try clear hcz10_1
   try clear hcz10_2
   try clear hcz12_0
   try clear hcz12_1
   try clear hcz12_2
   try clear hcz12_3
   try clear hcz12_4
   try clear hcz17_0
   try clear hcz17_1
   try clear hcz17_2
   try clear hcz17_3
   try clear hcz23_0
   try clear hcz23_1
   try clear hcz23_2
   try clear hcz26_0
   try clear hcz26_1
   try clear hcz26_2
   try clear hcz26_3
   try clear hcz30_0
   try clear hcz30_1
   try clear hcz30_2
   try clear hfz10_0
   try clear hfz10_1
   try clear hfz10_2
   try clear hfz12_0
   try clear hfz12_1
   try clear hfz12_2
   try clear hfz12_3
   try clear hfz12_4
   try clear hfz17_0
   try clear hfz17_1
   try clear hfz17_2
   try clear hfz17_3
   try clear hfz23_0
   try clear hfz23_1
   try clear hfz23_2
   try clear hfz26_0
   try clear hfz26_1
   try clear hfz26_2
   try clear hfz26_3
   try clear hfz30_0
   try clear hfz30_1
   try clear hfz30_2
   obtain ⟨kq, x28_4, rfl, HA, HJ4, HO_1182002, BK1181, BK1182, BK1187, HB⟩ := hcut
   cases kq with
   | zero => exact nomatch (show none = some _ from HA.out)
   | succ kj4 =>
    have H := HA.out
    clear HA
    simp only [laws_FnOpFlat.j0] at H
    by_cases c32 : x28_4 = true
    ·subst c32
     rw [if_pos rfl] at H
     replace H := Option.bind_eq_some_iff.mp H
     obtain ⟨t1190, A330, H⟩ := H
     (try dsimp only at H)
     have A33 := Aside0.mk A330
     clear A330
     replace H := Option.bind_eq_some_iff.mp H
     obtain ⟨t1191, A340, H⟩ := H
     (try dsimp only at H)
     have A34 := Aside0.mk A340
     clear A340
     by_cases c35 : (t1190 == t1191) = true
     ·rw [if_pos c35] at H
      have c35b0 : (t1190 == t1191) = true := c35
      (try (have c35b1 : decide (t1190 = t1191) = true := by simpa using c35))
      (try (have c35b2 : (t1190 == t1191) = true := by simpa using c35))
      clear c35
      replace H := Option.bind_eq_some_iff.mp H
      obtain ⟨t1192, A360, H⟩ := H
      (try dsimp only at H)
      have A36 := Aside0.mk A360
      clear A360
      obtain rfl := Option.some.inj H
      try go_wp2
      have n_ := o2_ (Kd.Q_drew HO_1182002.out) (o2_ (blk_drew BK1181.out) (o2_ (blk_drew BK1182.out) (o2_ (blk_drew BK1187.out) (o1_ (below_drew1 HB.out)))))
      clear HO_1182002 BK1181 BK1182 BK1187 HB
      obtain ⟨HO_1182002, BK1181, BK1182, BK1187, HB⟩ := n_
      refine start_ (n := 9) (S := fun w' => w'.cell? ⟨gb1181, 0, none⟩ = some (.int .i64 t1171) ∧ w'.cell? ⟨gb1181, 1, none⟩ = some (.int .i64 t1172) ∧ w'.cell? ⟨gb1181, 2, none⟩ = some (.slice Ao11 t1173.length co11)) (ds := []) #[false, false, false, false, false, false, false, false, false] oK rfl rfl ⟨(blk_cell BK1181.out 0).trans rfl, (blk_cell BK1181.out 1).trans rfl, (blk_cell BK1181.out 2).trans rfl⟩ (fun hHeld => ?_); refine with_tabW laws_FnOpFlat.tab6 laws_FnOpFlat.bits6 (fun HT_ HW_ => ?_)
      generalize wc.drew = w37 at HO_1182002 BK1181 BK1182 BK1187 HB hHeld ⊢
      refine take_ (i := 0) (N := some 29) (v := ?_) (a' := ?_) #[true, false, false, false, false, false, false, false, false] rfl rfl (take_ofW HT_.out HW_.out oK) (fun _ _ _ h => h) (Or.inl ⟨by rfl, ?_⟩) hHeld ?_ ?_
      rotate_left
      ·rintro w' ⟨s0, s1, s2⟩
       go_simp
       with_reducible rfl
      rotate_left
      ·simp only [Act.put, List.setIfInBounds_toArray, List.set_cons_zero, List.set_cons_succ, i64_w, i32_w]
       rfl
      refine take_ (i := 2) (N := some 31) (v := ?_) (a' := ?_) #[true, false, true, false, false, false, false, false, false] rfl rfl (take_ofW HT_.out HW_.out oK) (fun _ _ _ h => h) (Or.inl ⟨by rfl, ?_⟩) hHeld ?_ ?_
      rotate_left
      ·rintro w' ⟨s0, s1, s2⟩
       go_simp
       with_reducible rfl
      rotate_left
      ·simp only [Act.put, List.setIfInBounds_toArray, List.set_cons_zero, List.set_cons_succ, i64_w, i32_w]
       rfl
      refine one_ (i := 1) (N := some 30) #[true, true, true, false, false, false, false, false, false] rfl rfl (one_of HT_.out oK) oD (fun K hK => ?_)
      refine goes_ Try.func26 oK rfl #[.agg #[.int .i64 t1171, .int .i64 t1172, .slice Ao11 t1173.length co11]] (by rfl) rfl rfl oA ?_
      with_reducible refine (impl_RasOk.calls kj4 t1171 t1172 _ _ t1173 t1190 _ ?side1 ?side2 A33.out).mono ?_
      (case side1 => repeat (first | exact (Kd.Q_reads' HO_1182002.out).2.2 | (with_reducible refine Kd.C_alloc ?_ _) | (with_reducible refine Kd.C_drewN ?_ _) | (with_reducible refine Kd.C_drew ?_)))
      (case side2 => exact (Kd.Q_reads' HO_1182002.out).2.1)
      rintro e w38 ⟨rfl, hb⟩
      refine ⟨_, rfl, ?_⟩
      have n_ := o2_ (Kd.Q_below (oQ HO_1182002) hb) (o2_ (blk_below (oP BK1181) hb) (o2_ (blk_below (oP BK1182) hb) (o2_ (blk_below (oP BK1187) hb) (o1_ (below_step (oB HB) hb)))))
      clear HO_1182002 BK1181 BK1182 BK1187 HB
      obtain ⟨HO_1182002, BK1181, BK1182, BK1187, HB⟩ := n_
      (try clear hb)
      (try clear hb2)
      (try clear hk)
      (try clear hi)
      refine hK.out _ _ ⟨(blk_cell BK1181.out 0).trans rfl, (blk_cell BK1181.out 1).trans rfl, (blk_cell BK1181.out 2).trans rfl⟩ (fun hHeld => ?_)
      clear hK K
      refine norm_ (a' := ?_) ?_ ?_
      rotate_left
      ·show Act.put _ (some 30) _ = _
       simp only [Act.put, List.setIfInBounds_toArray, List.set_cons_zero, List.set_cons_succ, i64_w, i32_w]
       rfl
      refine one_ (i := 3) (N := some 32) #[true, true, true, true, false, false, false, false, false] rfl rfl (one_of HT_.out oK) oD (fun K hK => ?_)
      refine goes_ Try.func24 oK rfl #[.agg #[.int .i64 t1171, .int .i64 t1172, .slice Ao11 t1173.length co11]] (by rfl) rfl rfl oA ?_
      with_reducible refine (spec_RasOk.calls kj4 t1171 t1172 _ _ t1173 t1191 _ ?side1 ?side2 A34.out).mono ?_
      (case side1 => repeat (first | exact (Kd.Q_reads' HO_1182002.out).2.2 | (with_reducible refine Kd.C_alloc ?_ _) | (with_reducible refine Kd.C_drewN ?_ _) | (with_reducible refine Kd.C_drew ?_)))
      (case side2 => exact (Kd.Q_reads' HO_1182002.out).2.1)
      rintro e w39 ⟨rfl, hb⟩
      refine ⟨_, rfl, ?_⟩
      have n_ := o2_ (Kd.Q_below (oQ HO_1182002) hb) (o2_ (blk_below (oP BK1181) hb) (o2_ (blk_below (oP BK1182) hb) (o2_ (blk_below (oP BK1187) hb) (o1_ (below_step (oB HB) hb)))))
      clear HO_1182002 BK1181 BK1182 BK1187 HB
      obtain ⟨HO_1182002, BK1181, BK1182, BK1187, HB⟩ := n_
      (try clear hb)
      (try clear hb2)
      (try clear hk)
      (try clear hi)
      refine hK.out _ _ ⟨(blk_cell BK1181.out 0).trans rfl, (blk_cell BK1181.out 1).trans rfl, (blk_cell BK1181.out 2).trans rfl⟩ (fun hHeld => ?_)
      clear hK K
      refine norm_ (a' := ?_) ?_ ?_
      rotate_left
      ·show Act.put _ (some 32) _ = _
       simp only [Act.put, List.setIfInBounds_toArray, List.set_cons_zero, List.set_cons_succ, i64_w, i32_w]
       rfl
      refine pure_ (i := 4) (N := some 33) (v := ?_) (a' := ?_) #[true, true, true, true, true, false, false, false, false] rfl rfl (any_of HT_.out oK) (fun _ _ _ h => h) (Or.inl ⟨by rfl, ?_⟩) ?_ ?_
      rotate_left
      ·intro w'
       go_simp
       with_reducible rfl
      rotate_left
      ·simp only [Act.put, List.setIfInBounds_toArray, List.set_cons_zero, List.set_cons_succ, i64_w, i32_w]
       rfl
      refine pure_ (i := 5) (N := some 34) (v := ?_) (a' := ?_) #[true, true, true, true, true, true, false, false, false] rfl rfl (any_of HT_.out oK) (fun _ _ _ h => h) (Or.inl ⟨by rfl, ?_⟩) ?_ ?_
      rotate_left
      ·intro w'
       go_simp
       with_reducible rfl
      rotate_left
      ·simp only [Act.put, List.setIfInBounds_toArray, List.set_cons_zero, List.set_cons_succ, i64_w, i32_w]
       rfl
      refine one_ (i := 6) (N := some 35) #[true, true, true, true, true, true, true, false, false] rfl rfl (one_of HT_.out oK) oD (fun K hK => ?_)
      refine goes_ Try.func25 oK rfl #[] (by rfl) rfl rfl oA ?_
      with_reducible refine (laws_eaOk.calls  t1192 _ A36.out).mono ?_
      rintro e w40 ⟨rfl, hb⟩
      refine ⟨_, rfl, ?_⟩
      have n_ := o2_ (Kd.Q_below (oQ HO_1182002) hb) (o2_ (blk_below (oP BK1181) hb) (o2_ (blk_below (oP BK1182) hb) (o2_ (blk_below (oP BK1187) hb) (o1_ (below_step (oB HB) hb)))))
      clear HO_1182002 BK1181 BK1182 BK1187 HB
      obtain ⟨HO_1182002, BK1181, BK1182, BK1187, HB⟩ := n_
      (try clear hb)
      (try clear hb2)
      (try clear hk)
      (try clear hi)
      refine hK.out _ _ ⟨(blk_cell BK1181.out 0).trans rfl, (blk_cell BK1181.out 1).trans rfl, (blk_cell BK1181.out 2).trans rfl⟩ (fun hHeld => ?_)
      clear hK K
      refine norm_ (a' := ?_) ?_ ?_
      rotate_left
      ·show Act.put _ (some 35) _ = _
       simp only [Act.put, List.setIfInBounds_toArray, List.set_cons_zero, List.set_cons_succ, i64_w, i32_w]
       rfl
      refine pure_ (i := 7) (N := some 36) (v := ?_) (a' := ?_) #[true, true, true, true, true, true, true, true, false] rfl rfl (any_of HT_.out oK) (fun _ _ _ h => h) (Or.inl ⟨by rfl, ?_⟩) ?_ ?_
      rotate_left
      ·intro w'
       go_simp
       with_reducible rfl
      rotate_left
      ·simp only [Act.put, List.setIfInBounds_toArray, List.set_cons_zero, List.set_cons_succ, i64_w, i32_w]
       rfl
      refine pure_ (i := 8) (N := some 2) (v := ?_) (a' := ?_) #[true, true, true, true, true, true, true, true, true] rfl rfl (any_of HT_.out oK) (fun _ _ _ h => h) (Or.inl ⟨by rfl, ?_⟩) ?_ ?_
      rotate_left
      ·intro w'
       go_simp
       with_reducible rfl
      rotate_left
      ·simp only [Act.put, List.setIfInBounds_toArray, List.set_cons_zero, List.set_cons_succ, i64_w, i32_w]
       rfl
      refine done_ (done_of HT_.out oK) ?_
      try go_wp2
      go_ret
      exact ⟨by first | rfl | (simp [errW_none, errW_some] <;> rfl) | (simp [*, errW_none, errW_some] <;> rfl), oB HB⟩
     ·rw [if_neg c35] at H
      have c35b0 : (t1190 == t1191) = false := by simpa using c35
      (try (have c35b1 : decide (t1190 = t1191) = false := by simpa using c35))
      (try (have c35b2 : (t1190 == t1191) = false := by simpa using c35))
      (try (have c35b3 : ¬ (t1190 = t1191) := by simpa using c35))
      clear c35
      exact absurd H (by simp)
    ·replace c32 := Bool.eq_false_iff.mpr c32
     subst c32
     rw [if_neg (show ¬ (false = true) by decide)] at H
     obtain ⟨y1194, hy1194⟩ : ∃ y_ : List (S27), y_ = (([(⟨8, t1183, t1184, t1185, 0⟩ : S27)] : List (S27))) := ⟨_, rfl⟩
     replace H : ((laws_eaDo.f kj4 t1171 t1172 t1173 y1194).bind fun bt1197 => ((impl_RasOk.f kj4 bt1197.1 bt1197.2.1 bt1197.2.2).bind fun t1203 => (if t1203 = true then ((laws_eaDo.f kj4 bt1197.1 bt1197.2.1 bt1197.2.2 (([(⟨8, t1183, t1184, t1185, 0⟩ : S27)] : List (S27)))).bind fun bt1207 => ((laws_eaRas.f kj4 bt1207.1 bt1207.2.1 bt1207.2.2 bt1197.1 bt1197.2.1 bt1197.2.2).bind fun t1212 => (laws_FnOpFlat.j1 kj4 (!t1212) t1171 t1172 t1173 t1183 t1184 t1185 t1186 bt1197.1 bt1197.2.1 bt1197.2.2))) else (laws_FnOpFlat.j1 kj4 true t1171 t1172 t1173 t1183 t1184 t1185 t1186 bt1197.1 bt1197.2.1 bt1197.2.2)))) = some r := by first | (rw [hy1194]; with_reducible exact H) | (have H2_ := (Option.bind_some _ _).symm.trans H; rw [hy1194]; with_reducible exact H2_) | (have H2_ := (Option.bind_some _ _).symm.trans H; with_reducible exact H2_) | with_reducible exact H | (rw [hy1194]; exact H) | exact H
     have Ny1194 := Aside0.mk hy1194
     clear hy1194
     replace H := Option.bind_eq_some_iff.mp H
     obtain ⟨⟨t1197, t1198, t1199⟩, A410, H⟩ := H
     (try dsimp only at H)
     have A41 := Aside0.mk A410
     clear A410
     have HC42 := Aside0.mk H
     clear H
     have hnb43 := NB1187_1181.out
     have hnc43 := NB1181_1187.out
     have hnb44 := NB1187_1182.out
     have hnc44 := NB1182_1187.out
     have hcz45_0 : wc.cell? ⟨gb1187, 0, none⟩ = some (.int .i64 t1183) := (blk_cell BK1187.out 0).trans rfl
     have hcz45_1 : wc.cell? ⟨gb1187, 1, none⟩ = some (.int .i64 t1184) := (blk_cell BK1187.out 1).trans rfl
     have hcz45_2 : wc.cell? ⟨gb1187, 2, none⟩ = some (.int .i64 t1185) := (blk_cell BK1187.out 2).trans rfl
     have hcz45_3 : wc.cell? ⟨gb1187, 3, none⟩ = some (.int .i64 t1186) := (blk_cell BK1187.out 3).trans rfl
     have hfz45_0 := blk_frozen BK1187.out 0
     have hfz45_1 := blk_frozen BK1187.out 1
     have hfz45_2 := blk_frozen BK1187.out 2
     have hfz45_3 := blk_frozen BK1187.out 3
     go_upto_region 9 with (first | ((with_reducible refine gate_dst (N := 6) rfl ?_); (try (refine gate_guard (by rfl) ?_; dsimp only)); refine box_event ?hg (N := 6) ?hd (cs := #[.int .i64 0, .int .i64 0, .int .i64 0, .int .i64 0, .int .i64 0]) (t := 27) ?hr ?_; (case hd => rfl); (case hg => rfl); (case hr => first | (go_simp; done) | (go_simp; rfl)); intro gb1193 hg w46 hbox hb; have n_ := o2_ (Kd.Q_below (oQ HO_1182002) hb) (o2_ (blk_below (oP BK1181) hb) (o2_ (blk_below (oP BK1182) hb) (o2_ (blk_below (oP BK1187) hb) (o2_ (below_step (oB HB) hb) (o2_ (hbox) (o2_ ((oG hg (below_size (oB HB)) : w.heap.size ≤ gb1193)) (o2_ ((oG hg (below_size (oB HB)) : w.heap.size ≤ gb1193)) (o2_ ((oL hg (blk_lt (oP BK1181)))) (o2_ ((oN hg (blk_lt (oP BK1181)))) (o2_ ((oL hg (blk_lt (oP BK1182)))) (o2_ ((oN hg (blk_lt (oP BK1182)))) (o2_ ((oL hg (blk_lt (oP BK1187)))) (o1_ ((oN hg (blk_lt (oP BK1187))))))))))))))))); clear HO_1182002 BK1181 BK1182 BK1187 HB; obtain ⟨HO_1182002, BK1181, BK1182, BK1187, HB, BK1193, GW1193, GE1193, NB1181_1193, NB1193_1181, NB1182_1193, NB1193_1182, NB1187_1193, NB1193_1187⟩ := n_; clear hb hbox hg; have hnb47 := NB1193_1181.out; have hnc47 := NB1181_1193.out; have hnb48 := NB1193_1182.out; have hnc48 := NB1182_1193.out; have hnb49 := NB1193_1187.out; have hnc49 := NB1187_1193.out; have hcz50_0 : w46.cell? ⟨gb1193, 0, none⟩ = some (.int .i64 0) := (blk_cell BK1193.out 0).trans rfl; have hcz50_1 : w46.cell? ⟨gb1193, 1, none⟩ = some (.int .i64 0) := (blk_cell BK1193.out 1).trans rfl; have hcz50_2 : w46.cell? ⟨gb1193, 2, none⟩ = some (.int .i64 0) := (blk_cell BK1193.out 2).trans rfl; have hcz50_3 : w46.cell? ⟨gb1193, 3, none⟩ = some (.int .i64 0) := (blk_cell BK1193.out 3).trans rfl; have hcz50_4 : w46.cell? ⟨gb1193, 4, none⟩ = some (.int .i64 0) := (blk_cell BK1193.out 4).trans rfl; have hfz50_0 := blk_frozen BK1193.out 0; have hfz50_1 := blk_frozen BK1193.out 1; have hfz50_2 := blk_frozen BK1193.out 2; have hfz50_3 := blk_frozen BK1193.out 3; have hfz50_4 := blk_frozen BK1193.out 4; have hnb51 := NB1181_1182.out; have hnc51 := NB1182_1181.out; have hcz52_0 : w46.cell? ⟨gb1181, 0, none⟩ = some (.int .i64 t1171) := (blk_cell BK1181.out 0).trans rfl; have hcz52_1 : w46.cell? ⟨gb1181, 1, none⟩ = some (.int .i64 t1172) := (blk_cell BK1181.out 1).trans rfl; have hcz52_2 : w46.cell? ⟨gb1181, 2, none⟩ = some (.slice Ao11 t1173.length co11) := (blk_cell BK1181.out 2).trans rfl; have hfz52_0 := blk_frozen BK1181.out 0; have hfz52_1 := blk_frozen BK1181.out 1; have hfz52_2 := blk_frozen BK1181.out 2) | ((with_reducible refine gate_dst (N := 46) rfl ?_); (try (refine gate_guard (by rfl) ?_; dsimp only)); refine Kd.R_lit k27 _ 27 ?hg (N := 46) ?hd (xs := ([(⟨8, t1183, t1184, t1185, 0⟩ : S27)] : List (S27))) (inner := [.int .i64 8, .int .i64 t1183, .int .i64 t1184, .int .i64 t1185, .int .i64 0]) (ok := fun _ => True) (okp := fun _ => True) ?hr ?hp (fun _ hk => hk) trivial (Below.refl _ _) (Nat.le_refl _) (by simp) ?_; (case hd => rfl); (case hg => rfl); (case hr => first | (go_simp; done) | (go_simp; rfl)); (case hp => exact (Reps.c5 (show Kd.M k27 _ _ _ (⟨8, t1183, t1184, t1185, 0⟩ : S27) [.int .i64 8, .int .i64 t1183, .int .i64 t1184, .int .i64 t1185, .int .i64 0] from (k27_mkM _ _ _ (⟨8, t1183, t1184, t1185, 0⟩ : S27) )) (Reps.none _ _))); intro v1195 w53 ho54 hb hg_ hnew_; clear hg_ hnew_; (first | rw [← Ny1194.out] at ho54 | (simp only [Int.reduceToNat] at ho54; rw [← Ny1194.out] at ho54)); have n_ := o2_ (Kd.Q_below (by (with_reducible repeat (first | apply Kd.Q_alloc | apply Kd.Q_drewN | apply Kd.Q_drew)); exact (Kd.Q_mono (Kd.Q_far (p := ⟨gb1193, 4, none⟩) (Kd.Q_far (p := ⟨gb1193, 3, none⟩) (Kd.Q_far (p := ⟨gb1193, 2, none⟩) (Kd.Q_far (p := ⟨gb1193, 1, none⟩) (Kd.Q_far (p := ⟨gb1193, 0, none⟩) (Kd.Q_types HO_1182002.out BK1193.out oD) oX2 (.int .i64 8)) oX2 (.int .i64 t1183)) oX2 (.int .i64 t1184)) oX2 (.int .i64 t1185)) oX2 (.int .i64 0)) (fun _ h_ => h_.1))) hb) (o2_ (Kd.R_lower (Kd.R_newB (Kd.R_newB ho54 (oP BK1182)) (g := gb1193) (o := .cells #[.int .i64 8, .int .i64 t1183, .int .i64 t1184, .int .i64 t1185, .int .i64 0] 27 (0, 0)) (blk_put (blk_put (blk_put (blk_put (blk_put BK1193.out 0 _ rfl) 1 _ rfl) 2 _ rfl) 3 _ rfl) 4 _ rfl)) (below_size (oB HB))) (o2_ (blk_below (oP BK1181) hb) (o2_ (blk_below (oP BK1182) hb) (o2_ (blk_below (oP BK1187) hb) (o2_ (blk_below (g := gb1193) (o := .cells #[.int .i64 8, .int .i64 t1183, .int .i64 t1184, .int .i64 t1185, .int .i64 0] 27 (0, 0)) (blk_put (blk_put (blk_put (blk_put (blk_put BK1193.out 0 _ rfl) 1 _ rfl) 2 _ rfl) 3 _ rfl) 4 _ rfl) hb) (o1_ (below_step (oB HB) hb))))))); clear HO_1182002 BK1181 BK1182 BK1187 BK1193 HB; obtain ⟨HO_1182002, HO1196, BK1181, BK1182, BK1187, BK1193, HB⟩ := n_; clear hb ho54; obtain ⟨Ao55, co55, eo55⟩ := Kd.R_slice HO1196.out; subst eo55) | ((with_reducible refine gate_callee (f := 27) rfl ?_); refine goesL_ (some 47) rfl rfl Try.func27 oK rfl #[.agg #[.int .i64 t1171, .int .i64 t1172, .slice Ao11 t1173.length co11], .slice Ao55 y1194.length co55] rfl oA ?_; (with_reducible refine (laws_eaDo.calls kj4 t1171 t1172 (fun k_ => some k_ = (.slice Ao11 t1173.length co11 : Value).ownBlock) _ _ t1173 _ _ y1194 t1197 t1198 t1199 _ ?side1 ?side2 ?side3 A41.out).mono ?_); (case side1 => exact Kd.Q_V (Kd.Q_tight rfl (Kd.Q_types (Kd.Q_types (Kd.Q_types (Kd.Q_apart' (HO_1182002.out) (Kd.R_typed HO1196.out) oD) BK1181.out oD) BK1182.out oD) BK1193.out oD))); (case side2 => repeat (first | exact (Kd.R_reads' HO1196.out).2.2 | (with_reducible refine Kd.C_alloc ?_ _) | (with_reducible refine Kd.C_drewN ?_ _) | (with_reducible refine Kd.C_drew ?_))); (case side3 => exact (Kd.R_reads' HO1196.out).2.1); rintro e w56 ⟨v1200, rfl, ho0, hb⟩; refine ⟨_, rfl, ?_⟩; have hq_ := (Kd.Q_types (Kd.Q_types (Kd.Q_types (Kd.Q_apart' (HO_1182002.out) (Kd.R_typed HO1196.out) oD) BK1181.out oD) BK1182.out oD) BK1193.out oD); have n_ := o2_ (Kd.Q_below (oQ HO_1182002) hb) (o2_ (Kd.R_below (oR HO1196) hb) (o2_ (Kd.V_lower (Kd.V_mono (ok' := fun k_ => some k_ ≠ (.slice Ao55 y1194.length co55 : Value).ownBlock ∧ k_ ≠ gb1181 ∧ k_ ≠ gb1182 ∧ k_ ≠ gb1187 ∧ k_ ≠ gb1193) ho0 (fun k_ hk_ => ⟨Or.elim hk_ (fun hs_ => (hq_.1 k_ hs_.symm).1.1.1.2) (fun hn_ => (Kd.fresh' (Kd.R_lt (oR HO1196)) k_ hn_)), Or.elim hk_ (fun hs_ => (hq_.1 k_ hs_.symm).1.1.2) (fun hn_ => (Kd.freshB (oP BK1181) k_ hn_)), Or.elim hk_ (fun hs_ => (hq_.1 k_ hs_.symm).1.2) (fun hn_ => (Kd.freshB (oP BK1182) k_ hn_)), Or.elim hk_ (fun hs_ => (hq_.1 k_ hs_.symm).1.1.1.1) (fun hn_ => (Kd.freshB (oP BK1187) k_ hn_)), Or.elim hk_ (fun hs_ => (hq_.1 k_ hs_.symm).2) (fun hn_ => (Kd.freshB (oP BK1193) k_ hn_))⟩)) (below_size (oB HB))) (o2_ (blk_below (oP BK1181) hb) (o2_ (blk_below (oP BK1182) hb) (o2_ (blk_below (oP BK1187) hb) (o2_ (blk_below (oP BK1193) hb) (o1_ (below_step (oB HB) hb)))))))); clear HO_1182002 HO1196 BK1181 BK1182 BK1187 BK1193 HB; obtain ⟨HO_1182002, HO1196, HO1201, BK1181, BK1182, BK1187, BK1193, HB⟩ := n_; clear hq_; (try clear hb); (try clear hb2); (try clear hk); (try clear hi); (try clear ho0)) | ((with_reducible refine gate_dst (N := 7) rfl ?_); (try (refine gate_guard (by rfl) ?_; dsimp only)); refine box_event ?hg (N := 7) ?hd (cs := #[.int .i64 0, .int .i64 0, .slice none 0 0]) (t := 25) ?hr ?_; (case hd => rfl); (case hg => rfl); (case hr => first | (go_simp; done) | (go_simp; rfl)); intro gb1202 hg w57 hbox hb; have n_ := o2_ (Kd.Q_below (oQ HO_1182002) hb) (o2_ (Kd.R_below (oR HO1196) hb) (o2_ (Kd.V_below (Kd.V_elderB (oV HO1201) gb1202 (Nat.le_of_eq hg.symm)) hb) (o2_ (blk_below (oP BK1181) hb) (o2_ (blk_below (oP BK1182) hb) (o2_ (blk_below (oP BK1187) hb) (o2_ (blk_below (oP BK1193) hb) (o2_ (below_step (oB HB) hb) (o2_ (hbox) (o2_ ((oG hg (below_size (oB HB)) : w.heap.size ≤ gb1202)) (o2_ ((oG hg (below_size (oB HB)) : w.heap.size ≤ gb1202)) (o2_ ((oL hg (blk_lt (oP BK1181)))) (o2_ ((oN hg (blk_lt (oP BK1181)))) (o2_ ((oL hg (blk_lt (oP BK1182)))) (o2_ ((oN hg (blk_lt (oP BK1182)))) (o2_ ((oL hg (blk_lt (oP BK1187)))) (o2_ ((oN hg (blk_lt (oP BK1187)))) (o2_ ((oL hg (blk_lt (oP BK1193)))) (o1_ ((oN hg (blk_lt (oP BK1193)))))))))))))))))))))); clear HO_1182002 HO1196 HO1201 BK1181 BK1182 BK1187 BK1193 HB; obtain ⟨HO_1182002, HO1196, HO1201, BK1181, BK1182, BK1187, BK1193, HB, BK1202, GW1202, GE1202, NB1181_1202, NB1202_1181, NB1182_1202, NB1202_1182, NB1187_1202, NB1202_1187, NB1193_1202, NB1202_1193⟩ := n_; clear hb hbox hg; have hnb58 := NB1202_1181.out; have hnc58 := NB1181_1202.out; have hnb59 := NB1202_1182.out; have hnc59 := NB1182_1202.out; have hnb60 := NB1202_1187.out; have hnc60 := NB1187_1202.out; have hnb61 := NB1202_1193.out; have hnc61 := NB1193_1202.out; have hcz62_0 : w57.cell? ⟨gb1202, 0, none⟩ = some (.int .i64 0) := (blk_cell BK1202.out 0).trans rfl; have hcz62_1 : w57.cell? ⟨gb1202, 1, none⟩ = some (.int .i64 0) := (blk_cell BK1202.out 1).trans rfl; have hcz62_2 : w57.cell? ⟨gb1202, 2, none⟩ = some (.slice none 0 0) := (blk_cell BK1202.out 2).trans rfl; have hfz62_0 := blk_frozen BK1202.out 0; have hfz62_1 := blk_frozen BK1202.out 1; have hfz62_2 := blk_frozen BK1202.out 2; obtain ⟨Ao63, co63, eo63⟩ := Kd.V_slice HO1201.out; subst eo63))
     (try simp only [Act.put, List.setIfInBounds_toArray, List.set_cons_zero, List.set_cons_succ])
     go_cut [59] (fun v59 wc => ∃ (kq : Nat) (x59_41 : Bool), v59 = .bool x59_41 ∧ Aside0 (laws_FnOpFlat.j1 kq x59_41 t1171 t1172 t1173 t1183 t1184 t1185 t1186 t1197 t1198 t1199 = some r) ∧ Aside0 (kq ≤ kj4) ∧ Aside0 (Kd.Q k38 38 wc w.heap.size (fun k_ => k_ ≠ gb1187) (.slice Ao11 t1173.length co11) t1173) ∧ Aside0 (Kd.V k38 38 wc w.heap.size (fun k_ => k_ ≠ gb1181 ∧ k_ ≠ gb1182 ∧ k_ ≠ gb1187 ∧ k_ ≠ gb1193 ∧ k_ ≠ gb1202) (.slice Ao63 t1199.length co63) t1199) ∧ Aside0 (wc.heap[gb1181]? = some (.cells #[.int .i64 t1171, .int .i64 t1172, (.slice Ao11 t1173.length co11)] 25 (0, 0))) ∧ Aside0 (wc.heap[gb1182]? = some (.cells #[.int .i64 t1176, .int .i64 t1177, .int .i64 t1178, .int .i64 t1179, .int .i64 t1180] 27 (0, 0))) ∧ Aside0 (wc.heap[gb1187]? = some (.cells #[.int .i64 t1183, .int .i64 t1184, .int .i64 t1185, .int .i64 t1186] 38 (0, 0))) ∧ Aside0 (wc.heap[gb1193]? = some (.cells #[.int .i64 8, .int .i64 t1183, .int .i64 t1184, .int .i64 t1185, .int .i64 0] 27 (0, 0))) ∧ Aside0 (wc.heap[gb1202]? = some (.cells #[.int .i64 t1197, .int .i64 t1198, (.slice Ao63 t1199.length co63)] 25 (0, 0))) ∧ Aside0 (Below w.heap.size w wc))
     case first =>
      have H := HC42.out
      clear HC42
      replace H := Option.bind_eq_some_iff.mp H
      obtain ⟨t1203, A640, H⟩ := H
      (try dsimp only at H)
      have A64 := Aside0.mk A640
      clear A640
      by_cases c65 : t1203 = true
      ·subst c65
       rw [if_pos rfl] at H
       obtain ⟨y1204, hy1204⟩ : ∃ y_ : List (S27), y_ = (([(⟨8, t1183, t1184, t1185, 0⟩ : S27)] : List (S27))) := ⟨_, rfl⟩
       replace H : ((laws_eaDo.f kj4 t1197 t1198 t1199 y1204).bind fun bt1207 => ((laws_eaRas.f kj4 bt1207.1 bt1207.2.1 bt1207.2.2 t1197 t1198 t1199).bind fun t1212 => (laws_FnOpFlat.j1 kj4 (!t1212) t1171 t1172 t1173 t1183 t1184 t1185 t1186 t1197 t1198 t1199))) = some r := by first | (rw [hy1204]; with_reducible exact H) | (have H2_ := (Option.bind_some _ _).symm.trans H; rw [hy1204]; with_reducible exact H2_) | (have H2_ := (Option.bind_some _ _).symm.trans H; with_reducible exact H2_) | with_reducible exact H | (rw [hy1204]; exact H) | exact H
       have Ny1204 := Aside0.mk hy1204
       clear hy1204
       replace H := Option.bind_eq_some_iff.mp H
       obtain ⟨⟨t1207, t1208, t1209⟩, A660, H⟩ := H
       (try dsimp only at H)
       have A66 := Aside0.mk A660
       clear A660
       replace H := Option.bind_eq_some_iff.mp H
       obtain ⟨t1212, A670, H⟩ := H
       (try dsimp only at H)
       have A67 := Aside0.mk A670
       clear A670
       have H' := Aside0.mk H
       clear H
       try go_wp2
       have n0_ : Aside0 (Kd.Q k38 38 (((w57.setCell ⟨gb1202, 0, none⟩ (.int .i64 t1197)).setCell ⟨gb1202, 1, none⟩ (.int .i64 t1198)).setCell ⟨gb1202, 2, none⟩ (.slice Ao63 t1199.length co63)) w.heap.size (fun k_ => k_ ≠ gb1187) (.slice Ao11 t1173.length co11) t1173) := ⟨(by (with_reducible repeat (first | apply Kd.Q_alloc | apply Kd.Q_drewN | apply Kd.Q_drew)); exact Kd.Q_mono (Kd.Q_far (p := ⟨gb1202, 2, none⟩) (Kd.Q_far (p := ⟨gb1202, 1, none⟩) (Kd.Q_far (p := ⟨gb1202, 0, none⟩) (Kd.Q_types HO_1182002.out BK1202.out oD) oX2 (.int .i64 t1197)) oX2 (.int .i64 t1198)) oX2 (.slice Ao63 t1199.length co63)) oX1)⟩
       have n1_ : Aside0 (Kd.R k27 27 (((w57.setCell ⟨gb1202, 0, none⟩ (.int .i64 t1197)).setCell ⟨gb1202, 1, none⟩ (.int .i64 t1198)).setCell ⟨gb1202, 2, none⟩ (.slice Ao63 t1199.length co63)) w.heap.size (fun k_ => k_ ≠ gb1182 ∧ k_ ≠ gb1193) (.slice Ao55 y1194.length co55) y1194) := ⟨(by (with_reducible repeat (first | apply Kd.R_alloc | apply Kd.R_drewN | apply Kd.R_drew)); exact Kd.R_mono (Kd.R_far (p := ⟨gb1202, 2, none⟩) (Kd.R_far (p := ⟨gb1202, 1, none⟩) (Kd.R_far (p := ⟨gb1202, 0, none⟩) (Kd.R_types HO1196.out BK1202.out oD) oX2 (.int .i64 t1197)) oX2 (.int .i64 t1198)) oX2 (.slice Ao63 t1199.length co63)) (fun _ hk => by first | exact ⟨hk.1.1.2, hk.1.2⟩ | exact trivial | (revert hk; simp; done) | (simp_all; done)))⟩
       have n2_ : Aside0 (Kd.V k38 38 (((w57.setCell ⟨gb1202, 0, none⟩ (.int .i64 t1197)).setCell ⟨gb1202, 1, none⟩ (.int .i64 t1198)).setCell ⟨gb1202, 2, none⟩ (.slice Ao63 t1199.length co63)) w.heap.size (fun k_ => some k_ ≠ (.slice Ao55 y1194.length co55 : Value).ownBlock ∧ k_ ≠ gb1181 ∧ k_ ≠ gb1182 ∧ k_ ≠ gb1187 ∧ k_ ≠ gb1193 ∧ k_ ≠ gb1202) (.slice Ao63 t1199.length co63) t1199) := ⟨(by (with_reducible repeat (first | apply Kd.V_alloc | apply Kd.V_drewN | apply Kd.V_drew)); exact Kd.V_mono (Kd.V_far (p := ⟨gb1202, 2, none⟩) (Kd.V_far (p := ⟨gb1202, 1, none⟩) (Kd.V_far (p := ⟨gb1202, 0, none⟩) (Kd.V_mono HO1201.out (fun k_ hk => (⟨hk, hk.2⟩ : _ ∧ k_ ≠ gb1202))) oX2 (.int .i64 t1197)) oX2 (.int .i64 t1198)) oX2 (.slice Ao63 t1199.length co63)) (fun _ hk => by first | exact ⟨hk.1.1.1, ⟨hk.1.1.2.1, ⟨hk.1.1.2.2.1, ⟨hk.1.1.2.2.2.1, ⟨hk.1.1.2.2.2.2, hk.1.2⟩⟩⟩⟩⟩ | exact trivial | (revert hk; simp; done) | (simp_all; done)))⟩
       have n3_ : Aside0 ((((w57.setCell ⟨gb1202, 0, none⟩ (.int .i64 t1197)).setCell ⟨gb1202, 1, none⟩ (.int .i64 t1198)).setCell ⟨gb1202, 2, none⟩ (.slice Ao63 t1199.length co63)).heap[gb1181]? = some (.cells #[.int .i64 t1171, .int .i64 t1172, .slice Ao11 t1173.length co11] 25 (0, 0))) := ⟨(oP BK1181)⟩
       have n4_ : Aside0 ((((w57.setCell ⟨gb1202, 0, none⟩ (.int .i64 t1197)).setCell ⟨gb1202, 1, none⟩ (.int .i64 t1198)).setCell ⟨gb1202, 2, none⟩ (.slice Ao63 t1199.length co63)).heap[gb1182]? = some (.cells #[.int .i64 t1176, .int .i64 t1177, .int .i64 t1178, .int .i64 t1179, .int .i64 t1180] 27 (0, 0))) := ⟨(oP BK1182)⟩
       have n5_ : Aside0 ((((w57.setCell ⟨gb1202, 0, none⟩ (.int .i64 t1197)).setCell ⟨gb1202, 1, none⟩ (.int .i64 t1198)).setCell ⟨gb1202, 2, none⟩ (.slice Ao63 t1199.length co63)).heap[gb1187]? = some (.cells #[.int .i64 t1183, .int .i64 t1184, .int .i64 t1185, .int .i64 t1186] 38 (0, 0))) := ⟨(oP BK1187)⟩
       have n6_ : Aside0 ((((w57.setCell ⟨gb1202, 0, none⟩ (.int .i64 t1197)).setCell ⟨gb1202, 1, none⟩ (.int .i64 t1198)).setCell ⟨gb1202, 2, none⟩ (.slice Ao63 t1199.length co63)).heap[gb1193]? = some (.cells #[.int .i64 8, .int .i64 t1183, .int .i64 t1184, .int .i64 t1185, .int .i64 0] 27 (0, 0))) := ⟨(oP BK1193)⟩
       have n7_ : Aside0 ((((w57.setCell ⟨gb1202, 0, none⟩ (.int .i64 t1197)).setCell ⟨gb1202, 1, none⟩ (.int .i64 t1198)).setCell ⟨gb1202, 2, none⟩ (.slice Ao63 t1199.length co63)).heap[gb1202]? = some (.cells #[.int .i64 t1197, .int .i64 t1198, .slice Ao63 t1199.length co63] 25 (0, 0))) := ⟨(blk_put (blk_put (blk_put BK1202.out 0 _ rfl) 1 _ rfl) 2 _ rfl)⟩
       have n8_ : Aside0 (Below w.heap.size w (((w57.setCell ⟨gb1202, 0, none⟩ (.int .i64 t1197)).setCell ⟨gb1202, 1, none⟩ (.int .i64 t1198)).setCell ⟨gb1202, 2, none⟩ (.slice Ao63 t1199.length co63))) := ⟨(oB HB)⟩
       (try clear HO_1182002)
       (try clear HO1196)
       (try clear HO1201)
       (try clear BK1181)
       (try clear BK1182)
       (try clear BK1187)
       (try clear BK1193)
       (try clear BK1202)
       (try clear HB)
       generalize (((w57.setCell ⟨gb1202, 0, none⟩ (.int .i64 t1197)).setCell ⟨gb1202, 1, none⟩ (.int .i64 t1198)).setCell ⟨gb1202, 2, none⟩ (.slice Ao63 t1199.length co63)) = w68 at n0_ n1_ n2_ n3_ n4_ n5_ n6_ n7_ n8_ ⊢
       have HO_1182002 := n0_
       have HO1196 := n1_
       have HO1201 := n2_
       have BK1181 := n3_
       have BK1182 := n4_
       have BK1187 := n5_
       have BK1193 := n6_
       have BK1202 := n7_
       have HB := n8_
       clear n0_ n1_ n2_ n3_ n4_ n5_ n6_ n7_ n8_
       have n_ := o2_ (Kd.Q_drew HO_1182002.out) (o2_ (Kd.R_drew HO1196.out) (o2_ (Kd.V_drew HO1201.out) (o2_ (blk_drew BK1181.out) (o2_ (blk_drew BK1182.out) (o2_ (blk_drew BK1187.out) (o2_ (blk_drew BK1193.out) (o2_ (blk_drew BK1202.out) (o1_ (below_drew1 HB.out)))))))))
       clear HO_1182002 HO1196 HO1201 BK1181 BK1182 BK1187 BK1193 BK1202 HB
       obtain ⟨HO_1182002, HO1196, HO1201, BK1181, BK1182, BK1187, BK1193, BK1202, HB⟩ := n_
       refine start_ (n := 12) (S := fun w' => w'.cell? ⟨gb1202, 0, none⟩ = some (.int .i64 t1197) ∧ w'.cell? ⟨gb1202, 1, none⟩ = some (.int .i64 t1198) ∧ w'.cell? ⟨gb1202, 2, none⟩ = some (.slice Ao63 t1199.length co63) ∧ w'.cell? ⟨gb1193, 0, none⟩ = some (.int .i64 8) ∧ w'.cell? ⟨gb1193, 1, none⟩ = some (.int .i64 t1183) ∧ w'.cell? ⟨gb1193, 2, none⟩ = some (.int .i64 t1184) ∧ w'.cell? ⟨gb1193, 3, none⟩ = some (.int .i64 t1185) ∧ w'.cell? ⟨gb1193, 4, none⟩ = some (.int .i64 0)) (ds := []) #[false, false, false, false, false, false, false, false, false, false, false, false] oK rfl rfl ⟨(blk_cell BK1202.out 0).trans rfl, (blk_cell BK1202.out 1).trans rfl, (blk_cell BK1202.out 2).trans rfl, (blk_cell BK1193.out 0).trans rfl, (blk_cell BK1193.out 1).trans rfl, (blk_cell BK1193.out 2).trans rfl, (blk_cell BK1193.out 3).trans rfl, (blk_cell BK1193.out 4).trans rfl⟩ (fun hHeld => ?_); refine with_tabW laws_FnOpFlat.tab9 laws_FnOpFlat.bits9 (fun HT_ HW_ => ?_)
       generalize w68.drew = w69 at HO_1182002 HO1196 HO1201 BK1181 BK1182 BK1187 BK1193 BK1202 HB hHeld ⊢
       refine take_ (i := 0) (N := some 48) (v := ?_) (a' := ?_) #[true, false, false, false, false, false, false, false, false, false, false, false] rfl rfl (take_ofW HT_.out HW_.out oK) (fun _ _ _ h => h) (Or.inl ⟨by rfl, ?_⟩) hHeld ?_ ?_
       rotate_left
       ·rintro w' ⟨s0, s1, s2, s3, s4, s5, s6, s7⟩
        go_simp
        with_reducible rfl
       rotate_left
       ·simp only [Act.put, List.setIfInBounds_toArray, List.set_cons_zero, List.set_cons_succ, i64_w, i32_w]
        rfl
       refine one_ (i := 1) (N := some 49) #[true, true, false, false, false, false, false, false, false, false, false, false] rfl rfl (one_of HT_.out oK) oD (fun K hK => ?_)
       refine goes_ Try.func26 oK rfl #[.agg #[.int .i64 t1197, .int .i64 t1198, .slice Ao63 t1199.length co63]] (by rfl) rfl rfl oA ?_
       with_reducible refine (impl_RasOk.calls kj4 t1197 t1198 _ _ t1199 true _ ?side1 ?side2 A64.out).mono ?_
       (case side1 => repeat (first | exact (Kd.V_reads' HO1201.out).2.2 | (with_reducible refine Kd.C_alloc ?_ _) | (with_reducible refine Kd.C_drewN ?_ _) | (with_reducible refine Kd.C_drew ?_)))
       (case side2 => exact (Kd.V_reads' HO1201.out).2.1)
       rintro e w70 ⟨rfl, hb⟩
       refine ⟨_, rfl, ?_⟩
       have n_ := o2_ (Kd.Q_below (oQ HO_1182002) hb) (o2_ (Kd.R_below (oR HO1196) hb) (o2_ (Kd.V_below (oV HO1201) hb) (o2_ (blk_below (oP BK1181) hb) (o2_ (blk_below (oP BK1182) hb) (o2_ (blk_below (oP BK1187) hb) (o2_ (blk_below (oP BK1193) hb) (o2_ (blk_below (oP BK1202) hb) (o1_ (below_step (oB HB) hb)))))))))
       clear HO_1182002 HO1196 HO1201 BK1181 BK1182 BK1187 BK1193 BK1202 HB
       obtain ⟨HO_1182002, HO1196, HO1201, BK1181, BK1182, BK1187, BK1193, BK1202, HB⟩ := n_
       (try clear hb)
       (try clear hb2)
       (try clear hk)
       (try clear hi)
       refine hK.out _ _ ⟨(blk_cell BK1202.out 0).trans rfl, (blk_cell BK1202.out 1).trans rfl, (blk_cell BK1202.out 2).trans rfl, (blk_cell BK1193.out 0).trans rfl, (blk_cell BK1193.out 1).trans rfl, (blk_cell BK1193.out 2).trans rfl, (blk_cell BK1193.out 3).trans rfl, (blk_cell BK1193.out 4).trans rfl⟩ (fun hHeld => ?_)
       clear hK K
       refine norm_ (a' := ?_) ?_ ?_
       rotate_left
       ·show Act.put _ (some 49) _ = _
        simp only [Act.put, List.setIfInBounds_toArray, List.set_cons_zero, List.set_cons_succ, i64_w, i32_w]
        rfl
       refine pure_ (i := 2) (N := some 50) (v := ?_) (a' := ?_) #[true, true, true, false, false, false, false, false, false, false, false, false] rfl rfl (any_of HT_.out oK) (fun _ _ _ h => h) (Or.inl ⟨by rfl, ?_⟩) ?_ ?_
       rotate_left
       ·intro w'
        go_simp
        with_reducible rfl
       rotate_left
       ·simp only [Act.put, List.setIfInBounds_toArray, List.set_cons_zero, List.set_cons_succ, i64_w, i32_w]
        rfl
       refine pure_ (i := 3) (N := some 51) (v := ?_) (a' := ?_) #[true, true, true, true, false, false, false, false, false, false, false, false] rfl rfl (any_of HT_.out oK) (fun _ _ _ h => h) (Or.inl ⟨by rfl, ?_⟩) ?_ ?_
       rotate_left
       ·intro w'
        go_simp
        with_reducible rfl
       rotate_left
       ·simp only [Act.put, List.setIfInBounds_toArray, List.set_cons_zero, List.set_cons_succ, i64_w, i32_w]
        rfl
       refine take_ (i := 4) (N := some 52) (v := ?_) (a' := ?_) #[true, true, true, true, true, false, false, false, false, false, false, false] rfl rfl (take_ofW HT_.out HW_.out oK) (fun _ _ _ h => h) (Or.inl ⟨by rfl, ?_⟩) hHeld ?_ ?_
       rotate_left
       ·rintro w' ⟨s0, s1, s2, s3, s4, s5, s6, s7⟩
        go_simp
        with_reducible rfl
       rotate_left
       ·simp only [Act.put, List.setIfInBounds_toArray, List.set_cons_zero, List.set_cons_succ, i64_w, i32_w]
        rfl
       refine take_ (i := 5) (N := some 53) (v := ?_) (a' := ?_) #[true, true, true, true, true, true, false, false, false, false, false, false] rfl rfl (take_ofW HT_.out HW_.out oK) (fun _ _ _ h => h) (Or.inl ⟨by rfl, ?_⟩) hHeld ?_ ?_
       rotate_left
       ·rintro w' ⟨s0, s1, s2, s3, s4, s5, s6, s7⟩
        go_simp
        with_reducible rfl
       rotate_left
       ·simp only [Act.put, List.setIfInBounds_toArray, List.set_cons_zero, List.set_cons_succ, i64_w, i32_w]
        rfl
       refine take_ (i := 8) (N := some 56) (v := ?_) (a' := ?_) #[true, true, true, true, true, true, false, false, true, false, false, false] rfl rfl (take_ofW HT_.out HW_.out oK) (fun _ _ _ h => h) (Or.inl ⟨by rfl, ?_⟩) hHeld ?_ ?_
       rotate_left
       ·rintro w' ⟨s0, s1, s2, s3, s4, s5, s6, s7⟩
        go_simp
        with_reducible rfl
       rotate_left
       ·simp only [Act.put, List.setIfInBounds_toArray, List.set_cons_zero, List.set_cons_succ, i64_w, i32_w]
        rfl
       refine one_ (i := 6) (N := some 54) #[true, true, true, true, true, true, true, false, true, false, false, false] rfl rfl (one_of HT_.out oK) oD (fun K hK => ?_)
       refine Kd.R_lit_step k27 _ 27 ?hg (N := 54) ?hd (xs := ([(⟨8, t1183, t1184, t1185, 0⟩ : S27)] : List (S27))) (inner := [.int .i64 8, .int .i64 t1183, .int .i64 t1184, .int .i64 t1185, .int .i64 0]) (ok := fun _ => True) (okp := fun _ => True) ?hr ?hp (fun _ hk => hk) trivial (Below.refl _ _) (Nat.le_refl _) (by simp) ?_; (case hd => rfl); (case hg => rfl); (case hr => first | (go_simp; done) | (go_simp; rfl)); (case hp => exact (Reps.c5 (show Kd.M k27 _ _ _ (⟨8, t1183, t1184, t1185, 0⟩ : S27) [.int .i64 8, .int .i64 t1183, .int .i64 t1184, .int .i64 t1185, .int .i64 0] from (k27_mkM _ _ _ (⟨8, t1183, t1184, t1185, 0⟩ : S27) )) (Reps.none _ _)))
       intro v1205 w71 ho72 hb hg_ hnew_
       clear hg_ hnew_
       (first | rw [← Ny1204.out] at ho72 | (simp only [Int.reduceToNat] at ho72; rw [← Ny1204.out] at ho72))
       have n_ := o2_ (Kd.Q_below (oQ HO_1182002) hb) (o2_ (Kd.R_elder' (oR HO1196) (Kd.R_base ho72) hb) (o2_ (Kd.V_elder' (oV HO1201) (Kd.R_base ho72) hb) (o2_ (Kd.R_lower (Kd.R_newB (Kd.R_newB (Kd.R_new' ho72 (Kd.R_lt (oR HO1196))) (oP BK1182)) (oP BK1193)) (below_size (oB HB))) (o2_ (blk_below (oP BK1181) hb) (o2_ (blk_below (oP BK1182) hb) (o2_ (blk_below (oP BK1187) hb) (o2_ (blk_below (oP BK1193) hb) (o2_ (blk_below (oP BK1202) hb) (o1_ (below_step (oB HB) hb))))))))))
       clear HO_1182002 HO1196 HO1201 BK1181 BK1182 BK1187 BK1193 BK1202 HB
       obtain ⟨HO_1182002, HO1196, HO1201, HO1206, BK1181, BK1182, BK1187, BK1193, BK1202, HB⟩ := n_
       clear hb ho72
       obtain ⟨Ao73, co73, eo73⟩ := Kd.R_slice HO1206.out
       (first | subst eo73 | (injection eo73 with f1_ f2_ f3_; have f4_ := f1_.symm; have f5_ := f3_.symm; clear f1_ f2_ f3_; subst f4_; subst f5_))
       refine hK.out _ _ ⟨(blk_cell BK1202.out 0).trans rfl, (blk_cell BK1202.out 1).trans rfl, (blk_cell BK1202.out 2).trans rfl, (blk_cell BK1193.out 0).trans rfl, (blk_cell BK1193.out 1).trans rfl, (blk_cell BK1193.out 2).trans rfl, (blk_cell BK1193.out 3).trans rfl, (blk_cell BK1193.out 4).trans rfl⟩ (fun hHeld => ?_)
       clear hK K
       refine norm_ (a' := ?_) ?_ ?_
       rotate_left
       ·show Act.put _ (some 54) _ = _
        simp only [Act.put, List.setIfInBounds_toArray, List.set_cons_zero, List.set_cons_succ, i64_w, i32_w]
        rfl
       refine one_ (i := 7) (N := some 55) #[true, true, true, true, true, true, true, true, true, false, false, false] rfl rfl (one_of HT_.out oK) oD (fun K hK => ?_)
       refine goes_ Try.func27 oK rfl #[.agg #[.int .i64 t1197, .int .i64 t1198, .slice Ao63 t1199.length co63], .slice Ao73 y1204.length co73] (by rfl) rfl rfl oA ?_
       with_reducible refine (laws_eaDo.calls kj4 t1197 t1198 (fun k_ => ((some k_ ≠ (.slice Ao55 y1194.length co55 : Value).ownBlock ∧ (k_ ≠ gb1181 ∧ (k_ ≠ gb1182 ∧ (k_ ≠ gb1187 ∧ (k_ ≠ gb1193 ∧ k_ ≠ gb1202))))) ∧ some k_ ≠ (.slice Ao73 y1204.length co73 : Value).ownBlock)) _ _ t1199 _ _ y1204 t1207 t1208 t1209 _ ?side1 ?side2 ?side3 A66.out).mono ?_
       (case side1 => exact HO1201.out)
       (case side2 => repeat (first | exact (Kd.R_reads' HO1206.out).2.2 | (with_reducible refine Kd.C_alloc ?_ _) | (with_reducible refine Kd.C_drewN ?_ _) | (with_reducible refine Kd.C_drew ?_)))
       (case side3 => exact (Kd.R_reads' HO1206.out).2.1)
       rintro e w74 ⟨v1210, rfl, ho0, hb⟩
       refine ⟨_, rfl, ?_⟩
       have n_ := o2_ (Kd.Q_below (oQ HO_1182002) hb) (o2_ (Kd.R_below (oR HO1196) hb) (o2_ (Kd.V_below (oV HO1201) hb) (o2_ (Kd.V_lower (Kd.V_mono (ok' := fun k_ => some k_ ≠ (.slice Ao55 y1194.length co55 : Value).ownBlock ∧ some k_ ≠ (.slice Ao73 y1204.length co73 : Value).ownBlock ∧ k_ ≠ gb1181 ∧ k_ ≠ gb1182 ∧ k_ ≠ gb1187 ∧ k_ ≠ gb1193 ∧ k_ ≠ gb1202) ho0 (fun k_ hk_ => ⟨Or.elim hk_ (fun hs_ => hs_.1.1) (fun hn_ => (Kd.fresh' (Kd.R_lt (oR HO1196)) k_ hn_)), Or.elim hk_ (fun hs_ => hs_.2) (fun hn_ => (Kd.fresh' (Kd.R_lt (oR HO1206)) k_ hn_)), Or.elim hk_ (fun hs_ => hs_.1.2.1) (fun hn_ => (Kd.freshB (oP BK1181) k_ hn_)), Or.elim hk_ (fun hs_ => hs_.1.2.2.1) (fun hn_ => (Kd.freshB (oP BK1182) k_ hn_)), Or.elim hk_ (fun hs_ => hs_.1.2.2.2.1) (fun hn_ => (Kd.freshB (oP BK1187) k_ hn_)), Or.elim hk_ (fun hs_ => hs_.1.2.2.2.2.1) (fun hn_ => (Kd.freshB (oP BK1193) k_ hn_)), Or.elim hk_ (fun hs_ => hs_.1.2.2.2.2.2) (fun hn_ => (Kd.freshB (oP BK1202) k_ hn_))⟩)) (below_size (oB HB))) (o2_ (blk_below (oP BK1181) hb) (o2_ (blk_below (oP BK1182) hb) (o2_ (blk_below (oP BK1187) hb) (o2_ (blk_below (oP BK1193) hb) (o2_ (blk_below (oP BK1202) hb) (o1_ (below_step (oB HB) hb))))))))))
       clear HO_1182002 HO1196 HO1201 BK1181 BK1182 BK1187 BK1193 BK1202 HB
       obtain ⟨HO_1182002, HO1196, HO1201, HO1211, BK1181, BK1182, BK1187, BK1193, BK1202, HB⟩ := n_
       (try clear hb)
       (try clear hb2)
       (try clear hk)
       (try clear hi)
       (try clear ho0)
       obtain ⟨Ao75, co75, eo75⟩ := Kd.V_slice HO1211.out
       (first | subst eo75 | (injection eo75 with f1_ f2_ f3_; have f4_ := f1_.symm; have f5_ := f3_.symm; clear f1_ f2_ f3_; subst f4_; subst f5_))
       refine hK.out _ _ ⟨(blk_cell BK1202.out 0).trans rfl, (blk_cell BK1202.out 1).trans rfl, (blk_cell BK1202.out 2).trans rfl, (blk_cell BK1193.out 0).trans rfl, (blk_cell BK1193.out 1).trans rfl, (blk_cell BK1193.out 2).trans rfl, (blk_cell BK1193.out 3).trans rfl, (blk_cell BK1193.out 4).trans rfl⟩ (fun hHeld => ?_)
       clear hK K
       refine norm_ (a' := ?_) ?_ ?_
       rotate_left
       ·show Act.put _ (some 55) _ = _
        simp only [Act.put, List.setIfInBounds_toArray, List.set_cons_zero, List.set_cons_succ, i64_w, i32_w]
        rfl
       refine one_ (i := 9) (N := some 57) #[true, true, true, true, true, true, true, true, true, true, false, false] rfl rfl (one_of HT_.out oK) oD (fun K hK => ?_)
       refine goes_ Try.func21 oK rfl #[.agg #[.int .i64 t1207, .int .i64 t1208, .slice Ao75 t1209.length co75], .agg #[.int .i64 t1197, .int .i64 t1198, .slice Ao63 t1199.length co63]] (by rfl) rfl rfl oA ?_
       with_reducible refine (laws_eaRas.calls kj4 t1207 t1208 _ _ t1209 t1197 t1198 _ _ t1199 t1212 _ ?side1 ?side2 ?side3 ?side4 A67.out).mono ?_
       (case side1 => repeat (first | exact (Kd.V_reads' HO1211.out).2.2 | (with_reducible refine Kd.C_alloc ?_ _) | (with_reducible refine Kd.C_drewN ?_ _) | (with_reducible refine Kd.C_drew ?_)))
       (case side2 => exact (Kd.V_reads' HO1211.out).2.1)
       (case side3 => repeat (first | exact (Kd.V_reads' HO1201.out).2.2 | (with_reducible refine Kd.C_alloc ?_ _) | (with_reducible refine Kd.C_drewN ?_ _) | (with_reducible refine Kd.C_drew ?_)))
       (case side4 => exact (Kd.V_reads' HO1201.out).2.1)
       rintro e w76 ⟨rfl, hb⟩
       refine ⟨_, rfl, ?_⟩
       have n_ := o2_ (Kd.Q_below (oQ HO_1182002) hb) (o2_ (Kd.R_below (oR HO1196) hb) (o2_ (Kd.V_below (oV HO1201) hb) (o2_ (blk_below (oP BK1181) hb) (o2_ (blk_below (oP BK1182) hb) (o2_ (blk_below (oP BK1187) hb) (o2_ (blk_below (oP BK1193) hb) (o2_ (blk_below (oP BK1202) hb) (o1_ (below_step (oB HB) hb)))))))))
       clear HO_1182002 HO1196 HO1201 BK1181 BK1182 BK1187 BK1193 BK1202 HB
       obtain ⟨HO_1182002, HO1196, HO1201, BK1181, BK1182, BK1187, BK1193, BK1202, HB⟩ := n_
       (try clear hb)
       (try clear hb2)
       (try clear hk)
       (try clear hi)
       refine hK.out _ _ ⟨(blk_cell BK1202.out 0).trans rfl, (blk_cell BK1202.out 1).trans rfl, (blk_cell BK1202.out 2).trans rfl, (blk_cell BK1193.out 0).trans rfl, (blk_cell BK1193.out 1).trans rfl, (blk_cell BK1193.out 2).trans rfl, (blk_cell BK1193.out 3).trans rfl, (blk_cell BK1193.out 4).trans rfl⟩ (fun hHeld => ?_)
       clear hK K
       refine norm_ (a' := ?_) ?_ ?_
       rotate_left
       ·show Act.put _ (some 57) _ = _
        simp only [Act.put, List.setIfInBounds_toArray, List.set_cons_zero, List.set_cons_succ, i64_w, i32_w]
        rfl
       refine pure_ (i := 10) (N := some 58) (v := ?_) (a' := ?_) #[true, true, true, true, true, true, true, true, true, true, true, false] rfl rfl (any_of HT_.out oK) (fun _ _ _ h => h) (Or.inl ⟨by rfl, ?_⟩) ?_ ?_
       rotate_left
       ·intro w'
        go_simp
        with_reducible rfl
       rotate_left
       ·simp only [Act.put, List.setIfInBounds_toArray, List.set_cons_zero, List.set_cons_succ, i64_w, i32_w]
        rfl
       refine pure_ (i := 11) (N := some 59) (v := ?_) (a' := ?_) #[true, true, true, true, true, true, true, true, true, true, true, true] rfl rfl (any_of HT_.out oK) (fun _ _ _ h => h) (Or.inl ⟨by rfl, ?_⟩) ?_ ?_
       rotate_left
       ·intro w'
        go_simp
        with_reducible rfl
       rotate_left
       ·simp only [Act.put, List.setIfInBounds_toArray, List.set_cons_zero, List.set_cons_succ, i64_w, i32_w]
        rfl
       refine done_ (done_of HT_.out oK) ?_
       try go_wp2
       go_meet
       case rel => exact ⟨_, (!t1212), (by first | rfl | (simp; done) | (simp [*]; done)), H', ⟨(by have := HJ4.out; first | omega | exact Nat.le_refl _)⟩, ⟨(oQ HO_1182002)⟩, ⟨(by (with_reducible repeat (first | apply Kd.V_alloc | apply Kd.V_drewN | apply Kd.V_drew)); exact Kd.V_mono HO1201.out (fun _ hk => by first | exact ⟨hk.1.2.1, ⟨hk.1.2.2.1, ⟨hk.1.2.2.2.1, ⟨hk.1.2.2.2.2.1, hk.1.2.2.2.2.2⟩⟩⟩⟩ | exact trivial | (revert hk; simp; done) | (simp_all; done)))⟩, ⟨(oP BK1181)⟩, ⟨(oP BK1182)⟩, ⟨(oP BK1187)⟩, ⟨(oP BK1193)⟩, ⟨(oP BK1202)⟩, ⟨(oB HB)⟩⟩
      ·replace c65 := Bool.eq_false_iff.mpr c65
       subst c65
       rw [if_neg (show ¬ (false = true) by decide)] at H
       have H' := Aside0.mk H
       clear H
       try go_wp2
       have n0_ : Aside0 (Kd.Q k38 38 (((w57.setCell ⟨gb1202, 0, none⟩ (.int .i64 t1197)).setCell ⟨gb1202, 1, none⟩ (.int .i64 t1198)).setCell ⟨gb1202, 2, none⟩ (.slice Ao63 t1199.length co63)) w.heap.size (fun k_ => k_ ≠ gb1187) (.slice Ao11 t1173.length co11) t1173) := ⟨(by (with_reducible repeat (first | apply Kd.Q_alloc | apply Kd.Q_drewN | apply Kd.Q_drew)); exact Kd.Q_mono (Kd.Q_far (p := ⟨gb1202, 2, none⟩) (Kd.Q_far (p := ⟨gb1202, 1, none⟩) (Kd.Q_far (p := ⟨gb1202, 0, none⟩) (Kd.Q_types HO_1182002.out BK1202.out oD) oX2 (.int .i64 t1197)) oX2 (.int .i64 t1198)) oX2 (.slice Ao63 t1199.length co63)) oX1)⟩
       have n1_ : Aside0 (Kd.R k27 27 (((w57.setCell ⟨gb1202, 0, none⟩ (.int .i64 t1197)).setCell ⟨gb1202, 1, none⟩ (.int .i64 t1198)).setCell ⟨gb1202, 2, none⟩ (.slice Ao63 t1199.length co63)) w.heap.size (fun k_ => k_ ≠ gb1182 ∧ k_ ≠ gb1193) (.slice Ao55 y1194.length co55) y1194) := ⟨(by (with_reducible repeat (first | apply Kd.R_alloc | apply Kd.R_drewN | apply Kd.R_drew)); exact Kd.R_mono (Kd.R_far (p := ⟨gb1202, 2, none⟩) (Kd.R_far (p := ⟨gb1202, 1, none⟩) (Kd.R_far (p := ⟨gb1202, 0, none⟩) (Kd.R_types HO1196.out BK1202.out oD) oX2 (.int .i64 t1197)) oX2 (.int .i64 t1198)) oX2 (.slice Ao63 t1199.length co63)) (fun _ hk => by first | exact ⟨hk.1.1.2, hk.1.2⟩ | exact trivial | (revert hk; simp; done) | (simp_all; done)))⟩
       have n2_ : Aside0 (Kd.V k38 38 (((w57.setCell ⟨gb1202, 0, none⟩ (.int .i64 t1197)).setCell ⟨gb1202, 1, none⟩ (.int .i64 t1198)).setCell ⟨gb1202, 2, none⟩ (.slice Ao63 t1199.length co63)) w.heap.size (fun k_ => some k_ ≠ (.slice Ao55 y1194.length co55 : Value).ownBlock ∧ k_ ≠ gb1181 ∧ k_ ≠ gb1182 ∧ k_ ≠ gb1187 ∧ k_ ≠ gb1193 ∧ k_ ≠ gb1202) (.slice Ao63 t1199.length co63) t1199) := ⟨(by (with_reducible repeat (first | apply Kd.V_alloc | apply Kd.V_drewN | apply Kd.V_drew)); exact Kd.V_mono (Kd.V_far (p := ⟨gb1202, 2, none⟩) (Kd.V_far (p := ⟨gb1202, 1, none⟩) (Kd.V_far (p := ⟨gb1202, 0, none⟩) (Kd.V_mono HO1201.out (fun k_ hk => (⟨hk, hk.2⟩ : _ ∧ k_ ≠ gb1202))) oX2 (.int .i64 t1197)) oX2 (.int .i64 t1198)) oX2 (.slice Ao63 t1199.length co63)) (fun _ hk => by first | exact ⟨hk.1.1.1, ⟨hk.1.1.2.1, ⟨hk.1.1.2.2.1, ⟨hk.1.1.2.2.2.1, ⟨hk.1.1.2.2.2.2, hk.1.2⟩⟩⟩⟩⟩ | exact trivial | (revert hk; simp; done) | (simp_all; done)))⟩
       have n3_ : Aside0 ((((w57.setCell ⟨gb1202, 0, none⟩ (.int .i64 t1197)).setCell ⟨gb1202, 1, none⟩ (.int .i64 t1198)).setCell ⟨gb1202, 2, none⟩ (.slice Ao63 t1199.length co63)).heap[gb1181]? = some (.cells #[.int .i64 t1171, .int .i64 t1172, .slice Ao11 t1173.length co11] 25 (0, 0))) := ⟨(oP BK1181)⟩
       have n4_ : Aside0 ((((w57.setCell ⟨gb1202, 0, none⟩ (.int .i64 t1197)).setCell ⟨gb1202, 1, none⟩ (.int .i64 t1198)).setCell ⟨gb1202, 2, none⟩ (.slice Ao63 t1199.length co63)).heap[gb1182]? = some (.cells #[.int .i64 t1176, .int .i64 t1177, .int .i64 t1178, .int .i64 t1179, .int .i64 t1180] 27 (0, 0))) := ⟨(oP BK1182)⟩
       have n5_ : Aside0 ((((w57.setCell ⟨gb1202, 0, none⟩ (.int .i64 t1197)).setCell ⟨gb1202, 1, none⟩ (.int .i64 t1198)).setCell ⟨gb1202, 2, none⟩ (.slice Ao63 t1199.length co63)).heap[gb1187]? = some (.cells #[.int .i64 t1183, .int .i64 t1184, .int .i64 t1185, .int .i64 t1186] 38 (0, 0))) := ⟨(oP BK1187)⟩
       have n6_ : Aside0 ((((w57.setCell ⟨gb1202, 0, none⟩ (.int .i64 t1197)).setCell ⟨gb1202, 1, none⟩ (.int .i64 t1198)).setCell ⟨gb1202, 2, none⟩ (.slice Ao63 t1199.length co63)).heap[gb1193]? = some (.cells #[.int .i64 8, .int .i64 t1183, .int .i64 t1184, .int .i64 t1185, .int .i64 0] 27 (0, 0))) := ⟨(oP BK1193)⟩
       have n7_ : Aside0 ((((w57.setCell ⟨gb1202, 0, none⟩ (.int .i64 t1197)).setCell ⟨gb1202, 1, none⟩ (.int .i64 t1198)).setCell ⟨gb1202, 2, none⟩ (.slice Ao63 t1199.length co63)).heap[gb1202]? = some (.cells #[.int .i64 t1197, .int .i64 t1198, .slice Ao63 t1199.length co63] 25 (0, 0))) := ⟨(blk_put (blk_put (blk_put BK1202.out 0 _ rfl) 1 _ rfl) 2 _ rfl)⟩
       have n8_ : Aside0 (Below w.heap.size w (((w57.setCell ⟨gb1202, 0, none⟩ (.int .i64 t1197)).setCell ⟨gb1202, 1, none⟩ (.int .i64 t1198)).setCell ⟨gb1202, 2, none⟩ (.slice Ao63 t1199.length co63))) := ⟨(oB HB)⟩
       (try clear HO_1182002)
       (try clear HO1196)
       (try clear HO1201)
       (try clear BK1181)
       (try clear BK1182)
       (try clear BK1187)
       (try clear BK1193)
       (try clear BK1202)
       (try clear HB)
       generalize (((w57.setCell ⟨gb1202, 0, none⟩ (.int .i64 t1197)).setCell ⟨gb1202, 1, none⟩ (.int .i64 t1198)).setCell ⟨gb1202, 2, none⟩ (.slice Ao63 t1199.length co63)) = w77 at n0_ n1_ n2_ n3_ n4_ n5_ n6_ n7_ n8_ ⊢
       have HO_1182002 := n0_
       have HO1196 := n1_
       have HO1201 := n2_
       have BK1181 := n3_
       have BK1182 := n4_
       have BK1187 := n5_
       have BK1193 := n6_
       have BK1202 := n7_
       have HB := n8_
       clear n0_ n1_ n2_ n3_ n4_ n5_ n6_ n7_ n8_
       have n_ := o2_ (Kd.Q_drew HO_1182002.out) (o2_ (Kd.R_drew HO1196.out) (o2_ (Kd.V_drew HO1201.out) (o2_ (blk_drew BK1181.out) (o2_ (blk_drew BK1182.out) (o2_ (blk_drew BK1187.out) (o2_ (blk_drew BK1193.out) (o2_ (blk_drew BK1202.out) (o1_ (below_drew1 HB.out)))))))))
       clear HO_1182002 HO1196 HO1201 BK1181 BK1182 BK1187 BK1193 BK1202 HB
       obtain ⟨HO_1182002, HO1196, HO1201, BK1181, BK1182, BK1187, BK1193, BK1202, HB⟩ := n_
       refine start_ (n := 12) (S := fun w' => w'.cell? ⟨gb1202, 0, none⟩ = some (.int .i64 t1197) ∧ w'.cell? ⟨gb1202, 1, none⟩ = some (.int .i64 t1198) ∧ w'.cell? ⟨gb1202, 2, none⟩ = some (.slice Ao63 t1199.length co63)) (ds := []) #[false, false, false, false, false, false, false, false, false, false, false, false] oK rfl rfl ⟨(blk_cell BK1202.out 0).trans rfl, (blk_cell BK1202.out 1).trans rfl, (blk_cell BK1202.out 2).trans rfl⟩ (fun hHeld => ?_); refine with_tabW laws_FnOpFlat.tab9 laws_FnOpFlat.bits9 (fun HT_ HW_ => ?_)
       generalize w77.drew = w78 at HO_1182002 HO1196 HO1201 BK1181 BK1182 BK1187 BK1193 BK1202 HB hHeld ⊢
       refine take_ (i := 0) (N := some 48) (v := ?_) (a' := ?_) #[true, false, false, false, false, false, false, false, false, false, false, false] rfl rfl (take_ofW HT_.out HW_.out oK) (fun _ _ _ h => h) (Or.inl ⟨by rfl, ?_⟩) hHeld ?_ ?_
       rotate_left
       ·rintro w' ⟨s0, s1, s2⟩
        go_simp
        with_reducible rfl
       rotate_left
       ·simp only [Act.put, List.setIfInBounds_toArray, List.set_cons_zero, List.set_cons_succ, i64_w, i32_w]
        rfl
       refine one_ (i := 1) (N := some 49) #[true, true, false, false, false, false, false, false, false, false, false, false] rfl rfl (one_of HT_.out oK) oD (fun K hK => ?_)
       refine goes_ Try.func26 oK rfl #[.agg #[.int .i64 t1197, .int .i64 t1198, .slice Ao63 t1199.length co63]] (by rfl) rfl rfl oA ?_
       with_reducible refine (impl_RasOk.calls kj4 t1197 t1198 _ _ t1199 false _ ?side1 ?side2 A64.out).mono ?_
       (case side1 => repeat (first | exact (Kd.V_reads' HO1201.out).2.2 | (with_reducible refine Kd.C_alloc ?_ _) | (with_reducible refine Kd.C_drewN ?_ _) | (with_reducible refine Kd.C_drew ?_)))
       (case side2 => exact (Kd.V_reads' HO1201.out).2.1)
       rintro e w79 ⟨rfl, hb⟩
       refine ⟨_, rfl, ?_⟩
       have n_ := o2_ (Kd.Q_below (oQ HO_1182002) hb) (o2_ (Kd.V_below (oV HO1201) hb) (o2_ (blk_below (oP BK1181) hb) (o2_ (blk_below (oP BK1182) hb) (o2_ (blk_below (oP BK1187) hb) (o2_ (blk_below (oP BK1193) hb) (o2_ (blk_below (oP BK1202) hb) (o1_ (below_step (oB HB) hb))))))))
       clear HO_1182002 HO1201 BK1181 BK1182 BK1187 BK1193 BK1202 HB
       obtain ⟨HO_1182002, HO1201, BK1181, BK1182, BK1187, BK1193, BK1202, HB⟩ := n_
       (try clear hb)
       (try clear hb2)
       (try clear hk)
       (try clear hi)
       refine hK.out _ _ ⟨(blk_cell BK1202.out 0).trans rfl, (blk_cell BK1202.out 1).trans rfl, (blk_cell BK1202.out 2).trans rfl⟩ (fun hHeld => ?_)
       clear hK K
       refine norm_ (a' := ?_) ?_ ?_
       rotate_left
       ·show Act.put _ (some 49) _ = _
        simp only [Act.put, List.setIfInBounds_toArray, List.set_cons_zero, List.set_cons_succ, i64_w, i32_w]
        rfl
       refine pure_ (i := 2) (N := some 50) (v := ?_) (a' := ?_) #[true, true, true, false, false, false, false, false, false, false, false, false] rfl rfl (any_of HT_.out oK) (fun _ _ _ h => h) (Or.inl ⟨by rfl, ?_⟩) ?_ ?_
       rotate_left
       ·intro w'
        go_simp
        with_reducible rfl
       rotate_left
       ·simp only [Act.put, List.setIfInBounds_toArray, List.set_cons_zero, List.set_cons_succ, i64_w, i32_w]
        rfl
       refine pure_ (i := 3) (N := some 51) (v := ?_) (a' := ?_) #[true, true, true, true, false, false, false, false, false, false, false, false] rfl rfl (any_of HT_.out oK) (fun _ _ _ h => h) (Or.inl ⟨by rfl, ?_⟩) ?_ ?_
       rotate_left
       ·intro w'
        go_simp
        with_reducible rfl
       rotate_left
       ·simp only [Act.put, List.setIfInBounds_toArray, List.set_cons_zero, List.set_cons_succ, i64_w, i32_w]
        rfl
       refine pure_ (i := 4) (N := some 52) (v := undef) (a' := ?_) #[true, true, true, true, true, false, false, false, false, false, false, false] rfl rfl (any_of HT_.out oK) (fun _ _ _ h => h) (Or.inr ⟨by rfl, rfl⟩) ?_ ?_
       rotate_left
       ·simp only [Act.put, List.setIfInBounds_toArray, List.set_cons_zero, List.set_cons_succ, i64_w, i32_w]
        rfl
       refine pure_ (i := 5) (N := some 53) (v := undef) (a' := ?_) #[true, true, true, true, true, true, false, false, false, false, false, false] rfl rfl (any_of HT_.out oK) (fun _ _ _ h => h) (Or.inr ⟨by rfl, rfl⟩) ?_ ?_
       rotate_left
       ·simp only [Act.put, List.setIfInBounds_toArray, List.set_cons_zero, List.set_cons_succ, i64_w, i32_w]
        rfl
       refine pure_ (i := 6) (N := some 54) (v := undef) (a' := ?_) #[true, true, true, true, true, true, true, false, false, false, false, false] rfl rfl (any_of HT_.out oK) (fun _ _ _ h => h) (Or.inr ⟨by rfl, rfl⟩) ?_ ?_
       rotate_left
       ·simp only [Act.put, List.setIfInBounds_toArray, List.set_cons_zero, List.set_cons_succ, i64_w, i32_w]
        rfl
       refine pure_ (i := 7) (N := some 55) (v := undef) (a' := ?_) #[true, true, true, true, true, true, true, true, false, false, false, false] rfl rfl (any_of HT_.out oK) (fun _ _ _ h => h) (Or.inr ⟨by rfl, rfl⟩) ?_ ?_
       rotate_left
       ·simp only [Act.put, List.setIfInBounds_toArray, List.set_cons_zero, List.set_cons_succ, i64_w, i32_w]
        rfl
       refine pure_ (i := 8) (N := some 56) (v := undef) (a' := ?_) #[true, true, true, true, true, true, true, true, true, false, false, false] rfl rfl (any_of HT_.out oK) (fun _ _ _ h => h) (Or.inr ⟨by rfl, rfl⟩) ?_ ?_
       rotate_left
       ·simp only [Act.put, List.setIfInBounds_toArray, List.set_cons_zero, List.set_cons_succ, i64_w, i32_w]
        rfl
       refine pure_ (i := 9) (N := some 57) (v := undef) (a' := ?_) #[true, true, true, true, true, true, true, true, true, true, false, false] rfl rfl (any_of HT_.out oK) (fun _ _ _ h => h) (Or.inr ⟨by rfl, rfl⟩) ?_ ?_
       rotate_left
       ·simp only [Act.put, List.setIfInBounds_toArray, List.set_cons_zero, List.set_cons_succ, i64_w, i32_w]
        rfl
       refine pure_ (i := 10) (N := some 58) (v := undef) (a' := ?_) #[true, true, true, true, true, true, true, true, true, true, true, false] rfl rfl (any_of HT_.out oK) (fun _ _ _ h => h) (Or.inr ⟨by rfl, rfl⟩) ?_ ?_
       rotate_left
       ·simp only [Act.put, List.setIfInBounds_toArray, List.set_cons_zero, List.set_cons_succ, i64_w, i32_w]
        rfl
       refine pure_ (i := 11) (N := some 59) (v := ?_) (a' := ?_) #[true, true, true, true, true, true, true, true, true, true, true, true] rfl rfl (any_of HT_.out oK) (fun _ _ _ h => h) (Or.inl ⟨by rfl, ?_⟩) ?_ ?_
       rotate_left
       ·intro w'
        go_simp
        with_reducible rfl
       rotate_left
       ·simp only [Act.put, List.setIfInBounds_toArray, List.set_cons_zero, List.set_cons_succ, i64_w, i32_w]
        rfl
       refine done_ (done_of HT_.out oK) ?_
       try go_wp2
       go_meet
       case rel => exact ⟨_, (true), (by first | rfl | (simp; done) | (simp [*]; done)), H', ⟨(by have := HJ4.out; first | omega | exact Nat.le_refl _)⟩, ⟨(oQ HO_1182002)⟩, ⟨(by (with_reducible repeat (first | apply Kd.V_alloc | apply Kd.V_drewN | apply Kd.V_drew)); exact Kd.V_mono HO1201.out (fun _ hk => by first | exact ⟨hk.2.1, ⟨hk.2.2.1, ⟨hk.2.2.2.1, ⟨hk.2.2.2.2.1, hk.2.2.2.2.2⟩⟩⟩⟩ | exact trivial | (revert hk; simp; done) | (simp_all; done)))⟩, ⟨(oP BK1181)⟩, ⟨(oP BK1182)⟩, ⟨(oP BK1187)⟩, ⟨(oP BK1193)⟩, ⟨(oP BK1202)⟩, ⟨(oB HB)⟩⟩
     case rest =>
      clear HC42
      try clear c2
      try clear p2
      try clear c3
      try clear c4
      try clear c5
      try clear c6
      try clear c21
      try clear c26
      try clear c27
      try clear c32
      try clear c35
      try clear c35b0
      try clear c35b1
      try clear c35b2
      try clear c43
      try clear c44
      try clear c47
      try clear c48
      try clear c49
      try clear c51
      try clear c58
      try clear c59
      try clear c60
      try clear c61
      try clear c65
      try clear hcz45_0
      try clear hcz45_1
      try clear hcz45_2
      try clear hcz45_3
      try clear hcz50_0
      try clear hcz50_1
      try clear hcz50_2
      try clear hcz50_3
      try clear hcz50_4
      try clear hcz52_0
      try clear hcz52_1
      try clear hcz52_2
      try clear hcz62_0
      try clear hcz62_1
      try clear hcz62_2
      try clear hfz45_0
      try clear hfz45_1
      try clear hfz45_2
      try clear hfz45_3
      try clear hfz50_0
      try clear hfz50_1
      try clear hfz50_2
      try clear hfz50_3
      try clear hfz50_4
      try clear hfz52_0
      try clear hfz52_1
      try clear hfz52_2
      try clear hfz62_0
      try clear hfz62_1
      try clear hfz62_2
      obtain ⟨kq, x59_41, rfl, HA, HJ41, HO_1182002, HO_1203002, BK1181, BK1182, BK1187, BK1193, BK1202, HB⟩ := hcut
      cases kq with
      | zero => exact nomatch (show none = some _ from HA.out)
      | succ kj41 =>
       have H := HA.out
       clear HA
       simp only [laws_FnOpFlat.j1] at H
       by_cases c80 : x59_41 = true
       ·subst c80
        rw [if_pos rfl] at H
        exact absurd H (by simp)
       ·replace c80 := Bool.eq_false_iff.mpr c80
        subst c80
        rw [if_neg (show ¬ (false = true) by decide)] at H
        have H' := Aside0.mk H
        clear H
        go_wp2
        go_loopg [8] kj41 (fun kq v8 w' => ∃ (x8_3 : Int), v8 = .int .i64 x8_3 ∧ Aside0 (laws_FnOpFlat.l0 kq x8_3 t1171 t1172 t1173 t1183 t1184 t1185 t1186 t1197 t1198 t1199 = some r) ∧ Aside0 (kq ≤ kj41) ∧ Aside0 (Kd.Q k38 38 w' w.heap.size (fun k_ => k_ ≠ gb1187) (.slice Ao11 t1173.length co11) t1173) ∧ Aside0 (Kd.V k38 38 w' w.heap.size (fun k_ => k_ ≠ gb1181 ∧ k_ ≠ gb1182 ∧ k_ ≠ gb1187 ∧ k_ ≠ gb1193 ∧ k_ ≠ gb1202) (.slice Ao63 t1199.length co63) t1199) ∧ Aside0 (w'.heap[gb1181]? = some (.cells #[.int .i64 t1171, .int .i64 t1172, (.slice Ao11 t1173.length co11)] 25 (0, 0))) ∧ Aside0 (w'.heap[gb1182]? = some (.cells #[.int .i64 t1176, .int .i64 t1177, .int .i64 t1178, .int .i64 t1179, .int .i64 t1180] 27 (0, 0))) ∧ Aside0 (w'.heap[gb1187]? = some (.cells #[.int .i64 t1183, .int .i64 t1184, .int .i64 t1185, .int .i64 t1186] 38 (0, 0))) ∧ Aside0 (w'.heap[gb1193]? = some (.cells #[.int .i64 8, .int .i64 t1183, .int .i64 t1184, .int .i64 t1185, .int .i64 0] 27 (0, 0))) ∧ Aside0 (w'.heap[gb1202]? = some (.cells #[.int .i64 t1197, .int .i64 t1198, (.slice Ao63 t1199.length co63)] 25 (0, 0))) ∧ Aside0 (Below w.heap.size w w'))
        case atStart => exact ⟨(0), (by first | rfl | (simp; done) | (simp [*]; done)), H', ⟨Nat.le_refl _⟩, ⟨(oQ HO_1182002)⟩, ⟨(oV HO_1203002)⟩, ⟨(oP BK1181)⟩, ⟨(oP BK1182)⟩, ⟨(oP BK1187)⟩, ⟨(oP BK1193)⟩, ⟨(oP BK1202)⟩, ⟨(oB HB)⟩⟩
        case round =>
         clear H'
         try clear c2
         try clear p2
         try clear c3
         try clear c4
         try clear c5
         try clear c6
         try clear c8
         try clear c21
         try clear c26
         try clear c27
         try clear c32
         try clear c35
         try clear c35b0
         try clear c35b1
         try clear c35b2
         try clear c43
         try clear c44
         try clear c47
         try clear c48
         try clear c49
         try clear c51
         try clear c58
         try clear c59
         try clear c60
         try clear c61
         try clear c65
         try clear c80
         try clear hcz45_0
         try clear hcz45_1
         try clear hcz45_2
         try clear hcz45_3
         try clear hcz50_0
         try clear hcz50_1
         try clear hcz50_2
         try clear hcz50_3
         try clear hcz50_4
         try clear hcz52_0
         try clear hcz52_1
         try clear hcz52_2
         try clear hcz62_0
         try clear hcz62_1
         try clear hcz62_2
         try clear hfz45_0
         try clear hfz45_1
         try clear hfz45_2
         try clear hfz45_3
         try clear hfz50_0
         try clear hfz50_1
         try clear hfz50_2
         try clear hfz50_3
         try clear hfz50_4
         try clear hfz52_0
         try clear hfz52_1
         try clear hfz52_2
         try clear hfz62_0
         try clear hfz62_1
         try clear hfz62_2
         try clear p2
         obtain ⟨x8_3, rfl, HA, HK3, HO_1182002, HO_1203002, BK1181, BK1182, BK1187, BK1193, BK1202, HB⟩ := hrel
         cases gk with
         | zero => exact nomatch (show none = some _ from HA.out)
         | succ k3 =>
          have H := HA.out
          clear HA
          simp only [laws_FnOpFlat.l0] at H
          by_cases c81 : x8_3 < (t1199.length : Int)
          ·rw [if_pos c81] at H
           have c81b0 : decide (x8_3 < (t1199.length : Int)) = true := decide_eq_true c81
           clear c81
           by_cases c82 : 0 ≤ x8_3
           ·rw [if_pos c82] at H
            have c82b0 : decide (0 ≤ x8_3) = true := decide_eq_true c82
            clear c82
            by_cases c83 : x8_3 < (t1173.length : Int)
            ·rw [if_pos c83] at H
             have c83b0 : decide (x8_3 < (t1173.length : Int)) = true := decide_eq_true c83
             clear c83
             have HC84 := Aside0.mk H
             clear H
             have hnb85 := NB1202_1181.out
             have hnc85 := NB1181_1202.out
             have hnb86 := NB1202_1182.out
             have hnc86 := NB1182_1202.out
             have hnb87 := NB1202_1187.out
             have hnc87 := NB1187_1202.out
             have hnb88 := NB1202_1193.out
             have hnc88 := NB1193_1202.out
             have hcz89_0 : wr.cell? ⟨gb1202, 0, none⟩ = some (.int .i64 t1197) := (blk_cell BK1202.out 0).trans rfl
             have hcz89_1 : wr.cell? ⟨gb1202, 1, none⟩ = some (.int .i64 t1198) := (blk_cell BK1202.out 1).trans rfl
             have hcz89_2 : wr.cell? ⟨gb1202, 2, none⟩ = some (.slice Ao63 t1199.length co63) := (blk_cell BK1202.out 2).trans rfl
             have hfz89_0 := blk_frozen BK1202.out 0
             have hfz89_1 := blk_frozen BK1202.out 1
             have hfz89_2 := blk_frozen BK1202.out 2
             have p1213 : 0 ≤ (x8_3 : Int) := of_decide_eq_true oM
             have q1213 : x8_3 < (t1199.length : Int) := of_decide_eq_true oM
             obtain ⟨ad1213, e1213, hx1213_0, hx1213_1, hx1213_2, hx1213_3⟩ := at_T38 (Kd.V_reads' HO_1203002.out).2.2 x8_3 p1213 q1213
             cases e1213
             replace p1213 := eq_true p1213
             replace q1213 := eq_true q1213
             go_upto_region 16 with (first | ((with_reducible refine gate_dst (N := 9) rfl ?_); (try (refine gate_guard (by rfl) ?_; dsimp only)); refine box_event ?hg (N := 9) ?hd (cs := #[.int .i64 0, .int .i64 0, .int .i64 0, .int .i64 0]) (t := 38) ?hr ?_; (case hd => rfl); (case hg => rfl); (case hr => first | (go_simp; done) | (go_simp; rfl)); intro gb1214 hg w90 hbox hb; have n_ := o2_ (Kd.Q_below (Kd.Q_elderB (oQ HO_1182002) gb1214 (Nat.le_of_eq hg.symm)) hb) (o2_ (Kd.V_below (Kd.V_elderB (oV HO_1203002) gb1214 (Nat.le_of_eq hg.symm)) hb) (o2_ (blk_below (oP BK1181) hb) (o2_ (blk_below (oP BK1182) hb) (o2_ (blk_below (oP BK1187) hb) (o2_ (blk_below (oP BK1193) hb) (o2_ (blk_below (oP BK1202) hb) (o2_ (below_step (oB HB) hb) (o2_ (hbox) (o2_ ((oG hg (below_size (oB HB)) : w.heap.size ≤ gb1214)) (o2_ ((oG hg (below_size (oB HB)) : w.heap.size ≤ gb1214)) (o2_ ((oL hg (blk_lt (oP BK1181)))) (o2_ ((oN hg (blk_lt (oP BK1181)))) (o2_ ((oL hg (blk_lt (oP BK1182)))) (o2_ ((oN hg (blk_lt (oP BK1182)))) (o2_ ((oL hg (blk_lt (oP BK1187)))) (o2_ ((oN hg (blk_lt (oP BK1187)))) (o2_ ((oL hg (blk_lt (oP BK1193)))) (o2_ ((oN hg (blk_lt (oP BK1193)))) (o2_ ((oL hg (blk_lt (oP BK1202)))) (o1_ ((oN hg (blk_lt (oP BK1202)))))))))))))))))))))))); clear HO_1182002 HO_1203002 BK1181 BK1182 BK1187 BK1193 BK1202 HB; obtain ⟨HO_1182002, HO_1203002, BK1181, BK1182, BK1187, BK1193, BK1202, HB, BK1214, GW1214, GE1214, NB1181_1214, NB1214_1181, NB1182_1214, NB1214_1182, NB1187_1214, NB1214_1187, NB1193_1214, NB1214_1193, NB1202_1214, NB1214_1202⟩ := n_; clear hb hbox hg; have hnb91 := NB1214_1181.out; have hnc91 := NB1181_1214.out; have hnb92 := NB1214_1182.out; have hnc92 := NB1182_1214.out; have hnb93 := NB1214_1187.out; have hnc93 := NB1187_1214.out; have hnb94 := NB1214_1193.out; have hnc94 := NB1193_1214.out; have hnb95 := NB1214_1202.out; have hnc95 := NB1202_1214.out; have hcz96_0 : w90.cell? ⟨gb1214, 0, none⟩ = some (.int .i64 0) := (blk_cell BK1214.out 0).trans rfl; have hcz96_1 : w90.cell? ⟨gb1214, 1, none⟩ = some (.int .i64 0) := (blk_cell BK1214.out 1).trans rfl; have hcz96_2 : w90.cell? ⟨gb1214, 2, none⟩ = some (.int .i64 0) := (blk_cell BK1214.out 2).trans rfl; have hcz96_3 : w90.cell? ⟨gb1214, 3, none⟩ = some (.int .i64 0) := (blk_cell BK1214.out 3).trans rfl; have hfz96_0 := blk_frozen BK1214.out 0; have hfz96_1 := blk_frozen BK1214.out 1; have hfz96_2 := blk_frozen BK1214.out 2; have hfz96_3 := blk_frozen BK1214.out 3; have hnb97 := NB1181_1182.out; have hnc97 := NB1182_1181.out; have hnb98 := NB1181_1187.out; have hnc98 := NB1187_1181.out; have hnb99 := NB1181_1193.out; have hnc99 := NB1193_1181.out; have hcz100_0 : w90.cell? ⟨gb1181, 0, none⟩ = some (.int .i64 t1171) := (blk_cell BK1181.out 0).trans rfl; have hcz100_1 : w90.cell? ⟨gb1181, 1, none⟩ = some (.int .i64 t1172) := (blk_cell BK1181.out 1).trans rfl; have hcz100_2 : w90.cell? ⟨gb1181, 2, none⟩ = some (.slice Ao11 t1173.length co11) := (blk_cell BK1181.out 2).trans rfl; have hfz100_0 := blk_frozen BK1181.out 0; have hfz100_1 := blk_frozen BK1181.out 1; have hfz100_2 := blk_frozen BK1181.out 2; have p1215 : 0 ≤ (x8_3 : Int) := of_decide_eq_true oM; have q1215 : x8_3 < (t1173.length : Int) := of_decide_eq_true oM; obtain ⟨ad1215, e1215, hx1215_0, hx1215_1, hx1215_2, hx1215_3⟩ := at_T38 (Kd.Q_reads' HO_1182002.out).2.2 x8_3 p1215 q1215; cases e1215; have hn1215_0 : ad1215.block ≠ gb1214 := (by first | exact Kd.own_blk (Kd.Q_ne HO_1182002.out BK1214.out oD) | exact (HO_1182002.out.1 _ rfl).2); have hn1215_1 : ad1215.block ≠ gb1214 := (by first | exact Kd.own_blk (Kd.Q_ne HO_1182002.out BK1214.out oD) | exact (HO_1182002.out.1 _ rfl).2); have hn1215_2 : ad1215.block ≠ gb1214 := (by first | exact Kd.own_blk (Kd.Q_ne HO_1182002.out BK1214.out oD) | exact (HO_1182002.out.1 _ rfl).2); have hn1215_3 : ad1215.block ≠ gb1214 := (by first | exact Kd.own_blk (Kd.Q_ne HO_1182002.out BK1214.out oD) | exact (HO_1182002.out.1 _ rfl).2); replace hx1215_0 := (cell_far (p := ⟨gb1214, 0, none⟩) (by first | (rw [add_block]; exact hn1215_0) | (show (Addr.add _ _).block ≠ _; rw [add_block]; exact hn1215_0) | exact hn1215_0) (.int .i64 ((rd_T38 t1199 x8_3).f0))).trans hx1215_0; replace hx1215_1 := (cell_far (p := ⟨gb1214, 0, none⟩) (by first | (rw [add_block]; exact hn1215_0) | (show (Addr.add _ _).block ≠ _; rw [add_block]; exact hn1215_0) | exact hn1215_0) (.int .i64 ((rd_T38 t1199 x8_3).f0))).trans hx1215_1; replace hx1215_2 := (cell_far (p := ⟨gb1214, 0, none⟩) (by first | (rw [add_block]; exact hn1215_0) | (show (Addr.add _ _).block ≠ _; rw [add_block]; exact hn1215_0) | exact hn1215_0) (.int .i64 ((rd_T38 t1199 x8_3).f0))).trans hx1215_2; replace hx1215_3 := (cell_far (p := ⟨gb1214, 0, none⟩) (by first | (rw [add_block]; exact hn1215_0) | (show (Addr.add _ _).block ≠ _; rw [add_block]; exact hn1215_0) | exact hn1215_0) (.int .i64 ((rd_T38 t1199 x8_3).f0))).trans hx1215_3; replace hx1215_0 := (cell_far (p := ⟨gb1214, 1, none⟩) (by first | (rw [add_block]; exact hn1215_1) | (show (Addr.add _ _).block ≠ _; rw [add_block]; exact hn1215_1) | exact hn1215_1) (.int .i64 ((rd_T38 t1199 x8_3).f1))).trans hx1215_0; replace hx1215_1 := (cell_far (p := ⟨gb1214, 1, none⟩) (by first | (rw [add_block]; exact hn1215_1) | (show (Addr.add _ _).block ≠ _; rw [add_block]; exact hn1215_1) | exact hn1215_1) (.int .i64 ((rd_T38 t1199 x8_3).f1))).trans hx1215_1; replace hx1215_2 := (cell_far (p := ⟨gb1214, 1, none⟩) (by first | (rw [add_block]; exact hn1215_1) | (show (Addr.add _ _).block ≠ _; rw [add_block]; exact hn1215_1) | exact hn1215_1) (.int .i64 ((rd_T38 t1199 x8_3).f1))).trans hx1215_2; replace hx1215_3 := (cell_far (p := ⟨gb1214, 1, none⟩) (by first | (rw [add_block]; exact hn1215_1) | (show (Addr.add _ _).block ≠ _; rw [add_block]; exact hn1215_1) | exact hn1215_1) (.int .i64 ((rd_T38 t1199 x8_3).f1))).trans hx1215_3; replace hx1215_0 := (cell_far (p := ⟨gb1214, 2, none⟩) (by first | (rw [add_block]; exact hn1215_2) | (show (Addr.add _ _).block ≠ _; rw [add_block]; exact hn1215_2) | exact hn1215_2) (.int .i64 ((rd_T38 t1199 x8_3).f2))).trans hx1215_0; replace hx1215_1 := (cell_far (p := ⟨gb1214, 2, none⟩) (by first | (rw [add_block]; exact hn1215_2) | (show (Addr.add _ _).block ≠ _; rw [add_block]; exact hn1215_2) | exact hn1215_2) (.int .i64 ((rd_T38 t1199 x8_3).f2))).trans hx1215_1; replace hx1215_2 := (cell_far (p := ⟨gb1214, 2, none⟩) (by first | (rw [add_block]; exact hn1215_2) | (show (Addr.add _ _).block ≠ _; rw [add_block]; exact hn1215_2) | exact hn1215_2) (.int .i64 ((rd_T38 t1199 x8_3).f2))).trans hx1215_2; replace hx1215_3 := (cell_far (p := ⟨gb1214, 2, none⟩) (by first | (rw [add_block]; exact hn1215_2) | (show (Addr.add _ _).block ≠ _; rw [add_block]; exact hn1215_2) | exact hn1215_2) (.int .i64 ((rd_T38 t1199 x8_3).f2))).trans hx1215_3; replace hx1215_0 := (cell_far (p := ⟨gb1214, 3, none⟩) (by first | (rw [add_block]; exact hn1215_3) | (show (Addr.add _ _).block ≠ _; rw [add_block]; exact hn1215_3) | exact hn1215_3) (.int .i64 ((rd_T38 t1199 x8_3).f3))).trans hx1215_0; replace hx1215_1 := (cell_far (p := ⟨gb1214, 3, none⟩) (by first | (rw [add_block]; exact hn1215_3) | (show (Addr.add _ _).block ≠ _; rw [add_block]; exact hn1215_3) | exact hn1215_3) (.int .i64 ((rd_T38 t1199 x8_3).f3))).trans hx1215_1; replace hx1215_2 := (cell_far (p := ⟨gb1214, 3, none⟩) (by first | (rw [add_block]; exact hn1215_3) | (show (Addr.add _ _).block ≠ _; rw [add_block]; exact hn1215_3) | exact hn1215_3) (.int .i64 ((rd_T38 t1199 x8_3).f3))).trans hx1215_2; replace hx1215_3 := (cell_far (p := ⟨gb1214, 3, none⟩) (by first | (rw [add_block]; exact hn1215_3) | (show (Addr.add _ _).block ≠ _; rw [add_block]; exact hn1215_3) | exact hn1215_3) (.int .i64 ((rd_T38 t1199 x8_3).f3))).trans hx1215_3; clear hn1215_0; clear hn1215_1; clear hn1215_2; clear hn1215_3; replace p1215 := eq_true p1215; replace q1215 := eq_true q1215) | ((with_reducible refine gate_dst (N := 10) rfl ?_); (try (refine gate_guard (by rfl) ?_; dsimp only)); refine box_event ?hg (N := 10) ?hd (cs := #[.int .i64 0, .int .i64 0, .int .i64 0, .int .i64 0]) (t := 38) ?hr ?_; (case hd => rfl); (case hg => rfl); (case hr => first | (go_simp; done) | (go_simp; rfl)); intro gb1216 hg w101 hbox hb; have n_ := o2_ (Kd.Q_below (Kd.Q_elderB (by (with_reducible repeat (first | apply Kd.Q_alloc | apply Kd.Q_drewN | apply Kd.Q_drew)); exact (Kd.Q_mono (Kd.Q_far (p := ⟨gb1214, 3, none⟩) (Kd.Q_far (p := ⟨gb1214, 2, none⟩) (Kd.Q_far (p := ⟨gb1214, 1, none⟩) (Kd.Q_far (p := ⟨gb1214, 0, none⟩) (Kd.Q_mono HO_1182002.out (fun k_ hk => (⟨hk, hk.2⟩ : _ ∧ k_ ≠ gb1214))) oX2 (.int .i64 ((rd_T38 t1199 x8_3).f0))) oX2 (.int .i64 ((rd_T38 t1199 x8_3).f1))) oX2 (.int .i64 ((rd_T38 t1199 x8_3).f2))) oX2 (.int .i64 ((rd_T38 t1199 x8_3).f3))) (fun _ h_ => h_.1))) gb1216 (Nat.le_of_eq hg.symm)) hb) (o2_ (Kd.V_below (Kd.V_elderB (by (with_reducible repeat (first | apply Kd.V_alloc | apply Kd.V_drewN | apply Kd.V_drew)); exact (Kd.V_mono (Kd.V_far (p := ⟨gb1214, 3, none⟩) (Kd.V_far (p := ⟨gb1214, 2, none⟩) (Kd.V_far (p := ⟨gb1214, 1, none⟩) (Kd.V_far (p := ⟨gb1214, 0, none⟩) (Kd.V_mono HO_1203002.out (fun k_ hk => (⟨hk, hk.2⟩ : _ ∧ k_ ≠ gb1214))) oX2 (.int .i64 ((rd_T38 t1199 x8_3).f0))) oX2 (.int .i64 ((rd_T38 t1199 x8_3).f1))) oX2 (.int .i64 ((rd_T38 t1199 x8_3).f2))) oX2 (.int .i64 ((rd_T38 t1199 x8_3).f3))) (fun _ h_ => h_.1))) gb1216 (Nat.le_of_eq hg.symm)) hb) (o2_ (blk_below (oP BK1181) hb) (o2_ (blk_below (oP BK1182) hb) (o2_ (blk_below (oP BK1187) hb) (o2_ (blk_below (oP BK1193) hb) (o2_ (blk_below (oP BK1202) hb) (o2_ (blk_below (g := gb1214) (o := .cells #[.int .i64 ((rd_T38 t1199 x8_3).f0), .int .i64 ((rd_T38 t1199 x8_3).f1), .int .i64 ((rd_T38 t1199 x8_3).f2), .int .i64 ((rd_T38 t1199 x8_3).f3)] 38 (0, 0)) (blk_put (blk_put (blk_put (blk_put BK1214.out 0 _ rfl) 1 _ rfl) 2 _ rfl) 3 _ rfl) hb) (o2_ (below_step (oB HB) hb) (o2_ (hbox) (o2_ ((oG hg (below_size (oB HB)) : w.heap.size ≤ gb1216)) (o2_ ((oG hg (below_size (oB HB)) : w.heap.size ≤ gb1216)) (o2_ ((oL hg (blk_lt (oP BK1181)))) (o2_ ((oN hg (blk_lt (oP BK1181)))) (o2_ ((oL hg (blk_lt (oP BK1182)))) (o2_ ((oN hg (blk_lt (oP BK1182)))) (o2_ ((oL hg (blk_lt (oP BK1187)))) (o2_ ((oN hg (blk_lt (oP BK1187)))) (o2_ ((oL hg (blk_lt (oP BK1193)))) (o2_ ((oN hg (blk_lt (oP BK1193)))) (o2_ ((oL hg (blk_lt (oP BK1202)))) (o2_ ((oN hg (blk_lt (oP BK1202)))) (o2_ ((by rw [hg]; exact Nat.ne_of_lt (blk_lt (g := gb1214) (o := .cells #[.int .i64 ((rd_T38 t1199 x8_3).f0), .int .i64 ((rd_T38 t1199 x8_3).f1), .int .i64 ((rd_T38 t1199 x8_3).f2), .int .i64 ((rd_T38 t1199 x8_3).f3)] 38 (0, 0)) (blk_put (blk_put (blk_put (blk_put BK1214.out 0 _ rfl) 1 _ rfl) 2 _ rfl) 3 _ rfl)) : gb1214 ≠ gb1216)) (o1_ ((by rw [hg]; exact Nat.ne_of_gt (blk_lt (g := gb1214) (o := .cells #[.int .i64 ((rd_T38 t1199 x8_3).f0), .int .i64 ((rd_T38 t1199 x8_3).f1), .int .i64 ((rd_T38 t1199 x8_3).f2), .int .i64 ((rd_T38 t1199 x8_3).f3)] 38 (0, 0)) (blk_put (blk_put (blk_put (blk_put BK1214.out 0 _ rfl) 1 _ rfl) 2 _ rfl) 3 _ rfl)) : gb1216 ≠ gb1214))))))))))))))))))))))))); clear HO_1182002 HO_1203002 BK1181 BK1182 BK1187 BK1193 BK1202 BK1214 HB; obtain ⟨HO_1182002, HO_1203002, BK1181, BK1182, BK1187, BK1193, BK1202, BK1214, HB, BK1216, GW1216, GE1216, NB1181_1216, NB1216_1181, NB1182_1216, NB1216_1182, NB1187_1216, NB1216_1187, NB1193_1216, NB1216_1193, NB1202_1216, NB1216_1202, NB1214_1216, NB1216_1214⟩ := n_; clear hb hbox hg; have hnb102 := NB1216_1181.out; have hnc102 := NB1181_1216.out; have hnb103 := NB1216_1182.out; have hnc103 := NB1182_1216.out; have hnb104 := NB1216_1187.out; have hnc104 := NB1187_1216.out; have hnb105 := NB1216_1193.out; have hnc105 := NB1193_1216.out; have hnb106 := NB1216_1202.out; have hnc106 := NB1202_1216.out; have hnb107 := NB1216_1214.out; have hnc107 := NB1214_1216.out; have hcz108_0 : w101.cell? ⟨gb1216, 0, none⟩ = some (.int .i64 0) := (blk_cell BK1216.out 0).trans rfl; have hcz108_1 : w101.cell? ⟨gb1216, 1, none⟩ = some (.int .i64 0) := (blk_cell BK1216.out 1).trans rfl; have hcz108_2 : w101.cell? ⟨gb1216, 2, none⟩ = some (.int .i64 0) := (blk_cell BK1216.out 2).trans rfl; have hcz108_3 : w101.cell? ⟨gb1216, 3, none⟩ = some (.int .i64 0) := (blk_cell BK1216.out 3).trans rfl; have hfz108_0 := blk_frozen BK1216.out 0; have hfz108_1 := blk_frozen BK1216.out 1; have hfz108_2 := blk_frozen BK1216.out 2; have hfz108_3 := blk_frozen BK1216.out 3))
             (try simp only [Act.put, List.setIfInBounds_toArray, List.set_cons_zero, List.set_cons_succ])
             go_cut [105] (fun v105 wc => ∃ (kq : Nat) (x105_83 : Bool), v105 = .bool x105_83 ∧ Aside0 (laws_FnOpFlat.j3 kq x8_3 x105_83 t1171 t1172 t1173 t1183 t1184 t1185 t1186 t1197 t1198 t1199 ((rd_T38 t1199 x8_3).f0) ((rd_T38 t1199 x8_3).f1) ((rd_T38 t1199 x8_3).f2) ((rd_T38 t1199 x8_3).f3) ((rd_T38 t1173 x8_3).f0) ((rd_T38 t1173 x8_3).f1) ((rd_T38 t1173 x8_3).f2) ((rd_T38 t1173 x8_3).f3) = some r) ∧ Aside0 (kq ≤ k3) ∧ Aside0 (Kd.Q k38 38 wc w.heap.size (fun k_ => k_ ≠ gb1187 ∧ k_ ≠ gb1214 ∧ k_ ≠ gb1216) (.slice (some ad1215) t1173.length co11) t1173) ∧ Aside0 (Kd.V k38 38 wc w.heap.size (fun k_ => k_ ≠ gb1181 ∧ k_ ≠ gb1182 ∧ k_ ≠ gb1187 ∧ k_ ≠ gb1193 ∧ k_ ≠ gb1202 ∧ k_ ≠ gb1214 ∧ k_ ≠ gb1216) (.slice (some ad1213) t1199.length co63) t1199) ∧ Aside0 (wc.heap[gb1181]? = some (.cells #[.int .i64 t1171, .int .i64 t1172, (.slice (some ad1215) t1173.length co11)] 25 (0, 0))) ∧ Aside0 (wc.heap[gb1182]? = some (.cells #[.int .i64 t1176, .int .i64 t1177, .int .i64 t1178, .int .i64 t1179, .int .i64 t1180] 27 (0, 0))) ∧ Aside0 (wc.heap[gb1187]? = some (.cells #[.int .i64 t1183, .int .i64 t1184, .int .i64 t1185, .int .i64 t1186] 38 (0, 0))) ∧ Aside0 (wc.heap[gb1193]? = some (.cells #[.int .i64 8, .int .i64 t1183, .int .i64 t1184, .int .i64 t1185, .int .i64 0] 27 (0, 0))) ∧ Aside0 (wc.heap[gb1202]? = some (.cells #[.int .i64 t1197, .int .i64 t1198, (.slice (some ad1213) t1199.length co63)] 25 (0, 0))) ∧ Aside0 (wc.heap[gb1214]? = some (.cells #[.int .i64 ((rd_T38 t1199 x8_3).f0), .int .i64 ((rd_T38 t1199 x8_3).f1), .int .i64 ((rd_T38 t1199 x8_3).f2), .int .i64 ((rd_T38 t1199 x8_3).f3)] 38 (0, 0))) ∧ Aside0 (wc.heap[gb1216]? = some (.cells #[.int .i64 ((rd_T38 t1173 x8_3).f0), .int .i64 ((rd_T38 t1173 x8_3).f1), .int .i64 ((rd_T38 t1173 x8_3).f2), .int .i64 ((rd_T38 t1173 x8_3).f3)] 38 (0, 0))) ∧ Aside0 (Below w.heap.size w wc))
             case first =>
              have H := HC84.out
              clear HC84
              by_cases c109 : ((rd_T38 t1199 x8_3).f3) = 255
              ·rw [if_pos c109] at H
               have c109b0 : (((rd_T38 t1199 x8_3).f3) == 255) = true := beq_iff_eq.mpr c109
               have c109b1 : (((rd_T38 t1199 x8_3).f3) != 255) = false := bne_eq_false_iff_eq.mpr c109
               clear c109
               (first | rw [c109b0] | (simp only [i64_w, i32_w]; rw [c109b0]) | skip)
               by_cases c110 : ((rd_T38 t1173 x8_3).f3) = 255
               ·rw [if_pos c110] at H
                have c110b0 : (((rd_T38 t1173 x8_3).f3) == 255) = true := beq_iff_eq.mpr c110
                have c110b1 : (((rd_T38 t1173 x8_3).f3) != 255) = false := bne_eq_false_iff_eq.mpr c110
                clear c110
                by_cases c111 : (!(((rd_T38 t1199 x8_3).f0) == ((rd_T38 t1173 x8_3).f0)) || (!(((rd_T38 t1199 x8_3).f1) == ((rd_T38 t1173 x8_3).f1)) || (!(((rd_T38 t1199 x8_3).f2) == ((rd_T38 t1173 x8_3).f2)) || (!(((rd_T38 t1199 x8_3).f3) == ((rd_T38 t1173 x8_3).f3)))))) = true
                ·rw [if_pos c111] at H
                 have c111b0 : (!(((rd_T38 t1199 x8_3).f0) == ((rd_T38 t1173 x8_3).f0)) || (!(((rd_T38 t1199 x8_3).f1) == ((rd_T38 t1173 x8_3).f1)) || (!(((rd_T38 t1199 x8_3).f2) == ((rd_T38 t1173 x8_3).f2)) || (!(((rd_T38 t1199 x8_3).f3) == ((rd_T38 t1173 x8_3).f3)))))) = true := c111
                 clear c111
                 have H' := Aside0.mk H
                 clear H
                 have hnb112 := NB1214_1181.out
                 have hnc112 := NB1181_1214.out
                 have hnb113 := NB1214_1182.out
                 have hnc113 := NB1182_1214.out
                 have hnb114 := NB1214_1187.out
                 have hnc114 := NB1187_1214.out
                 have hnb115 := NB1214_1193.out
                 have hnc115 := NB1193_1214.out
                 have hnb116 := NB1214_1202.out
                 have hnc116 := NB1202_1214.out
                 have hnb117 := NB1214_1216.out
                 have hnc117 := NB1216_1214.out
                 have hcz118_0 : w101.cell? ⟨gb1214, 0, none⟩ = some (.int .i64 ((rd_T38 t1199 x8_3).f0)) := (blk_cell BK1214.out 0).trans rfl
                 have hcz118_1 : w101.cell? ⟨gb1214, 1, none⟩ = some (.int .i64 ((rd_T38 t1199 x8_3).f1)) := (blk_cell BK1214.out 1).trans rfl
                 have hcz118_2 : w101.cell? ⟨gb1214, 2, none⟩ = some (.int .i64 ((rd_T38 t1199 x8_3).f2)) := (blk_cell BK1214.out 2).trans rfl
                 have hcz118_3 : w101.cell? ⟨gb1214, 3, none⟩ = some (.int .i64 ((rd_T38 t1199 x8_3).f3)) := (blk_cell BK1214.out 3).trans rfl
                 have hfz118_0 := blk_frozen BK1214.out 0
                 have hfz118_1 := blk_frozen BK1214.out 1
                 have hfz118_2 := blk_frozen BK1214.out 2
                 have hfz118_3 := blk_frozen BK1214.out 3
                 have hnb119 := NB1216_1181.out
                 have hnc119 := NB1181_1216.out
                 have hnb120 := NB1216_1182.out
                 have hnc120 := NB1182_1216.out
                 have hnb121 := NB1216_1187.out
                 have hnc121 := NB1187_1216.out
                 have hnb122 := NB1216_1193.out
                 have hnc122 := NB1193_1216.out
                 have hnb123 := NB1216_1202.out
                 have hnc123 := NB1202_1216.out
                 have hcz124_0 : w101.cell? ⟨gb1216, 0, none⟩ = some (.int .i64 0) := (blk_cell BK1216.out 0).trans rfl
                 have hcz124_1 : w101.cell? ⟨gb1216, 1, none⟩ = some (.int .i64 0) := (blk_cell BK1216.out 1).trans rfl
                 have hcz124_2 : w101.cell? ⟨gb1216, 2, none⟩ = some (.int .i64 0) := (blk_cell BK1216.out 2).trans rfl
                 have hcz124_3 : w101.cell? ⟨gb1216, 3, none⟩ = some (.int .i64 0) := (blk_cell BK1216.out 3).trans rfl
                 have hfz124_0 := blk_frozen BK1216.out 0
                 have hfz124_1 := blk_frozen BK1216.out 1
                 have hfz124_2 := blk_frozen BK1216.out 2
                 have hfz124_3 := blk_frozen BK1216.out 3
                 go_wp2
                 go_meet
                 case rel => exact ⟨_, (true), (by first | rfl | (simp; done) | (simp [*]; done)), H', ⟨(by have := HJ4.out; have := HJ41.out; have := HK3.out; first | omega | exact Nat.le_refl _)⟩, ⟨(by (with_reducible repeat (first | apply Kd.Q_alloc | apply Kd.Q_drewN | apply Kd.Q_drew)); exact Kd.Q_mono (Kd.Q_far (p := ⟨gb1216, 3, none⟩) (Kd.Q_far (p := ⟨gb1216, 2, none⟩) (Kd.Q_far (p := ⟨gb1216, 1, none⟩) (Kd.Q_far (p := ⟨gb1216, 0, none⟩) (Kd.Q_mono HO_1182002.out (fun k_ hk => (⟨hk, hk.2⟩ : _ ∧ k_ ≠ gb1216))) oX2 (.int .i64 ((rd_T38 t1173 x8_3).f0))) oX2 (.int .i64 ((rd_T38 t1173 x8_3).f1))) oX2 (.int .i64 ((rd_T38 t1173 x8_3).f2))) oX2 (.int .i64 ((rd_T38 t1173 x8_3).f3))) (fun _ hk => by first | exact ⟨hk.1.1.1, ⟨hk.1.1.2, hk.1.2⟩⟩ | exact trivial | (revert hk; simp; done) | (simp_all; done)))⟩, ⟨(by (with_reducible repeat (first | apply Kd.V_alloc | apply Kd.V_drewN | apply Kd.V_drew)); exact Kd.V_mono (Kd.V_far (p := ⟨gb1216, 3, none⟩) (Kd.V_far (p := ⟨gb1216, 2, none⟩) (Kd.V_far (p := ⟨gb1216, 1, none⟩) (Kd.V_far (p := ⟨gb1216, 0, none⟩) (Kd.V_mono HO_1203002.out (fun k_ hk => (⟨hk, hk.2⟩ : _ ∧ k_ ≠ gb1216))) oX2 (.int .i64 ((rd_T38 t1173 x8_3).f0))) oX2 (.int .i64 ((rd_T38 t1173 x8_3).f1))) oX2 (.int .i64 ((rd_T38 t1173 x8_3).f2))) oX2 (.int .i64 ((rd_T38 t1173 x8_3).f3))) (fun _ hk => by first | exact ⟨hk.1.1.1.1, ⟨hk.1.1.1.2.1, ⟨hk.1.1.1.2.2.1, ⟨hk.1.1.1.2.2.2.1, ⟨hk.1.1.1.2.2.2.2, ⟨hk.1.1.2, hk.1.2⟩⟩⟩⟩⟩⟩ | exact trivial | (revert hk; simp; done) | (simp_all; done)))⟩, ⟨(oP BK1181)⟩, ⟨(oP BK1182)⟩, ⟨(oP BK1187)⟩, ⟨(oP BK1193)⟩, ⟨(oP BK1202)⟩, ⟨(oP BK1214)⟩, ⟨(blk_put (blk_put (blk_put (blk_put BK1216.out 0 _ rfl) 1 _ rfl) 2 _ rfl) 3 _ rfl)⟩, ⟨(oB HB)⟩⟩
                ·rw [if_neg c111] at H
                 have c111b0 : (!(((rd_T38 t1199 x8_3).f0) == ((rd_T38 t1173 x8_3).f0)) || (!(((rd_T38 t1199 x8_3).f1) == ((rd_T38 t1173 x8_3).f1)) || (!(((rd_T38 t1199 x8_3).f2) == ((rd_T38 t1173 x8_3).f2)) || (!(((rd_T38 t1199 x8_3).f3) == ((rd_T38 t1173 x8_3).f3)))))) = false := by simpa using c111
                 clear c111
                 by_cases c125 : ((rd_T38 t1173 x8_3).f3) = 0
                 ·rw [if_pos c125] at H
                  have c125b0 : (((rd_T38 t1173 x8_3).f3) == 0) = true := beq_iff_eq.mpr c125
                  have c125b1 : (((rd_T38 t1173 x8_3).f3) != 0) = false := bne_eq_false_iff_eq.mpr c125
                  clear c125
                  have H' := Aside0.mk H
                  clear H
                  have hnb126 := NB1214_1181.out
                  have hnc126 := NB1181_1214.out
                  have hnb127 := NB1214_1182.out
                  have hnc127 := NB1182_1214.out
                  have hnb128 := NB1214_1187.out
                  have hnc128 := NB1187_1214.out
                  have hnb129 := NB1214_1193.out
                  have hnc129 := NB1193_1214.out
                  have hnb130 := NB1214_1202.out
                  have hnc130 := NB1202_1214.out
                  have hnb131 := NB1214_1216.out
                  have hnc131 := NB1216_1214.out
                  have hcz132_0 : w101.cell? ⟨gb1214, 0, none⟩ = some (.int .i64 ((rd_T38 t1199 x8_3).f0)) := (blk_cell BK1214.out 0).trans rfl
                  have hcz132_1 : w101.cell? ⟨gb1214, 1, none⟩ = some (.int .i64 ((rd_T38 t1199 x8_3).f1)) := (blk_cell BK1214.out 1).trans rfl
                  have hcz132_2 : w101.cell? ⟨gb1214, 2, none⟩ = some (.int .i64 ((rd_T38 t1199 x8_3).f2)) := (blk_cell BK1214.out 2).trans rfl
                  have hcz132_3 : w101.cell? ⟨gb1214, 3, none⟩ = some (.int .i64 ((rd_T38 t1199 x8_3).f3)) := (blk_cell BK1214.out 3).trans rfl
                  have hfz132_0 := blk_frozen BK1214.out 0
                  have hfz132_1 := blk_frozen BK1214.out 1
                  have hfz132_2 := blk_frozen BK1214.out 2
                  have hfz132_3 := blk_frozen BK1214.out 3
                  have hnb133 := NB1216_1181.out
                  have hnc133 := NB1181_1216.out
                  have hnb134 := NB1216_1182.out
                  have hnc134 := NB1182_1216.out
                  have hnb135 := NB1216_1187.out
                  have hnc135 := NB1187_1216.out
                  have hnb136 := NB1216_1193.out
                  have hnc136 := NB1193_1216.out
                  have hnb137 := NB1216_1202.out
                  have hnc137 := NB1202_1216.out
                  have hcz138_0 : w101.cell? ⟨gb1216, 0, none⟩ = some (.int .i64 0) := (blk_cell BK1216.out 0).trans rfl
                  have hcz138_1 : w101.cell? ⟨gb1216, 1, none⟩ = some (.int .i64 0) := (blk_cell BK1216.out 1).trans rfl
                  have hcz138_2 : w101.cell? ⟨gb1216, 2, none⟩ = some (.int .i64 0) := (blk_cell BK1216.out 2).trans rfl
                  have hcz138_3 : w101.cell? ⟨gb1216, 3, none⟩ = some (.int .i64 0) := (blk_cell BK1216.out 3).trans rfl
                  have hfz138_0 := blk_frozen BK1216.out 0
                  have hfz138_1 := blk_frozen BK1216.out 1
                  have hfz138_2 := blk_frozen BK1216.out 2
                  have hfz138_3 := blk_frozen BK1216.out 3
                  have hnb139 := NB1187_1181.out
                  have hnc139 := NB1181_1187.out
                  have hnb140 := NB1187_1182.out
                  have hnc140 := NB1182_1187.out
                  have hnb141 := NB1187_1193.out
                  have hnc141 := NB1193_1187.out
                  have hnb142 := NB1187_1202.out
                  have hnc142 := NB1202_1187.out
                  have hcz143_0 : w101.cell? ⟨gb1187, 0, none⟩ = some (.int .i64 t1183) := (blk_cell BK1187.out 0).trans rfl
                  have hcz143_1 : w101.cell? ⟨gb1187, 1, none⟩ = some (.int .i64 t1184) := (blk_cell BK1187.out 1).trans rfl
                  have hcz143_2 : w101.cell? ⟨gb1187, 2, none⟩ = some (.int .i64 t1185) := (blk_cell BK1187.out 2).trans rfl
                  have hcz143_3 : w101.cell? ⟨gb1187, 3, none⟩ = some (.int .i64 t1186) := (blk_cell BK1187.out 3).trans rfl
                  have hfz143_0 := blk_frozen BK1187.out 0
                  have hfz143_1 := blk_frozen BK1187.out 1
                  have hfz143_2 := blk_frozen BK1187.out 2
                  have hfz143_3 := blk_frozen BK1187.out 3
                  go_wp2
                  go_meet
                  case rel => exact ⟨_, ((!(((rd_T38 t1199 x8_3).f0) == t1183) || (!(((rd_T38 t1199 x8_3).f1) == t1184) || (!(((rd_T38 t1199 x8_3).f2) == t1185) || (!(((rd_T38 t1199 x8_3).f3) == 255)))))), (by first | rfl | (simp; done) | (simp [*]; done)), H', ⟨(by have := HJ4.out; have := HJ41.out; have := HK3.out; first | omega | exact Nat.le_refl _)⟩, ⟨(by (with_reducible repeat (first | apply Kd.Q_alloc | apply Kd.Q_drewN | apply Kd.Q_drew)); exact Kd.Q_mono (Kd.Q_far (p := ⟨gb1216, 3, none⟩) (Kd.Q_far (p := ⟨gb1216, 2, none⟩) (Kd.Q_far (p := ⟨gb1216, 1, none⟩) (Kd.Q_far (p := ⟨gb1216, 0, none⟩) (Kd.Q_mono HO_1182002.out (fun k_ hk => (⟨hk, hk.2⟩ : _ ∧ k_ ≠ gb1216))) oX2 (.int .i64 ((rd_T38 t1173 x8_3).f0))) oX2 (.int .i64 ((rd_T38 t1173 x8_3).f1))) oX2 (.int .i64 ((rd_T38 t1173 x8_3).f2))) oX2 (.int .i64 ((rd_T38 t1173 x8_3).f3))) (fun _ hk => by first | exact ⟨hk.1.1.1, ⟨hk.1.1.2, hk.1.2⟩⟩ | exact trivial | (revert hk; simp; done) | (simp_all; done)))⟩, ⟨(by (with_reducible repeat (first | apply Kd.V_alloc | apply Kd.V_drewN | apply Kd.V_drew)); exact Kd.V_mono (Kd.V_far (p := ⟨gb1216, 3, none⟩) (Kd.V_far (p := ⟨gb1216, 2, none⟩) (Kd.V_far (p := ⟨gb1216, 1, none⟩) (Kd.V_far (p := ⟨gb1216, 0, none⟩) (Kd.V_mono HO_1203002.out (fun k_ hk => (⟨hk, hk.2⟩ : _ ∧ k_ ≠ gb1216))) oX2 (.int .i64 ((rd_T38 t1173 x8_3).f0))) oX2 (.int .i64 ((rd_T38 t1173 x8_3).f1))) oX2 (.int .i64 ((rd_T38 t1173 x8_3).f2))) oX2 (.int .i64 ((rd_T38 t1173 x8_3).f3))) (fun _ hk => by first | exact ⟨hk.1.1.1.1, ⟨hk.1.1.1.2.1, ⟨hk.1.1.1.2.2.1, ⟨hk.1.1.1.2.2.2.1, ⟨hk.1.1.1.2.2.2.2, ⟨hk.1.1.2, hk.1.2⟩⟩⟩⟩⟩⟩ | exact trivial | (revert hk; simp; done) | (simp_all; done)))⟩, ⟨(oP BK1181)⟩, ⟨(oP BK1182)⟩, ⟨(oP BK1187)⟩, ⟨(oP BK1193)⟩, ⟨(oP BK1202)⟩, ⟨(oP BK1214)⟩, ⟨(blk_put (blk_put (blk_put (blk_put BK1216.out 0 _ rfl) 1 _ rfl) 2 _ rfl) 3 _ rfl)⟩, ⟨(oB HB)⟩⟩
                 ·rw [if_neg c125] at H
                  have c125b0 : (((rd_T38 t1173 x8_3).f3) == 0) = false := beq_eq_false_iff_ne.mpr c125
                  have c125b1 : (((rd_T38 t1173 x8_3).f3) != 0) = true := bne_iff_ne.mpr c125
                  have H' := Aside0.mk H
                  clear H
                  have hnb144 := NB1214_1181.out
                  have hnc144 := NB1181_1214.out
                  have hnb145 := NB1214_1182.out
                  have hnc145 := NB1182_1214.out
                  have hnb146 := NB1214_1187.out
                  have hnc146 := NB1187_1214.out
                  have hnb147 := NB1214_1193.out
                  have hnc147 := NB1193_1214.out
                  have hnb148 := NB1214_1202.out
                  have hnc148 := NB1202_1214.out
                  have hnb149 := NB1214_1216.out
                  have hnc149 := NB1216_1214.out
                  have hcz150_0 : w101.cell? ⟨gb1214, 0, none⟩ = some (.int .i64 ((rd_T38 t1199 x8_3).f0)) := (blk_cell BK1214.out 0).trans rfl
                  have hcz150_1 : w101.cell? ⟨gb1214, 1, none⟩ = some (.int .i64 ((rd_T38 t1199 x8_3).f1)) := (blk_cell BK1214.out 1).trans rfl
                  have hcz150_2 : w101.cell? ⟨gb1214, 2, none⟩ = some (.int .i64 ((rd_T38 t1199 x8_3).f2)) := (blk_cell BK1214.out 2).trans rfl
                  have hcz150_3 : w101.cell? ⟨gb1214, 3, none⟩ = some (.int .i64 ((rd_T38 t1199 x8_3).f3)) := (blk_cell BK1214.out 3).trans rfl
                  have hfz150_0 := blk_frozen BK1214.out 0
                  have hfz150_1 := blk_frozen BK1214.out 1
                  have hfz150_2 := blk_frozen BK1214.out 2
                  have hfz150_3 := blk_frozen BK1214.out 3
                  have hnb151 := NB1216_1181.out
                  have hnc151 := NB1181_1216.out
                  have hnb152 := NB1216_1182.out
                  have hnc152 := NB1182_1216.out
                  have hnb153 := NB1216_1187.out
                  have hnc153 := NB1187_1216.out
                  have hnb154 := NB1216_1193.out
                  have hnc154 := NB1193_1216.out
                  have hnb155 := NB1216_1202.out
                  have hnc155 := NB1202_1216.out
                  have hcz156_0 : w101.cell? ⟨gb1216, 0, none⟩ = some (.int .i64 0) := (blk_cell BK1216.out 0).trans rfl
                  have hcz156_1 : w101.cell? ⟨gb1216, 1, none⟩ = some (.int .i64 0) := (blk_cell BK1216.out 1).trans rfl
                  have hcz156_2 : w101.cell? ⟨gb1216, 2, none⟩ = some (.int .i64 0) := (blk_cell BK1216.out 2).trans rfl
                  have hcz156_3 : w101.cell? ⟨gb1216, 3, none⟩ = some (.int .i64 0) := (blk_cell BK1216.out 3).trans rfl
                  have hfz156_0 := blk_frozen BK1216.out 0
                  have hfz156_1 := blk_frozen BK1216.out 1
                  have hfz156_2 := blk_frozen BK1216.out 2
                  have hfz156_3 := blk_frozen BK1216.out 3
                  go_wp2
                  go_meet
                  case rel => exact ⟨_, (false), (by first | rfl | (simp; done) | (simp [*]; done)), H', ⟨(by have := HJ4.out; have := HJ41.out; have := HK3.out; first | omega | exact Nat.le_refl _)⟩, ⟨(by (with_reducible repeat (first | apply Kd.Q_alloc | apply Kd.Q_drewN | apply Kd.Q_drew)); exact Kd.Q_mono (Kd.Q_far (p := ⟨gb1216, 3, none⟩) (Kd.Q_far (p := ⟨gb1216, 2, none⟩) (Kd.Q_far (p := ⟨gb1216, 1, none⟩) (Kd.Q_far (p := ⟨gb1216, 0, none⟩) (Kd.Q_mono HO_1182002.out (fun k_ hk => (⟨hk, hk.2⟩ : _ ∧ k_ ≠ gb1216))) oX2 (.int .i64 ((rd_T38 t1173 x8_3).f0))) oX2 (.int .i64 ((rd_T38 t1173 x8_3).f1))) oX2 (.int .i64 ((rd_T38 t1173 x8_3).f2))) oX2 (.int .i64 ((rd_T38 t1173 x8_3).f3))) (fun _ hk => by first | exact ⟨hk.1.1.1, ⟨hk.1.1.2, hk.1.2⟩⟩ | exact trivial | (revert hk; simp; done) | (simp_all; done)))⟩, ⟨(by (with_reducible repeat (first | apply Kd.V_alloc | apply Kd.V_drewN | apply Kd.V_drew)); exact Kd.V_mono (Kd.V_far (p := ⟨gb1216, 3, none⟩) (Kd.V_far (p := ⟨gb1216, 2, none⟩) (Kd.V_far (p := ⟨gb1216, 1, none⟩) (Kd.V_far (p := ⟨gb1216, 0, none⟩) (Kd.V_mono HO_1203002.out (fun k_ hk => (⟨hk, hk.2⟩ : _ ∧ k_ ≠ gb1216))) oX2 (.int .i64 ((rd_T38 t1173 x8_3).f0))) oX2 (.int .i64 ((rd_T38 t1173 x8_3).f1))) oX2 (.int .i64 ((rd_T38 t1173 x8_3).f2))) oX2 (.int .i64 ((rd_T38 t1173 x8_3).f3))) (fun _ hk => by first | exact ⟨hk.1.1.1.1, ⟨hk.1.1.1.2.1, ⟨hk.1.1.1.2.2.1, ⟨hk.1.1.1.2.2.2.1, ⟨hk.1.1.1.2.2.2.2, ⟨hk.1.1.2, hk.1.2⟩⟩⟩⟩⟩⟩ | exact trivial | (revert hk; simp; done) | (simp_all; done)))⟩, ⟨(oP BK1181)⟩, ⟨(oP BK1182)⟩, ⟨(oP BK1187)⟩, ⟨(oP BK1193)⟩, ⟨(oP BK1202)⟩, ⟨(oP BK1214)⟩, ⟨(blk_put (blk_put (blk_put (blk_put BK1216.out 0 _ rfl) 1 _ rfl) 2 _ rfl) 3 _ rfl)⟩, ⟨(oB HB)⟩⟩
               ·rw [if_neg c110] at H
                have c110b0 : (((rd_T38 t1173 x8_3).f3) == 255) = false := beq_eq_false_iff_ne.mpr c110
                have c110b1 : (((rd_T38 t1173 x8_3).f3) != 255) = true := bne_iff_ne.mpr c110
                by_cases c157 : ((rd_T38 t1173 x8_3).f3) = 0
                ·rw [if_pos c157] at H
                 have c157b0 : (((rd_T38 t1173 x8_3).f3) == 0) = true := beq_iff_eq.mpr c157
                 have c157b1 : (((rd_T38 t1173 x8_3).f3) != 0) = false := bne_eq_false_iff_eq.mpr c157
                 clear c157
                 have H' := Aside0.mk H
                 clear H
                 have hnb158 := NB1214_1181.out
                 have hnc158 := NB1181_1214.out
                 have hnb159 := NB1214_1182.out
                 have hnc159 := NB1182_1214.out
                 have hnb160 := NB1214_1187.out
                 have hnc160 := NB1187_1214.out
                 have hnb161 := NB1214_1193.out
                 have hnc161 := NB1193_1214.out
                 have hnb162 := NB1214_1202.out
                 have hnc162 := NB1202_1214.out
                 have hnb163 := NB1214_1216.out
                 have hnc163 := NB1216_1214.out
                 have hcz164_0 : w101.cell? ⟨gb1214, 0, none⟩ = some (.int .i64 ((rd_T38 t1199 x8_3).f0)) := (blk_cell BK1214.out 0).trans rfl
                 have hcz164_1 : w101.cell? ⟨gb1214, 1, none⟩ = some (.int .i64 ((rd_T38 t1199 x8_3).f1)) := (blk_cell BK1214.out 1).trans rfl
                 have hcz164_2 : w101.cell? ⟨gb1214, 2, none⟩ = some (.int .i64 ((rd_T38 t1199 x8_3).f2)) := (blk_cell BK1214.out 2).trans rfl
                 have hcz164_3 : w101.cell? ⟨gb1214, 3, none⟩ = some (.int .i64 ((rd_T38 t1199 x8_3).f3)) := (blk_cell BK1214.out 3).trans rfl
                 have hfz164_0 := blk_frozen BK1214.out 0
                 have hfz164_1 := blk_frozen BK1214.out 1
                 have hfz164_2 := blk_frozen BK1214.out 2
                 have hfz164_3 := blk_frozen BK1214.out 3
                 have hnb165 := NB1216_1181.out
                 have hnc165 := NB1181_1216.out
                 have hnb166 := NB1216_1182.out
                 have hnc166 := NB1182_1216.out
                 have hnb167 := NB1216_1187.out
                 have hnc167 := NB1187_1216.out
                 have hnb168 := NB1216_1193.out
                 have hnc168 := NB1193_1216.out
                 have hnb169 := NB1216_1202.out
                 have hnc169 := NB1202_1216.out
                 have hcz170_0 : w101.cell? ⟨gb1216, 0, none⟩ = some (.int .i64 0) := (blk_cell BK1216.out 0).trans rfl
                 have hcz170_1 : w101.cell? ⟨gb1216, 1, none⟩ = some (.int .i64 0) := (blk_cell BK1216.out 1).trans rfl
                 have hcz170_2 : w101.cell? ⟨gb1216, 2, none⟩ = some (.int .i64 0) := (blk_cell BK1216.out 2).trans rfl
                 have hcz170_3 : w101.cell? ⟨gb1216, 3, none⟩ = some (.int .i64 0) := (blk_cell BK1216.out 3).trans rfl
                 have hfz170_0 := blk_frozen BK1216.out 0
                 have hfz170_1 := blk_frozen BK1216.out 1
                 have hfz170_2 := blk_frozen BK1216.out 2
                 have hfz170_3 := blk_frozen BK1216.out 3
                 have hnb171 := NB1187_1181.out
                 have hnc171 := NB1181_1187.out
                 have hnb172 := NB1187_1182.out
                 have hnc172 := NB1182_1187.out
                 have hnb173 := NB1187_1193.out
                 have hnc173 := NB1193_1187.out
                 have hnb174 := NB1187_1202.out
                 have hnc174 := NB1202_1187.out
                 have hcz175_0 : w101.cell? ⟨gb1187, 0, none⟩ = some (.int .i64 t1183) := (blk_cell BK1187.out 0).trans rfl
                 have hcz175_1 : w101.cell? ⟨gb1187, 1, none⟩ = some (.int .i64 t1184) := (blk_cell BK1187.out 1).trans rfl
                 have hcz175_2 : w101.cell? ⟨gb1187, 2, none⟩ = some (.int .i64 t1185) := (blk_cell BK1187.out 2).trans rfl
                 have hcz175_3 : w101.cell? ⟨gb1187, 3, none⟩ = some (.int .i64 t1186) := (blk_cell BK1187.out 3).trans rfl
                 have hfz175_0 := blk_frozen BK1187.out 0
                 have hfz175_1 := blk_frozen BK1187.out 1
                 have hfz175_2 := blk_frozen BK1187.out 2
                 have hfz175_3 := blk_frozen BK1187.out 3
                 go_wp2
                 go_meet
                 case rel => exact ⟨_, ((!(((rd_T38 t1199 x8_3).f0) == t1183) || (!(((rd_T38 t1199 x8_3).f1) == t1184) || (!(((rd_T38 t1199 x8_3).f2) == t1185) || (!(((rd_T38 t1199 x8_3).f3) == 255)))))), (by first | rfl | (simp; done) | (simp [*]; done)), H', ⟨(by have := HJ4.out; have := HJ41.out; have := HK3.out; first | omega | exact Nat.le_refl _)⟩, ⟨(by (with_reducible repeat (first | apply Kd.Q_alloc | apply Kd.Q_drewN | apply Kd.Q_drew)); exact Kd.Q_mono (Kd.Q_far (p := ⟨gb1216, 3, none⟩) (Kd.Q_far (p := ⟨gb1216, 2, none⟩) (Kd.Q_far (p := ⟨gb1216, 1, none⟩) (Kd.Q_far (p := ⟨gb1216, 0, none⟩) (Kd.Q_mono HO_1182002.out (fun k_ hk => (⟨hk, hk.2⟩ : _ ∧ k_ ≠ gb1216))) oX2 (.int .i64 ((rd_T38 t1173 x8_3).f0))) oX2 (.int .i64 ((rd_T38 t1173 x8_3).f1))) oX2 (.int .i64 ((rd_T38 t1173 x8_3).f2))) oX2 (.int .i64 ((rd_T38 t1173 x8_3).f3))) (fun _ hk => by first | exact ⟨hk.1.1.1, ⟨hk.1.1.2, hk.1.2⟩⟩ | exact trivial | (revert hk; simp; done) | (simp_all; done)))⟩, ⟨(by (with_reducible repeat (first | apply Kd.V_alloc | apply Kd.V_drewN | apply Kd.V_drew)); exact Kd.V_mono (Kd.V_far (p := ⟨gb1216, 3, none⟩) (Kd.V_far (p := ⟨gb1216, 2, none⟩) (Kd.V_far (p := ⟨gb1216, 1, none⟩) (Kd.V_far (p := ⟨gb1216, 0, none⟩) (Kd.V_mono HO_1203002.out (fun k_ hk => (⟨hk, hk.2⟩ : _ ∧ k_ ≠ gb1216))) oX2 (.int .i64 ((rd_T38 t1173 x8_3).f0))) oX2 (.int .i64 ((rd_T38 t1173 x8_3).f1))) oX2 (.int .i64 ((rd_T38 t1173 x8_3).f2))) oX2 (.int .i64 ((rd_T38 t1173 x8_3).f3))) (fun _ hk => by first | exact ⟨hk.1.1.1.1, ⟨hk.1.1.1.2.1, ⟨hk.1.1.1.2.2.1, ⟨hk.1.1.1.2.2.2.1, ⟨hk.1.1.1.2.2.2.2, ⟨hk.1.1.2, hk.1.2⟩⟩⟩⟩⟩⟩ | exact trivial | (revert hk; simp; done) | (simp_all; done)))⟩, ⟨(oP BK1181)⟩, ⟨(oP BK1182)⟩, ⟨(oP BK1187)⟩, ⟨(oP BK1193)⟩, ⟨(oP BK1202)⟩, ⟨(oP BK1214)⟩, ⟨(blk_put (blk_put (blk_put (blk_put BK1216.out 0 _ rfl) 1 _ rfl) 2 _ rfl) 3 _ rfl)⟩, ⟨(oB HB)⟩⟩
                ·rw [if_neg c157] at H
                 have c157b0 : (((rd_T38 t1173 x8_3).f3) == 0) = false := beq_eq_false_iff_ne.mpr c157
                 have c157b1 : (((rd_T38 t1173 x8_3).f3) != 0) = true := bne_iff_ne.mpr c157
                 have H' := Aside0.mk H
                 clear H
                 have hnb176 := NB1214_1181.out
                 have hnc176 := NB1181_1214.out
                 have hnb177 := NB1214_1182.out
                 have hnc177 := NB1182_1214.out
                 have hnb178 := NB1214_1187.out
                 have hnc178 := NB1187_1214.out
                 have hnb179 := NB1214_1193.out
                 have hnc179 := NB1193_1214.out
                 have hnb180 := NB1214_1202.out
                 have hnc180 := NB1202_1214.out
                 have hnb181 := NB1214_1216.out
                 have hnc181 := NB1216_1214.out
                 have hcz182_0 : w101.cell? ⟨gb1214, 0, none⟩ = some (.int .i64 ((rd_T38 t1199 x8_3).f0)) := (blk_cell BK1214.out 0).trans rfl
                 have hcz182_1 : w101.cell? ⟨gb1214, 1, none⟩ = some (.int .i64 ((rd_T38 t1199 x8_3).f1)) := (blk_cell BK1214.out 1).trans rfl
                 have hcz182_2 : w101.cell? ⟨gb1214, 2, none⟩ = some (.int .i64 ((rd_T38 t1199 x8_3).f2)) := (blk_cell BK1214.out 2).trans rfl
                 have hcz182_3 : w101.cell? ⟨gb1214, 3, none⟩ = some (.int .i64 ((rd_T38 t1199 x8_3).f3)) := (blk_cell BK1214.out 3).trans rfl
                 have hfz182_0 := blk_frozen BK1214.out 0
                 have hfz182_1 := blk_frozen BK1214.out 1
                 have hfz182_2 := blk_frozen BK1214.out 2
                 have hfz182_3 := blk_frozen BK1214.out 3
                 have hnb183 := NB1216_1181.out
                 have hnc183 := NB1181_1216.out
                 have hnb184 := NB1216_1182.out
                 have hnc184 := NB1182_1216.out
                 have hnb185 := NB1216_1187.out
                 have hnc185 := NB1187_1216.out
                 have hnb186 := NB1216_1193.out
                 have hnc186 := NB1193_1216.out
                 have hnb187 := NB1216_1202.out
                 have hnc187 := NB1202_1216.out
                 have hcz188_0 : w101.cell? ⟨gb1216, 0, none⟩ = some (.int .i64 0) := (blk_cell BK1216.out 0).trans rfl
                 have hcz188_1 : w101.cell? ⟨gb1216, 1, none⟩ = some (.int .i64 0) := (blk_cell BK1216.out 1).trans rfl
                 have hcz188_2 : w101.cell? ⟨gb1216, 2, none⟩ = some (.int .i64 0) := (blk_cell BK1216.out 2).trans rfl
                 have hcz188_3 : w101.cell? ⟨gb1216, 3, none⟩ = some (.int .i64 0) := (blk_cell BK1216.out 3).trans rfl
                 have hfz188_0 := blk_frozen BK1216.out 0
                 have hfz188_1 := blk_frozen BK1216.out 1
                 have hfz188_2 := blk_frozen BK1216.out 2
                 have hfz188_3 := blk_frozen BK1216.out 3
                 go_wp2
                 go_meet
                 case rel => exact ⟨_, (false), (by first | rfl | (simp; done) | (simp [*]; done)), H', ⟨(by have := HJ4.out; have := HJ41.out; have := HK3.out; first | omega | exact Nat.le_refl _)⟩, ⟨(by (with_reducible repeat (first | apply Kd.Q_alloc | apply Kd.Q_drewN | apply Kd.Q_drew)); exact Kd.Q_mono (Kd.Q_far (p := ⟨gb1216, 3, none⟩) (Kd.Q_far (p := ⟨gb1216, 2, none⟩) (Kd.Q_far (p := ⟨gb1216, 1, none⟩) (Kd.Q_far (p := ⟨gb1216, 0, none⟩) (Kd.Q_mono HO_1182002.out (fun k_ hk => (⟨hk, hk.2⟩ : _ ∧ k_ ≠ gb1216))) oX2 (.int .i64 ((rd_T38 t1173 x8_3).f0))) oX2 (.int .i64 ((rd_T38 t1173 x8_3).f1))) oX2 (.int .i64 ((rd_T38 t1173 x8_3).f2))) oX2 (.int .i64 ((rd_T38 t1173 x8_3).f3))) (fun _ hk => by first | exact ⟨hk.1.1.1, ⟨hk.1.1.2, hk.1.2⟩⟩ | exact trivial | (revert hk; simp; done) | (simp_all; done)))⟩, ⟨(by (with_reducible repeat (first | apply Kd.V_alloc | apply Kd.V_drewN | apply Kd.V_drew)); exact Kd.V_mono (Kd.V_far (p := ⟨gb1216, 3, none⟩) (Kd.V_far (p := ⟨gb1216, 2, none⟩) (Kd.V_far (p := ⟨gb1216, 1, none⟩) (Kd.V_far (p := ⟨gb1216, 0, none⟩) (Kd.V_mono HO_1203002.out (fun k_ hk => (⟨hk, hk.2⟩ : _ ∧ k_ ≠ gb1216))) oX2 (.int .i64 ((rd_T38 t1173 x8_3).f0))) oX2 (.int .i64 ((rd_T38 t1173 x8_3).f1))) oX2 (.int .i64 ((rd_T38 t1173 x8_3).f2))) oX2 (.int .i64 ((rd_T38 t1173 x8_3).f3))) (fun _ hk => by first | exact ⟨hk.1.1.1.1, ⟨hk.1.1.1.2.1, ⟨hk.1.1.1.2.2.1, ⟨hk.1.1.1.2.2.2.1, ⟨hk.1.1.1.2.2.2.2, ⟨hk.1.1.2, hk.1.2⟩⟩⟩⟩⟩⟩ | exact trivial | (revert hk; simp; done) | (simp_all; done)))⟩, ⟨(oP BK1181)⟩, ⟨(oP BK1182)⟩, ⟨(oP BK1187)⟩, ⟨(oP BK1193)⟩, ⟨(oP BK1202)⟩, ⟨(oP BK1214)⟩, ⟨(blk_put (blk_put (blk_put (blk_put BK1216.out 0 _ rfl) 1 _ rfl) 2 _ rfl) 3 _ rfl)⟩, ⟨(oB HB)⟩⟩
              ·rw [if_neg c109] at H
               have c109b0 : (((rd_T38 t1199 x8_3).f3) == 255) = false := beq_eq_false_iff_ne.mpr c109
               have c109b1 : (((rd_T38 t1199 x8_3).f3) != 255) = true := bne_iff_ne.mpr c109
               (first | rw [c109b0] | (simp only [i64_w, i32_w]; rw [c109b0]) | skip)
               have H' := Aside0.mk H
               clear H
               have hnb189 := NB1214_1181.out
               have hnc189 := NB1181_1214.out
               have hnb190 := NB1214_1182.out
               have hnc190 := NB1182_1214.out
               have hnb191 := NB1214_1187.out
               have hnc191 := NB1187_1214.out
               have hnb192 := NB1214_1193.out
               have hnc192 := NB1193_1214.out
               have hnb193 := NB1214_1202.out
               have hnc193 := NB1202_1214.out
               have hnb194 := NB1214_1216.out
               have hnc194 := NB1216_1214.out
               have hcz195_0 : w101.cell? ⟨gb1214, 0, none⟩ = some (.int .i64 ((rd_T38 t1199 x8_3).f0)) := (blk_cell BK1214.out 0).trans rfl
               have hcz195_1 : w101.cell? ⟨gb1214, 1, none⟩ = some (.int .i64 ((rd_T38 t1199 x8_3).f1)) := (blk_cell BK1214.out 1).trans rfl
               have hcz195_2 : w101.cell? ⟨gb1214, 2, none⟩ = some (.int .i64 ((rd_T38 t1199 x8_3).f2)) := (blk_cell BK1214.out 2).trans rfl
               have hcz195_3 : w101.cell? ⟨gb1214, 3, none⟩ = some (.int .i64 ((rd_T38 t1199 x8_3).f3)) := (blk_cell BK1214.out 3).trans rfl
               have hfz195_0 := blk_frozen BK1214.out 0
               have hfz195_1 := blk_frozen BK1214.out 1
               have hfz195_2 := blk_frozen BK1214.out 2
               have hfz195_3 := blk_frozen BK1214.out 3
               go_wp2
               go_meet
               case rel => exact ⟨_, (true), (by first | rfl | (simp; done) | (simp [*]; done)), H', ⟨(by have := HJ4.out; have := HJ41.out; have := HK3.out; first | omega | exact Nat.le_refl _)⟩, ⟨(by (with_reducible repeat (first | apply Kd.Q_alloc | apply Kd.Q_drewN | apply Kd.Q_drew)); exact Kd.Q_mono (Kd.Q_far (p := ⟨gb1216, 3, none⟩) (Kd.Q_far (p := ⟨gb1216, 2, none⟩) (Kd.Q_far (p := ⟨gb1216, 1, none⟩) (Kd.Q_far (p := ⟨gb1216, 0, none⟩) (Kd.Q_mono HO_1182002.out (fun k_ hk => (⟨hk, hk.2⟩ : _ ∧ k_ ≠ gb1216))) oX2 (.int .i64 ((rd_T38 t1173 x8_3).f0))) oX2 (.int .i64 ((rd_T38 t1173 x8_3).f1))) oX2 (.int .i64 ((rd_T38 t1173 x8_3).f2))) oX2 (.int .i64 ((rd_T38 t1173 x8_3).f3))) (fun _ hk => by first | exact ⟨hk.1.1.1, ⟨hk.1.1.2, hk.1.2⟩⟩ | exact trivial | (revert hk; simp; done) | (simp_all; done)))⟩, ⟨(by (with_reducible repeat (first | apply Kd.V_alloc | apply Kd.V_drewN | apply Kd.V_drew)); exact Kd.V_mono (Kd.V_far (p := ⟨gb1216, 3, none⟩) (Kd.V_far (p := ⟨gb1216, 2, none⟩) (Kd.V_far (p := ⟨gb1216, 1, none⟩) (Kd.V_far (p := ⟨gb1216, 0, none⟩) (Kd.V_mono HO_1203002.out (fun k_ hk => (⟨hk, hk.2⟩ : _ ∧ k_ ≠ gb1216))) oX2 (.int .i64 ((rd_T38 t1173 x8_3).f0))) oX2 (.int .i64 ((rd_T38 t1173 x8_3).f1))) oX2 (.int .i64 ((rd_T38 t1173 x8_3).f2))) oX2 (.int .i64 ((rd_T38 t1173 x8_3).f3))) (fun _ hk => by first | exact ⟨hk.1.1.1.1, ⟨hk.1.1.1.2.1, ⟨hk.1.1.1.2.2.1, ⟨hk.1.1.1.2.2.2.1, ⟨hk.1.1.1.2.2.2.2, ⟨hk.1.1.2, hk.1.2⟩⟩⟩⟩⟩⟩ | exact trivial | (revert hk; simp; done) | (simp_all; done)))⟩, ⟨(oP BK1181)⟩, ⟨(oP BK1182)⟩, ⟨(oP BK1187)⟩, ⟨(oP BK1193)⟩, ⟨(oP BK1202)⟩, ⟨(oP BK1214)⟩, ⟨(blk_put (blk_put (blk_put (blk_put BK1216.out 0 _ rfl) 1 _ rfl) 2 _ rfl) 3 _ rfl)⟩, ⟨(oB HB)⟩⟩
             case rest =>
              clear HC84
              try clear c1
              try clear p1
              try clear q1
              try clear hx1
              try clear c2
              try clear p2
              try clear c3
              try clear c4
              try clear c5
              try clear c6
              try clear c8
              try clear c9
              try clear c10
              try clear c11
              try clear c12
              try clear p12
              try clear q12
              try clear hx12
              try clear c13
              try clear c14
              try clear c15
              try clear c16
              try clear c17
              try clear c18
              try clear c19
              try clear c21
              try clear c26
              try clear c27
              try clear c32
              try clear c35
              try clear c35b0
              try clear c35b1
              try clear c35b2
              try clear c43
              try clear c44
              try clear c47
              try clear c48
              try clear c49
              try clear c51
              try clear c58
              try clear c59
              try clear c60
              try clear c61
              try clear c65
              try clear c80
              try clear c81
              try clear c81b0
              try clear c82
              try clear c82b0
              try clear c83
              try clear c83b0
              try clear c85
              try clear c86
              try clear c87
              try clear c88
              try clear c91
              try clear c92
              try clear c93
              try clear c94
              try clear c95
              try clear c97
              try clear c98
              try clear c99
              try clear c102
              try clear c103
              try clear c104
              try clear c105
              try clear c106
              try clear c107
              try clear c109
              try clear c109b0
              try clear c109b1
              try clear c110
              try clear c110b0
              try clear c110b1
              try clear c111
              try clear c111b0
              try clear c112
              try clear c113
              try clear c114
              try clear c115
              try clear c116
              try clear c117
              try clear c119
              try clear c120
              try clear c121
              try clear p121
              try clear q121
              try clear hx121
              try clear c122
              try clear c123
              try clear c125
              try clear c125b0
              try clear c125b1
              try clear c126
              try clear c127
              try clear c128
              try clear c129
              try clear c130
              try clear c131
              try clear c133
              try clear c134
              try clear c135
              try clear c136
              try clear c137
              try clear c139
              try clear c140
              try clear c141
              try clear c142
              try clear c144
              try clear c145
              try clear c146
              try clear c147
              try clear c148
              try clear c149
              try clear c151
              try clear c152
              try clear c153
              try clear c154
              try clear c155
              try clear c157
              try clear c157b0
              try clear c157b1
              try clear c158
              try clear c159
              try clear c160
              try clear c161
              try clear c162
              try clear c163
              try clear c165
              try clear c166
              try clear c167
              try clear c168
              try clear c169
              try clear c171
              try clear c172
              try clear c173
              try clear c174
              try clear c176
              try clear c177
              try clear c178
              try clear c179
              try clear c180
              try clear c181
              try clear c183
              try clear c184
              try clear c185
              try clear c186
              try clear c187
              try clear c189
              try clear c190
              try clear c191
              try clear c192
              try clear c193
              try clear c194
              try clear hcz100_0
              try clear hcz100_1
              try clear hcz100_2
              try clear hcz108_0
              try clear hcz108_1
              try clear hcz108_2
              try clear hcz108_3
              try clear hcz118_0
              try clear hcz118_1
              try clear hcz118_2
              try clear hcz118_3
              try clear hcz124_0
              try clear hcz124_1
              try clear hcz124_2
              try clear hcz124_3
              try clear hcz132_0
              try clear hcz132_1
              try clear hcz132_2
              try clear hcz132_3
              try clear hcz138_0
              try clear hcz138_1
              try clear hcz138_2
              try clear hcz138_3
              try clear hcz143_0
              try clear hcz143_1
              try clear hcz143_2
              try clear hcz143_3
              try clear hcz150_0
              try clear hcz150_1
              try clear hcz150_2
              try clear hcz150_3
              try clear hcz156_0
              try clear hcz156_1
              try clear hcz156_2
              try clear hcz156_3
              try clear hcz164_0
              try clear hcz164_1
              try clear hcz164_2
              try clear hcz164_3
              try clear hcz170_0
              try clear hcz170_1
              try clear hcz170_2
              try clear hcz170_3
              try clear hcz175_0
              try clear hcz175_1
              try clear hcz175_2
              try clear hcz175_3
              try clear hcz182_0
              try clear hcz182_1
              try clear hcz182_2
              try clear hcz182_3
              try clear hcz188_0
              try clear hcz188_1
              try clear hcz188_2
              try clear hcz188_3
              try clear hcz195_0
              try clear hcz195_1
              try clear hcz195_2
              try clear hcz195_3
              try clear hcz45_0
              try clear hcz45_1
              try clear hcz45_2
              try clear hcz45_3
              try clear hcz50_0
              try clear hcz50_1
              try clear hcz50_2
              try clear hcz50_3
              try clear hcz50_4
              try clear hcz52_0
              try clear hcz52_1
              try clear hcz52_2
              try clear hcz62_0
              try clear hcz62_1
              try clear hcz62_2
              try clear hcz89_0
              try clear hcz89_1
              try clear hcz89_2
              try clear hcz96_0
              try clear hcz96_1
              try clear hcz96_2
              try clear hcz96_3
              try clear hfz100_0
              try clear hfz100_1
              try clear hfz100_2
              try clear hfz108_0
              try clear hfz108_1
              try clear hfz108_2
              try clear hfz108_3
              try clear hfz118_0
              try clear hfz118_1
              try clear hfz118_2
              try clear hfz118_3
              try clear hfz124_0
              try clear hfz124_1
              try clear hfz124_2
              try clear hfz124_3
              try clear hfz132_0
              try clear hfz132_1
              try clear hfz132_2
              try clear hfz132_3
              try clear hfz138_0
              try clear hfz138_1
              try clear hfz138_2
              try clear hfz138_3
              try clear hfz143_0
              try clear hfz143_1
              try clear hfz143_2
              try clear hfz143_3
              try clear hfz150_0
              try clear hfz150_1
              try clear hfz150_2
              try clear hfz150_3
              try clear hfz156_0
              try clear hfz156_1
              try clear hfz156_2
              try clear hfz156_3
              try clear hfz164_0
              try clear hfz164_1
              try clear hfz164_2
              try clear hfz164_3
              try clear hfz170_0
              try clear hfz170_1
              try clear hfz170_2
              try clear hfz170_3
              try clear hfz175_0
              try clear hfz175_1
              try clear hfz175_2
              try clear hfz175_3
              try clear hfz182_0
              try clear hfz182_1
              try clear hfz182_2
              try clear hfz182_3
              try clear hfz188_0
              try clear hfz188_1
              try clear hfz188_2
              try clear hfz188_3
              try clear hfz195_0
              try clear hfz195_1
              try clear hfz195_2
              try clear hfz195_3
              try clear hfz45_0
              try clear hfz45_1
              try clear hfz45_2
              try clear hfz45_3
              try clear hfz50_0
              try clear hfz50_1
              try clear hfz50_2
              try clear hfz50_3
              try clear hfz50_4
              try clear hfz52_0
              try clear hfz52_1
              try clear hfz52_2
              try clear hfz62_0
              try clear hfz62_1
              try clear hfz62_2
              try clear hfz89_0
              try clear hfz89_1
              try clear hfz89_2
              try clear hfz96_0
              try clear hfz96_1
              try clear hfz96_2
              try clear hfz96_3
              try clear hx1213_0
              try clear hx1213_1
              try clear hx1213_2
              try clear hx1213_3
              try clear hx1215_0
              try clear hx1215_1
              try clear hx1215_2
              try clear hx1215_3
              try clear p1213
              try clear p1215
              try clear p2
              try clear q1213
              try clear q1215
              obtain ⟨kq, x105_83, rfl, HA, HJ83, HO_1182002, HO_1203002, BK1181, BK1182, BK1187, BK1193, BK1202, BK1214, BK1216, HB⟩ := hcut
              cases kq with
              | zero => exact nomatch (show none = some _ from HA.out)
              | succ kj83 =>
               have H := HA.out
               clear HA
               simp only [laws_FnOpFlat.j3] at H
               by_cases c196 : x105_83 = true
               ·subst c196
                rw [if_pos rfl] at H
                exact absurd H (by simp)
               ·replace c196 := Bool.eq_false_iff.mpr c196
                subst c196
                rw [if_neg (show ¬ (false = true) by decide)] at H
                obtain ⟨ji197, hji197⟩ : ∃ j_ : Int, (mn ((rd_T38 t1173 x8_3).f0) t1183) = j_ := ⟨_, rfl⟩
                replace H : (if ((rd_T38 t1199 x8_3).f0) < (wrap64 ((ji197) - 1)) then (none) else (if ((rd_T38 t1199 x8_3).f0) > (mx ((rd_T38 t1173 x8_3).f0) t1183) then (none) else (laws_FnOpFlat.l0 kj83 (wrap64 (x8_3 + 1)) t1171 t1172 t1173 t1183 t1184 t1185 t1186 t1197 t1198 t1199))) = some r := by first | (rw [hji197] at H; exact H) | (simp only [hji197] at H ⊢; exact H)
                have hji197_ : (if t1183 < ((rd_T38 t1173 x8_3).f0) then t1183 else ((rd_T38 t1173 x8_3).f0)) = ji197 := hji197
                by_cases c198 : ((rd_T38 t1199 x8_3).f0) < (wrap64 ((ji197) - 1))
                ·rw [if_pos c198] at H
                 exact absurd H (by simp)
                ·rw [if_neg c198] at H
                 have c198b0 : decide (((rd_T38 t1199 x8_3).f0) < (wrap64 ((ji197) - 1))) = false := decide_eq_false c198
                 clear c198
                 obtain ⟨ji199, hji199⟩ : ∃ j_ : Int, (mx ((rd_T38 t1173 x8_3).f0) t1183) = j_ := ⟨_, rfl⟩
                 replace H : (if ((rd_T38 t1199 x8_3).f0) > (ji199) then (none) else (laws_FnOpFlat.l0 kj83 (wrap64 (x8_3 + 1)) t1171 t1172 t1173 t1183 t1184 t1185 t1186 t1197 t1198 t1199)) = some r := by first | (rw [hji199] at H; exact H) | (simp only [hji199] at H ⊢; exact H)
                 have hji199_ : (if ((rd_T38 t1173 x8_3).f0) < t1183 then t1183 else ((rd_T38 t1173 x8_3).f0)) = ji199 := hji199
                 by_cases c200 : ((rd_T38 t1199 x8_3).f0) > (ji199)
                 ·rw [if_pos c200] at H
                  exact absurd H (by simp)
                 ·rw [if_neg c200] at H
                  have c200b0 : decide ((ji199) < ((rd_T38 t1199 x8_3).f0)) = false := decide_eq_false c200
                  clear c200
                  have H' := Aside0.mk H
                  clear H
                  have hnb201 := NB1214_1181.out
                  have hnc201 := NB1181_1214.out
                  have hnb202 := NB1214_1182.out
                  have hnc202 := NB1182_1214.out
                  have hnb203 := NB1214_1187.out
                  have hnc203 := NB1187_1214.out
                  have hnb204 := NB1214_1193.out
                  have hnc204 := NB1193_1214.out
                  have hnb205 := NB1214_1202.out
                  have hnc205 := NB1202_1214.out
                  have hnb206 := NB1214_1216.out
                  have hnc206 := NB1216_1214.out
                  have hcz207_0 : wc.cell? ⟨gb1214, 0, none⟩ = some (.int .i64 ((rd_T38 t1199 x8_3).f0)) := (blk_cell BK1214.out 0).trans rfl
                  have hcz207_1 : wc.cell? ⟨gb1214, 1, none⟩ = some (.int .i64 ((rd_T38 t1199 x8_3).f1)) := (blk_cell BK1214.out 1).trans rfl
                  have hcz207_2 : wc.cell? ⟨gb1214, 2, none⟩ = some (.int .i64 ((rd_T38 t1199 x8_3).f2)) := (blk_cell BK1214.out 2).trans rfl
                  have hcz207_3 : wc.cell? ⟨gb1214, 3, none⟩ = some (.int .i64 ((rd_T38 t1199 x8_3).f3)) := (blk_cell BK1214.out 3).trans rfl
                  have hfz207_0 := blk_frozen BK1214.out 0
                  have hfz207_1 := blk_frozen BK1214.out 1
                  have hfz207_2 := blk_frozen BK1214.out 2
                  have hfz207_3 := blk_frozen BK1214.out 3
                  have hnb208 := NB1216_1181.out
                  have hnc208 := NB1181_1216.out
                  have hnb209 := NB1216_1182.out
                  have hnc209 := NB1182_1216.out
                  have hnb210 := NB1216_1187.out
                  have hnc210 := NB1187_1216.out
                  have hnb211 := NB1216_1193.out
                  have hnc211 := NB1193_1216.out
                  have hnb212 := NB1216_1202.out
                  have hnc212 := NB1202_1216.out
                  have hcz213_0 : wc.cell? ⟨gb1216, 0, none⟩ = some (.int .i64 ((rd_T38 t1173 x8_3).f0)) := (blk_cell BK1216.out 0).trans rfl
                  have hcz213_1 : wc.cell? ⟨gb1216, 1, none⟩ = some (.int .i64 ((rd_T38 t1173 x8_3).f1)) := (blk_cell BK1216.out 1).trans rfl
                  have hcz213_2 : wc.cell? ⟨gb1216, 2, none⟩ = some (.int .i64 ((rd_T38 t1173 x8_3).f2)) := (blk_cell BK1216.out 2).trans rfl
                  have hcz213_3 : wc.cell? ⟨gb1216, 3, none⟩ = some (.int .i64 ((rd_T38 t1173 x8_3).f3)) := (blk_cell BK1216.out 3).trans rfl
                  have hfz213_0 := blk_frozen BK1216.out 0
                  have hfz213_1 := blk_frozen BK1216.out 1
                  have hfz213_2 := blk_frozen BK1216.out 2
                  have hfz213_3 := blk_frozen BK1216.out 3
                  have hnb214 := NB1187_1181.out
                  have hnc214 := NB1181_1187.out
                  have hnb215 := NB1187_1182.out
                  have hnc215 := NB1182_1187.out
                  have hnb216 := NB1187_1193.out
                  have hnc216 := NB1193_1187.out
                  have hnb217 := NB1187_1202.out
                  have hnc217 := NB1202_1187.out
                  have hcz218_0 : wc.cell? ⟨gb1187, 0, none⟩ = some (.int .i64 t1183) := (blk_cell BK1187.out 0).trans rfl
                  have hcz218_1 : wc.cell? ⟨gb1187, 1, none⟩ = some (.int .i64 t1184) := (blk_cell BK1187.out 1).trans rfl
                  have hcz218_2 : wc.cell? ⟨gb1187, 2, none⟩ = some (.int .i64 t1185) := (blk_cell BK1187.out 2).trans rfl
                  have hcz218_3 : wc.cell? ⟨gb1187, 3, none⟩ = some (.int .i64 t1186) := (blk_cell BK1187.out 3).trans rfl
                  have hfz218_0 := blk_frozen BK1187.out 0
                  have hfz218_1 := blk_frozen BK1187.out 1
                  have hfz218_2 := blk_frozen BK1187.out 2
                  have hfz218_3 := blk_frozen BK1187.out 3
                  go_wp2
                  go_roundg kj83
                  case measure => have := HJ4.out; have := HJ41.out; have := HK3.out; have := HJ83.out; omega
                  case rel => exact ⟨(wrap64 (x8_3 + 1)), (by first | rfl | (simp; done) | (simp [*]; done)), H', ⟨(by have := HJ4.out; have := HJ41.out; have := HK3.out; have := HJ83.out; omega)⟩, ⟨(by (with_reducible repeat (first | apply Kd.Q_alloc | apply Kd.Q_drewN | apply Kd.Q_drew)); exact Kd.Q_mono HO_1182002.out oX1)⟩, ⟨(by (with_reducible repeat (first | apply Kd.V_alloc | apply Kd.V_drewN | apply Kd.V_drew)); exact Kd.V_mono HO_1203002.out (fun _ hk => by first | exact ⟨hk.1, ⟨hk.2.1, ⟨hk.2.2.1, ⟨hk.2.2.2.1, hk.2.2.2.2.1⟩⟩⟩⟩ | exact trivial | (revert hk; simp; done) | (simp_all; done)))⟩, ⟨(oP BK1181)⟩, ⟨(oP BK1182)⟩, ⟨(oP BK1187)⟩, ⟨(oP BK1193)⟩, ⟨(oP BK1202)⟩, ⟨(oB HB)⟩⟩
            ·rw [if_neg c83] at H
             exact absurd H (by simp)
           ·rw [if_neg c82] at H
            exact absurd H (by simp)
          ·rw [if_neg c81] at H
           have c81b0 : decide (x8_3 < (t1199.length : Int)) = false := decide_eq_false c81
           clear c81
           obtain rfl := Option.some.inj H
           have hnb219 := NB1202_1181.out
           have hnc219 := NB1181_1202.out
           have hnb220 := NB1202_1182.out
           have hnc220 := NB1182_1202.out
           have hnb221 := NB1202_1187.out
           have hnc221 := NB1187_1202.out
           have hnb222 := NB1202_1193.out
           have hnc222 := NB1193_1202.out
           have hcz223_0 : wr.cell? ⟨gb1202, 0, none⟩ = some (.int .i64 t1197) := (blk_cell BK1202.out 0).trans rfl
           have hcz223_1 : wr.cell? ⟨gb1202, 1, none⟩ = some (.int .i64 t1198) := (blk_cell BK1202.out 1).trans rfl
           have hcz223_2 : wr.cell? ⟨gb1202, 2, none⟩ = some (.slice Ao63 t1199.length co63) := (blk_cell BK1202.out 2).trans rfl
           have hfz223_0 := blk_frozen BK1202.out 0
           have hfz223_1 := blk_frozen BK1202.out 1
           have hfz223_2 := blk_frozen BK1202.out 2
           go_wp2
           go_ret
           exact ⟨by first | rfl | (simp [errW_none, errW_some] <;> rfl) | (simp [*, errW_none, errW_some] <;> rfl), oB HB⟩

/-- THE ONE PURE STATEMENT of laws_FnOpFlat: yours. -/
def laws_FnOpFlat.Pure : Prop := ∀ (l0 : List Int), l0.length ≤ maxLen → l0.length * 1 ≤ 140737488351232 → (∀ x ∈ l0, (Lit.int .u8 x).wf = true) → ∃ k, laws_FnOpFlat.f k l0 = some true
theorem laws_FnOpFlat.walk (P : laws_FnOpFlat.Pure) (a0 : Option Addr) (len0 cap0 : Nat) (z0 : List Int) (w : World) (w0 : (a0 = none ∧ len0 = 0 ∧ cap0 = 0 ∧ z0 = []) ∨ ∃ x, a0 = some x ∧ len0 ≤ cap0 ∧ cap0 ≤ maxLen ∧ z0.length = cap0 ∧ (∀ i, i < z0.length → w.cell? (x.add i) = some (.int .u8 (z0.getD i 0))) ∧ ∀ n ∈ z0, (Lit.int .u8 n).wf = true) (y0 : len0 * 1 ≤ 140737488351232) :
  Calls Try.prog 15 #[.slice a0 len0 cap0] w fun e w' => e = .returned (.bool true) ∧ Below w.heap.size w w' := by
 obtain ⟨l0, rfl, hr0, hm0, hw0, hc0⟩ := ReadsInt.ofRowC w0
 obtain ⟨k, h⟩ := P l0 hm0 y0 hw0
 refine (laws_FnOpFlat.calls k _ _ l0 true w (Kd.C_of_reads (d := (0 : Int)) (h1 := fun _ => rfl) hr0) hc0 h).mono ?_
 rintro e w' ⟨rfl, hd⟩
 exact ⟨rfl, hd⟩

end Go.Proofs.Ythnmeogafklhnaa.X
