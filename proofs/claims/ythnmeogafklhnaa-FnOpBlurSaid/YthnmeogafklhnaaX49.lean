/- What functions of the program come to, each with its proof. No condition but what each theorem states. -/
import Derived.Test.YthnmeogafklhnaaX0
import Derived.Test.YthnmeogafklhnaaX9
import Derived.Test.YthnmeogafklhnaaX15
import Derived.Test.YthnmeogafklhnaaX32
import Derived.Test.YthnmeogafklhnaaX43
import Derived.Test.YthnmeogafklhnaaX44
import Derived.Test.YthnmeogafklhnaaX45
import Derived.Test.YthnmeogafklhnaaX48
namespace Go.Proofs.Ythnmeogafklhnaa.X
open Go.RowKit Go.Proofs.YthnmeogafklhnaaW.PrintWords Go.Proofs.YthnmeogafklhnaaW.PrintLast Go.Proofs.YthnmeogafklhnaaW.PrintMore Go.Proofs.Ythnmeogafklhnaa.Hyb
attribute [local go_sem] max2_int min2_int max_two min_two max_three min_three max_four min_four
set_option linter.unusedVariables false
set_option linter.unusedSimpArgs false
theorem hide_ {G : Prop} (h : ∀ G' : Prop, (G → G') → G') : G := h G id
theorem exVVVVVVVVVVVV_ {p : Value → Value → Value → Value → Value → Value → Value → Value → Value → Value → Value → Value → Prop} {G : Prop} (h : ∃ (x0 : Value) (x1 : Value) (x2 : Value) (x3 : Value) (x4 : Value) (x5 : Value) (x6 : Value) (x7 : Value) (x8 : Value) (x9 : Value) (x10 : Value) (x11 : Value), p x0 x1 x2 x3 x4 x5 x6 x7 x8 x9 x10 x11) (f : ∀ (x0 : Value) (x1 : Value) (x2 : Value) (x3 : Value) (x4 : Value) (x5 : Value) (x6 : Value) (x7 : Value) (x8 : Value) (x9 : Value) (x10 : Value) (x11 : Value), p x0 x1 x2 x3 x4 x5 x6 x7 x8 x9 x10 x11 → G) : G := by obtain ⟨x0, x1, x2, x3, x4, x5, x6, x7, x8, x9, x10, x11, h⟩ := h; exact f x0 x1 x2 x3 x4 x5 x6 x7 x8 x9 x10 x11 h
theorem an25_ {p0 p1 p2 p3 p4 p5 p6 p7 p8 p9 p10 p11 p12 p13 p14 p15 p16 p17 p18 p19 p20 p21 p22 p23 p24 G : Prop} (h : p0 ∧ p1 ∧ p2 ∧ p3 ∧ p4 ∧ p5 ∧ p6 ∧ p7 ∧ p8 ∧ p9 ∧ p10 ∧ p11 ∧ p12 ∧ p13 ∧ p14 ∧ p15 ∧ p16 ∧ p17 ∧ p18 ∧ p19 ∧ p20 ∧ p21 ∧ p22 ∧ p23 ∧ p24) (f : p0 → p1 → p2 → p3 → p4 → p5 → p6 → p7 → p8 → p9 → p10 → p11 → p12 → p13 → p14 → p15 → p16 → p17 → p18 → p19 → p20 → p21 → p22 → p23 → p24 → G) : G := by obtain ⟨h0, h1, h2, h3, h4, h5, h6, h7, h8, h9, h10, h11, h12, h13, h14, h15, h16, h17, h18, h19, h20, h21, h22, h23, h24⟩ := h; exact f h0 h1 h2 h3 h4 h5 h6 h7 h8 h9 h10 h11 h12 h13 h14 h15 h16 h17 h18 h19 h20 h21 h22 h23 h24

/-! ### laws_FnOpBlur: function 5 -/
theorem oY {P Q : Nat → Prop} (h : ∀ k, P k → Q k := by intro _ hk; first | exact trivial | exact hk | exact hk.1 | exact hk.2 | ((repeat cases ‹_ ∧ _›); (repeat' apply And.intro) <;> first | assumption | trivial)) : ∀ k, P k → Q k := h
mutual
def laws_FnOpBlur.j0 : Nat → Bool → Int → Int → List (S38) → Int → Int → Int → Int → Int → Int → Int → List (S38) → Option (Bool)
 | 0, _, _, _, _, _, _, _, _, _, _, _, _ => none
 | k + 1, x77, x531000, x531001, x531002, x533000, x533001, x533002, x533003, x533004, x547000, x547001, x547002 => if x77 = true then (none) else (laws_FnOpBlur.l0 k 0 x531000 x531001 x531002 x533000 x533001 x533002 x533003 x533004 x547000 x547001 x547002 x531000 x531001 ([] : List (S38)))
def laws_FnOpBlur.l0 : Nat → Int → Int → Int → List (S38) → Int → Int → Int → Int → Int → Int → Int → List (S38) → Int → Int → List (S38) → Option (Bool)
 | 0, _, _, _, _, _, _, _, _, _, _, _, _, _, _, _ => none
 | k + 1, x12, x531000, x531001, x531002, x533000, x533001, x533002, x533003, x533004, x547000, x547001, x547002, x590000, x590001, x590002 => if x12 < (x531002.length : Int) then (if 0 < (x531002.length : Int) then (if x590002.length < 4398046511104 then (laws_FnOpBlur.l1 k x12 255 0 0 x531000 x531001 x531002 x533000 x533001 x533002 x533003 x533004 x547000 x547001 x547002 x590000 x590001 (x590002 ++ [(⟨(rd_T38 x531002 0).f0, (rd_T38 x531002 0).f1, (rd_T38 x531002 0).f2, (rd_T38 x531002 0).f3⟩ : S38)])) else (none)) else (none)) else ((laws_eaDo.f k x590000 x590001 x590002 (([(⟨x533000, x533001, x533002, x533003, x533004⟩ : S27)] : List (S27)))).bind fun fT => ((laws_eaRas.f k fT.1 fT.2.1 fT.2.2 x590000 x590001 x590002).bind fun jU => (some jU)))
def laws_FnOpBlur.l1 : Nat → Int → Int → Int → Int → Int → Int → List (S38) → Int → Int → Int → Int → Int → Int → Int → List (S38) → Int → Int → List (S38) → Option (Bool)
 | 0, _, _, _, _, _, _, _, _, _, _, _, _, _, _, _, _, _, _ => none
 | k + 1, x12, x13, x14, x15, x531000, x531001, x531002, x533000, x533001, x533002, x533003, x533004, x547000, x547001, x547002, x590000, x590001, x590002 => if x15 < (x531002.length : Int) then (if x531000 = 0 then (none) else (if (wrap64 ((wrap64 ((Int.tmod x15 x531000) - (Int.tmod x12 x531000))) * (wrap64 ((Int.tmod x15 x531000) - (Int.tmod x12 x531000))))) ≤ 1 then (if (wrap64 ((wrap64 ((wrap64 (Int.tdiv x15 x531000)) - (wrap64 (Int.tdiv x12 x531000)))) * (wrap64 ((wrap64 (Int.tdiv x15 x531000)) - (wrap64 (Int.tdiv x12 x531000)))))) ≤ 1 then (if 0 ≤ x15 then (laws_FnOpBlur.l1 k x12 (mn x13 ((rd_T38 x531002 x15).f1)) (mx x14 ((rd_T38 x531002 x15).f1)) (wrap64 (x15 + 1)) x531000 x531001 x531002 x533000 x533001 x533002 x533003 x533004 x547000 x547001 x547002 x590000 x590001 x590002) else (none)) else (laws_FnOpBlur.l1 k x12 x13 x14 (wrap64 (x15 + 1)) x531000 x531001 x531002 x533000 x533001 x533002 x533003 x533004 x547000 x547001 x547002 x590000 x590001 x590002)) else (laws_FnOpBlur.l1 k x12 x13 x14 (wrap64 (x15 + 1)) x531000 x531001 x531002 x533000 x533001 x533002 x533003 x533004 x547000 x547001 x547002 x590000 x590001 x590002))) else (if 0 ≤ x12 then (if x12 < (x547002.length : Int) then (if ((rd_T38 x547002 x12).f1) < x13 then (none) else (if ((rd_T38 x547002 x12).f1) > x14 then (none) else (laws_FnOpBlur.l0 k (wrap64 (x12 + 1)) x531000 x531001 x531002 x533000 x533001 x533002 x533003 x533004 x547000 x547001 x547002 x590000 x590001 x590002))) else (none)) else (none))
end
def laws_FnOpBlur.f (k : Nat) (l0 : List Int) : Option (Bool) := if (l0.length : Int) > 1048576 then (some true) else ((spec_DrawOpDo.f k l0).bind fun cE => ((spec_RasOk.f k cE.1 cE.2.1 cE.2.2.1).bind fun jL => (if jL = true then ((laws_eaDo.f k cE.1 cE.2.1 cE.2.2.1 (([(⟨6, 0, 0, 0, 0⟩ : S27)] : List (S27)))).bind fun cD => ((spec_OpDo.f k cE.1 cE.2.1 cE.2.2.1 6 0 0 0 0).bind fun eO => ((laws_eaRas.f k cD.1 cD.2.1 cD.2.2 eO.1 eO.2.1 eO.2.2.1).bind fun iC => (if iC = true then ((laws_eaDo.f k cD.1 cD.2.1 cD.2.2 (([(⟨4, 0, 0, 0, 0⟩ : S27)] : List (S27)))).bind fun eK => ((laws_eaDo.f k cE.1 cE.2.1 cE.2.2.1 (([(⟨4, 0, 0, 0, 0⟩ : S27), (⟨6, 0, 0, 0, 0⟩ : S27)] : List (S27)))).bind fun eE => ((laws_eaRas.f k eK.1 eK.2.1 eK.2.2 eE.1 eE.2.1 eE.2.2).bind fun gA => (if gA = true then ((laws_eaDo.f k cD.1 cD.2.1 cD.2.2 (([(⟨2, 0, 0, 0, 0⟩ : S27)] : List (S27)))).bind fun dS => ((laws_eaDo.f k cE.1 cE.2.1 cE.2.2.1 (([(⟨2, 0, 0, 0, 0⟩ : S27), (⟨6, 0, 0, 0, 0⟩ : S27)] : List (S27)))).bind fun dI => ((laws_eaRas.f k dS.1 dS.2.1 dS.2.2 dI.1 dI.2.1 dI.2.2).bind fun eJ => (laws_FnOpBlur.j0 k (!eJ) cE.1 cE.2.1 cE.2.2.1 6 0 0 0 0 cD.1 cD.2.1 cD.2.2)))) else (laws_FnOpBlur.j0 k true cE.1 cE.2.1 cE.2.2.1 6 0 0 0 0 cD.1 cD.2.1 cD.2.2))))) else (laws_FnOpBlur.j0 k true cE.1 cE.2.1 cE.2.2.1 6 0 0 0 0 cD.1 cD.2.1 cD.2.2))))) else ((impl_RasOk.f k cE.1 cE.2.1 cE.2.2.1).bind fun jM => (if jM = true then (none) else ((laws_eaOk.f).bind fun jN => (some jN)))))))
theorem laws_FnOpBlur.mono_l : ∀ k, (∀ y0 y1 y2 y3 y4 y5 y6 y7 y8 y9 iW jY, LeO (laws_FnOpBlur.j0 k y0 y1 y2 y3 y4 y5 y6 y7 y8 y9 iW jY) (laws_FnOpBlur.j0 (k + 1) y0 y1 y2 y3 y4 y5 y6 y7 y8 y9 iW jY)) ∧ (∀ y0 y1 y2 y3 y4 y5 y6 y7 y8 y9 iW jY lZ mA mB, LeO (laws_FnOpBlur.l0 k y0 y1 y2 y3 y4 y5 y6 y7 y8 y9 iW jY lZ mA mB) (laws_FnOpBlur.l0 (k + 1) y0 y1 y2 y3 y4 y5 y6 y7 y8 y9 iW jY lZ mA mB)) ∧ (∀ y0 y1 y2 y3 y4 y5 y6 y7 y8 y9 iW jY lZ mA mB y15 y16 y17, LeO (laws_FnOpBlur.l1 k y0 y1 y2 y3 y4 y5 y6 y7 y8 y9 iW jY lZ mA mB y15 y16 y17) (laws_FnOpBlur.l1 (k + 1) y0 y1 y2 y3 y4 y5 y6 y7 y8 y9 iW jY lZ mA mB y15 y16 y17))
 | 0 => ⟨(fun _ _ _ _ _ _ _ _ _ _ _ _ r h => nomatch (show none = some r from h)), (fun _ _ _ _ _ _ _ _ _ _ _ _ _ _ _ r h => nomatch (show none = some r from h)), (fun _ _ _ _ _ _ _ _ _ _ _ _ _ _ _ _ _ _ r h => nomatch (show none = some r from h))⟩
 | k + 1 => by
  obtain ⟨ih0, ih1, ih2⟩ := laws_FnOpBlur.mono_l k
  refine ⟨?_, ?_, ?_⟩
  ·intro y0 y1 y2 y3 y4 y5 y6 y7 y8 y9 iW jY
   unfold laws_FnOpBlur.j0
   repeat' first
   | (with_reducible exact ih0 _ _ _ _ _ _ _ _ _ _ _ _)
   | (with_reducible exact ih1 _ _ _ _ _ _ _ _ _ _ _ _ _ _ _)
   | (with_reducible exact ih2 _ _ _ _ _ _ _ _ _ _ _ _ _ _ _ _ _ _)
   | (with_reducible exact impl_RasOk.mono _ _ _ _)
   | (with_reducible exact laws_eaDo.mono _ _ _ _ _)
   | (with_reducible exact laws_eaRas.mono _ _ _ _ _ _ _)
   | (with_reducible exact spec_DrawOpDo.mono _ _)
   | (with_reducible exact spec_OpDo.mono _ _ _ _ _ _ _ _ _)
   | (with_reducible exact spec_RasOk.mono _ _ _ _)
   | (with_reducible exact LeO.refl _)
   | (with_reducible exact LeO.none _)
   | (with_reducible refine LeO.ite ?_ ?_)
   | (with_reducible refine LeO.bind ?_ (fun _ => ?_))
   | exact ih0 _ _ _ _ _ _ _ _ _ _ _ _
   | exact ih1 _ _ _ _ _ _ _ _ _ _ _ _ _ _ _
   | exact ih2 _ _ _ _ _ _ _ _ _ _ _ _ _ _ _ _ _ _
   | exact impl_RasOk.mono _ _ _ _
   | exact laws_eaDo.mono _ _ _ _ _
   | exact laws_eaRas.mono _ _ _ _ _ _ _
   | exact spec_DrawOpDo.mono _ _
   | exact spec_OpDo.mono _ _ _ _ _ _ _ _ _
   | exact spec_RasOk.mono _ _ _ _
   | exact LeO.none _
   | refine LeO.ite ?_ ?_
   | refine LeO.bind ?_ (fun _ => ?_)
  ·intro y0 y1 y2 y3 y4 y5 y6 y7 y8 y9 iW jY lZ mA mB
   unfold laws_FnOpBlur.l0
   repeat' first
   | (with_reducible exact ih0 _ _ _ _ _ _ _ _ _ _ _ _)
   | (with_reducible exact ih1 _ _ _ _ _ _ _ _ _ _ _ _ _ _ _)
   | (with_reducible exact ih2 _ _ _ _ _ _ _ _ _ _ _ _ _ _ _ _ _ _)
   | (with_reducible exact impl_RasOk.mono _ _ _ _)
   | (with_reducible exact laws_eaDo.mono _ _ _ _ _)
   | (with_reducible exact laws_eaRas.mono _ _ _ _ _ _ _)
   | (with_reducible exact spec_DrawOpDo.mono _ _)
   | (with_reducible exact spec_OpDo.mono _ _ _ _ _ _ _ _ _)
   | (with_reducible exact spec_RasOk.mono _ _ _ _)
   | (with_reducible exact LeO.refl _)
   | (with_reducible exact LeO.none _)
   | (with_reducible refine LeO.ite ?_ ?_)
   | (with_reducible refine LeO.bind ?_ (fun _ => ?_))
   | exact ih0 _ _ _ _ _ _ _ _ _ _ _ _
   | exact ih1 _ _ _ _ _ _ _ _ _ _ _ _ _ _ _
   | exact ih2 _ _ _ _ _ _ _ _ _ _ _ _ _ _ _ _ _ _
   | exact impl_RasOk.mono _ _ _ _
   | exact laws_eaDo.mono _ _ _ _ _
   | exact laws_eaRas.mono _ _ _ _ _ _ _
   | exact spec_DrawOpDo.mono _ _
   | exact spec_OpDo.mono _ _ _ _ _ _ _ _ _
   | exact spec_RasOk.mono _ _ _ _
   | exact LeO.none _
   | refine LeO.ite ?_ ?_
   | refine LeO.bind ?_ (fun _ => ?_)
  ·intro y0 y1 y2 y3 y4 y5 y6 y7 y8 y9 iW jY lZ mA mB y15 y16 y17
   unfold laws_FnOpBlur.l1
   repeat' first
   | (with_reducible exact ih0 _ _ _ _ _ _ _ _ _ _ _ _)
   | (with_reducible exact ih1 _ _ _ _ _ _ _ _ _ _ _ _ _ _ _)
   | (with_reducible exact ih2 _ _ _ _ _ _ _ _ _ _ _ _ _ _ _ _ _ _)
   | (with_reducible exact impl_RasOk.mono _ _ _ _)
   | (with_reducible exact laws_eaDo.mono _ _ _ _ _)
   | (with_reducible exact laws_eaRas.mono _ _ _ _ _ _ _)
   | (with_reducible exact spec_DrawOpDo.mono _ _)
   | (with_reducible exact spec_OpDo.mono _ _ _ _ _ _ _ _ _)
   | (with_reducible exact spec_RasOk.mono _ _ _ _)
   | (with_reducible exact LeO.refl _)
   | (with_reducible exact LeO.none _)
   | (with_reducible refine LeO.ite ?_ ?_)
   | (with_reducible refine LeO.bind ?_ (fun _ => ?_))
   | exact ih0 _ _ _ _ _ _ _ _ _ _ _ _
   | exact ih1 _ _ _ _ _ _ _ _ _ _ _ _ _ _ _
   | exact ih2 _ _ _ _ _ _ _ _ _ _ _ _ _ _ _ _ _ _
   | exact impl_RasOk.mono _ _ _ _
   | exact laws_eaDo.mono _ _ _ _ _
   | exact laws_eaRas.mono _ _ _ _ _ _ _
   | exact spec_DrawOpDo.mono _ _
   | exact spec_OpDo.mono _ _ _ _ _ _ _ _ _
   | exact spec_RasOk.mono _ _ _ _
   | exact LeO.none _
   | refine LeO.ite ?_ ?_
   | refine LeO.bind ?_ (fun _ => ?_)
theorem laws_FnOpBlur.mono : ∀ a0 k, LeO (laws_FnOpBlur.f k a0) (laws_FnOpBlur.f (k + 1) a0) := by
 intro a0 k
 obtain ⟨ih0, ih1, ih2⟩ := laws_FnOpBlur.mono_l k
 unfold laws_FnOpBlur.f
 repeat' first
   | (with_reducible exact ih0 _ _ _ _ _ _ _ _ _ _ _ _)
   | (with_reducible exact ih1 _ _ _ _ _ _ _ _ _ _ _ _ _ _ _)
   | (with_reducible exact ih2 _ _ _ _ _ _ _ _ _ _ _ _ _ _ _ _ _ _)
   | (with_reducible exact impl_RasOk.mono _ _ _ _)
   | (with_reducible exact laws_eaDo.mono _ _ _ _ _)
   | (with_reducible exact laws_eaRas.mono _ _ _ _ _ _ _)
   | (with_reducible exact spec_DrawOpDo.mono _ _)
   | (with_reducible exact spec_OpDo.mono _ _ _ _ _ _ _ _ _)
   | (with_reducible exact spec_RasOk.mono _ _ _ _)
   | (with_reducible exact LeO.refl _)
   | (with_reducible exact LeO.none _)
   | (with_reducible refine LeO.ite ?_ ?_)
   | (with_reducible refine LeO.bind ?_ (fun _ => ?_))
   | exact ih0 _ _ _ _ _ _ _ _ _ _ _ _
   | exact ih1 _ _ _ _ _ _ _ _ _ _ _ _ _ _ _
   | exact ih2 _ _ _ _ _ _ _ _ _ _ _ _ _ _ _ _ _ _
   | exact impl_RasOk.mono _ _ _ _
   | exact laws_eaDo.mono _ _ _ _ _
   | exact laws_eaRas.mono _ _ _ _ _ _ _
   | exact spec_DrawOpDo.mono _ _
   | exact spec_OpDo.mono _ _ _ _ _ _ _ _ _
   | exact spec_RasOk.mono _ _ _ _
   | exact LeO.none _
   | refine LeO.ite ?_ ?_
   | refine LeO.bind ?_ (fun _ => ?_)
def laws_FnOpBlur.T11 : Bool × List (List Nat × List Nat) := (true, [([], []), ([], []), ([0, 1], [0, 1]), ([2], [2]), ([3, 2], [3]), ([4], [4]), ([4], [4]), ([6, 4], [4, 6]), ([5, 7, 4, 4], [4, 5, 7]), ([4], [4]), ([4], [4]), ([4], [4]), ([10, 11, 4], [4, 10, 11]), ([9, 12, 8, 4], [4, 9, 12]), ([8, 13, 13, 4], [4, 8, 13]), ([14, 4], [4, 14]), ([4, 15], [4, 15]), ([16, 14], [16]), ([17], [17]), ([17], [17]), ([19, 17], [17, 19]), ([18, 20, 17, 17], [17, 18, 20]), ([17], [17]), ([17], [17]), ([17], [17]), ([23, 24, 17], [17, 23, 24]), ([22, 25, 21, 17], [17, 22, 25]), ([21, 26, 26, 17], [17, 21, 26]), ([27, 17], [17, 27]), ([17, 28], [17, 28])])
def laws_FnOpBlur.B11 : List Nat := [0, 0, 3, 7, 15, 31, 31, 95, 255, 31, 31, 31, 3103, 8191, 16383, 32767, 65535, 131071, 262143, 262143, 786431, 2097151, 262143, 262143, 262143, 25427967, 67108863, 134217727, 268435455, 536870911]
theorem laws_FnOpBlur.tab11 : rtab .any (opsOf Try.f5 11) = laws_FnOpBlur.T11 := by kernel_rfl
theorem laws_FnOpBlur.bits11 : waitsOk laws_FnOpBlur.T11.2 laws_FnOpBlur.B11 = true := by kernel_rfl
def laws_FnOpBlur.T17 : Bool × List (List Nat × List Nat) := (true, [([], []), ([0], [0]), ([], []), ([2], [2]), ([3], [3]), ([4], [4]), ([5], [5]), ([1, 6], [1, 6]), ([0, 1, 2, 3, 4, 5, 6, 7], []), ([8, 7, 7, 0, 1, 2, 3, 4, 5, 6, 7], [7, 8])])
def laws_FnOpBlur.B17 : List Nat := [0, 1, 0, 4, 12, 28, 60, 127, 255, 511]
theorem laws_FnOpBlur.tab17 : rtab .any (opsOf Try.f5 17) = laws_FnOpBlur.T17 := by kernel_rfl
theorem laws_FnOpBlur.bits17 : waitsOk laws_FnOpBlur.T17.2 laws_FnOpBlur.B17 = true := by kernel_rfl
def laws_FnOpBlur.T23 : Bool × List (List Nat × List Nat) := (true, [([], []), ([], []), ([1], [1]), ([0, 2], [0, 2]), ([], []), ([], []), ([5], [5]), ([4, 6], [4, 6]), ([3, 7], [3, 7]), ([8, 0, 1, 2, 3, 4, 5, 6, 7, 8], [8])])
def laws_FnOpBlur.B23 : List Nat := [0, 0, 2, 7, 0, 0, 32, 112, 255, 511]
theorem laws_FnOpBlur.tab23 : rtab .any (opsOf Try.f5 23) = laws_FnOpBlur.T23 := by kernel_rfl
theorem laws_FnOpBlur.bits23 : waitsOk laws_FnOpBlur.T23.2 laws_FnOpBlur.B23 = true := by kernel_rfl
def laws_FnOpBlur.T24 : Bool × List (List Nat × List Nat) := (true, [([], []), ([], []), ([1], [1]), ([0, 2], [0, 2]), ([], []), ([], []), ([5], [5]), ([4, 6], [4, 6]), ([3, 7], [3, 7]), ([8, 0, 1, 2, 3, 4, 5, 6, 7, 8], [8])])
def laws_FnOpBlur.B24 : List Nat := [0, 0, 2, 7, 0, 0, 32, 112, 255, 511]
theorem laws_FnOpBlur.tab24 : rtab .any (opsOf Try.f5 24) = laws_FnOpBlur.T24 := by kernel_rfl
theorem laws_FnOpBlur.bits24 : waitsOk laws_FnOpBlur.T24.2 laws_FnOpBlur.B24 = true := by kernel_rfl
theorem laws_FnOpBlur.j0_true : ∀ k y0 y1 y2 y3 y4 y5 y6 y7 y8 y9 iW, laws_FnOpBlur.j0 k true y0 y1 y2 y3 y4 y5 y6 y7 y8 y9 iW = none := by intro k; cases k <;> intros <;> simp [laws_FnOpBlur.j0]
set_option maxHeartbeats 8000000 in
set_option maxRecDepth 100000 in
theorem laws_FnOpBlur.calls (k : Nat) (A0 : Option Addr) (c0 : Nat) (l0 : List Int) (r : Bool) (w : World) (hr0 : Kd.C (Kd.int .u8) w A0 l0.length l0) (tA : l0.length ≤ c0) (h : laws_FnOpBlur.f k l0 = some r) :
  Calls Try.prog 5 #[.slice A0 l0.length c0] w fun e w' => e = .returned (.bool r) ∧ Below w.heap.size w w' := by
 have hu25 := Try.underlying25
 have hu27 := Try.underlying27
 have hu38 := Try.underlying38
 have HR0 := Aside0.mk hr0
 have HC0 := Aside0.mk tA
 clear hr0 tA
 have HB := Aside0.mk (Below.refl w.heap.size w)
 have H : (if (l0.length : Int) > 1048576 then (some true) else ((spec_DrawOpDo.f k l0).bind fun cE => ((spec_RasOk.f k cE.1 cE.2.1 cE.2.2.1).bind fun jL => (if jL = true then ((laws_eaDo.f k cE.1 cE.2.1 cE.2.2.1 (([(⟨6, 0, 0, 0, 0⟩ : S27)] : List (S27)))).bind fun cD => ((spec_OpDo.f k cE.1 cE.2.1 cE.2.2.1 6 0 0 0 0).bind fun eO => ((laws_eaRas.f k cD.1 cD.2.1 cD.2.2 eO.1 eO.2.1 eO.2.2.1).bind fun iC => (if iC = true then ((laws_eaDo.f k cD.1 cD.2.1 cD.2.2 (([(⟨4, 0, 0, 0, 0⟩ : S27)] : List (S27)))).bind fun eK => ((laws_eaDo.f k cE.1 cE.2.1 cE.2.2.1 (([(⟨4, 0, 0, 0, 0⟩ : S27), (⟨6, 0, 0, 0, 0⟩ : S27)] : List (S27)))).bind fun eE => ((laws_eaRas.f k eK.1 eK.2.1 eK.2.2 eE.1 eE.2.1 eE.2.2).bind fun gA => (if gA = true then ((laws_eaDo.f k cD.1 cD.2.1 cD.2.2 (([(⟨2, 0, 0, 0, 0⟩ : S27)] : List (S27)))).bind fun dS => ((laws_eaDo.f k cE.1 cE.2.1 cE.2.2.1 (([(⟨2, 0, 0, 0, 0⟩ : S27), (⟨6, 0, 0, 0, 0⟩ : S27)] : List (S27)))).bind fun dI => ((laws_eaRas.f k dS.1 dS.2.1 dS.2.2 dI.1 dI.2.1 dI.2.2).bind fun eJ => (laws_FnOpBlur.j0 k (!eJ) cE.1 cE.2.1 cE.2.2.1 6 0 0 0 0 cD.1 cD.2.1 cD.2.2)))) else (laws_FnOpBlur.j0 k true cE.1 cE.2.1 cE.2.2.1 6 0 0 0 0 cD.1 cD.2.1 cD.2.2))))) else (laws_FnOpBlur.j0 k true cE.1 cE.2.1 cE.2.2.1 6 0 0 0 0 cD.1 cD.2.1 cD.2.2))))) else ((impl_RasOk.f k cE.1 cE.2.1 cE.2.2.1).bind fun jM => (if jM = true then (none) else ((laws_eaOk.f).bind fun jN => (some jN)))))))) = some r := h
 clear h
 by_cases c2 : (l0.length : Int) > 1048576
 ·rw [if_pos c2] at H
  have yD : decide (1048576 < (l0.length : Int)) = true := decide_eq_true c2
  have yE : decide (1048576 < l0.length) = true := decide_eq_true (by omega)
  clear c2
  obtain rfl := Option.some.inj H
  go_enter Try.func5, Try.ntmps5
  go_wp2
  go_ret
  exact ⟨by first | rfl | (simp [errW_none, errW_some] <;> rfl) | (simp [*, errW_none, errW_some] <;> rfl), oB HB⟩
 ·rw [if_neg c2] at H
  have yD : decide (1048576 < (l0.length : Int)) = false := decide_eq_false c2
  have yE : decide (1048576 < l0.length) = false := decide_eq_false (by omega)
  clear c2
  replace H := Option.bind_eq_some_iff.mp H
  obtain ⟨⟨bR, bX, bJ, eY, eZ, fA, fB, fC⟩, A30, H⟩ := H
  (try dsimp only at H)
  have A3 := Aside0.mk A30
  clear A30
  replace H := Option.bind_eq_some_iff.mp H
  obtain ⟨jL, A40, H⟩ := H
  (try dsimp only at H)
  have A4 := Aside0.mk A40
  clear A40
  by_cases c5 : jL = true
  ·subst c5
   rw [if_pos rfl] at H
   obtain ⟨y538, hy538⟩ : ∃ y_ : List (S27), y_ = (([(⟨6, 0, 0, 0, 0⟩ : S27)] : List (S27))) := ⟨_, rfl⟩
   replace H : ((laws_eaDo.f k bR bX bJ y538).bind fun cD => ((spec_OpDo.f k bR bX bJ 6 0 0 0 0).bind fun eO => ((laws_eaRas.f k cD.1 cD.2.1 cD.2.2 eO.1 eO.2.1 eO.2.2.1).bind fun iC => (if iC = true then ((laws_eaDo.f k cD.1 cD.2.1 cD.2.2 (([(⟨4, 0, 0, 0, 0⟩ : S27)] : List (S27)))).bind fun eK => ((laws_eaDo.f k bR bX bJ (([(⟨4, 0, 0, 0, 0⟩ : S27), (⟨6, 0, 0, 0, 0⟩ : S27)] : List (S27)))).bind fun eE => ((laws_eaRas.f k eK.1 eK.2.1 eK.2.2 eE.1 eE.2.1 eE.2.2).bind fun gA => (if gA = true then ((laws_eaDo.f k cD.1 cD.2.1 cD.2.2 (([(⟨2, 0, 0, 0, 0⟩ : S27)] : List (S27)))).bind fun dS => ((laws_eaDo.f k bR bX bJ (([(⟨2, 0, 0, 0, 0⟩ : S27), (⟨6, 0, 0, 0, 0⟩ : S27)] : List (S27)))).bind fun dI => ((laws_eaRas.f k dS.1 dS.2.1 dS.2.2 dI.1 dI.2.1 dI.2.2).bind fun eJ => (laws_FnOpBlur.j0 k (!eJ) bR bX bJ 6 0 0 0 0 cD.1 cD.2.1 cD.2.2)))) else (laws_FnOpBlur.j0 k true bR bX bJ 6 0 0 0 0 cD.1 cD.2.1 cD.2.2))))) else (laws_FnOpBlur.j0 k true bR bX bJ 6 0 0 0 0 cD.1 cD.2.1 cD.2.2))))) = some r := by first | (rw [hy538]; with_reducible exact H) | (have H2_ := (Option.bind_some _ _).symm.trans H; rw [hy538]; with_reducible exact H2_) | (have H2_ := (Option.bind_some _ _).symm.trans H; with_reducible exact H2_) | with_reducible exact H | (rw [hy538]; exact H) | exact H
   have kS := Aside0.mk hy538
   clear hy538
   replace H := Option.bind_eq_some_iff.mp H
   obtain ⟨⟨dC, dD, cJ⟩, A60, H⟩ := H
   (try dsimp only at H)
   have A6 := Aside0.mk A60
   clear A60
   replace H := Option.bind_eq_some_iff.mp H
   obtain ⟨⟨eB, eC, cL, aK8⟩, A70, H⟩ := H
   (try dsimp only at H)
   have A7 := Aside0.mk A70
   clear A70
   have xV := Aside0.mk H
   clear H
   go_enter Try.func5, Try.ntmps5
   go_upto_region 11 with (first | ((with_reducible refine gate_callee (f := 18) rfl ?_); refine goesL_ (some 23) rfl rfl Try.func18 oK rfl #[.slice A0 l0.length c0] rfl oA ?_; (with_reducible refine (spec_DrawOpDo.calls k _ _ l0 bR bX bJ eY eZ fA fB fC _ ?side1 ?side2 A3.out).mono ?_); (case side1 => repeat (first | exact HR0.out | (with_reducible refine Kd.C_alloc ?_ _) | (with_reducible refine Kd.C_drewN ?_ _) | (with_reducible refine Kd.C_drew ?_))); (case side2 => exact HC0.out); rintro e w9 ⟨aK9, rfl, ho0, hb⟩; refine ⟨_, rfl, ?_⟩; have n_ := o2_ (Kd.Q_lower ho0 (below_size (oB HB))) (o1_ (below_step (oB HB) hb)); clear HB; obtain ⟨aJ, HB⟩ := n_; (try clear hb); (try clear hb2); (try clear hk); (try clear hi); (try clear ho0)) | ((with_reducible refine gate_dst (N := 3) rfl ?_); (try (refine gate_guard (by rfl) ?_; dsimp only)); refine box_event rfl (N := 3) rfl (cs := #[.int .i64 0, .int .i64 0, .slice none 0 0]) (t := 25) oS ?_; intro bB hg w10 hbox hb; have n_ := o2_ (Kd.Q_below (oQ aJ) hb) (o2_ (below_step (oB HB) hb) (o2_ (hbox) (o2_ ((oG hg (below_size (oB HB)) : w.heap.size ≤ bB)) (o1_ ((oG hg (below_size (oB HB)) : w.heap.size ≤ bB)))))); clear aJ HB; obtain ⟨aJ, HB, aA, mY, mT⟩ := n_; clear hb hbox hg) | ((with_reducible refine gate_dst (N := 4) rfl ?_); (try (refine gate_guard (by rfl) ?_; dsimp only)); refine box_event rfl (N := 4) rfl (cs := #[.int .i64 0, .int .i64 0, .int .i64 0, .int .i64 0, .int .i64 0]) (t := 27) oS ?_; intro bW hg lC hbox hb; have n_ := o2_ (Kd.Q_below (oQ aJ) hb) (o2_ (blk_below (oP aA) hb) (o2_ (below_step (oB HB) hb) (o2_ (hbox) (o2_ ((oG hg (below_size (oB HB)) : w.heap.size ≤ bW)) (o2_ ((oG hg (below_size (oB HB)) : w.heap.size ≤ bW)) (o2_ ((oL hg (blk_lt (oP aA)))) (o1_ ((oN hg (blk_lt (oP aA))))))))))); clear aJ aA HB; obtain ⟨aJ, aA, HB, aD, mZ, mU, bN, dM⟩ := n_; clear hb hbox hg; have aN9 := bN.out; have aQ0 := dM.out; have tB : lC.cell? ⟨bB, 0, none⟩ = some (.int .i64 0) := (blk_cell aA.out 0).trans rfl; have tC : lC.cell? ⟨bB, 1, none⟩ = some (.int .i64 0) := (blk_cell aA.out 1).trans rfl; have tD : lC.cell? ⟨bB, 2, none⟩ = some (.slice none 0 0) := (blk_cell aA.out 2).trans rfl; have vB := blk_frozen aA.out 0; have vC := blk_frozen aA.out 1; have vD := blk_frozen aA.out 2; obtain ⟨dG, cY, yO, _⟩ := Kd.Q_slice aJ.out; subst yO; have tE : lC.cell? ⟨bW, 0, none⟩ = some (.int .i64 0) := (blk_cell aD.out 0).trans rfl; have tF : lC.cell? ⟨bW, 1, none⟩ = some (.int .i64 0) := (blk_cell aD.out 1).trans rfl; have tG : lC.cell? ⟨bW, 2, none⟩ = some (.int .i64 0) := (blk_cell aD.out 2).trans rfl; have tH : lC.cell? ⟨bW, 3, none⟩ = some (.int .i64 0) := (blk_cell aD.out 3).trans rfl; have tI : lC.cell? ⟨bW, 4, none⟩ = some (.int .i64 0) := (blk_cell aD.out 4).trans rfl; have vE := blk_frozen aD.out 0; have vF := blk_frozen aD.out 1; have vG := blk_frozen aD.out 2; have vH := blk_frozen aD.out 3; have vI := blk_frozen aD.out 4) | ((with_reducible refine gate_dst (N := 5) rfl ?_); (try (refine gate_guard (by rfl) ?_; dsimp only)); refine box_event rfl (N := 5) rfl (cs := #[.int .i64 0, .int .i64 0, .int .i64 0, .int .i64 0, .int .i64 0]) (t := 27) oS ?_; intro bI hg sX hbox hb; have n_ := o2_ (Kd.Q_below (by (with_reducible repeat (first | apply Kd.Q_alloc | apply Kd.Q_drewN | apply Kd.Q_drew)); exact (Kd.Q_mono (Kd.Q_mono (Kd.Q_far (p := ⟨bW, 4, none⟩) (Kd.Q_far (p := ⟨bW, 3, none⟩) (Kd.Q_far (p := ⟨bW, 2, none⟩) (Kd.Q_far (p := ⟨bW, 1, none⟩) (Kd.Q_far (p := ⟨bW, 0, none⟩) (Kd.Q_far (p := ⟨bB, 2, none⟩) (Kd.Q_far (p := ⟨bB, 1, none⟩) (Kd.Q_far (p := ⟨bB, 0, none⟩) (Kd.Q_types (Kd.Q_types aJ.out aA.out oD) aD.out oD) (fun _ hk => hk.1.2) (.int .i64 bR)) (fun _ hk => hk.1.2) (.int .i64 bX)) (fun _ hk => hk.1.2) (.slice dG bJ.length cY)) (fun _ hk => hk.2) (.int .i64 eY)) (fun _ hk => hk.2) (.int .i64 eZ)) (fun _ hk => hk.2) (.int .i64 fA)) (fun _ hk => hk.2) (.int .i64 fB)) (fun _ hk => hk.2) (.int .i64 fC)) (fun _ h_ => h_.1)) (fun _ h_ => h_.1))) hb) (o2_ (blk_below (g := bB) (o := .cells #[.int .i64 bR, .int .i64 bX, .slice dG bJ.length cY] 25 (0, 0)) (blk_far (blk_far (blk_far (blk_far (blk_far (blk_put (blk_put (blk_put (oP aA) 0 _ rfl) 1 _ rfl) 2 _ rfl) bN.out _) bN.out _) bN.out _) bN.out _) bN.out _) hb) (o2_ (blk_below (g := bW) (o := .cells #[.int .i64 eY, .int .i64 eZ, .int .i64 fA, .int .i64 fB, .int .i64 fC] 27 (0, 0)) (blk_put (blk_put (blk_put (blk_put (blk_put (oP aD) 0 _ rfl) 1 _ rfl) 2 _ rfl) 3 _ rfl) 4 _ rfl) hb) (o2_ (below_step (oB HB) hb) (o2_ (hbox) (o2_ ((oG hg (below_size (oB HB)) : w.heap.size ≤ bI)) (o2_ ((oG hg (below_size (oB HB)) : w.heap.size ≤ bI)) (o2_ ((by rw [hg]; exact Nat.ne_of_lt (blk_lt (g := bB) (o := .cells #[.int .i64 bR, .int .i64 bX, .slice dG bJ.length cY] 25 (0, 0)) (blk_far (blk_far (blk_far (blk_far (blk_far (blk_put (blk_put (blk_put (oP aA) 0 _ rfl) 1 _ rfl) 2 _ rfl) bN.out _) bN.out _) bN.out _) bN.out _) bN.out _)) : bB ≠ bI)) (o2_ ((by rw [hg]; exact Nat.ne_of_gt (blk_lt (g := bB) (o := .cells #[.int .i64 bR, .int .i64 bX, .slice dG bJ.length cY] 25 (0, 0)) (blk_far (blk_far (blk_far (blk_far (blk_far (blk_put (blk_put (blk_put (oP aA) 0 _ rfl) 1 _ rfl) 2 _ rfl) bN.out _) bN.out _) bN.out _) bN.out _) bN.out _)) : bI ≠ bB)) (o2_ ((by rw [hg]; exact Nat.ne_of_lt (blk_lt (g := bW) (o := .cells #[.int .i64 eY, .int .i64 eZ, .int .i64 fA, .int .i64 fB, .int .i64 fC] 27 (0, 0)) (blk_put (blk_put (blk_put (blk_put (blk_put (oP aD) 0 _ rfl) 1 _ rfl) 2 _ rfl) 3 _ rfl) 4 _ rfl)) : bW ≠ bI)) (o1_ ((by rw [hg]; exact Nat.ne_of_gt (blk_lt (g := bW) (o := .cells #[.int .i64 eY, .int .i64 eZ, .int .i64 fA, .int .i64 fB, .int .i64 fC] 27 (0, 0)) (blk_put (blk_put (blk_put (blk_put (blk_put (oP aD) 0 _ rfl) 1 _ rfl) 2 _ rfl) 3 _ rfl) 4 _ rfl)) : bI ≠ bW)))))))))))); clear aJ aA aD HB; obtain ⟨aJ, aA, aD, HB, aC, nA, mV, dJ, dN, fE, fH⟩ := n_; clear hb hbox hg; have aO0 := dN.out; have aQ1 := dJ.out; have aO1 := fH.out; have aQ2 := fE.out; have tJ : sX.cell? ⟨bI, 0, none⟩ = some (.int .i64 0) := (blk_cell aC.out 0).trans rfl; have tK : sX.cell? ⟨bI, 1, none⟩ = some (.int .i64 0) := (blk_cell aC.out 1).trans rfl; have tL : sX.cell? ⟨bI, 2, none⟩ = some (.int .i64 0) := (blk_cell aC.out 2).trans rfl; have tM : sX.cell? ⟨bI, 3, none⟩ = some (.int .i64 0) := (blk_cell aC.out 3).trans rfl; have tN : sX.cell? ⟨bI, 4, none⟩ = some (.int .i64 0) := (blk_cell aC.out 4).trans rfl; have vJ := blk_frozen aC.out 0; have vK := blk_frozen aC.out 1; have vL := blk_frozen aC.out 2; have vM := blk_frozen aC.out 3; have vN := blk_frozen aC.out 4) | ((with_reducible refine gate_dst (N := 6) rfl ?_); (try (refine gate_guard (by rfl) ?_; dsimp only)); refine box_event rfl (N := 6) rfl (cs := #[.int .i64 0, .int .i64 0, .int .i64 0, .int .i64 0, .int .i64 0]) (t := 27) oS ?_; intro bQ hg sY hbox hb; have n_ := o2_ (Kd.Q_below (by (with_reducible repeat (first | apply Kd.Q_alloc | apply Kd.Q_drewN | apply Kd.Q_drew)); exact (Kd.Q_mono (Kd.Q_far (p := ⟨bI, 4, none⟩) (Kd.Q_far (p := ⟨bI, 3, none⟩) (Kd.Q_far (p := ⟨bI, 2, none⟩) (Kd.Q_far (p := ⟨bI, 1, none⟩) (Kd.Q_far (p := ⟨bI, 0, none⟩) (Kd.Q_types aJ.out aC.out oD) (fun _ hk => hk.2) (.int .i64 6)) (fun _ hk => hk.2) (.int .i64 0)) (fun _ hk => hk.2) (.int .i64 0)) (fun _ hk => hk.2) (.int .i64 0)) (fun _ hk => hk.2) (.int .i64 0)) (fun _ h_ => h_.1))) hb) (o2_ (blk_below (oP aA) hb) (o2_ (blk_below (oP aD) hb) (o2_ (blk_below (g := bI) (o := .cells #[.int .i64 6, .int .i64 0, .int .i64 0, .int .i64 0, .int .i64 0] 27 (0, 0)) (blk_put (blk_put (blk_put (blk_put (blk_put aC.out 0 _ rfl) 1 _ rfl) 2 _ rfl) 3 _ rfl) 4 _ rfl) hb) (o2_ (below_step (oB HB) hb) (o2_ (hbox) (o2_ ((oG hg (below_size (oB HB)) : w.heap.size ≤ bQ)) (o2_ ((oG hg (below_size (oB HB)) : w.heap.size ≤ bQ)) (o2_ ((oL hg (blk_lt (oP aA)))) (o2_ ((oN hg (blk_lt (oP aA)))) (o2_ ((oL hg (blk_lt (oP aD)))) (o2_ ((oN hg (blk_lt (oP aD)))) (o2_ ((by rw [hg]; exact Nat.ne_of_lt (blk_lt (g := bI) (o := .cells #[.int .i64 6, .int .i64 0, .int .i64 0, .int .i64 0, .int .i64 0] 27 (0, 0)) (blk_put (blk_put (blk_put (blk_put (blk_put aC.out 0 _ rfl) 1 _ rfl) 2 _ rfl) 3 _ rfl) 4 _ rfl)) : bI ≠ bQ)) (o1_ ((by rw [hg]; exact Nat.ne_of_gt (blk_lt (g := bI) (o := .cells #[.int .i64 6, .int .i64 0, .int .i64 0, .int .i64 0, .int .i64 0] 27 (0, 0)) (blk_put (blk_put (blk_put (blk_put (blk_put aC.out 0 _ rfl) 1 _ rfl) 2 _ rfl) 3 _ rfl) 4 _ rfl)) : bQ ≠ bI))))))))))))))); clear aJ aA aD aC HB; obtain ⟨aJ, aA, aD, aC, HB, aE, nB, mW, dK, dO, fF, fK, fI, fL⟩ := n_; clear hb hbox hg; have aO2 := dO.out; have aQ3 := dK.out; have aO3 := fK.out; have aQ4 := fF.out; have aO4 := fL.out; have aQ5 := fI.out; have tO : sY.cell? ⟨bQ, 0, none⟩ = some (.int .i64 0) := (blk_cell aE.out 0).trans rfl; have tP : sY.cell? ⟨bQ, 1, none⟩ = some (.int .i64 0) := (blk_cell aE.out 1).trans rfl; have tQ : sY.cell? ⟨bQ, 2, none⟩ = some (.int .i64 0) := (blk_cell aE.out 2).trans rfl; have tR : sY.cell? ⟨bQ, 3, none⟩ = some (.int .i64 0) := (blk_cell aE.out 3).trans rfl; have tS : sY.cell? ⟨bQ, 4, none⟩ = some (.int .i64 0) := (blk_cell aE.out 4).trans rfl; have vO := blk_frozen aE.out 0; have vP := blk_frozen aE.out 1; have vQ := blk_frozen aE.out 2; have vR := blk_frozen aE.out 3; have vS := blk_frozen aE.out 4) | ((with_reducible refine gate_dst (N := 7) rfl ?_); (try (refine gate_guard (by rfl) ?_; dsimp only)); refine box_event rfl (N := 7) rfl (cs := #[.int .i64 0, .int .i64 0, .int .i64 0, .int .i64 0, .int .i64 0]) (t := 27) oS ?_; intro bO hg lD hbox hb; have n_ := o2_ (Kd.Q_below (by (with_reducible repeat (first | apply Kd.Q_alloc | apply Kd.Q_drewN | apply Kd.Q_drew)); exact (Kd.Q_mono (Kd.Q_far (p := ⟨bQ, 4, none⟩) (Kd.Q_far (p := ⟨bQ, 3, none⟩) (Kd.Q_far (p := ⟨bQ, 2, none⟩) (Kd.Q_far (p := ⟨bQ, 1, none⟩) (Kd.Q_far (p := ⟨bQ, 0, none⟩) (Kd.Q_types aJ.out aE.out oD) (fun _ hk => hk.2) (.int .i64 4)) (fun _ hk => hk.2) (.int .i64 0)) (fun _ hk => hk.2) (.int .i64 0)) (fun _ hk => hk.2) (.int .i64 0)) (fun _ hk => hk.2) (.int .i64 0)) (fun _ h_ => h_.1))) hb) (o2_ (blk_below (oP aA) hb) (o2_ (blk_below (oP aD) hb) (o2_ (blk_below (oP aC) hb) (o2_ (blk_below (g := bQ) (o := .cells #[.int .i64 4, .int .i64 0, .int .i64 0, .int .i64 0, .int .i64 0] 27 (0, 0)) (blk_put (blk_put (blk_put (blk_put (blk_put aE.out 0 _ rfl) 1 _ rfl) 2 _ rfl) 3 _ rfl) 4 _ rfl) hb) (o2_ (below_step (oB HB) hb) (o2_ (hbox) (o2_ ((oG hg (below_size (oB HB)) : w.heap.size ≤ bO)) (o2_ ((oG hg (below_size (oB HB)) : w.heap.size ≤ bO)) (o2_ ((oL hg (blk_lt (oP aA)))) (o2_ ((oN hg (blk_lt (oP aA)))) (o2_ ((oL hg (blk_lt (oP aD)))) (o2_ ((oN hg (blk_lt (oP aD)))) (o2_ ((oL hg (blk_lt (oP aC)))) (o2_ ((oN hg (blk_lt (oP aC)))) (o2_ ((by rw [hg]; exact Nat.ne_of_lt (blk_lt (g := bQ) (o := .cells #[.int .i64 4, .int .i64 0, .int .i64 0, .int .i64 0, .int .i64 0] 27 (0, 0)) (blk_put (blk_put (blk_put (blk_put (blk_put aE.out 0 _ rfl) 1 _ rfl) 2 _ rfl) 3 _ rfl) 4 _ rfl)) : bQ ≠ bO)) (o1_ ((by rw [hg]; exact Nat.ne_of_gt (blk_lt (g := bQ) (o := .cells #[.int .i64 4, .int .i64 0, .int .i64 0, .int .i64 0, .int .i64 0] 27 (0, 0)) (blk_put (blk_put (blk_put (blk_put (blk_put aE.out 0 _ rfl) 1 _ rfl) 2 _ rfl) 3 _ rfl) 4 _ rfl)) : bO ≠ bQ)))))))))))))))))); clear aJ aA aD aC aE HB; obtain ⟨aJ, aA, aD, aC, aE, HB, aG, nC, mX, dL, dP, fG, fN, fJ, fO, fM, fP⟩ := n_; clear hb hbox hg; have aO5 := dP.out; have aQ6 := dL.out; have aO6 := fN.out; have aQ7 := fG.out; have aO7 := fO.out; have aQ8 := fJ.out; have aO8 := fP.out; have aQ9 := fM.out; have tT : lD.cell? ⟨bO, 0, none⟩ = some (.int .i64 0) := (blk_cell aG.out 0).trans rfl; have tU : lD.cell? ⟨bO, 1, none⟩ = some (.int .i64 0) := (blk_cell aG.out 1).trans rfl; have tV : lD.cell? ⟨bO, 2, none⟩ = some (.int .i64 0) := (blk_cell aG.out 2).trans rfl; have tW : lD.cell? ⟨bO, 3, none⟩ = some (.int .i64 0) := (blk_cell aG.out 3).trans rfl; have tX : lD.cell? ⟨bO, 4, none⟩ = some (.int .i64 0) := (blk_cell aG.out 4).trans rfl; have vT := blk_frozen aG.out 0; have vU := blk_frozen aG.out 1; have vV := blk_frozen aG.out 2; have vW := blk_frozen aG.out 3; have vX := blk_frozen aG.out 4; have tY : lD.cell? ⟨bB, 0, none⟩ = some (.int .i64 bR) := (blk_cell aA.out 0).trans rfl; have tZ : lD.cell? ⟨bB, 1, none⟩ = some (.int .i64 bX) := (blk_cell aA.out 1).trans rfl; have uA : lD.cell? ⟨bB, 2, none⟩ = some (.slice dG bJ.length cY) := (blk_cell aA.out 2).trans rfl; have vY := blk_frozen aA.out 0; have vZ := blk_frozen aA.out 1; have wA := blk_frozen aA.out 2) | ((with_reducible refine gate_callee (f := 24) rfl ?_); refine goesL_ (some 30) rfl rfl Try.func24 oK rfl #[.agg #[.int .i64 bR, .int .i64 bX, .slice dG bJ.length cY]] rfl oA ?_; (with_reducible refine (spec_RasOk.calls k bR bX _ _ bJ true _ ?side1 ?side2 A4.out).mono ?_); (case side1 => refine (Kd.Q_reads' (e := 38) (base := w.heap.size) (ok := fun k_ => True) (n := bJ.length) (c := cY) ?_).2.2; exact (by (with_reducible repeat (first | apply Kd.Q_alloc | apply Kd.Q_drewN | apply Kd.Q_drew)); exact (Kd.Q_mono (Kd.Q_far (p := ⟨bO, 4, none⟩) (Kd.Q_far (p := ⟨bO, 3, none⟩) (Kd.Q_far (p := ⟨bO, 2, none⟩) (Kd.Q_far (p := ⟨bO, 1, none⟩) (Kd.Q_far (p := ⟨bO, 0, none⟩) (Kd.Q_types aJ.out aG.out oD) (fun _ hk => hk.2) (.int .i64 2)) (fun _ hk => hk.2) (.int .i64 0)) (fun _ hk => hk.2) (.int .i64 0)) (fun _ hk => hk.2) (.int .i64 0)) (fun _ hk => hk.2) (.int .i64 0)) (fun _ h_ => h_.1)))); (case side2 => exact (Kd.Q_reads' aJ.out).2.1); rintro e lE ⟨rfl, hb⟩; refine ⟨_, rfl, ?_⟩; have n_ := o2_ (Kd.Q_below (by (with_reducible repeat (first | apply Kd.Q_alloc | apply Kd.Q_drewN | apply Kd.Q_drew)); exact (Kd.Q_mono (Kd.Q_far (p := ⟨bO, 4, none⟩) (Kd.Q_far (p := ⟨bO, 3, none⟩) (Kd.Q_far (p := ⟨bO, 2, none⟩) (Kd.Q_far (p := ⟨bO, 1, none⟩) (Kd.Q_far (p := ⟨bO, 0, none⟩) (Kd.Q_types aJ.out aG.out oD) (fun _ hk => hk.2) (.int .i64 2)) (fun _ hk => hk.2) (.int .i64 0)) (fun _ hk => hk.2) (.int .i64 0)) (fun _ hk => hk.2) (.int .i64 0)) (fun _ hk => hk.2) (.int .i64 0)) (fun _ h_ => h_.1))) hb) (o2_ (blk_below (oP aA) hb) (o2_ (blk_below (oP aD) hb) (o2_ (blk_below (oP aC) hb) (o2_ (blk_below (oP aE) hb) (o2_ (blk_below (g := bO) (o := .cells #[.int .i64 2, .int .i64 0, .int .i64 0, .int .i64 0, .int .i64 0] 27 (0, 0)) (blk_put (blk_put (blk_put (blk_put (blk_put aG.out 0 _ rfl) 1 _ rfl) 2 _ rfl) 3 _ rfl) 4 _ rfl) hb) (o1_ (below_step (oB HB) hb))))))); clear aJ aA aD aC aE aG HB; obtain ⟨aJ, aA, aD, aC, aE, aG, HB⟩ := n_; (try clear hb); (try clear hb2); (try clear hk); (try clear hi); have uB : lE.cell? ⟨bB, 0, none⟩ = some (.int .i64 bR) := (blk_cell aA.out 0).trans rfl; have uD : lE.cell? ⟨bB, 1, none⟩ = some (.int .i64 bX) := (blk_cell aA.out 1).trans rfl; have uE : lE.cell? ⟨bB, 2, none⟩ = some (.slice dG bJ.length cY) := (blk_cell aA.out 2).trans rfl; have wB := blk_frozen aA.out 0; have wC := blk_frozen aA.out 1; have wD := blk_frozen aA.out 2; have uF : lE.cell? ⟨bI, 0, none⟩ = some (.int .i64 6) := (blk_cell aC.out 0).trans rfl; have uG : lE.cell? ⟨bI, 1, none⟩ = some (.int .i64 0) := (blk_cell aC.out 1).trans rfl; have uH : lE.cell? ⟨bI, 2, none⟩ = some (.int .i64 0) := (blk_cell aC.out 2).trans rfl; have uI : lE.cell? ⟨bI, 3, none⟩ = some (.int .i64 0) := (blk_cell aC.out 3).trans rfl; have uJ : lE.cell? ⟨bI, 4, none⟩ = some (.int .i64 0) := (blk_cell aC.out 4).trans rfl; have wE := blk_frozen aC.out 0; have wF := blk_frozen aC.out 1; have wG := blk_frozen aC.out 2; have wH := blk_frozen aC.out 3; have wI := blk_frozen aC.out 4) | ((with_reducible refine gate_dst (N := 40) rfl ?_); (try (refine gate_guard (by rfl) ?_; dsimp only)); refine Kd.R_lit k27 _ 27 ?hg (N := 40) ?hd (xs := ([(⟨6, 0, 0, 0, 0⟩ : S27)] : List (S27))) (inner := [.int .i64 6, .int .i64 0, .int .i64 0, .int .i64 0, .int .i64 0]) (ok := fun _ => True) (okp := fun _ => True) ?hr ?hp (fun _ hk => hk) trivial (Below.refl _ _) (Nat.le_refl _) (by simp) ?_; (case hd => rfl); (case hg => rfl); (case hr => first | (go_simp; done) | (go_simp; rfl)); (case hp => exact (Reps.c5 (show Kd.M k27 _ _ _ (⟨6, 0, 0, 0, 0⟩ : S27) [.int .i64 6, .int .i64 0, .int .i64 0, .int .i64 0, .int .i64 0] from (k27_mkM _ _ _ (⟨6, 0, 0, 0, 0⟩ : S27) )) (Reps.none _ _))); intro aT2 w35 ho36 hb hg_ hnew_; clear hg_ hnew_; (first | rw [← kS.out] at ho36 | (simp only [Int.reduceToNat] at ho36; rw [← kS.out] at ho36)); have n_ := o2_ (Kd.Q_below (oQ aJ) hb) (o2_ (Kd.R_lower (Kd.R_newB (Kd.R_newB (Kd.R_newB (Kd.R_newB ho36 (oP aD)) (oP aC)) (oP aE)) (oP aG)) (below_size (oB HB))) (o2_ (blk_below (oP aA) hb) (o2_ (blk_below (oP aD) hb) (o2_ (blk_below (oP aC) hb) (o2_ (blk_below (oP aE) hb) (o2_ (blk_below (oP aG) hb) (o1_ (below_step (oB HB) hb)))))))); clear aJ aA aD aC aE aG HB; obtain ⟨aJ, bD, aA, aD, aC, aE, aG, HB⟩ := n_; clear hb ho36; obtain ⟨eF, eG, yP⟩ := Kd.R_slice bD.out; subst yP) | ((with_reducible refine gate_callee (f := 27) rfl ?_); refine goesL_ (some 41) rfl rfl Try.func27 oK rfl #[.agg #[.int .i64 bR, .int .i64 bX, .slice dG bJ.length cY], .slice eF y538.length eG] rfl oA ?_; (with_reducible refine (laws_eaDo.calls k bR bX (fun k_ => some k_ = (.slice dG bJ.length cY : Value).ownBlock) _ _ bJ _ _ y538 dC dD cJ _ ?side1 ?side2 ?side3 A6.out).mono ?_); (case side1 => exact Kd.Q_V (Kd.Q_tight rfl (Kd.Q_types (Kd.Q_types (Kd.Q_types (Kd.Q_types (Kd.Q_types (Kd.Q_apart' (aJ.out) (Kd.R_typed bD.out) oD) aA.out oD) aD.out oD) aC.out oD) aE.out oD) aG.out oD))); (case side2 => repeat (first | exact (Kd.R_reads' bD.out).2.2 | (with_reducible refine Kd.C_alloc ?_ _) | (with_reducible refine Kd.C_drewN ?_ _) | (with_reducible refine Kd.C_drew ?_))); (case side3 => exact (Kd.R_reads' bD.out).2.1); rintro e w38 ⟨aT3, rfl, ho0, hb⟩; refine ⟨_, rfl, ?_⟩; have hq_ := (Kd.Q_types (Kd.Q_types (Kd.Q_types (Kd.Q_types (Kd.Q_types (Kd.Q_apart' (aJ.out) (Kd.R_typed bD.out) oD) aA.out oD) aD.out oD) aC.out oD) aE.out oD) aG.out oD); have n_ := o2_ (Kd.Q_below (oQ aJ) hb) (o2_ (Kd.R_below (oR bD) hb) (o2_ (Kd.V_lower (Kd.V_mono (ok' := fun k_ => some k_ ≠ (.slice eF y538.length eG : Value).ownBlock ∧ k_ ≠ bB ∧ k_ ≠ bW ∧ k_ ≠ bI ∧ k_ ≠ bQ ∧ k_ ≠ bO) ho0 (fun k_ hk_ => ⟨Or.elim hk_ (fun hs_ => (hq_.1 k_ hs_.symm).1.1.1.1.1.2) (fun hn_ => (Kd.fresh' (Kd.R_lt (oR bD)) k_ hn_)), Or.elim hk_ (fun hs_ => (hq_.1 k_ hs_.symm).1.1.1.1.2) (fun hn_ => (Kd.freshB (oP aA) k_ hn_)), Or.elim hk_ (fun hs_ => (hq_.1 k_ hs_.symm).1.1.1.2) (fun hn_ => (Kd.freshB (oP aD) k_ hn_)), Or.elim hk_ (fun hs_ => (hq_.1 k_ hs_.symm).1.1.2) (fun hn_ => (Kd.freshB (oP aC) k_ hn_)), Or.elim hk_ (fun hs_ => (hq_.1 k_ hs_.symm).1.2) (fun hn_ => (Kd.freshB (oP aE) k_ hn_)), Or.elim hk_ (fun hs_ => (hq_.1 k_ hs_.symm).2) (fun hn_ => (Kd.freshB (oP aG) k_ hn_))⟩)) (below_size (oB HB))) (o2_ (blk_below (oP aA) hb) (o2_ (blk_below (oP aD) hb) (o2_ (blk_below (oP aC) hb) (o2_ (blk_below (oP aE) hb) (o2_ (blk_below (oP aG) hb) (o1_ (below_step (oB HB) hb))))))))); clear aJ bD aA aD aC aE aG HB; obtain ⟨aJ, bD, bK, aA, aD, aC, aE, aG, HB⟩ := n_; clear hq_; (try clear hb); (try clear hb2); (try clear hk); (try clear hi); (try clear ho0)) | ((with_reducible refine gate_dst (N := 8) rfl ?_); (try (refine gate_guard (by rfl) ?_; dsimp only)); refine box_event rfl (N := 8) rfl (cs := #[.int .i64 0, .int .i64 0, .slice none 0 0]) (t := 25) oS ?_; intro cA hg jX hbox hb; have n_ := o2_ (Kd.Q_below (oQ aJ) hb) (o2_ (Kd.R_below (oR bD) hb) (o2_ (Kd.V_below (Kd.V_elderB (oV bK) cA (Nat.le_of_eq hg.symm)) hb) (o2_ (blk_below (oP aA) hb) (o2_ (blk_below (oP aD) hb) (o2_ (blk_below (oP aC) hb) (o2_ (blk_below (oP aE) hb) (o2_ (blk_below (oP aG) hb) (o2_ (below_step (oB HB) hb) (o2_ (hbox) (o2_ ((oG hg (below_size (oB HB)) : w.heap.size ≤ cA)) (o2_ ((oG hg (below_size (oB HB)) : w.heap.size ≤ cA)) (o2_ ((oL hg (blk_lt (oP aA)))) (o2_ ((oN hg (blk_lt (oP aA)))) (o2_ ((oL hg (blk_lt (oP aD)))) (o2_ ((oN hg (blk_lt (oP aD)))) (o2_ ((oL hg (blk_lt (oP aC)))) (o2_ ((oN hg (blk_lt (oP aC)))) (o2_ ((oL hg (blk_lt (oP aE)))) (o2_ ((oN hg (blk_lt (oP aE)))) (o2_ ((oL hg (blk_lt (oP aG)))) (o1_ ((oN hg (blk_lt (oP aG))))))))))))))))))))))))); clear aJ bD bK aA aD aC aE aG HB; obtain ⟨aJ, bD, bK, aA, aD, aC, aE, aG, HB, aH, aM4, aM1, dV, dY, gL, gT, gN, gU, gP, gV, gR, gW⟩ := n_; clear hb hbox hg; have aO9 := dY.out; have aR0 := dV.out; have aP0 := gT.out; have aR1 := gL.out; have aP1 := gU.out; have aR2 := gN.out; have aP2 := gV.out; have aR3 := gP.out; have aP3 := gW.out; have aR4 := gR.out; have uK : jX.cell? ⟨cA, 0, none⟩ = some (.int .i64 0) := (blk_cell aH.out 0).trans rfl; have uL : jX.cell? ⟨cA, 1, none⟩ = some (.int .i64 0) := (blk_cell aH.out 1).trans rfl; have uM : jX.cell? ⟨cA, 2, none⟩ = some (.slice none 0 0) := (blk_cell aH.out 2).trans rfl; have wJ := blk_frozen aH.out 0; have wK := blk_frozen aH.out 1; have wL := blk_frozen aH.out 2; obtain ⟨dR, dT, yQ⟩ := Kd.V_slice bK.out; subst yQ; have uN : jX.cell? ⟨bB, 0, none⟩ = some (.int .i64 bR) := (blk_cell aA.out 0).trans rfl; have uO : jX.cell? ⟨bB, 1, none⟩ = some (.int .i64 bX) := (blk_cell aA.out 1).trans rfl; have uP : jX.cell? ⟨bB, 2, none⟩ = some (.slice dG bJ.length cY) := (blk_cell aA.out 2).trans rfl; have wM := blk_frozen aA.out 0; have wN := blk_frozen aA.out 1; have wO := blk_frozen aA.out 2; have uS : jX.cell? ⟨bI, 0, none⟩ = some (.int .i64 6) := (blk_cell aC.out 0).trans rfl; have uT : jX.cell? ⟨bI, 1, none⟩ = some (.int .i64 0) := (blk_cell aC.out 1).trans rfl; have uU : jX.cell? ⟨bI, 2, none⟩ = some (.int .i64 0) := (blk_cell aC.out 2).trans rfl; have uW : jX.cell? ⟨bI, 3, none⟩ = some (.int .i64 0) := (blk_cell aC.out 3).trans rfl; have uX : jX.cell? ⟨bI, 4, none⟩ = some (.int .i64 0) := (blk_cell aC.out 4).trans rfl; have wP := blk_frozen aC.out 0; have wQ := blk_frozen aC.out 1; have wR := blk_frozen aC.out 2; have wS := blk_frozen aC.out 3; have wT := blk_frozen aC.out 4) | ((with_reducible refine gate_callee (f := 20) rfl ?_); refine goesL_ (some 45) rfl rfl Try.func20 oK rfl #[.agg #[.int .i64 bR, .int .i64 bX, .slice dG bJ.length cY], .agg #[.int .i64 6, .int .i64 0, .int .i64 0, .int .i64 0, .int .i64 0]] rfl oA ?_; (with_reducible refine (spec_OpDo.calls k bR bX _ _ bJ 6 0 0 0 0 eB eC cL aK8 _ ?side1 ?side2 A7.out).mono ?_); (case side1 => refine (Kd.Q_reads' (e := 38) (base := w.heap.size) (ok := fun k_ => True) (n := bJ.length) (c := cY) ?_).2.2; exact (by (with_reducible repeat (first | apply Kd.Q_alloc | apply Kd.Q_drewN | apply Kd.Q_drew)); exact (Kd.Q_mono (Kd.Q_far (p := ⟨cA, 2, none⟩) (Kd.Q_far (p := ⟨cA, 1, none⟩) (Kd.Q_far (p := ⟨cA, 0, none⟩) (Kd.Q_types aJ.out aH.out oD) (fun _ hk => hk.2) (.int .i64 dC)) (fun _ hk => hk.2) (.int .i64 dD)) (fun _ hk => hk.2) (.slice dR cJ.length dT)) (fun _ h_ => h_.1)))); (case side2 => exact (Kd.Q_reads' aJ.out).2.1); rintro e w49 ⟨aT4, rfl, ho0, hb⟩; refine ⟨_, rfl, ?_⟩; have n_ := o2_ (Kd.Q_elder' (by (with_reducible repeat (first | apply Kd.Q_alloc | apply Kd.Q_drewN | apply Kd.Q_drew)); exact (Kd.Q_mono (Kd.Q_far (p := ⟨cA, 2, none⟩) (Kd.Q_far (p := ⟨cA, 1, none⟩) (Kd.Q_far (p := ⟨cA, 0, none⟩) (Kd.Q_types aJ.out aH.out oD) (fun _ hk => hk.2) (.int .i64 dC)) (fun _ hk => hk.2) (.int .i64 dD)) (fun _ hk => hk.2) (.slice dR cJ.length dT)) (fun _ h_ => h_.1))) (Kd.R_base ho0) hb) (o2_ (Kd.R_below (by (with_reducible repeat (first | apply Kd.R_alloc | apply Kd.R_drewN | apply Kd.R_drew)); exact (Kd.R_mono (Kd.R_far (p := ⟨cA, 2, none⟩) (Kd.R_far (p := ⟨cA, 1, none⟩) (Kd.R_far (p := ⟨cA, 0, none⟩) (Kd.R_types bD.out aH.out oD) (fun _ hk => hk.2) (.int .i64 dC)) (fun _ hk => hk.2) (.int .i64 dD)) (fun _ hk => hk.2) (.slice dR cJ.length dT)) (fun _ h_ => h_.1))) hb) (o2_ (Kd.V_elder' (by (with_reducible repeat (first | apply Kd.V_alloc | apply Kd.V_drewN | apply Kd.V_drew)); exact (Kd.V_mono (Kd.V_far (p := ⟨cA, 2, none⟩) (Kd.V_far (p := ⟨cA, 1, none⟩) (Kd.V_far (p := ⟨cA, 0, none⟩) (Kd.V_mono bK.out (fun k_ hk => (⟨hk, hk.2⟩ : _ ∧ k_ ≠ cA))) (fun _ hk => hk.2) (.int .i64 dC)) (fun _ hk => hk.2) (.int .i64 dD)) (fun _ hk => hk.2) (.slice dR cJ.length dT)) (fun _ h_ => h_.1))) (Kd.R_base ho0) hb) (o2_ (Kd.R_lower (Kd.R_new' ho0 (Kd.Q_lt (by (with_reducible repeat (first | apply Kd.Q_alloc | apply Kd.Q_drewN | apply Kd.Q_drew)); exact (Kd.Q_mono (Kd.Q_far (p := ⟨cA, 2, none⟩) (Kd.Q_far (p := ⟨cA, 1, none⟩) (Kd.Q_far (p := ⟨cA, 0, none⟩) (Kd.Q_types aJ.out aH.out oD) (fun _ hk => hk.2) (.int .i64 dC)) (fun _ hk => hk.2) (.int .i64 dD)) (fun _ hk => hk.2) (.slice dR cJ.length dT)) (fun _ h_ => h_.1))))) (below_size (oB HB))) (o2_ (blk_below (oP aA) hb) (o2_ (blk_below (oP aD) hb) (o2_ (blk_below (oP aC) hb) (o2_ (blk_below (oP aE) hb) (o2_ (blk_below (oP aG) hb) (o2_ (blk_below (g := cA) (o := .cells #[.int .i64 dC, .int .i64 dD, .slice dR cJ.length dT] 25 (0, 0)) (blk_put (blk_put (blk_put aH.out 0 _ rfl) 1 _ rfl) 2 _ rfl) hb) (o1_ (below_step (oB HB) hb))))))))))); clear aJ bD bK aA aD aC aE aG aH HB; obtain ⟨aJ, bD, bK, bM, aA, aD, aC, aE, aG, aH, HB⟩ := n_; (try clear hb); (try clear hb2); (try clear hk); (try clear hi); (try clear ho0)) | ((with_reducible refine gate_dst (N := 9) rfl ?_); (try (refine gate_guard (by rfl) ?_; dsimp only)); refine box_event rfl (N := 9) rfl (cs := #[.int .i64 0, .int .i64 0, .slice none 0 0]) (t := 25) oS ?_; intro bS hg iA hbox hb; have n_ := o2_ (Kd.Q_below (oQ aJ) hb) (o2_ (Kd.R_below (oR bD) hb) (o2_ (Kd.V_below (Kd.V_elderB (oV bK) bS (Nat.le_of_eq hg.symm)) hb) (o2_ (Kd.R_below (oR bM) hb) (o2_ (blk_below (oP aA) hb) (o2_ (blk_below (oP aD) hb) (o2_ (blk_below (oP aC) hb) (o2_ (blk_below (oP aE) hb) (o2_ (blk_below (oP aG) hb) (o2_ (blk_below (oP aH) hb) (o2_ (below_step (oB HB) hb) (o2_ (hbox) (o2_ ((oG hg (below_size (oB HB)) : w.heap.size ≤ bS)) (o2_ ((oG hg (below_size (oB HB)) : w.heap.size ≤ bS)) (o2_ ((oL hg (blk_lt (oP aA)))) (o2_ ((oN hg (blk_lt (oP aA)))) (o2_ ((oL hg (blk_lt (oP aD)))) (o2_ ((oN hg (blk_lt (oP aD)))) (o2_ ((oL hg (blk_lt (oP aC)))) (o2_ ((oN hg (blk_lt (oP aC)))) (o2_ ((oL hg (blk_lt (oP aE)))) (o2_ ((oN hg (blk_lt (oP aE)))) (o2_ ((oL hg (blk_lt (oP aG)))) (o2_ ((oN hg (blk_lt (oP aG)))) (o2_ ((oL hg (blk_lt (oP aH)))) (o1_ ((oN hg (blk_lt (oP aH))))))))))))))))))))))))))))); clear aJ bD bK bM aA aD aC aE aG aH HB; obtain ⟨aJ, bD, bK, bM, aA, aD, aC, aE, aG, aH, HB, aI, aM5, aM2, dW, dZ, iG, iK, iH, iL, iI, iM, iJ, iN, gX, gY⟩ := n_; clear hb hbox hg; have aP4 := dZ.out; have aR5 := dW.out; have aP5 := iK.out; have aR6 := iG.out; have aP6 := iL.out; have aR7 := iH.out; have aP7 := iM.out; have aR8 := iI.out; have aP8 := iN.out; have aR9 := iJ.out; have aP9 := gY.out; have aS0 := gX.out; have uY : iA.cell? ⟨bS, 0, none⟩ = some (.int .i64 0) := (blk_cell aI.out 0).trans rfl; have uZ : iA.cell? ⟨bS, 1, none⟩ = some (.int .i64 0) := (blk_cell aI.out 1).trans rfl; have vA : iA.cell? ⟨bS, 2, none⟩ = some (.slice none 0 0) := (blk_cell aI.out 2).trans rfl; have wU := blk_frozen aI.out 0; have wV := blk_frozen aI.out 1; have wW := blk_frozen aI.out 2; obtain ⟨cX, cZ, yR⟩ := Kd.R_slice bM.out; subst yR))
   (try simp only [Act.put, List.setIfInBounds_toArray, List.set_cons_zero, List.set_cons_succ])
   go_cut [77] (fun v77 wc => ∃ (kq : Nat) (iF : Bool), v77 = .bool iF ∧ Aside0 (laws_FnOpBlur.j0 kq iF bR bX bJ 6 0 0 0 0 dC dD cJ = some r) ∧ Aside0 (kq ≤ k) ∧ Aside0 (Kd.Q k38 38 wc w.heap.size (fun k_ => some k_ ≠ ((.slice cX cL.length cZ) : Value).ownBlock) (.slice dG bJ.length cY) bJ) ∧ Aside0 (Kd.V k38 38 wc w.heap.size (fun k_ => some k_ ≠ ((.slice cX cL.length cZ) : Value).ownBlock ∧ k_ ≠ bB ∧ k_ ≠ bW ∧ k_ ≠ bI ∧ k_ ≠ bQ ∧ k_ ≠ bO ∧ k_ ≠ cA ∧ k_ ≠ bS) (.slice dR cJ.length dT) cJ) ∧ Aside0 (Kd.Q k38 38 wc w.heap.size (fun k_ => some k_ ≠ ((.slice dG bJ.length cY) : Value).ownBlock) (.slice cX cL.length cZ) cL) ∧ Aside0 (wc.heap[bB]? = some (.cells #[.int .i64 bR, .int .i64 bX, (.slice dG bJ.length cY)] 25 (0, 0))) ∧ Aside0 (wc.heap[bW]? = some (.cells #[.int .i64 eY, .int .i64 eZ, .int .i64 fA, .int .i64 fB, .int .i64 fC] 27 (0, 0))) ∧ Aside0 (wc.heap[bI]? = some (.cells #[.int .i64 6, .int .i64 0, .int .i64 0, .int .i64 0, .int .i64 0] 27 (0, 0))) ∧ Aside0 (wc.heap[bQ]? = some (.cells #[.int .i64 4, .int .i64 0, .int .i64 0, .int .i64 0, .int .i64 0] 27 (0, 0))) ∧ Aside0 (wc.heap[bO]? = some (.cells #[.int .i64 2, .int .i64 0, .int .i64 0, .int .i64 0, .int .i64 0] 27 (0, 0))) ∧ Aside0 (wc.heap[cA]? = some (.cells #[.int .i64 dC, .int .i64 dD, (.slice dR cJ.length dT)] 25 (0, 0))) ∧ Aside0 (wc.heap[bS]? = some (.cells #[.int .i64 eB, .int .i64 eC, (.slice cX cL.length cZ)] 25 (0, 0))) ∧ Aside0 (Below w.heap.size w wc))
   case first =>
    have H := xV.out
    clear xV
    replace H := Option.bind_eq_some_iff.mp H
    obtain ⟨iC, mC, H⟩ := H
    (try dsimp only at H)
    have A59 := Aside0.mk mC
    clear mC
    by_cases lK : iC = true
    ·subst lK
     rw [if_pos rfl] at H
     obtain ⟨y555, hy555⟩ : ∃ y_ : List (S27), y_ = (([(⟨4, 0, 0, 0, 0⟩ : S27)] : List (S27))) := ⟨_, rfl⟩
     replace H : ((laws_eaDo.f k dC dD cJ y555).bind fun eK => ((laws_eaDo.f k bR bX bJ (([(⟨4, 0, 0, 0, 0⟩ : S27), (⟨6, 0, 0, 0, 0⟩ : S27)] : List (S27)))).bind fun eE => ((laws_eaRas.f k eK.1 eK.2.1 eK.2.2 eE.1 eE.2.1 eE.2.2).bind fun gA => (if gA = true then ((laws_eaDo.f k dC dD cJ (([(⟨2, 0, 0, 0, 0⟩ : S27)] : List (S27)))).bind fun dS => ((laws_eaDo.f k bR bX bJ (([(⟨2, 0, 0, 0, 0⟩ : S27), (⟨6, 0, 0, 0, 0⟩ : S27)] : List (S27)))).bind fun dI => ((laws_eaRas.f k dS.1 dS.2.1 dS.2.2 dI.1 dI.2.1 dI.2.2).bind fun eJ => (laws_FnOpBlur.j0 k (!eJ) bR bX bJ 6 0 0 0 0 dC dD cJ)))) else (laws_FnOpBlur.j0 k true bR bX bJ 6 0 0 0 0 dC dD cJ))))) = some r := by first | (rw [hy555]; with_reducible exact H) | (have H2_ := (Option.bind_some _ _).symm.trans H; rw [hy555]; with_reducible exact H2_) | (have H2_ := (Option.bind_some _ _).symm.trans H; with_reducible exact H2_) | with_reducible exact H | (rw [hy555]; exact H) | exact H
     have kT := Aside0.mk hy555
     clear hy555
     replace H := Option.bind_eq_some_iff.mp H
     obtain ⟨⟨iS, iT, iD⟩, mD, H⟩ := H
     (try dsimp only at H)
     have A61 := Aside0.mk mD
     clear mD
     obtain ⟨y563, hy563⟩ : ∃ y_ : List (S27), y_ = (([(⟨4, 0, 0, 0, 0⟩ : S27), (⟨6, 0, 0, 0, 0⟩ : S27)] : List (S27))) := ⟨_, rfl⟩
     replace H : ((laws_eaDo.f k bR bX bJ y563).bind fun eE => ((laws_eaRas.f k iS iT iD eE.1 eE.2.1 eE.2.2).bind fun gA => (if gA = true then ((laws_eaDo.f k dC dD cJ (([(⟨2, 0, 0, 0, 0⟩ : S27)] : List (S27)))).bind fun dS => ((laws_eaDo.f k bR bX bJ (([(⟨2, 0, 0, 0, 0⟩ : S27), (⟨6, 0, 0, 0, 0⟩ : S27)] : List (S27)))).bind fun dI => ((laws_eaRas.f k dS.1 dS.2.1 dS.2.2 dI.1 dI.2.1 dI.2.2).bind fun eJ => (laws_FnOpBlur.j0 k (!eJ) bR bX bJ 6 0 0 0 0 dC dD cJ)))) else (laws_FnOpBlur.j0 k true bR bX bJ 6 0 0 0 0 dC dD cJ)))) = some r := by first | (rw [hy563]; with_reducible exact H) | (have H2_ := (Option.bind_some _ _).symm.trans H; rw [hy563]; with_reducible exact H2_) | (have H2_ := (Option.bind_some _ _).symm.trans H; with_reducible exact H2_) | with_reducible exact H | (rw [hy563]; exact H) | exact H
     have kU := Aside0.mk hy563
     clear hy563
     replace H := Option.bind_eq_some_iff.mp H
     obtain ⟨⟨jO, jP, jQ⟩, mE, H⟩ := H
     (try dsimp only at H)
     have A62 := Aside0.mk mE
     clear mE
     replace H := Option.bind_eq_some_iff.mp H
     obtain ⟨gA, mF, H⟩ := H
     (try dsimp only at H)
     have A63 := Aside0.mk mF
     clear mF
     by_cases sZ : gA = true
     ·subst sZ
      rw [if_pos rfl] at H
      obtain ⟨y572, hy572⟩ : ∃ y_ : List (S27), y_ = (([(⟨2, 0, 0, 0, 0⟩ : S27)] : List (S27))) := ⟨_, rfl⟩
      replace H : ((laws_eaDo.f k dC dD cJ y572).bind fun dS => ((laws_eaDo.f k bR bX bJ (([(⟨2, 0, 0, 0, 0⟩ : S27), (⟨6, 0, 0, 0, 0⟩ : S27)] : List (S27)))).bind fun dI => ((laws_eaRas.f k dS.1 dS.2.1 dS.2.2 dI.1 dI.2.1 dI.2.2).bind fun eJ => (laws_FnOpBlur.j0 k (!eJ) bR bX bJ 6 0 0 0 0 dC dD cJ)))) = some r := by first | (rw [hy572]; with_reducible exact H) | (have H2_ := (Option.bind_some _ _).symm.trans H; rw [hy572]; with_reducible exact H2_) | (have H2_ := (Option.bind_some _ _).symm.trans H; with_reducible exact H2_) | with_reducible exact H | (rw [hy572]; exact H) | exact H
      have kV := Aside0.mk hy572
      clear hy572
      replace H := Option.bind_eq_some_iff.mp H
      obtain ⟨⟨iU, iV, iE⟩, mG, H⟩ := H
      (try dsimp only at H)
      have A65 := Aside0.mk mG
      clear mG
      obtain ⟨y580, hy580⟩ : ∃ y_ : List (S27), y_ = (([(⟨2, 0, 0, 0, 0⟩ : S27), (⟨6, 0, 0, 0, 0⟩ : S27)] : List (S27))) := ⟨_, rfl⟩
      replace H : ((laws_eaDo.f k bR bX bJ y580).bind fun dI => ((laws_eaRas.f k iU iV iE dI.1 dI.2.1 dI.2.2).bind fun eJ => (laws_FnOpBlur.j0 k (!eJ) bR bX bJ 6 0 0 0 0 dC dD cJ))) = some r := by first | (rw [hy580]; with_reducible exact H) | (have H2_ := (Option.bind_some _ _).symm.trans H; rw [hy580]; with_reducible exact H2_) | (have H2_ := (Option.bind_some _ _).symm.trans H; with_reducible exact H2_) | with_reducible exact H | (rw [hy580]; exact H) | exact H
      have kW := Aside0.mk hy580
      clear hy580
      replace H := Option.bind_eq_some_iff.mp H
      obtain ⟨⟨jR, jS, jT⟩, mH, H⟩ := H
      (try dsimp only at H)
      have A66 := Aside0.mk mH
      clear mH
      replace H := Option.bind_eq_some_iff.mp H
      obtain ⟨eJ, mI, H⟩ := H
      (try dsimp only at H)
      have A67 := Aside0.mk mI
      clear mI
      have H' := Aside0.mk H
      clear H
      try go_wp2
      have gB : Aside0 (Kd.Q k38 38 (((iA.setCell ⟨bS, 0, none⟩ (.int .i64 eB)).setCell ⟨bS, 1, none⟩ (.int .i64 eC)).setCell ⟨bS, 2, none⟩ (.slice cX cL.length cZ)) w.heap.size (fun k_ => some k_ ≠ (.slice cX cL.length cZ : Value).ownBlock) (.slice dG bJ.length cY) bJ) := ⟨(by (with_reducible repeat (first | apply Kd.Q_alloc | apply Kd.Q_drewN | apply Kd.Q_drew)); exact Kd.Q_mono (Kd.Q_far (p := ⟨bS, 2, none⟩) (Kd.Q_far (p := ⟨bS, 1, none⟩) (Kd.Q_far (p := ⟨bS, 0, none⟩) (Kd.Q_types aJ.out aI.out oD) (fun _ hk => hk.2) (.int .i64 eB)) (fun _ hk => hk.2) (.int .i64 eC)) (fun _ hk => hk.2) (.slice cX cL.length cZ)) (fun _ hk => hk.1.2))⟩
      have gC : Aside0 (Kd.R k27 27 (((iA.setCell ⟨bS, 0, none⟩ (.int .i64 eB)).setCell ⟨bS, 1, none⟩ (.int .i64 eC)).setCell ⟨bS, 2, none⟩ (.slice cX cL.length cZ)) w.heap.size (fun k_ => k_ ≠ bW ∧ k_ ≠ bI ∧ k_ ≠ bQ ∧ k_ ≠ bO) (.slice eF y538.length eG) y538) := ⟨(by (with_reducible repeat (first | apply Kd.R_alloc | apply Kd.R_drewN | apply Kd.R_drew)); exact Kd.R_mono (Kd.R_far (p := ⟨bS, 2, none⟩) (Kd.R_far (p := ⟨bS, 1, none⟩) (Kd.R_far (p := ⟨bS, 0, none⟩) (Kd.R_types bD.out aI.out oD) (fun _ hk => hk.2) (.int .i64 eB)) (fun _ hk => hk.2) (.int .i64 eC)) (fun _ hk => hk.2) (.slice cX cL.length cZ)) oY)⟩
      have gD : Aside0 (Kd.V k38 38 (((iA.setCell ⟨bS, 0, none⟩ (.int .i64 eB)).setCell ⟨bS, 1, none⟩ (.int .i64 eC)).setCell ⟨bS, 2, none⟩ (.slice cX cL.length cZ)) w.heap.size (fun k_ => some k_ ≠ (.slice eF y538.length eG : Value).ownBlock ∧ some k_ ≠ (.slice cX cL.length cZ : Value).ownBlock ∧ k_ ≠ bB ∧ k_ ≠ bW ∧ k_ ≠ bI ∧ k_ ≠ bQ ∧ k_ ≠ bO ∧ k_ ≠ cA ∧ k_ ≠ bS) (.slice dR cJ.length dT) cJ) := ⟨(by (with_reducible repeat (first | apply Kd.V_alloc | apply Kd.V_drewN | apply Kd.V_drew)); exact Kd.V_mono (Kd.V_far (p := ⟨bS, 2, none⟩) (Kd.V_far (p := ⟨bS, 1, none⟩) (Kd.V_far (p := ⟨bS, 0, none⟩) (Kd.V_mono bK.out (fun k_ hk => (⟨hk, hk.2⟩ : _ ∧ k_ ≠ bS))) (fun _ hk => hk.2) (.int .i64 eB)) (fun _ hk => hk.2) (.int .i64 eC)) (fun _ hk => hk.2) (.slice cX cL.length cZ)) oY)⟩
      have gE : Aside0 (Kd.R k38 38 (((iA.setCell ⟨bS, 0, none⟩ (.int .i64 eB)).setCell ⟨bS, 1, none⟩ (.int .i64 eC)).setCell ⟨bS, 2, none⟩ (.slice cX cL.length cZ)) w.heap.size (fun k_ => some k_ ≠ (.slice dG bJ.length cY : Value).ownBlock) (.slice cX cL.length cZ) cL) := ⟨(by (with_reducible repeat (first | apply Kd.R_alloc | apply Kd.R_drewN | apply Kd.R_drew)); exact Kd.R_mono (Kd.R_far (p := ⟨bS, 2, none⟩) (Kd.R_far (p := ⟨bS, 1, none⟩) (Kd.R_far (p := ⟨bS, 0, none⟩) (Kd.R_types bM.out aI.out oD) (fun _ hk => hk.2) (.int .i64 eB)) (fun _ hk => hk.2) (.int .i64 eC)) (fun _ hk => hk.2) (.slice cX cL.length cZ)) (fun _ hk => hk.1.2))⟩
      have gF : Aside0 ((((iA.setCell ⟨bS, 0, none⟩ (.int .i64 eB)).setCell ⟨bS, 1, none⟩ (.int .i64 eC)).setCell ⟨bS, 2, none⟩ (.slice cX cL.length cZ)).heap[bB]? = some (.cells #[.int .i64 bR, .int .i64 bX, .slice dG bJ.length cY] 25 (0, 0))) := ⟨(oP aA)⟩
      have gG : Aside0 ((((iA.setCell ⟨bS, 0, none⟩ (.int .i64 eB)).setCell ⟨bS, 1, none⟩ (.int .i64 eC)).setCell ⟨bS, 2, none⟩ (.slice cX cL.length cZ)).heap[bW]? = some (.cells #[.int .i64 eY, .int .i64 eZ, .int .i64 fA, .int .i64 fB, .int .i64 fC] 27 (0, 0))) := ⟨(oP aD)⟩
      have gH : Aside0 ((((iA.setCell ⟨bS, 0, none⟩ (.int .i64 eB)).setCell ⟨bS, 1, none⟩ (.int .i64 eC)).setCell ⟨bS, 2, none⟩ (.slice cX cL.length cZ)).heap[bI]? = some (.cells #[.int .i64 6, .int .i64 0, .int .i64 0, .int .i64 0, .int .i64 0] 27 (0, 0))) := ⟨(oP aC)⟩
      have gI : Aside0 ((((iA.setCell ⟨bS, 0, none⟩ (.int .i64 eB)).setCell ⟨bS, 1, none⟩ (.int .i64 eC)).setCell ⟨bS, 2, none⟩ (.slice cX cL.length cZ)).heap[bQ]? = some (.cells #[.int .i64 4, .int .i64 0, .int .i64 0, .int .i64 0, .int .i64 0] 27 (0, 0))) := ⟨(oP aE)⟩
      have gJ : Aside0 ((((iA.setCell ⟨bS, 0, none⟩ (.int .i64 eB)).setCell ⟨bS, 1, none⟩ (.int .i64 eC)).setCell ⟨bS, 2, none⟩ (.slice cX cL.length cZ)).heap[bO]? = some (.cells #[.int .i64 2, .int .i64 0, .int .i64 0, .int .i64 0, .int .i64 0] 27 (0, 0))) := ⟨(oP aG)⟩
      have gK : Aside0 ((((iA.setCell ⟨bS, 0, none⟩ (.int .i64 eB)).setCell ⟨bS, 1, none⟩ (.int .i64 eC)).setCell ⟨bS, 2, none⟩ (.slice cX cL.length cZ)).heap[cA]? = some (.cells #[.int .i64 dC, .int .i64 dD, .slice dR cJ.length dT] 25 (0, 0))) := ⟨(oP aH)⟩
      have eL : Aside0 ((((iA.setCell ⟨bS, 0, none⟩ (.int .i64 eB)).setCell ⟨bS, 1, none⟩ (.int .i64 eC)).setCell ⟨bS, 2, none⟩ (.slice cX cL.length cZ)).heap[bS]? = some (.cells #[.int .i64 eB, .int .i64 eC, .slice cX cL.length cZ] 25 (0, 0))) := ⟨(blk_put (blk_put (blk_put aI.out 0 _ rfl) 1 _ rfl) 2 _ rfl)⟩
      have eM : Aside0 (Below w.heap.size w (((iA.setCell ⟨bS, 0, none⟩ (.int .i64 eB)).setCell ⟨bS, 1, none⟩ (.int .i64 eC)).setCell ⟨bS, 2, none⟩ (.slice cX cL.length cZ))) := ⟨(oB HB)⟩
      (try clear aJ)
      (try clear bD)
      (try clear bK)
      (try clear bM)
      (try clear aA)
      (try clear aD)
      (try clear aC)
      (try clear aE)
      (try clear aG)
      (try clear aH)
      (try clear aI)
      (try clear HB)
      generalize (((iA.setCell ⟨bS, 0, none⟩ (.int .i64 eB)).setCell ⟨bS, 1, none⟩ (.int .i64 eC)).setCell ⟨bS, 2, none⟩ (.slice cX cL.length cZ)) = w68 at gB gC gD gE gF gG gH gI gJ gK eL eM ⊢
      have aJ := gB
      have bD := gC
      have bK := gD
      have bM := gE
      have aA := gF
      have aD := gG
      have aC := gH
      have aE := gI
      have aG := gJ
      have aH := gK
      have aI := eL
      have HB := eM
      clear gB gC gD gE gF gG gH gI gJ gK eL eM
      have n_ := o2_ (Kd.Q_drew aJ.out) (o2_ (Kd.R_drew bD.out) (o2_ (Kd.V_drew bK.out) (o2_ (Kd.R_drew bM.out) (o2_ (blk_drew aA.out) (o2_ (blk_drew aD.out) (o2_ (blk_drew aC.out) (o2_ (blk_drew aE.out) (o2_ (blk_drew aG.out) (o2_ (blk_drew aH.out) (o2_ (blk_drew aI.out) (o1_ (below_drew1 HB.out))))))))))))
      clear aJ bD bK bM aA aD aC aE aG aH aI HB
      obtain ⟨aJ, bD, bK, bM, aA, aD, aC, aE, aG, aH, aI, HB⟩ := n_
      refine start_ (n := 30) (S := fun w' => True) (ds := []) #[false, false, false, false, false, false, false, false, false, false, false, false, false, false, false, false, false, false, false, false, false, false, false, false, false, false, false, false, false, false] oK rfl rfl trivial (fun hHeld => ?_); refine with_tabW laws_FnOpBlur.tab11 laws_FnOpBlur.bits11 (fun HT_ HW_ => ?_)
      generalize w68.drew = w69 at aJ bD bK bM aA aD aC aE aG aH aI HB hHeld ⊢
      refine inv_at [0, 1, 2, 3, 4, 5, 6, 7, 8, 9, 10, 11, 12, 13, 14, 15, 16, 17, 18, 19, 20, 21, 22, 23, 24, 25, 26, 27, 28, 29] (fun a0_ b a w' => ∃ (cO : Value) (cQ : Value) (cM : Value) (cV : Value) (cP : Value) (cR : Value) (cN : Value) (cW : Value) (dU : Value) (cS : Value) (cT : Value) (cU : Value), a = putSel a0_ b [(0, 48, .agg #[.int .i64 dC, .int .i64 dD, .slice dR cJ.length dT]), (1, 49, .agg #[.int .i64 eB, .int .i64 eC, .slice cX cL.length cZ]), (2, 50, .bool true), (3, 51, .bool (!true)), (4, 52, .bool (!true)), (5, 53, .agg #[.int .i64 dC, .int .i64 dD, .slice dR cJ.length dT]), (6, 54, .agg #[.int .i64 4, .int .i64 0, .int .i64 0, .int .i64 0, .int .i64 0]), (7, 55, cO), (8, 56, dU), (9, 57, .agg #[.int .i64 bR, .int .i64 bX, .slice dG bJ.length cY]), (10, 58, .agg #[.int .i64 4, .int .i64 0, .int .i64 0, .int .i64 0, .int .i64 0]), (11, 59, .agg #[.int .i64 6, .int .i64 0, .int .i64 0, .int .i64 0, .int .i64 0]), (12, 60, cM), (13, 61, cS), (14, 62, .bool true), (15, 63, .bool (!true)), (16, 64, .bool (!true)), (17, 65, .bool (!true)), (18, 66, .agg #[.int .i64 dC, .int .i64 dD, .slice dR cJ.length dT]), (19, 67, .agg #[.int .i64 2, .int .i64 0, .int .i64 0, .int .i64 0, .int .i64 0]), (20, 68, cP), (21, 69, cT), (22, 70, .agg #[.int .i64 bR, .int .i64 bX, .slice dG bJ.length cY]), (23, 71, .agg #[.int .i64 2, .int .i64 0, .int .i64 0, .int .i64 0, .int .i64 0]), (24, 72, .agg #[.int .i64 6, .int .i64 0, .int .i64 0, .int .i64 0, .int .i64 0]), (25, 73, cN), (26, 74, cU), (27, 75, .bool eJ), (28, 76, .bool (!eJ)), (29, 77, .bool (!eJ))] ∧ (Kd.Q k38 38 w' w.heap.size (fun k_ => some k_ ≠ (.slice cX cL.length cZ : Value).ownBlock) (.slice dG bJ.length cY) bJ) ∧ (Kd.R k27 27 w' w.heap.size (fun k_ => k_ ≠ bW ∧ k_ ≠ bI ∧ k_ ≠ bQ ∧ k_ ≠ bO) (.slice eF y538.length eG) y538) ∧ (Kd.V k38 38 w' w.heap.size (fun k_ => some k_ ≠ (.slice eF y538.length eG : Value).ownBlock ∧ some k_ ≠ (.slice cX cL.length cZ : Value).ownBlock ∧ k_ ≠ bB ∧ k_ ≠ bW ∧ k_ ≠ bI ∧ k_ ≠ bQ ∧ k_ ≠ bO ∧ k_ ≠ cA ∧ k_ ≠ bS) (.slice dR cJ.length dT) cJ) ∧ (Kd.R k38 38 w' w.heap.size (fun k_ => some k_ ≠ (.slice dG bJ.length cY : Value).ownBlock) (.slice cX cL.length cZ) cL) ∧ (w'.heap[bB]? = some (.cells #[.int .i64 bR, .int .i64 bX, .slice dG bJ.length cY] 25 (0, 0))) ∧ (w'.heap[bW]? = some (.cells #[.int .i64 eY, .int .i64 eZ, .int .i64 fA, .int .i64 fB, .int .i64 fC] 27 (0, 0))) ∧ (w'.heap[bI]? = some (.cells #[.int .i64 6, .int .i64 0, .int .i64 0, .int .i64 0, .int .i64 0] 27 (0, 0))) ∧ (w'.heap[bQ]? = some (.cells #[.int .i64 4, .int .i64 0, .int .i64 0, .int .i64 0, .int .i64 0] 27 (0, 0))) ∧ (w'.heap[bO]? = some (.cells #[.int .i64 2, .int .i64 0, .int .i64 0, .int .i64 0, .int .i64 0] 27 (0, 0))) ∧ (w'.heap[cA]? = some (.cells #[.int .i64 dC, .int .i64 dD, .slice dR cJ.length dT] 25 (0, 0))) ∧ (w'.heap[bS]? = some (.cells #[.int .i64 eB, .int .i64 eC, .slice cX cL.length cZ] 25 (0, 0))) ∧ (Below w.heap.size w w') ∧ (b 7 = true → Kd.R k27 27 w' w.heap.size (fun k_ => some k_ ≠ (.slice eF y538.length eG : Value).ownBlock ∧ k_ ≠ bW ∧ k_ ≠ bI ∧ k_ ≠ bQ ∧ k_ ≠ bO) cO y555) ∧ (b 8 = true → Kd.V k38 38 w' w.heap.size (fun k_ => some k_ ≠ (.slice eF y538.length eG : Value).ownBlock ∧ some k_ ≠ (.slice cX cL.length cZ : Value).ownBlock ∧ k_ ≠ bB ∧ k_ ≠ bW ∧ k_ ≠ bI ∧ k_ ≠ bQ ∧ k_ ≠ bO ∧ k_ ≠ cA ∧ k_ ≠ bS) cQ iD) ∧ (b 12 = true → Kd.R k27 27 w' w.heap.size (fun k_ => some k_ ≠ (.slice eF y538.length eG : Value).ownBlock ∧ k_ ≠ bW ∧ k_ ≠ bI ∧ k_ ≠ bQ ∧ k_ ≠ bO) cM y563) ∧ (b 13 = true → Kd.V k38 38 w' w.heap.size (fun k_ => some k_ ≠ (.slice eF y538.length eG : Value).ownBlock ∧ some k_ ≠ (.slice cX cL.length cZ : Value).ownBlock ∧ k_ ≠ bB ∧ k_ ≠ bW ∧ k_ ≠ bI ∧ k_ ≠ bQ ∧ k_ ≠ bO ∧ k_ ≠ cA ∧ k_ ≠ bS) cV jQ) ∧ (b 20 = true → Kd.R k27 27 w' w.heap.size (fun k_ => some k_ ≠ (.slice eF y538.length eG : Value).ownBlock ∧ k_ ≠ bW ∧ k_ ≠ bI ∧ k_ ≠ bQ ∧ k_ ≠ bO) cP y572) ∧ (b 21 = true → Kd.V k38 38 w' w.heap.size (fun k_ => some k_ ≠ (.slice eF y538.length eG : Value).ownBlock ∧ some k_ ≠ (.slice cX cL.length cZ : Value).ownBlock ∧ k_ ≠ bB ∧ k_ ≠ bW ∧ k_ ≠ bI ∧ k_ ≠ bQ ∧ k_ ≠ bO ∧ k_ ≠ cA ∧ k_ ≠ bS) cR iE) ∧ (b 25 = true → Kd.R k27 27 w' w.heap.size (fun k_ => some k_ ≠ (.slice eF y538.length eG : Value).ownBlock ∧ k_ ≠ bW ∧ k_ ≠ bI ∧ k_ ≠ bQ ∧ k_ ≠ bO) cN y580) ∧ (b 26 = true → Kd.V k38 38 w' w.heap.size (fun k_ => some k_ ≠ (.slice eF y538.length eG : Value).ownBlock ∧ some k_ ≠ (.slice cX cL.length cZ : Value).ownBlock ∧ k_ ≠ bB ∧ k_ ≠ bW ∧ k_ ≠ bI ∧ k_ ≠ bQ ∧ k_ ≠ bO ∧ k_ ≠ cA ∧ k_ ≠ bS) cW jT) ∧ (b 8 = true → (dU : Value) = .agg #[.int .i64 iS, .int .i64 iT, cQ]) ∧ (b 13 = true → (cS : Value) = .agg #[.int .i64 jO, .int .i64 jP, cV]) ∧ (b 21 = true → (cT : Value) = .agg #[.int .i64 iU, .int .i64 iV, cR]) ∧ (b 26 = true → (cU : Value) = .agg #[.int .i64 jR, .int .i64 jS, cW])) HT_.out HW_.out oK oK ?_ ?_ ?_
      ·exact ⟨.bool false, .bool false, .bool false, .bool false, .bool false, .bool false, .bool false, .bool false, .bool false, .bool false, .bool false, .bool false, by simp only [putSel, Bool.false_eq_true, if_false], aJ.out, bD.out, bK.out, bM.out, aA.out, aD.out, aC.out, aE.out, aG.out, aH.out, aI.out, HB.out, fun h_ => absurd h_ oD, fun h_ => absurd h_ oD, fun h_ => absurd h_ oD, fun h_ => absurd h_ oD, fun h_ => absurd h_ oD, fun h_ => absurd h_ oD, fun h_ => absurd h_ oD, fun h_ => absurd h_ oD, fun h_ => absurd h_ oD, fun h_ => absurd h_ oD, fun h_ => absurd h_ oD, fun h_ => absurd h_ oD⟩
      ·skip
       clear aA aD aC aE aG aH aI HB aJ bD bK bM
       refine steps_cons ?_ ?_
       ·intro b a w' hR_
        refine hide_ (fun G_ hG_ => exVVVVVVVVVVVV_ hR_ (fun cO cQ cM cV cP cR cN cW dU cS cT cU hS_ => an25_ hS_ (fun ha aW aX aY aZ aM aN aQ aR aT aU aV Q_HB bF bH bG bL bT bV bU bZ cG bY cF cI => ?_)))
        refine hG_ ?_
        clear hG_ hR_ hS_
        intro hb_ hon hoff
        refine ⟨_, rfl, fun K hK => ?_⟩
        have e8 : a.tmps[8]? = some (.pointer (some ⟨cA, 0, none⟩)) := by rw [ha]; exact (putSel_off rfl).trans rfl
        replace ha := Aside0.mk ha
        obtain ⟨aJ, bD, bK, bM, aA, aD, aC, aE, aG, aH, aI, HB⟩ := o2_ aW (o2_ aX (o2_ aY (o2_ aZ (o2_ aM (o2_ aN (o2_ aQ (o2_ aR (o2_ aT (o2_ aU (o2_ aV (o1_ Q_HB)))))))))))
        have fW : w'.cell? ⟨cA, 0, none⟩ = some (.int .i64 dC) := (blk_cell aH.out 0).trans rfl
        have fX : w'.cell? ⟨cA, 1, none⟩ = some (.int .i64 dD) := (blk_cell aH.out 1).trans rfl
        have fY : w'.cell? ⟨cA, 2, none⟩ = some (.slice dR cJ.length dT) := (blk_cell aH.out 2).trans rfl
        refine value_ (w1 := w') (v := .agg #[.int .i64 dC, .int .i64 dD, .slice dR cJ.length dT]) (by rfl) rfl ?_ ?_
        ·go_simp
         (try simp only [i64_w])
         try rfl
        refine hK.out _ _ ⟨cO, cQ, cM, cV, cP, cR, cN, cW, dU, cS, cT, cU, (by rw [ha.out]; exact putSel_upk 0 hb_ rfl rfl rfl), aW, aX, aY, aZ, aM, aN, aQ, aR, aT, aU, aV, Q_HB, oF (hoff 7 oK), oF (hoff 8 oK), oF (hoff 12 oK), oF (hoff 13 oK), oF (hoff 20 oK), oF (hoff 21 oK), oF (hoff 25 oK), oF (hoff 26 oK), oF (hoff 8 oK), oF (hoff 13 oK), oF (hoff 21 oK), oF (hoff 26 oK)⟩
       refine steps_cons ?_ ?_
       ·intro b a w' hR_
        refine hide_ (fun G_ hG_ => exVVVVVVVVVVVV_ hR_ (fun cO cQ cM cV cP cR cN cW dU cS cT cU hS_ => an25_ hS_ (fun ha aW aX aY aZ aM aN aQ aR aT aU aV Q_HB bF bH bG bL bT bV bU bZ cG bY cF cI => ?_)))
        refine hG_ ?_
        clear hG_ hR_ hS_
        intro hb_ hon hoff
        refine ⟨_, rfl, fun K hK => ?_⟩
        have e9 : a.tmps[9]? = some (.pointer (some ⟨bS, 0, none⟩)) := by rw [ha]; exact (putSel_off rfl).trans rfl
        replace ha := Aside0.mk ha
        obtain ⟨aJ, bD, bK, bM, aA, aD, aC, aE, aG, aH, aI, HB⟩ := o2_ aW (o2_ aX (o2_ aY (o2_ aZ (o2_ aM (o2_ aN (o2_ aQ (o2_ aR (o2_ aT (o2_ aU (o2_ aV (o1_ Q_HB)))))))))))
        have fW : w'.cell? ⟨bS, 0, none⟩ = some (.int .i64 eB) := (blk_cell aI.out 0).trans rfl
        have fX : w'.cell? ⟨bS, 1, none⟩ = some (.int .i64 eC) := (blk_cell aI.out 1).trans rfl
        have fY : w'.cell? ⟨bS, 2, none⟩ = some (.slice cX cL.length cZ) := (blk_cell aI.out 2).trans rfl
        refine value_ (w1 := w') (v := .agg #[.int .i64 eB, .int .i64 eC, .slice cX cL.length cZ]) (by rfl) rfl ?_ ?_
        ·go_simp
         (try simp only [i64_w])
         try rfl
        refine hK.out _ _ ⟨cO, cQ, cM, cV, cP, cR, cN, cW, dU, cS, cT, cU, (by rw [ha.out]; exact putSel_upk 1 hb_ rfl rfl rfl), aW, aX, aY, aZ, aM, aN, aQ, aR, aT, aU, aV, Q_HB, oF (hoff 7 oK), oF (hoff 8 oK), oF (hoff 12 oK), oF (hoff 13 oK), oF (hoff 20 oK), oF (hoff 21 oK), oF (hoff 25 oK), oF (hoff 26 oK), oF (hoff 8 oK), oF (hoff 13 oK), oF (hoff 21 oK), oF (hoff 26 oK)⟩
       refine steps_cons ?_ ?_
       ·intro b a w' hR_
        refine hide_ (fun G_ hG_ => exVVVVVVVVVVVV_ hR_ (fun cO cQ cM cV cP cR cN cW dU cS cT cU hS_ => an25_ hS_ (fun ha aW aX aY aZ aM aN aQ aR aT aU aV Q_HB bF bH bG bL bT bV bU bZ cG bY cF cI => ?_)))
        refine hG_ ?_
        clear hG_ hR_ hS_
        intro hb_ hon hoff
        refine ⟨_, rfl, fun K hK => ?_⟩
        have e48 : a.tmps[48]? = some (.agg #[.int .i64 dC, .int .i64 dD, .slice dR cJ.length dT]) := by rw [ha]; exact putSel_on (e := (0, 48, .agg #[.int .i64 dC, .int .i64 dD, .slice dR cJ.length dT])) 0 rfl rfl (hon 0 oK) rfl
        have e49 : a.tmps[49]? = some (.agg #[.int .i64 eB, .int .i64 eC, .slice cX cL.length cZ]) := by rw [ha]; exact putSel_on (e := (1, 49, .agg #[.int .i64 eB, .int .i64 eC, .slice cX cL.length cZ])) 1 rfl rfl (hon 1 oK) rfl
        replace ha := Aside0.mk ha
        obtain ⟨aJ, bD, bK, bM, aA, aD, aC, aE, aG, aH, aI, HB⟩ := o2_ aW (o2_ aX (o2_ aY (o2_ aZ (o2_ aM (o2_ aN (o2_ aQ (o2_ aR (o2_ aT (o2_ aU (o2_ aV (o1_ Q_HB)))))))))))
        refine goes_ Try.func21 oK rfl #[.agg #[.int .i64 dC, .int .i64 dD, .slice dR cJ.length dT], .agg #[.int .i64 eB, .int .i64 eC, .slice cX cL.length cZ]] (by first | rfl | exact wanted_on rfl rfl rfl (by assumption)) rfl rfl (by first | (simp only [List.map_toArray, List.map_cons, List.map_nil, Act.eval, Array.getD_eq_getD_getElem?, Option.getD_some, e48, e49]; done) | (simp only [List.map_toArray, List.map_cons, List.map_nil, Act.eval, Array.getD_eq_getD_getElem?, Option.getD_some, e48, e49]; rfl)) ?_
        with_reducible refine (laws_eaRas.calls k dC dD _ _ cJ eB eC _ _ cL true _ ?side1 ?side2 ?side3 ?side4 A59.out).mono ?_
        (case side1 => repeat (first | exact (Kd.V_reads' bK.out).2.2 | (with_reducible refine Kd.C_alloc ?_ _) | (with_reducible refine Kd.C_drewN ?_ _) | (with_reducible refine Kd.C_drew ?_)))
        (case side2 => exact (Kd.V_reads' bK.out).2.1)
        (case side3 => repeat (first | exact (Kd.R_reads' bM.out).2.2 | (with_reducible refine Kd.C_alloc ?_ _) | (with_reducible refine Kd.C_drewN ?_ _) | (with_reducible refine Kd.C_drew ?_)))
        (case side4 => exact (Kd.R_reads' bM.out).2.1)
        rintro e w70 ⟨rfl, hb⟩
        refine ⟨_, rfl, ?_⟩
        have n_ := o2_ (Kd.Q_below aJ.out hb) (o2_ (Kd.R_below bD.out hb) (o2_ (Kd.V_below bK.out hb) (o2_ (Kd.R_below bM.out hb) (o2_ (blk_below aA.out hb) (o2_ (blk_below aD.out hb) (o2_ (blk_below aC.out hb) (o2_ (blk_below aE.out hb) (o2_ (blk_below aG.out hb) (o2_ (blk_below aH.out hb) (o2_ (blk_below aI.out hb) (o1_ (below_step (oB HB) hb))))))))))))
        clear aJ bD bK bM aA aD aC aE aG aH aI HB
        obtain ⟨aJ, bD, bK, bM, aA, aD, aC, aE, aG, aH, aI, HB⟩ := n_
        (try clear hb)
        (try clear hb2)
        (try clear hk)
        (try clear hi)
        refine hK.out _ _ ⟨cO, cQ, cM, cV, cP, cR, cN, cW, dU, cS, cT, cU, (by rw [ha.out]; exact putSel_upk 2 hb_ rfl rfl rfl), aJ.out, bD.out, bK.out, bM.out, aA.out, aD.out, aC.out, aE.out, aG.out, aH.out, aI.out, (oB HB), oF (hoff 7 oK), oF (hoff 8 oK), oF (hoff 12 oK), oF (hoff 13 oK), oF (hoff 20 oK), oF (hoff 21 oK), oF (hoff 25 oK), oF (hoff 26 oK), oF (hoff 8 oK), oF (hoff 13 oK), oF (hoff 21 oK), oF (hoff 26 oK)⟩
       refine steps_cons ?_ ?_
       ·intro b a w' hR_
        refine hide_ (fun G_ hG_ => exVVVVVVVVVVVV_ hR_ (fun cO cQ cM cV cP cR cN cW dU cS cT cU hS_ => an25_ hS_ (fun ha aW aX aY aZ aM aN aQ aR aT aU aV Q_HB bF bH bG bL bT bV bU bZ cG bY cF cI => ?_)))
        refine hG_ ?_
        clear hG_ hR_ hS_
        intro hb_ hon hoff
        refine ⟨_, rfl, fun K hK => ?_⟩
        have e50 : a.tmps[50]? = some (.bool true) := by rw [ha]; exact putSel_on (e := (2, 50, .bool true)) 2 rfl rfl (hon 2 oK) rfl
        replace ha := Aside0.mk ha
        obtain ⟨aJ, bD, bK, bM, aA, aD, aC, aE, aG, aH, aI, HB⟩ := o2_ aW (o2_ aX (o2_ aY (o2_ aZ (o2_ aM (o2_ aN (o2_ aQ (o2_ aR (o2_ aT (o2_ aU (o2_ aV (o1_ Q_HB)))))))))))
        refine value_ (w1 := w') (v := .bool (!true)) (by rfl) rfl ?_ ?_
        ·go_simp
         (try simp only [i64_w])
         try rfl
        refine hK.out _ _ ⟨cO, cQ, cM, cV, cP, cR, cN, cW, dU, cS, cT, cU, (by rw [ha.out]; exact putSel_upk 3 hb_ rfl rfl rfl), aW, aX, aY, aZ, aM, aN, aQ, aR, aT, aU, aV, Q_HB, oF (hoff 7 oK), oF (hoff 8 oK), oF (hoff 12 oK), oF (hoff 13 oK), oF (hoff 20 oK), oF (hoff 21 oK), oF (hoff 25 oK), oF (hoff 26 oK), oF (hoff 8 oK), oF (hoff 13 oK), oF (hoff 21 oK), oF (hoff 26 oK)⟩
       refine steps_cons ?_ ?_
       ·intro b a w' hR_
        refine hide_ (fun G_ hG_ => exVVVVVVVVVVVV_ hR_ (fun cO cQ cM cV cP cR cN cW dU cS cT cU hS_ => an25_ hS_ (fun ha aW aX aY aZ aM aN aQ aR aT aU aV Q_HB bF bH bG bL bT bV bU bZ cG bY cF cI => ?_)))
        refine hG_ ?_
        clear hG_ hR_ hS_
        intro hb_ hon hoff
        refine ⟨_, rfl, fun K hK => ?_⟩
        have e51 : a.tmps[51]? = some (.bool (!true)) := by rw [ha]; exact putSel_on (e := (3, 51, .bool (!true))) 3 rfl rfl (hon 3 oK) rfl
        replace ha := Aside0.mk ha
        obtain ⟨aJ, bD, bK, bM, aA, aD, aC, aE, aG, aH, aI, HB⟩ := o2_ aW (o2_ aX (o2_ aY (o2_ aZ (o2_ aM (o2_ aN (o2_ aQ (o2_ aR (o2_ aT (o2_ aU (o2_ aV (o1_ Q_HB)))))))))))
        refine value_ (w1 := w') (v := .bool (!true)) (by rfl) rfl ?_ ?_
        ·go_simp
         (try simp only [i64_w])
         try rfl
        refine hK.out _ _ ⟨cO, cQ, cM, cV, cP, cR, cN, cW, dU, cS, cT, cU, (by rw [ha.out]; exact putSel_upk 4 hb_ rfl rfl rfl), aW, aX, aY, aZ, aM, aN, aQ, aR, aT, aU, aV, Q_HB, oF (hoff 7 oK), oF (hoff 8 oK), oF (hoff 12 oK), oF (hoff 13 oK), oF (hoff 20 oK), oF (hoff 21 oK), oF (hoff 25 oK), oF (hoff 26 oK), oF (hoff 8 oK), oF (hoff 13 oK), oF (hoff 21 oK), oF (hoff 26 oK)⟩
       refine steps_cons ?_ ?_
       ·intro b a w' hR_
        refine hide_ (fun G_ hG_ => exVVVVVVVVVVVV_ hR_ (fun cO cQ cM cV cP cR cN cW dU cS cT cU hS_ => an25_ hS_ (fun ha aW aX aY aZ aM aN aQ aR aT aU aV Q_HB bF bH bG bL bT bV bU bZ cG bY cF cI => ?_)))
        refine hG_ ?_
        clear hG_ hR_ hS_
        intro hb_ hon hoff
        refine ⟨_, rfl, fun K hK => ?_⟩
        have e8 : a.tmps[8]? = some (.pointer (some ⟨cA, 0, none⟩)) := by rw [ha]; exact (putSel_off rfl).trans rfl
        have fU : a.tmps[52]? = some (.bool (!true)) := by rw [ha]; exact putSel_on (e := (4, 52, .bool (!true))) 4 rfl rfl (hon 4 oK) rfl
        replace ha := Aside0.mk ha
        obtain ⟨aJ, bD, bK, bM, aA, aD, aC, aE, aG, aH, aI, HB⟩ := o2_ aW (o2_ aX (o2_ aY (o2_ aZ (o2_ aM (o2_ aN (o2_ aQ (o2_ aR (o2_ aT (o2_ aU (o2_ aV (o1_ Q_HB)))))))))))
        have fW : w'.cell? ⟨cA, 0, none⟩ = some (.int .i64 dC) := (blk_cell aH.out 0).trans rfl
        have fX : w'.cell? ⟨cA, 1, none⟩ = some (.int .i64 dD) := (blk_cell aH.out 1).trans rfl
        have fY : w'.cell? ⟨cA, 2, none⟩ = some (.slice dR cJ.length dT) := (blk_cell aH.out 2).trans rfl
        refine value_ (w1 := w') (v := .agg #[.int .i64 dC, .int .i64 dD, .slice dR cJ.length dT]) (wanted_on rfl rfl rfl (fU.trans (by first | rfl | (simp [*]; done)))) rfl ?_ ?_
        ·go_simp
         (try simp only [i64_w])
         try rfl
        refine hK.out _ _ ⟨cO, cQ, cM, cV, cP, cR, cN, cW, dU, cS, cT, cU, (by rw [ha.out]; exact putSel_upk 5 hb_ rfl rfl rfl), aW, aX, aY, aZ, aM, aN, aQ, aR, aT, aU, aV, Q_HB, bF, oF (hoff 8 oK), bG, oF (hoff 13 oK), oF (hoff 20 oK), oF (hoff 21 oK), oF (hoff 25 oK), oF (hoff 26 oK), oF (hoff 8 oK), oF (hoff 13 oK), oF (hoff 21 oK), oF (hoff 26 oK)⟩
       refine steps_cons ?_ ?_
       ·intro b a w' hR_
        refine hide_ (fun G_ hG_ => exVVVVVVVVVVVV_ hR_ (fun cO cQ cM cV cP cR cN cW dU cS cT cU hS_ => an25_ hS_ (fun ha aW aX aY aZ aM aN aQ aR aT aU aV Q_HB bF bH bG bL bT bV bU bZ cG bY cF cI => ?_)))
        refine hG_ ?_
        clear hG_ hR_ hS_
        intro hb_ hon hoff
        refine ⟨_, rfl, fun K hK => ?_⟩
        have e6 : a.tmps[6]? = some (.pointer (some ⟨bQ, 0, none⟩)) := by rw [ha]; exact (putSel_off rfl).trans rfl
        have fU : a.tmps[52]? = some (.bool (!true)) := by rw [ha]; exact putSel_on (e := (4, 52, .bool (!true))) 4 rfl rfl (hon 4 oK) rfl
        replace ha := Aside0.mk ha
        obtain ⟨aJ, bD, bK, bM, aA, aD, aC, aE, aG, aH, aI, HB⟩ := o2_ aW (o2_ aX (o2_ aY (o2_ aZ (o2_ aM (o2_ aN (o2_ aQ (o2_ aR (o2_ aT (o2_ aU (o2_ aV (o1_ Q_HB)))))))))))
        have fW : w'.cell? ⟨bQ, 0, none⟩ = some (.int .i64 4) := (blk_cell aE.out 0).trans rfl
        have fX : w'.cell? ⟨bQ, 1, none⟩ = some (.int .i64 0) := (blk_cell aE.out 1).trans rfl
        have fY : w'.cell? ⟨bQ, 2, none⟩ = some (.int .i64 0) := (blk_cell aE.out 2).trans rfl
        have jD : w'.cell? ⟨bQ, 3, none⟩ = some (.int .i64 0) := (blk_cell aE.out 3).trans rfl
        have jE : w'.cell? ⟨bQ, 4, none⟩ = some (.int .i64 0) := (blk_cell aE.out 4).trans rfl
        refine value_ (w1 := w') (v := .agg #[.int .i64 4, .int .i64 0, .int .i64 0, .int .i64 0, .int .i64 0]) (wanted_on rfl rfl rfl (fU.trans (by first | rfl | (simp [*]; done)))) rfl ?_ ?_
        ·go_simp
         (try simp only [i64_w])
         try rfl
        refine hK.out _ _ ⟨cO, cQ, cM, cV, cP, cR, cN, cW, dU, cS, cT, cU, (by rw [ha.out]; exact putSel_upk 6 hb_ rfl rfl rfl), aW, aX, aY, aZ, aM, aN, aQ, aR, aT, aU, aV, Q_HB, oF (hoff 7 oK), oF (hoff 8 oK), bG, oF (hoff 13 oK), oF (hoff 20 oK), oF (hoff 21 oK), oF (hoff 25 oK), oF (hoff 26 oK), oF (hoff 8 oK), oF (hoff 13 oK), oF (hoff 21 oK), oF (hoff 26 oK)⟩
       refine steps_cons ?_ ?_
       ·intro b a w' hR_
        refine hide_ (fun G_ hG_ => exVVVVVVVVVVVV_ hR_ (fun cO cQ cM cV cP cR cN cW dU cS cT cU hS_ => an25_ hS_ (fun ha aW aX aY aZ aM aN aQ aR aT aU aV Q_HB bF bH bG bL bT bV bU bZ cG bY cF cI => ?_)))
        refine hG_ ?_
        clear hG_ hR_ hS_
        intro hb_ hon hoff
        refine ⟨_, rfl, fun K hK => ?_⟩
        have e54 : a.tmps[54]? = some (.agg #[.int .i64 4, .int .i64 0, .int .i64 0, .int .i64 0, .int .i64 0]) := by rw [ha]; exact putSel_on (e := (6, 54, .agg #[.int .i64 4, .int .i64 0, .int .i64 0, .int .i64 0, .int .i64 0])) 6 rfl rfl (hon 6 oK) rfl
        have fU : a.tmps[52]? = some (.bool (!true)) := by rw [ha]; exact putSel_on (e := (4, 52, .bool (!true))) 4 rfl rfl (hon 4 oK) rfl
        replace ha := Aside0.mk ha
        obtain ⟨aJ, bD, bK, bM, aA, aD, aC, aE, aG, aH, aI, HB⟩ := o2_ aW (o2_ aX (o2_ aY (o2_ aZ (o2_ aM (o2_ aN (o2_ aQ (o2_ aR (o2_ aT (o2_ aU (o2_ aV (o1_ Q_HB)))))))))))
        refine Kd.R_lit_step k27 _ 27 ?hg (N := 55) ?hd (xs := ([(⟨4, 0, 0, 0, 0⟩ : S27)] : List (S27))) (inner := [.int .i64 4, .int .i64 0, .int .i64 0, .int .i64 0, .int .i64 0]) (ok := fun _ => True) (okp := fun _ => True) ?hr ?hp (fun _ hk => hk) trivial (Below.refl _ _) (Nat.le_refl _) (by simp) ?_; (case hd => rfl); (case hg => first | rfl | exact wanted_on rfl rfl rfl (by assumption)); (case hr => first | (go_simp; done) | (go_simp; rfl)); (case hp => exact (Reps.c5 (show Kd.M k27 _ _ _ (⟨4, 0, 0, 0, 0⟩ : S27) [.int .i64 4, .int .i64 0, .int .i64 0, .int .i64 0, .int .i64 0] from (k27_mkM _ _ _ (⟨4, 0, 0, 0, 0⟩ : S27) )) (Reps.none _ _)))
        intro cO xP ho73 hb hg_ hnew_
        clear hg_ hnew_
        (first | rw [← kT.out] at ho73 | (simp only [Int.reduceToNat] at ho73; rw [← kT.out] at ho73))
        have gB := Aside0.mk (Kd.Q_below aJ.out hb)
        have gC := Aside0.mk (Kd.R_elder' bD.out (Kd.R_base ho73) hb)
        have gD := Aside0.mk (Kd.V_elder' bK.out (Kd.R_base ho73) hb)
        have gE := Aside0.mk (Kd.R_below bM.out hb)
        have gF := Aside0.mk (Kd.R_lower (Kd.R_newB (Kd.R_newB (Kd.R_newB (Kd.R_newB (Kd.R_new' ho73 (Kd.R_lt bD.out)) aD.out) aC.out) aE.out) aG.out) (below_size (oB HB)))
        have gG := Aside0.mk (blk_below aA.out hb)
        have gH := Aside0.mk (blk_below aD.out hb)
        have gI := Aside0.mk (blk_below aC.out hb)
        have gJ := Aside0.mk (blk_below aE.out hb)
        have gK := Aside0.mk (blk_below aG.out hb)
        have eL := Aside0.mk (blk_below aH.out hb)
        have eM := Aside0.mk (blk_below aI.out hb)
        have eP := Aside0.mk (below_step (oB HB) hb)
        have hF := fun (h0_ : b 12 = true) => (show Kd.R k27 27 xP w.heap.size (fun k_ => some k_ ≠ (.slice eF y538.length eG : Value).ownBlock ∧ k_ ≠ bW ∧ k_ ≠ bI ∧ k_ ≠ bQ ∧ k_ ≠ bO) cM y563 from by first | exact (Kd.R_elder' (uR ((bG h0_))) (Kd.R_base ho73) hb) | exact Kd.R_mono (Kd.R_elder' (uR ((bG h0_))) (Kd.R_base ho73) hb) (fun _ h_ => by first | trivial | exact h_ | exact h_.1))
        clear aJ
        clear bD
        clear bK
        clear bM
        clear aA
        clear aD
        clear aC
        clear aE
        clear aG
        clear aH
        clear aI
        clear HB
        have aJ := gB
        have bD := gC
        have bK := gD
        have bM := gE
        have cB := gF
        have aA := gG
        have aD := gH
        have aC := gI
        have aE := gJ
        have aG := gK
        have aH := eL
        have aI := eM
        have HB := eP
        clear gB gC gD gE gF gG gH gI gJ gK eL eM eP
        clear hb ho73
        refine hK.out _ _ ⟨cO, cQ, cM, cV, cP, cR, cN, cW, dU, cS, cT, cU, (by rw [ha.out]; exact putSel_upk 7 hb_ rfl rfl rfl), aJ.out, (by (with_reducible repeat (first | apply Kd.R_alloc | apply Kd.R_drewN | apply Kd.R_drew)); exact Kd.R_mono bD.out oY), (by (with_reducible repeat (first | apply Kd.V_alloc | apply Kd.V_drewN | apply Kd.V_drew)); exact Kd.V_mono bK.out oY), bM.out, aA.out, aD.out, aC.out, aE.out, aG.out, aH.out, aI.out, (oB HB), fun _ => (by (with_reducible repeat (first | apply Kd.R_alloc | apply Kd.R_drewN | apply Kd.R_drew)); exact Kd.R_mono cB.out oY), oF (hoff 8 oK), hF, oF (hoff 13 oK), oF (hoff 20 oK), oF (hoff 21 oK), oF (hoff 25 oK), oF (hoff 26 oK), oF (hoff 8 oK), oF (hoff 13 oK), oF (hoff 21 oK), oF (hoff 26 oK)⟩
       refine steps_cons ?_ ?_
       ·intro b a w' hR_
        refine hide_ (fun G_ hG_ => exVVVVVVVVVVVV_ hR_ (fun cO cQ cM cV cP cR cN cW dU cS cT cU hS_ => an25_ hS_ (fun ha aW aX aY aZ aM aN aQ aR aT aU aV Q_HB bF bH bG bL bT bV bU bZ cG bY cF cI => ?_)))
        refine hG_ ?_
        clear hG_ hR_ hS_
        intro hb_ hon hoff
        refine ⟨_, rfl, fun K hK => ?_⟩
        have e53 : a.tmps[53]? = some (.agg #[.int .i64 dC, .int .i64 dD, .slice dR cJ.length dT]) := by rw [ha]; exact putSel_on (e := (5, 53, .agg #[.int .i64 dC, .int .i64 dD, .slice dR cJ.length dT])) 5 rfl rfl (hon 5 oK) rfl
        have e55 : a.tmps[55]? = some (cO) := by rw [ha]; exact putSel_on (e := (7, 55, cO)) 7 rfl rfl (hon 7 oK) rfl
        have fU : a.tmps[52]? = some (.bool (!true)) := by rw [ha]; exact putSel_on (e := (4, 52, .bool (!true))) 4 rfl rfl (hon 4 oK) rfl
        replace ha := Aside0.mk ha
        obtain ⟨aJ, bD, bK, bM, aA, aD, aC, aE, aG, aH, aI, HB, cB⟩ := o2_ aW (o2_ aX (o2_ aY (o2_ aZ (o2_ aM (o2_ aN (o2_ aQ (o2_ aR (o2_ aT (o2_ aU (o2_ aV (o2_ Q_HB (o1_ (bF (hon 7 oK))))))))))))))
        obtain ⟨mL, nK, nT⟩ := Kd.R_slice cB.out
        (first | subst nT | (injection nT with f1_ f2_ f3_; have f4_ := f1_.symm; have f5_ := f3_.symm; clear f1_ f2_ f3_; subst f4_; subst f5_))
        refine goes_ Try.func27 oK rfl #[.agg #[.int .i64 dC, .int .i64 dD, .slice dR cJ.length dT], .slice mL y555.length nK] (by first | rfl | exact wanted_on rfl rfl rfl (by assumption)) rfl rfl (by first | (simp only [List.map_toArray, List.map_cons, List.map_nil, Act.eval, Array.getD_eq_getD_getElem?, Option.getD_some, e53, e55, fU]; done) | (simp only [List.map_toArray, List.map_cons, List.map_nil, Act.eval, Array.getD_eq_getD_getElem?, Option.getD_some, e53, e55, fU]; rfl)) ?_
        with_reducible refine (laws_eaDo.calls k dC dD (fun k_ => some k_ ≠ (.slice eF y538.length eG : Value).ownBlock ∧ (some k_ ≠ (.slice cX cL.length cZ : Value).ownBlock ∧ (k_ ≠ bB ∧ (k_ ≠ bW ∧ (k_ ≠ bI ∧ (k_ ≠ bQ ∧ (k_ ≠ bO ∧ (k_ ≠ cA ∧ k_ ≠ bS)))))))) _ _ cJ _ _ y555 iS iT iD _ ?side1 ?side2 ?side3 A61.out).mono ?_
        (case side1 => exact bK.out)
        (case side2 => repeat (first | exact (Kd.R_reads' cB.out).2.2 | (with_reducible refine Kd.C_alloc ?_ _) | (with_reducible refine Kd.C_drewN ?_ _) | (with_reducible refine Kd.C_drew ?_)))
        (case side3 => exact (Kd.R_reads' cB.out).2.1)
        rintro e w75 ⟨cQ, rfl, ho0, hb⟩
        refine ⟨_, rfl, ?_⟩
        have gB := Aside0.mk (Kd.Q_below aJ.out hb)
        have gC := Aside0.mk (Kd.R_below bD.out hb)
        have gD := Aside0.mk (Kd.V_below bK.out hb)
        have gE := Aside0.mk (Kd.R_below bM.out hb)
        have gF := Aside0.mk (Kd.R_below cB.out hb)
        have gG := Aside0.mk (Kd.V_lower (Kd.V_mono (ok' := fun k_ => some k_ ≠ (.slice eF y538.length eG : Value).ownBlock ∧ some k_ ≠ (.slice cX cL.length cZ : Value).ownBlock ∧ k_ ≠ bB ∧ k_ ≠ bW ∧ k_ ≠ bI ∧ k_ ≠ bQ ∧ k_ ≠ bO ∧ k_ ≠ cA ∧ k_ ≠ bS) ho0 (fun k_ hk_ => ⟨Or.elim hk_ (fun hs_ => hs_.1) (fun hn_ => (Kd.fresh' (Kd.R_lt bD.out) k_ hn_)), Or.elim hk_ (fun hs_ => hs_.2.1) (fun hn_ => (Kd.fresh' (Kd.R_lt bM.out) k_ hn_)), Or.elim hk_ (fun hs_ => hs_.2.2.1) (fun hn_ => (Kd.freshB aA.out k_ hn_)), Or.elim hk_ (fun hs_ => hs_.2.2.2.1) (fun hn_ => (Kd.freshB aD.out k_ hn_)), Or.elim hk_ (fun hs_ => hs_.2.2.2.2.1) (fun hn_ => (Kd.freshB aC.out k_ hn_)), Or.elim hk_ (fun hs_ => hs_.2.2.2.2.2.1) (fun hn_ => (Kd.freshB aE.out k_ hn_)), Or.elim hk_ (fun hs_ => hs_.2.2.2.2.2.2.1) (fun hn_ => (Kd.freshB aG.out k_ hn_)), Or.elim hk_ (fun hs_ => hs_.2.2.2.2.2.2.2.1) (fun hn_ => (Kd.freshB aH.out k_ hn_)), Or.elim hk_ (fun hs_ => hs_.2.2.2.2.2.2.2.2) (fun hn_ => (Kd.freshB aI.out k_ hn_))⟩)) (below_size (oB HB)))
        have gH := Aside0.mk (blk_below aA.out hb)
        have gI := Aside0.mk (blk_below aD.out hb)
        have gJ := Aside0.mk (blk_below aC.out hb)
        have gK := Aside0.mk (blk_below aE.out hb)
        have eL := Aside0.mk (blk_below aG.out hb)
        have eM := Aside0.mk (blk_below aH.out hb)
        have eP := Aside0.mk (blk_below aI.out hb)
        have fZ := Aside0.mk (below_step (oB HB) hb)
        have hF := fun (h0_ : b 12 = true) => (show Kd.R k27 27 w75 w.heap.size (fun k_ => some k_ ≠ (.slice eF y538.length eG : Value).ownBlock ∧ k_ ≠ bW ∧ k_ ≠ bI ∧ k_ ≠ bQ ∧ k_ ≠ bO) cM y563 from by first | exact (Kd.R_below (uR ((bG h0_))) hb) | exact Kd.R_mono (Kd.R_below (uR ((bG h0_))) hb) (fun _ h_ => by first | trivial | exact h_ | exact h_.1))
        clear aJ
        clear bD
        clear bK
        clear bM
        clear cB
        clear aA
        clear aD
        clear aC
        clear aE
        clear aG
        clear aH
        clear aI
        clear HB
        have aJ := gB
        have bD := gC
        have bK := gD
        have bM := gE
        have cB := gF
        have cH := gG
        have aA := gH
        have aD := gI
        have aC := gJ
        have aE := gK
        have aG := eL
        have aH := eM
        have aI := eP
        have HB := fZ
        clear gB gC gD gE gF gG gH gI gJ gK eL eM eP fZ
        (try clear hb)
        (try clear hb2)
        (try clear hk)
        (try clear hi)
        (try clear ho0)
        refine hK.out _ _ ⟨.slice mL y555.length nK, cQ, cM, cV, cP, cR, cN, cW, (.agg #[.int .i64 iS, .int .i64 iT, cQ]), cS, cT, cU, (by rw [ha.out]; exact putSel_upk 8 hb_ rfl rfl rfl), aJ.out, bD.out, bK.out, bM.out, aA.out, aD.out, aC.out, aE.out, aG.out, aH.out, aI.out, (oB HB), fun _ => cB.out, fun _ => cH.out, hF, oF (hoff 13 oK), oF (hoff 20 oK), oF (hoff 21 oK), oF (hoff 25 oK), oF (hoff 26 oK), fun _ => rfl, oF (hoff 13 oK), oF (hoff 21 oK), oF (hoff 26 oK)⟩
       refine steps_cons ?_ ?_
       ·intro b a w' hR_
        refine hide_ (fun G_ hG_ => exVVVVVVVVVVVV_ hR_ (fun cO cQ cM cV cP cR cN cW dU cS cT cU hS_ => an25_ hS_ (fun ha aW aX aY aZ aM aN aQ aR aT aU aV Q_HB bF bH bG bL bT bV bU bZ cG bY cF cI => ?_)))
        refine hG_ ?_
        clear hG_ hR_ hS_
        intro hb_ hon hoff
        refine ⟨_, rfl, fun K hK => ?_⟩
        have e3 : a.tmps[3]? = some (.pointer (some ⟨bB, 0, none⟩)) := by rw [ha]; exact (putSel_off rfl).trans rfl
        have fU : a.tmps[52]? = some (.bool (!true)) := by rw [ha]; exact putSel_on (e := (4, 52, .bool (!true))) 4 rfl rfl (hon 4 oK) rfl
        replace ha := Aside0.mk ha
        obtain ⟨aJ, bD, bK, bM, aA, aD, aC, aE, aG, aH, aI, HB⟩ := o2_ aW (o2_ aX (o2_ aY (o2_ aZ (o2_ aM (o2_ aN (o2_ aQ (o2_ aR (o2_ aT (o2_ aU (o2_ aV (o1_ Q_HB)))))))))))
        have fW : w'.cell? ⟨bB, 0, none⟩ = some (.int .i64 bR) := (blk_cell aA.out 0).trans rfl
        have fX : w'.cell? ⟨bB, 1, none⟩ = some (.int .i64 bX) := (blk_cell aA.out 1).trans rfl
        have fY : w'.cell? ⟨bB, 2, none⟩ = some (.slice dG bJ.length cY) := (blk_cell aA.out 2).trans rfl
        refine value_ (w1 := w') (v := .agg #[.int .i64 bR, .int .i64 bX, .slice dG bJ.length cY]) (wanted_on rfl rfl rfl (fU.trans (by first | rfl | (simp [*]; done)))) rfl ?_ ?_
        ·go_simp
         (try simp only [i64_w])
         try rfl
        refine hK.out _ _ ⟨cO, cQ, cM, cV, cP, cR, cN, cW, dU, cS, cT, cU, (by rw [ha.out]; exact putSel_upk 9 hb_ rfl rfl rfl), aW, aX, aY, aZ, aM, aN, aQ, aR, aT, aU, aV, Q_HB, bF, bH, bG, oF (hoff 13 oK), oF (hoff 20 oK), oF (hoff 21 oK), oF (hoff 25 oK), oF (hoff 26 oK), cG, oF (hoff 13 oK), oF (hoff 21 oK), oF (hoff 26 oK)⟩
       refine steps_cons ?_ ?_
       ·intro b a w' hR_
        refine hide_ (fun G_ hG_ => exVVVVVVVVVVVV_ hR_ (fun cO cQ cM cV cP cR cN cW dU cS cT cU hS_ => an25_ hS_ (fun ha aW aX aY aZ aM aN aQ aR aT aU aV Q_HB bF bH bG bL bT bV bU bZ cG bY cF cI => ?_)))
        refine hG_ ?_
        clear hG_ hR_ hS_
        intro hb_ hon hoff
        refine ⟨_, rfl, fun K hK => ?_⟩
        have e6 : a.tmps[6]? = some (.pointer (some ⟨bQ, 0, none⟩)) := by rw [ha]; exact (putSel_off rfl).trans rfl
        have fU : a.tmps[52]? = some (.bool (!true)) := by rw [ha]; exact putSel_on (e := (4, 52, .bool (!true))) 4 rfl rfl (hon 4 oK) rfl
        replace ha := Aside0.mk ha
        obtain ⟨aJ, bD, bK, bM, aA, aD, aC, aE, aG, aH, aI, HB⟩ := o2_ aW (o2_ aX (o2_ aY (o2_ aZ (o2_ aM (o2_ aN (o2_ aQ (o2_ aR (o2_ aT (o2_ aU (o2_ aV (o1_ Q_HB)))))))))))
        have fW : w'.cell? ⟨bQ, 0, none⟩ = some (.int .i64 4) := (blk_cell aE.out 0).trans rfl
        have fX : w'.cell? ⟨bQ, 1, none⟩ = some (.int .i64 0) := (blk_cell aE.out 1).trans rfl
        have fY : w'.cell? ⟨bQ, 2, none⟩ = some (.int .i64 0) := (blk_cell aE.out 2).trans rfl
        have jD : w'.cell? ⟨bQ, 3, none⟩ = some (.int .i64 0) := (blk_cell aE.out 3).trans rfl
        have jE : w'.cell? ⟨bQ, 4, none⟩ = some (.int .i64 0) := (blk_cell aE.out 4).trans rfl
        refine value_ (w1 := w') (v := .agg #[.int .i64 4, .int .i64 0, .int .i64 0, .int .i64 0, .int .i64 0]) (wanted_on rfl rfl rfl (fU.trans (by first | rfl | (simp [*]; done)))) rfl ?_ ?_
        ·go_simp
         (try simp only [i64_w])
         try rfl
        refine hK.out _ _ ⟨cO, cQ, cM, cV, cP, cR, cN, cW, dU, cS, cT, cU, (by rw [ha.out]; exact putSel_upk 10 hb_ rfl rfl rfl), aW, aX, aY, aZ, aM, aN, aQ, aR, aT, aU, aV, Q_HB, bF, bH, oF (hoff 12 oK), oF (hoff 13 oK), oF (hoff 20 oK), oF (hoff 21 oK), oF (hoff 25 oK), oF (hoff 26 oK), cG, oF (hoff 13 oK), oF (hoff 21 oK), oF (hoff 26 oK)⟩
       refine steps_cons ?_ ?_
       ·intro b a w' hR_
        refine hide_ (fun G_ hG_ => exVVVVVVVVVVVV_ hR_ (fun cO cQ cM cV cP cR cN cW dU cS cT cU hS_ => an25_ hS_ (fun ha aW aX aY aZ aM aN aQ aR aT aU aV Q_HB bF bH bG bL bT bV bU bZ cG bY cF cI => ?_)))
        refine hG_ ?_
        clear hG_ hR_ hS_
        intro hb_ hon hoff
        refine ⟨_, rfl, fun K hK => ?_⟩
        have e5 : a.tmps[5]? = some (.pointer (some ⟨bI, 0, none⟩)) := by rw [ha]; exact (putSel_off rfl).trans rfl
        have fU : a.tmps[52]? = some (.bool (!true)) := by rw [ha]; exact putSel_on (e := (4, 52, .bool (!true))) 4 rfl rfl (hon 4 oK) rfl
        replace ha := Aside0.mk ha
        obtain ⟨aJ, bD, bK, bM, aA, aD, aC, aE, aG, aH, aI, HB⟩ := o2_ aW (o2_ aX (o2_ aY (o2_ aZ (o2_ aM (o2_ aN (o2_ aQ (o2_ aR (o2_ aT (o2_ aU (o2_ aV (o1_ Q_HB)))))))))))
        have fW : w'.cell? ⟨bI, 0, none⟩ = some (.int .i64 6) := (blk_cell aC.out 0).trans rfl
        have fX : w'.cell? ⟨bI, 1, none⟩ = some (.int .i64 0) := (blk_cell aC.out 1).trans rfl
        have fY : w'.cell? ⟨bI, 2, none⟩ = some (.int .i64 0) := (blk_cell aC.out 2).trans rfl
        have jD : w'.cell? ⟨bI, 3, none⟩ = some (.int .i64 0) := (blk_cell aC.out 3).trans rfl
        have jE : w'.cell? ⟨bI, 4, none⟩ = some (.int .i64 0) := (blk_cell aC.out 4).trans rfl
        refine value_ (w1 := w') (v := .agg #[.int .i64 6, .int .i64 0, .int .i64 0, .int .i64 0, .int .i64 0]) (wanted_on rfl rfl rfl (fU.trans (by first | rfl | (simp [*]; done)))) rfl ?_ ?_
        ·go_simp
         (try simp only [i64_w])
         try rfl
        refine hK.out _ _ ⟨cO, cQ, cM, cV, cP, cR, cN, cW, dU, cS, cT, cU, (by rw [ha.out]; exact putSel_upk 11 hb_ rfl rfl rfl), aW, aX, aY, aZ, aM, aN, aQ, aR, aT, aU, aV, Q_HB, bF, bH, oF (hoff 12 oK), oF (hoff 13 oK), oF (hoff 20 oK), oF (hoff 21 oK), oF (hoff 25 oK), oF (hoff 26 oK), cG, oF (hoff 13 oK), oF (hoff 21 oK), oF (hoff 26 oK)⟩
       refine steps_cons ?_ ?_
       ·intro b a w' hR_
        refine hide_ (fun G_ hG_ => exVVVVVVVVVVVV_ hR_ (fun cO cQ cM cV cP cR cN cW dU cS cT cU hS_ => an25_ hS_ (fun ha aW aX aY aZ aM aN aQ aR aT aU aV Q_HB bF bH bG bL bT bV bU bZ cG bY cF cI => ?_)))
        refine hG_ ?_
        clear hG_ hR_ hS_
        intro hb_ hon hoff
        refine ⟨_, rfl, fun K hK => ?_⟩
        have e58 : a.tmps[58]? = some (.agg #[.int .i64 4, .int .i64 0, .int .i64 0, .int .i64 0, .int .i64 0]) := by rw [ha]; exact putSel_on (e := (10, 58, .agg #[.int .i64 4, .int .i64 0, .int .i64 0, .int .i64 0, .int .i64 0])) 10 rfl rfl (hon 10 oK) rfl
        have e59 : a.tmps[59]? = some (.agg #[.int .i64 6, .int .i64 0, .int .i64 0, .int .i64 0, .int .i64 0]) := by rw [ha]; exact putSel_on (e := (11, 59, .agg #[.int .i64 6, .int .i64 0, .int .i64 0, .int .i64 0, .int .i64 0])) 11 rfl rfl (hon 11 oK) rfl
        have fU : a.tmps[52]? = some (.bool (!true)) := by rw [ha]; exact putSel_on (e := (4, 52, .bool (!true))) 4 rfl rfl (hon 4 oK) rfl
        replace ha := Aside0.mk ha
        obtain ⟨aJ, bD, bK, bM, aA, aD, aC, aE, aG, aH, aI, HB⟩ := o2_ aW (o2_ aX (o2_ aY (o2_ aZ (o2_ aM (o2_ aN (o2_ aQ (o2_ aR (o2_ aT (o2_ aU (o2_ aV (o1_ Q_HB)))))))))))
        refine Kd.R_lit_step k27 _ 27 ?hg (N := 60) ?hd (xs := ([(⟨4, 0, 0, 0, 0⟩ : S27), (⟨6, 0, 0, 0, 0⟩ : S27)] : List (S27))) (inner := [.int .i64 4, .int .i64 0, .int .i64 0, .int .i64 0, .int .i64 0, .int .i64 6, .int .i64 0, .int .i64 0, .int .i64 0, .int .i64 0]) (ok := fun _ => True) (okp := fun _ => True) ?hr ?hp (fun _ hk => hk) trivial (Below.refl _ _) (Nat.le_refl _) (by simp) ?_; (case hd => rfl); (case hg => first | rfl | exact wanted_on rfl rfl rfl (by assumption)); (case hr => first | (go_simp; done) | (go_simp; rfl)); (case hp => exact (Reps.c5 (show Kd.M k27 _ _ _ (⟨4, 0, 0, 0, 0⟩ : S27) [.int .i64 4, .int .i64 0, .int .i64 0, .int .i64 0, .int .i64 0] from (k27_mkM _ _ _ (⟨4, 0, 0, 0, 0⟩ : S27) )) (Reps.c5 (show Kd.M k27 _ _ _ (⟨6, 0, 0, 0, 0⟩ : S27) [.int .i64 6, .int .i64 0, .int .i64 0, .int .i64 0, .int .i64 0] from (k27_mkM _ _ _ (⟨6, 0, 0, 0, 0⟩ : S27) )) (Reps.none _ _))))
        intro cM xP ho73 hb hg_ hnew_
        clear hg_ hnew_
        (first | rw [← kU.out] at ho73 | (simp only [Int.reduceToNat] at ho73; rw [← kU.out] at ho73))
        have gB := Aside0.mk (Kd.Q_below aJ.out hb)
        have gC := Aside0.mk (Kd.R_elder' bD.out (Kd.R_base ho73) hb)
        have gD := Aside0.mk (Kd.V_elder' bK.out (Kd.R_base ho73) hb)
        have gE := Aside0.mk (Kd.R_below bM.out hb)
        have gF := Aside0.mk (Kd.R_lower (Kd.R_newB (Kd.R_newB (Kd.R_newB (Kd.R_newB (Kd.R_new' ho73 (Kd.R_lt bD.out)) aD.out) aC.out) aE.out) aG.out) (below_size (oB HB)))
        have gG := Aside0.mk (blk_below aA.out hb)
        have gH := Aside0.mk (blk_below aD.out hb)
        have gI := Aside0.mk (blk_below aC.out hb)
        have gJ := Aside0.mk (blk_below aE.out hb)
        have gK := Aside0.mk (blk_below aG.out hb)
        have eL := Aside0.mk (blk_below aH.out hb)
        have eM := Aside0.mk (blk_below aI.out hb)
        have eP := Aside0.mk (below_step (oB HB) hb)
        have kI := fun (h0_ : b 7 = true) => (show Kd.R k27 27 xP w.heap.size (fun k_ => some k_ ≠ (.slice eF y538.length eG : Value).ownBlock ∧ k_ ≠ bW ∧ k_ ≠ bI ∧ k_ ≠ bQ ∧ k_ ≠ bO) cO y555 from by first | exact (Kd.R_elder' (uR ((bF h0_))) (Kd.R_base ho73) hb) | exact Kd.R_mono (Kd.R_elder' (uR ((bF h0_))) (Kd.R_base ho73) hb) (fun _ h_ => by first | trivial | exact h_ | exact h_.1))
        have kJ := fun (h0_ : b 8 = true) => (show Kd.V k38 38 xP w.heap.size (fun k_ => some k_ ≠ (.slice eF y538.length eG : Value).ownBlock ∧ some k_ ≠ (.slice cX cL.length cZ : Value).ownBlock ∧ k_ ≠ bB ∧ k_ ≠ bW ∧ k_ ≠ bI ∧ k_ ≠ bQ ∧ k_ ≠ bO ∧ k_ ≠ cA ∧ k_ ≠ bS) cQ iD from by first | exact (Kd.V_elder' (uV ((bH h0_))) (Kd.R_base ho73) hb) | exact Kd.V_mono (Kd.V_elder' (uV ((bH h0_))) (Kd.R_base ho73) hb) (fun _ h_ => by first | trivial | exact h_ | exact h_.1))
        clear aJ
        clear bD
        clear bK
        clear bM
        clear aA
        clear aD
        clear aC
        clear aE
        clear aG
        clear aH
        clear aI
        clear HB
        have aJ := gB
        have bD := gC
        have bK := gD
        have bM := gE
        have cC := gF
        have aA := gG
        have aD := gH
        have aC := gI
        have aE := gJ
        have aG := gK
        have aH := eL
        have aI := eM
        have HB := eP
        clear gB gC gD gE gF gG gH gI gJ gK eL eM eP
        clear hb ho73
        refine hK.out _ _ ⟨cO, cQ, cM, cV, cP, cR, cN, cW, dU, cS, cT, cU, (by rw [ha.out]; exact putSel_upk 12 hb_ rfl rfl rfl), aJ.out, (by (with_reducible repeat (first | apply Kd.R_alloc | apply Kd.R_drewN | apply Kd.R_drew)); exact Kd.R_mono bD.out oY), (by (with_reducible repeat (first | apply Kd.V_alloc | apply Kd.V_drewN | apply Kd.V_drew)); exact Kd.V_mono bK.out oY), bM.out, aA.out, aD.out, aC.out, aE.out, aG.out, aH.out, aI.out, (oB HB), kI, kJ, fun _ => (by (with_reducible repeat (first | apply Kd.R_alloc | apply Kd.R_drewN | apply Kd.R_drew)); exact Kd.R_mono cC.out oY), oF (hoff 13 oK), oF (hoff 20 oK), oF (hoff 21 oK), oF (hoff 25 oK), oF (hoff 26 oK), cG, oF (hoff 13 oK), oF (hoff 21 oK), oF (hoff 26 oK)⟩
       refine steps_cons ?_ ?_
       ·intro b a w' hR_
        refine hide_ (fun G_ hG_ => exVVVVVVVVVVVV_ hR_ (fun cO cQ cM cV cP cR cN cW dU cS cT cU hS_ => an25_ hS_ (fun ha aW aX aY aZ aM aN aQ aR aT aU aV Q_HB bF bH bG bL bT bV bU bZ cG bY cF cI => ?_)))
        refine hG_ ?_
        clear hG_ hR_ hS_
        intro hb_ hon hoff
        refine ⟨_, rfl, fun K hK => ?_⟩
        have e57 : a.tmps[57]? = some (.agg #[.int .i64 bR, .int .i64 bX, .slice dG bJ.length cY]) := by rw [ha]; exact putSel_on (e := (9, 57, .agg #[.int .i64 bR, .int .i64 bX, .slice dG bJ.length cY])) 9 rfl rfl (hon 9 oK) rfl
        have e60 : a.tmps[60]? = some (cM) := by rw [ha]; exact putSel_on (e := (12, 60, cM)) 12 rfl rfl (hon 12 oK) rfl
        have fU : a.tmps[52]? = some (.bool (!true)) := by rw [ha]; exact putSel_on (e := (4, 52, .bool (!true))) 4 rfl rfl (hon 4 oK) rfl
        replace ha := Aside0.mk ha
        obtain ⟨aJ, bD, bK, bM, aA, aD, aC, aE, aG, aH, aI, HB, cB, cH, cC⟩ := o2_ aW (o2_ aX (o2_ aY (o2_ aZ (o2_ aM (o2_ aN (o2_ aQ (o2_ aR (o2_ aT (o2_ aU (o2_ aV (o2_ Q_HB (o2_ (bF (hon 7 oK)) (o2_ (bH (hon 8 oK)) (o1_ (bG (hon 12 oK))))))))))))))))
        obtain ⟨mM, nL, nU⟩ := Kd.R_slice cC.out
        (first | subst nU | (injection nU with f1_ f2_ f3_; have f4_ := f1_.symm; have f5_ := f3_.symm; clear f1_ f2_ f3_; subst f4_; subst f5_))
        refine goes_ Try.func27 oK rfl #[.agg #[.int .i64 bR, .int .i64 bX, .slice dG bJ.length cY], .slice mM y563.length nL] (by first | rfl | exact wanted_on rfl rfl rfl (by assumption)) rfl rfl (by first | (simp only [List.map_toArray, List.map_cons, List.map_nil, Act.eval, Array.getD_eq_getD_getElem?, Option.getD_some, e57, e60, fU]; done) | (simp only [List.map_toArray, List.map_cons, List.map_nil, Act.eval, Array.getD_eq_getD_getElem?, Option.getD_some, e57, e60, fU]; rfl)) ?_
        with_reducible refine (laws_eaDo.calls k bR bX (fun k_ => some k_ = (.slice dG bJ.length cY : Value).ownBlock) _ _ bJ _ _ y563 jO jP jQ _ ?side1 ?side2 ?side3 A62.out).mono ?_
        (case side1 => exact Kd.Q_V (Kd.Q_tight rfl (Kd.Q_types (Kd.Q_types (Kd.Q_types (Kd.Q_types (Kd.Q_types (Kd.Q_types (Kd.Q_types (Kd.Q_apart' (Kd.Q_apart' (Kd.Q_apart' (aJ.out) (Kd.R_typed bD.out) oD) (Kd.R_typed cB.out) oD) (Kd.R_typed cC.out) oD) aA.out oD) aD.out oD) aC.out oD) aE.out oD) aG.out oD) aH.out oD) aI.out oD)))
        (case side2 => repeat (first | exact (Kd.R_reads' cC.out).2.2 | (with_reducible refine Kd.C_alloc ?_ _) | (with_reducible refine Kd.C_drewN ?_ _) | (with_reducible refine Kd.C_drew ?_)))
        (case side3 => exact (Kd.R_reads' cC.out).2.1)
        rintro e w79 ⟨cV, rfl, ho0, hb⟩
        refine ⟨_, rfl, ?_⟩
        have hq_ := (Kd.Q_types (Kd.Q_types (Kd.Q_types (Kd.Q_types (Kd.Q_types (Kd.Q_types (Kd.Q_types (Kd.Q_apart' (Kd.Q_apart' (Kd.Q_apart' (aJ.out) (Kd.R_typed bD.out) oD) (Kd.R_typed cB.out) oD) (Kd.R_typed cC.out) oD) aA.out oD) aD.out oD) aC.out oD) aE.out oD) aG.out oD) aH.out oD) aI.out oD)
        have n_ := o2_ (Kd.Q_below aJ.out hb) (o2_ (Kd.R_below bD.out hb) (o2_ (Kd.V_below bK.out hb) (o2_ (Kd.R_below bM.out hb) (o2_ (Kd.R_below cB.out hb) (o2_ (Kd.V_below cH.out hb) (o2_ (Kd.R_below cC.out hb) (o2_ (Kd.V_lower (Kd.V_mono (ok' := fun k_ => some k_ ≠ (.slice eF y538.length eG : Value).ownBlock ∧ some k_ ≠ (.slice cX cL.length cZ : Value).ownBlock ∧ k_ ≠ bB ∧ k_ ≠ bW ∧ k_ ≠ bI ∧ k_ ≠ bQ ∧ k_ ≠ bO ∧ k_ ≠ cA ∧ k_ ≠ bS) ho0 (fun k_ hk_ => ⟨Or.elim hk_ (fun hs_ => (hq_.1 k_ hs_.symm).1.1.1.1.1.1.1.1.1.2) (fun hn_ => (Kd.fresh' (Kd.R_lt bD.out) k_ hn_)), Or.elim hk_ (fun hs_ => (hq_.1 k_ hs_.symm).1.1.1.1.1.1.1.1.1.1) (fun hn_ => (Kd.fresh' (Kd.R_lt bM.out) k_ hn_)), Or.elim hk_ (fun hs_ => (hq_.1 k_ hs_.symm).1.1.1.1.1.1.2) (fun hn_ => (Kd.freshB aA.out k_ hn_)), Or.elim hk_ (fun hs_ => (hq_.1 k_ hs_.symm).1.1.1.1.1.2) (fun hn_ => (Kd.freshB aD.out k_ hn_)), Or.elim hk_ (fun hs_ => (hq_.1 k_ hs_.symm).1.1.1.1.2) (fun hn_ => (Kd.freshB aC.out k_ hn_)), Or.elim hk_ (fun hs_ => (hq_.1 k_ hs_.symm).1.1.1.2) (fun hn_ => (Kd.freshB aE.out k_ hn_)), Or.elim hk_ (fun hs_ => (hq_.1 k_ hs_.symm).1.1.2) (fun hn_ => (Kd.freshB aG.out k_ hn_)), Or.elim hk_ (fun hs_ => (hq_.1 k_ hs_.symm).1.2) (fun hn_ => (Kd.freshB aH.out k_ hn_)), Or.elim hk_ (fun hs_ => (hq_.1 k_ hs_.symm).2) (fun hn_ => (Kd.freshB aI.out k_ hn_))⟩)) (below_size (oB HB))) (o2_ (blk_below aA.out hb) (o2_ (blk_below aD.out hb) (o2_ (blk_below aC.out hb) (o2_ (blk_below aE.out hb) (o2_ (blk_below aG.out hb) (o2_ (blk_below aH.out hb) (o2_ (blk_below aI.out hb) (o1_ (below_step (oB HB) hb))))))))))))))))
        clear aJ bD bK bM cB cH cC aA aD aC aE aG aH aI HB
        obtain ⟨aJ, bD, bK, bM, cB, cH, cC, cK, aA, aD, aC, aE, aG, aH, aI, HB⟩ := n_
        clear hq_
        (try clear hb)
        (try clear hb2)
        (try clear hk)
        (try clear hi)
        (try clear ho0)
        refine hK.out _ _ ⟨cO, cQ, .slice mM y563.length nL, cV, cP, cR, cN, cW, dU, (.agg #[.int .i64 jO, .int .i64 jP, cV]), cT, cU, (by rw [ha.out]; exact putSel_upk 13 hb_ rfl rfl rfl), aJ.out, bD.out, bK.out, bM.out, aA.out, aD.out, aC.out, aE.out, aG.out, aH.out, aI.out, (oB HB), fun _ => cB.out, fun _ => cH.out, fun _ => cC.out, fun _ => cK.out, oF (hoff 20 oK), oF (hoff 21 oK), oF (hoff 25 oK), oF (hoff 26 oK), cG, fun _ => rfl, oF (hoff 21 oK), oF (hoff 26 oK)⟩
       refine steps_cons ?_ ?_
       ·intro b a w' hR_
        refine hide_ (fun G_ hG_ => exVVVVVVVVVVVV_ hR_ (fun cO cQ cM cV cP cR cN cW dU cS cT cU hS_ => an25_ hS_ (fun ha aW aX aY aZ aM aN aQ aR aT aU aV Q_HB bF bH bG bL bT bV bU bZ cG bY cF cI => ?_)))
        refine hG_ ?_
        clear hG_ hR_ hS_
        intro hb_ hon hoff
        refine ⟨_, rfl, fun K hK => ?_⟩
        have yF : a.tmps[56]? = some (dU) := by rw [ha]; exact putSel_on (e := (8, 56, dU)) 8 rfl rfl (hon 8 oK) rfl
        rw [cG (hon 8 oK)] at yF
        have yL : a.tmps[61]? = some (cS) := by rw [ha]; exact putSel_on (e := (13, 61, cS)) 13 rfl rfl (hon 13 oK) rfl
        rw [bY (hon 13 oK)] at yL
        have fU : a.tmps[52]? = some (.bool (!true)) := by rw [ha]; exact putSel_on (e := (4, 52, .bool (!true))) 4 rfl rfl (hon 4 oK) rfl
        replace ha := Aside0.mk ha
        obtain ⟨aJ, bD, bK, bM, aA, aD, aC, aE, aG, aH, aI, HB, cB, cH, cC, cK⟩ := o2_ aW (o2_ aX (o2_ aY (o2_ aZ (o2_ aM (o2_ aN (o2_ aQ (o2_ aR (o2_ aT (o2_ aU (o2_ aV (o2_ Q_HB (o2_ (bF (hon 7 oK)) (o2_ (bH (hon 8 oK)) (o2_ (bG (hon 12 oK)) (o1_ (bL (hon 13 oK)))))))))))))))))
        obtain ⟨mN, nM, nV⟩ := Kd.V_slice cH.out
        (first | subst nV | (injection nV with f1_ f2_ f3_; have f4_ := f1_.symm; have f5_ := f3_.symm; clear f1_ f2_ f3_; subst f4_; subst f5_))
        obtain ⟨mO, nN, nW⟩ := Kd.V_slice cK.out
        (first | subst nW | (injection nW with f1_ f2_ f3_; have f4_ := f1_.symm; have f5_ := f3_.symm; clear f1_ f2_ f3_; subst f4_; subst f5_))
        refine goes_ Try.func21 oK rfl #[.agg #[.int .i64 iS, .int .i64 iT, .slice mN iD.length nM], .agg #[.int .i64 jO, .int .i64 jP, .slice mO jQ.length nN]] (by first | rfl | exact wanted_on rfl rfl rfl (by assumption)) rfl rfl (by first | (simp only [List.map_toArray, List.map_cons, List.map_nil, Act.eval, Array.getD_eq_getD_getElem?, Option.getD_some, yF, yL, fU]; done) | (simp only [List.map_toArray, List.map_cons, List.map_nil, Act.eval, Array.getD_eq_getD_getElem?, Option.getD_some, yF, yL, fU]; rfl)) ?_
        with_reducible refine (laws_eaRas.calls k iS iT _ _ iD jO jP _ _ jQ true _ ?side1 ?side2 ?side3 ?side4 A63.out).mono ?_
        (case side1 => repeat (first | exact (Kd.V_reads' cH.out).2.2 | (with_reducible refine Kd.C_alloc ?_ _) | (with_reducible refine Kd.C_drewN ?_ _) | (with_reducible refine Kd.C_drew ?_)))
        (case side2 => exact (Kd.V_reads' cH.out).2.1)
        (case side3 => repeat (first | exact (Kd.V_reads' cK.out).2.2 | (with_reducible refine Kd.C_alloc ?_ _) | (with_reducible refine Kd.C_drewN ?_ _) | (with_reducible refine Kd.C_drew ?_)))
        (case side4 => exact (Kd.V_reads' cK.out).2.1)
        rintro e w82 ⟨rfl, hb⟩
        refine ⟨_, rfl, ?_⟩
        have n_ := o2_ (Kd.Q_below aJ.out hb) (o2_ (Kd.R_below bD.out hb) (o2_ (Kd.V_below bK.out hb) (o2_ (Kd.R_below bM.out hb) (o2_ (Kd.R_below cB.out hb) (o2_ (Kd.V_below cH.out hb) (o2_ (Kd.R_below cC.out hb) (o2_ (Kd.V_below cK.out hb) (o2_ (blk_below aA.out hb) (o2_ (blk_below aD.out hb) (o2_ (blk_below aC.out hb) (o2_ (blk_below aE.out hb) (o2_ (blk_below aG.out hb) (o2_ (blk_below aH.out hb) (o2_ (blk_below aI.out hb) (o1_ (below_step (oB HB) hb))))))))))))))))
        clear aJ bD bK bM cB cH cC cK aA aD aC aE aG aH aI HB
        obtain ⟨aJ, bD, bK, bM, cB, cH, cC, cK, aA, aD, aC, aE, aG, aH, aI, HB⟩ := n_
        (try clear hb)
        (try clear hb2)
        (try clear hk)
        (try clear hi)
        refine hK.out _ _ ⟨cO, .slice mN iD.length nM, cM, .slice mO jQ.length nN, cP, cR, cN, cW, dU, cS, cT, cU, (by rw [ha.out]; exact putSel_upk 14 hb_ rfl rfl rfl), aJ.out, bD.out, bK.out, bM.out, aA.out, aD.out, aC.out, aE.out, aG.out, aH.out, aI.out, (oB HB), fun _ => cB.out, fun _ => cH.out, fun _ => cC.out, fun _ => cK.out, oF (hoff 20 oK), oF (hoff 21 oK), oF (hoff 25 oK), oF (hoff 26 oK), cG, bY, oF (hoff 21 oK), oF (hoff 26 oK)⟩
       refine steps_cons ?_ ?_
       ·intro b a w' hR_
        refine hide_ (fun G_ hG_ => exVVVVVVVVVVVV_ hR_ (fun cO cQ cM cV cP cR cN cW dU cS cT cU hS_ => an25_ hS_ (fun ha aW aX aY aZ aM aN aQ aR aT aU aV Q_HB bF bH bG bL bT bV bU bZ cG bY cF cI => ?_)))
        refine hG_ ?_
        clear hG_ hR_ hS_
        intro hb_ hon hoff
        refine ⟨_, rfl, fun K hK => ?_⟩
        have e62 : a.tmps[62]? = some (.bool true) := by rw [ha]; exact putSel_on (e := (14, 62, .bool true)) 14 rfl rfl (hon 14 oK) rfl
        have fU : a.tmps[52]? = some (.bool (!true)) := by rw [ha]; exact putSel_on (e := (4, 52, .bool (!true))) 4 rfl rfl (hon 4 oK) rfl
        replace ha := Aside0.mk ha
        obtain ⟨aJ, bD, bK, bM, aA, aD, aC, aE, aG, aH, aI, HB, cB, cH, cC, cK⟩ := o2_ aW (o2_ aX (o2_ aY (o2_ aZ (o2_ aM (o2_ aN (o2_ aQ (o2_ aR (o2_ aT (o2_ aU (o2_ aV (o2_ Q_HB (o2_ (bF (hon 7 oK)) (o2_ (bH (hon 8 oK)) (o2_ (bG (hon 12 oK)) (o1_ (bL (hon 13 oK)))))))))))))))))
        refine value_ (w1 := w') (v := .bool (!true)) (wanted_on rfl rfl rfl (fU.trans (by first | rfl | (simp [*]; done)))) rfl ?_ ?_
        ·go_simp
         (try simp only [i64_w])
         try rfl
        refine hK.out _ _ ⟨cO, cQ, cM, cV, cP, cR, cN, cW, dU, cS, cT, cU, (by rw [ha.out]; exact putSel_upk 15 hb_ rfl rfl rfl), aW, aX, aY, aZ, aM, aN, aQ, aR, aT, aU, aV, Q_HB, bF, bH, bG, bL, oF (hoff 20 oK), oF (hoff 21 oK), oF (hoff 25 oK), oF (hoff 26 oK), cG, bY, oF (hoff 21 oK), oF (hoff 26 oK)⟩
       refine steps_cons ?_ ?_
       ·intro b a w' hR_
        refine hide_ (fun G_ hG_ => exVVVVVVVVVVVV_ hR_ (fun cO cQ cM cV cP cR cN cW dU cS cT cU hS_ => an25_ hS_ (fun ha aW aX aY aZ aM aN aQ aR aT aU aV Q_HB bF bH bG bL bT bV bU bZ cG bY cF cI => ?_)))
        refine hG_ ?_
        clear hG_ hR_ hS_
        intro hb_ hon hoff
        refine ⟨_, rfl, fun K hK => ?_⟩
        have fU : a.tmps[52]? = some (.bool (!true)) := by rw [ha]; exact putSel_on (e := (4, 52, .bool (!true))) 4 rfl rfl (hon 4 oK) rfl
        have e63 : a.tmps[63]? = some (.bool (!true)) := by rw [ha]; exact putSel_on (e := (15, 63, .bool (!true))) 15 rfl rfl (hon 15 oK) rfl
        replace ha := Aside0.mk ha
        obtain ⟨aJ, bD, bK, bM, aA, aD, aC, aE, aG, aH, aI, HB, cB, cH, cC, cK⟩ := o2_ aW (o2_ aX (o2_ aY (o2_ aZ (o2_ aM (o2_ aN (o2_ aQ (o2_ aR (o2_ aT (o2_ aU (o2_ aV (o2_ Q_HB (o2_ (bF (hon 7 oK)) (o2_ (bH (hon 8 oK)) (o2_ (bG (hon 12 oK)) (o1_ (bL (hon 13 oK)))))))))))))))))
        refine value_ (w1 := w') (v := .bool (!true)) (by rfl) rfl ?_ ?_
        ·go_simp
         (try simp only [i64_w])
         try rfl
        refine hK.out _ _ ⟨cO, cQ, cM, cV, cP, cR, cN, cW, dU, cS, cT, cU, (by rw [ha.out]; exact putSel_upk 16 hb_ rfl rfl rfl), aW, aX, aY, aZ, aM, aN, aQ, aR, aT, aU, aV, Q_HB, bF, bH, bG, bL, oF (hoff 20 oK), oF (hoff 21 oK), oF (hoff 25 oK), oF (hoff 26 oK), cG, bY, oF (hoff 21 oK), oF (hoff 26 oK)⟩
       refine steps_cons ?_ ?_
       ·intro b a w' hR_
        refine hide_ (fun G_ hG_ => exVVVVVVVVVVVV_ hR_ (fun cO cQ cM cV cP cR cN cW dU cS cT cU hS_ => an25_ hS_ (fun ha aW aX aY aZ aM aN aQ aR aT aU aV Q_HB bF bH bG bL bT bV bU bZ cG bY cF cI => ?_)))
        refine hG_ ?_
        clear hG_ hR_ hS_
        intro hb_ hon hoff
        refine ⟨_, rfl, fun K hK => ?_⟩
        have e64 : a.tmps[64]? = some (.bool (!true)) := by rw [ha]; exact putSel_on (e := (16, 64, .bool (!true))) 16 rfl rfl (hon 16 oK) rfl
        replace ha := Aside0.mk ha
        obtain ⟨aJ, bD, bK, bM, aA, aD, aC, aE, aG, aH, aI, HB, cB, cH, cC, cK⟩ := o2_ aW (o2_ aX (o2_ aY (o2_ aZ (o2_ aM (o2_ aN (o2_ aQ (o2_ aR (o2_ aT (o2_ aU (o2_ aV (o2_ Q_HB (o2_ (bF (hon 7 oK)) (o2_ (bH (hon 8 oK)) (o2_ (bG (hon 12 oK)) (o1_ (bL (hon 13 oK)))))))))))))))))
        refine value_ (w1 := w') (v := .bool (!true)) (by rfl) rfl ?_ ?_
        ·go_simp
         (try simp only [i64_w])
         try rfl
        refine hK.out _ _ ⟨cO, cQ, cM, cV, cP, cR, cN, cW, dU, cS, cT, cU, (by rw [ha.out]; exact putSel_upk 17 hb_ rfl rfl rfl), aW, aX, aY, aZ, aM, aN, aQ, aR, aT, aU, aV, Q_HB, bF, bH, bG, bL, oF (hoff 20 oK), oF (hoff 21 oK), oF (hoff 25 oK), oF (hoff 26 oK), cG, bY, oF (hoff 21 oK), oF (hoff 26 oK)⟩
       refine steps_cons ?_ ?_
       ·intro b a w' hR_
        refine hide_ (fun G_ hG_ => exVVVVVVVVVVVV_ hR_ (fun cO cQ cM cV cP cR cN cW dU cS cT cU hS_ => an25_ hS_ (fun ha aW aX aY aZ aM aN aQ aR aT aU aV Q_HB bF bH bG bL bT bV bU bZ cG bY cF cI => ?_)))
        refine hG_ ?_
        clear hG_ hR_ hS_
        intro hb_ hon hoff
        refine ⟨_, rfl, fun K hK => ?_⟩
        have e8 : a.tmps[8]? = some (.pointer (some ⟨cA, 0, none⟩)) := by rw [ha]; exact (putSel_off rfl).trans rfl
        have fV : a.tmps[65]? = some (.bool (!true)) := by rw [ha]; exact putSel_on (e := (17, 65, .bool (!true))) 17 rfl rfl (hon 17 oK) rfl
        replace ha := Aside0.mk ha
        obtain ⟨aJ, bD, bK, bM, aA, aD, aC, aE, aG, aH, aI, HB, cB, cH, cC, cK⟩ := o2_ aW (o2_ aX (o2_ aY (o2_ aZ (o2_ aM (o2_ aN (o2_ aQ (o2_ aR (o2_ aT (o2_ aU (o2_ aV (o2_ Q_HB (o2_ (bF (hon 7 oK)) (o2_ (bH (hon 8 oK)) (o2_ (bG (hon 12 oK)) (o1_ (bL (hon 13 oK)))))))))))))))))
        have fW : w'.cell? ⟨cA, 0, none⟩ = some (.int .i64 dC) := (blk_cell aH.out 0).trans rfl
        have fX : w'.cell? ⟨cA, 1, none⟩ = some (.int .i64 dD) := (blk_cell aH.out 1).trans rfl
        have fY : w'.cell? ⟨cA, 2, none⟩ = some (.slice dR cJ.length dT) := (blk_cell aH.out 2).trans rfl
        refine value_ (w1 := w') (v := .agg #[.int .i64 dC, .int .i64 dD, .slice dR cJ.length dT]) (wanted_on rfl rfl rfl (fV.trans (by first | rfl | (simp [*]; done)))) rfl ?_ ?_
        ·go_simp
         (try simp only [i64_w])
         try rfl
        refine hK.out _ _ ⟨cO, cQ, cM, cV, cP, cR, cN, cW, dU, cS, cT, cU, (by rw [ha.out]; exact putSel_upk 18 hb_ rfl rfl rfl), aW, aX, aY, aZ, aM, aN, aQ, aR, aT, aU, aV, Q_HB, bF, bH, bG, bL, bT, oF (hoff 21 oK), bU, oF (hoff 26 oK), cG, bY, oF (hoff 21 oK), oF (hoff 26 oK)⟩
       refine steps_cons ?_ ?_
       ·intro b a w' hR_
        refine hide_ (fun G_ hG_ => exVVVVVVVVVVVV_ hR_ (fun cO cQ cM cV cP cR cN cW dU cS cT cU hS_ => an25_ hS_ (fun ha aW aX aY aZ aM aN aQ aR aT aU aV Q_HB bF bH bG bL bT bV bU bZ cG bY cF cI => ?_)))
        refine hG_ ?_
        clear hG_ hR_ hS_
        intro hb_ hon hoff
        refine ⟨_, rfl, fun K hK => ?_⟩
        have e7 : a.tmps[7]? = some (.pointer (some ⟨bO, 0, none⟩)) := by rw [ha]; exact (putSel_off rfl).trans rfl
        have fV : a.tmps[65]? = some (.bool (!true)) := by rw [ha]; exact putSel_on (e := (17, 65, .bool (!true))) 17 rfl rfl (hon 17 oK) rfl
        replace ha := Aside0.mk ha
        obtain ⟨aJ, bD, bK, bM, aA, aD, aC, aE, aG, aH, aI, HB, cB, cH, cC, cK⟩ := o2_ aW (o2_ aX (o2_ aY (o2_ aZ (o2_ aM (o2_ aN (o2_ aQ (o2_ aR (o2_ aT (o2_ aU (o2_ aV (o2_ Q_HB (o2_ (bF (hon 7 oK)) (o2_ (bH (hon 8 oK)) (o2_ (bG (hon 12 oK)) (o1_ (bL (hon 13 oK)))))))))))))))))
        have fW : w'.cell? ⟨bO, 0, none⟩ = some (.int .i64 2) := (blk_cell aG.out 0).trans rfl
        have fX : w'.cell? ⟨bO, 1, none⟩ = some (.int .i64 0) := (blk_cell aG.out 1).trans rfl
        have fY : w'.cell? ⟨bO, 2, none⟩ = some (.int .i64 0) := (blk_cell aG.out 2).trans rfl
        have jD : w'.cell? ⟨bO, 3, none⟩ = some (.int .i64 0) := (blk_cell aG.out 3).trans rfl
        have jE : w'.cell? ⟨bO, 4, none⟩ = some (.int .i64 0) := (blk_cell aG.out 4).trans rfl
        refine value_ (w1 := w') (v := .agg #[.int .i64 2, .int .i64 0, .int .i64 0, .int .i64 0, .int .i64 0]) (wanted_on rfl rfl rfl (fV.trans (by first | rfl | (simp [*]; done)))) rfl ?_ ?_
        ·go_simp
         (try simp only [i64_w])
         try rfl
        refine hK.out _ _ ⟨cO, cQ, cM, cV, cP, cR, cN, cW, dU, cS, cT, cU, (by rw [ha.out]; exact putSel_upk 19 hb_ rfl rfl rfl), aW, aX, aY, aZ, aM, aN, aQ, aR, aT, aU, aV, Q_HB, bF, bH, bG, bL, oF (hoff 20 oK), oF (hoff 21 oK), bU, oF (hoff 26 oK), cG, bY, oF (hoff 21 oK), oF (hoff 26 oK)⟩
       refine steps_cons ?_ ?_
       ·intro b a w' hR_
        refine hide_ (fun G_ hG_ => exVVVVVVVVVVVV_ hR_ (fun cO cQ cM cV cP cR cN cW dU cS cT cU hS_ => an25_ hS_ (fun ha aW aX aY aZ aM aN aQ aR aT aU aV Q_HB bF bH bG bL bT bV bU bZ cG bY cF cI => ?_)))
        refine hG_ ?_
        clear hG_ hR_ hS_
        intro hb_ hon hoff
        refine ⟨_, rfl, fun K hK => ?_⟩
        have e67 : a.tmps[67]? = some (.agg #[.int .i64 2, .int .i64 0, .int .i64 0, .int .i64 0, .int .i64 0]) := by rw [ha]; exact putSel_on (e := (19, 67, .agg #[.int .i64 2, .int .i64 0, .int .i64 0, .int .i64 0, .int .i64 0])) 19 rfl rfl (hon 19 oK) rfl
        have fV : a.tmps[65]? = some (.bool (!true)) := by rw [ha]; exact putSel_on (e := (17, 65, .bool (!true))) 17 rfl rfl (hon 17 oK) rfl
        replace ha := Aside0.mk ha
        obtain ⟨aJ, bD, bK, bM, aA, aD, aC, aE, aG, aH, aI, HB, cB, cH, cC, cK⟩ := o2_ aW (o2_ aX (o2_ aY (o2_ aZ (o2_ aM (o2_ aN (o2_ aQ (o2_ aR (o2_ aT (o2_ aU (o2_ aV (o2_ Q_HB (o2_ (bF (hon 7 oK)) (o2_ (bH (hon 8 oK)) (o2_ (bG (hon 12 oK)) (o1_ (bL (hon 13 oK)))))))))))))))))
        refine Kd.R_lit_step k27 _ 27 ?hg (N := 68) ?hd (xs := ([(⟨2, 0, 0, 0, 0⟩ : S27)] : List (S27))) (inner := [.int .i64 2, .int .i64 0, .int .i64 0, .int .i64 0, .int .i64 0]) (ok := fun _ => True) (okp := fun _ => True) ?hr ?hp (fun _ hk => hk) trivial (Below.refl _ _) (Nat.le_refl _) (by simp) ?_; (case hd => rfl); (case hg => first | rfl | exact wanted_on rfl rfl rfl (by assumption)); (case hr => first | (go_simp; done) | (go_simp; rfl)); (case hp => exact (Reps.c5 (show Kd.M k27 _ _ _ (⟨2, 0, 0, 0, 0⟩ : S27) [.int .i64 2, .int .i64 0, .int .i64 0, .int .i64 0, .int .i64 0] from (k27_mkM _ _ _ (⟨2, 0, 0, 0, 0⟩ : S27) )) (Reps.none _ _)))
        intro cP xQ ho84 hb hg_ hnew_
        clear hg_ hnew_
        (first | rw [← kV.out] at ho84 | (simp only [Int.reduceToNat] at ho84; rw [← kV.out] at ho84))
        have gB := Aside0.mk (Kd.Q_below aJ.out hb)
        have gC := Aside0.mk (Kd.R_elder' bD.out (Kd.R_base ho84) hb)
        have gD := Aside0.mk (Kd.V_elder' bK.out (Kd.R_base ho84) hb)
        have gE := Aside0.mk (Kd.R_below bM.out hb)
        have gF := Aside0.mk (Kd.R_elder' cB.out (Kd.R_base ho84) hb)
        have gG := Aside0.mk (Kd.V_elder' cH.out (Kd.R_base ho84) hb)
        have gH := Aside0.mk (Kd.R_elder' cC.out (Kd.R_base ho84) hb)
        have gI := Aside0.mk (Kd.V_elder' cK.out (Kd.R_base ho84) hb)
        have gJ := Aside0.mk (Kd.R_lower (Kd.R_newB (Kd.R_newB (Kd.R_newB (Kd.R_newB (Kd.R_new' (Kd.R_new' (Kd.R_new' ho84 (Kd.R_lt bD.out)) (Kd.R_lt cB.out)) (Kd.R_lt cC.out)) aD.out) aC.out) aE.out) aG.out) (below_size (oB HB)))
        have gK := Aside0.mk (blk_below aA.out hb)
        have eL := Aside0.mk (blk_below aD.out hb)
        have eM := Aside0.mk (blk_below aC.out hb)
        have eP := Aside0.mk (blk_below aE.out hb)
        have fZ := Aside0.mk (blk_below aG.out hb)
        have hV := Aside0.mk (blk_below aH.out hb)
        have hW := Aside0.mk (blk_below aI.out hb)
        have hX := Aside0.mk (below_step (oB HB) hb)
        have hG := fun (h0_ : b 25 = true) => (show Kd.R k27 27 xQ w.heap.size (fun k_ => some k_ ≠ (.slice eF y538.length eG : Value).ownBlock ∧ k_ ≠ bW ∧ k_ ≠ bI ∧ k_ ≠ bQ ∧ k_ ≠ bO) cN y580 from by first | exact (Kd.R_elder' (uR ((bU h0_))) (Kd.R_base ho84) hb) | exact Kd.R_mono (Kd.R_elder' (uR ((bU h0_))) (Kd.R_base ho84) hb) (fun _ h_ => by first | trivial | exact h_ | exact h_.1))
        clear aJ
        clear bD
        clear bK
        clear bM
        clear cB
        clear cH
        clear cC
        clear cK
        clear aA
        clear aD
        clear aC
        clear aE
        clear aG
        clear aH
        clear aI
        clear HB
        have aJ := gB
        have bD := gC
        have bK := gD
        have bM := gE
        have cB := gF
        have cH := gG
        have cC := gH
        have cK := gI
        have dQ := gJ
        have aA := gK
        have aD := eL
        have aC := eM
        have aE := eP
        have aG := fZ
        have aH := hV
        have aI := hW
        have HB := hX
        clear gB gC gD gE gF gG gH gI gJ gK eL eM eP fZ hV hW hX
        clear hb ho84
        refine hK.out _ _ ⟨cO, cQ, cM, cV, cP, cR, cN, cW, dU, cS, cT, cU, (by rw [ha.out]; exact putSel_upk 20 hb_ rfl rfl rfl), aJ.out, (by (with_reducible repeat (first | apply Kd.R_alloc | apply Kd.R_drewN | apply Kd.R_drew)); exact Kd.R_mono bD.out oY), (by (with_reducible repeat (first | apply Kd.V_alloc | apply Kd.V_drewN | apply Kd.V_drew)); exact Kd.V_mono bK.out oY), bM.out, aA.out, aD.out, aC.out, aE.out, aG.out, aH.out, aI.out, (oB HB), fun _ => (by (with_reducible repeat (first | apply Kd.R_alloc | apply Kd.R_drewN | apply Kd.R_drew)); exact Kd.R_mono cB.out oY), fun _ => (by (with_reducible repeat (first | apply Kd.V_alloc | apply Kd.V_drewN | apply Kd.V_drew)); exact Kd.V_mono cH.out oY), fun _ => (by (with_reducible repeat (first | apply Kd.R_alloc | apply Kd.R_drewN | apply Kd.R_drew)); exact Kd.R_mono cC.out oY), fun _ => (by (with_reducible repeat (first | apply Kd.V_alloc | apply Kd.V_drewN | apply Kd.V_drew)); exact Kd.V_mono cK.out oY), fun _ => (by (with_reducible repeat (first | apply Kd.R_alloc | apply Kd.R_drewN | apply Kd.R_drew)); exact Kd.R_mono dQ.out oY), oF (hoff 21 oK), hG, oF (hoff 26 oK), cG, bY, oF (hoff 21 oK), oF (hoff 26 oK)⟩
       refine steps_cons ?_ ?_
       ·intro b a w' hR_
        refine hide_ (fun G_ hG_ => exVVVVVVVVVVVV_ hR_ (fun cO cQ cM cV cP cR cN cW dU cS cT cU hS_ => an25_ hS_ (fun ha aW aX aY aZ aM aN aQ aR aT aU aV Q_HB bF bH bG bL bT bV bU bZ cG bY cF cI => ?_)))
        refine hG_ ?_
        clear hG_ hR_ hS_
        intro hb_ hon hoff
        refine ⟨_, rfl, fun K hK => ?_⟩
        have e66 : a.tmps[66]? = some (.agg #[.int .i64 dC, .int .i64 dD, .slice dR cJ.length dT]) := by rw [ha]; exact putSel_on (e := (18, 66, .agg #[.int .i64 dC, .int .i64 dD, .slice dR cJ.length dT])) 18 rfl rfl (hon 18 oK) rfl
        have e68 : a.tmps[68]? = some (cP) := by rw [ha]; exact putSel_on (e := (20, 68, cP)) 20 rfl rfl (hon 20 oK) rfl
        have fV : a.tmps[65]? = some (.bool (!true)) := by rw [ha]; exact putSel_on (e := (17, 65, .bool (!true))) 17 rfl rfl (hon 17 oK) rfl
        replace ha := Aside0.mk ha
        obtain ⟨aJ, bD, bK, bM, aA, aD, aC, aE, aG, aH, aI, HB, cB, cH, cC, cK, dQ⟩ := o2_ aW (o2_ aX (o2_ aY (o2_ aZ (o2_ aM (o2_ aN (o2_ aQ (o2_ aR (o2_ aT (o2_ aU (o2_ aV (o2_ Q_HB (o2_ (bF (hon 7 oK)) (o2_ (bH (hon 8 oK)) (o2_ (bG (hon 12 oK)) (o2_ (bL (hon 13 oK)) (o1_ (bT (hon 20 oK))))))))))))))))))
        obtain ⟨mP, nO, nX⟩ := Kd.R_slice dQ.out
        (first | subst nX | (injection nX with f1_ f2_ f3_; have f4_ := f1_.symm; have f5_ := f3_.symm; clear f1_ f2_ f3_; subst f4_; subst f5_))
        refine goes_ Try.func27 oK rfl #[.agg #[.int .i64 dC, .int .i64 dD, .slice dR cJ.length dT], .slice mP y572.length nO] (by first | rfl | exact wanted_on rfl rfl rfl (by assumption)) rfl rfl (by first | (simp only [List.map_toArray, List.map_cons, List.map_nil, Act.eval, Array.getD_eq_getD_getElem?, Option.getD_some, e66, e68, fV]; done) | (simp only [List.map_toArray, List.map_cons, List.map_nil, Act.eval, Array.getD_eq_getD_getElem?, Option.getD_some, e66, e68, fV]; rfl)) ?_
        with_reducible refine (laws_eaDo.calls k dC dD (fun k_ => some k_ ≠ (.slice eF y538.length eG : Value).ownBlock ∧ (some k_ ≠ (.slice cX cL.length cZ : Value).ownBlock ∧ (k_ ≠ bB ∧ (k_ ≠ bW ∧ (k_ ≠ bI ∧ (k_ ≠ bQ ∧ (k_ ≠ bO ∧ (k_ ≠ cA ∧ k_ ≠ bS)))))))) _ _ cJ _ _ y572 iU iV iE _ ?side1 ?side2 ?side3 A65.out).mono ?_
        (case side1 => exact bK.out)
        (case side2 => repeat (first | exact (Kd.R_reads' dQ.out).2.2 | (with_reducible refine Kd.C_alloc ?_ _) | (with_reducible refine Kd.C_drewN ?_ _) | (with_reducible refine Kd.C_drew ?_)))
        (case side3 => exact (Kd.R_reads' dQ.out).2.1)
        rintro e w86 ⟨cR, rfl, ho0, hb⟩
        refine ⟨_, rfl, ?_⟩
        have gB := Aside0.mk (Kd.Q_below aJ.out hb)
        have gC := Aside0.mk (Kd.R_below bD.out hb)
        have gD := Aside0.mk (Kd.V_below bK.out hb)
        have gE := Aside0.mk (Kd.R_below bM.out hb)
        have gF := Aside0.mk (Kd.R_below cB.out hb)
        have gG := Aside0.mk (Kd.V_below cH.out hb)
        have gH := Aside0.mk (Kd.R_below cC.out hb)
        have gI := Aside0.mk (Kd.V_below cK.out hb)
        have gJ := Aside0.mk (Kd.R_below dQ.out hb)
        have gK := Aside0.mk (Kd.V_lower (Kd.V_mono (ok' := fun k_ => some k_ ≠ (.slice eF y538.length eG : Value).ownBlock ∧ some k_ ≠ (.slice cX cL.length cZ : Value).ownBlock ∧ k_ ≠ bB ∧ k_ ≠ bW ∧ k_ ≠ bI ∧ k_ ≠ bQ ∧ k_ ≠ bO ∧ k_ ≠ cA ∧ k_ ≠ bS) ho0 (fun k_ hk_ => ⟨Or.elim hk_ (fun hs_ => hs_.1) (fun hn_ => (Kd.fresh' (Kd.R_lt bD.out) k_ hn_)), Or.elim hk_ (fun hs_ => hs_.2.1) (fun hn_ => (Kd.fresh' (Kd.R_lt bM.out) k_ hn_)), Or.elim hk_ (fun hs_ => hs_.2.2.1) (fun hn_ => (Kd.freshB aA.out k_ hn_)), Or.elim hk_ (fun hs_ => hs_.2.2.2.1) (fun hn_ => (Kd.freshB aD.out k_ hn_)), Or.elim hk_ (fun hs_ => hs_.2.2.2.2.1) (fun hn_ => (Kd.freshB aC.out k_ hn_)), Or.elim hk_ (fun hs_ => hs_.2.2.2.2.2.1) (fun hn_ => (Kd.freshB aE.out k_ hn_)), Or.elim hk_ (fun hs_ => hs_.2.2.2.2.2.2.1) (fun hn_ => (Kd.freshB aG.out k_ hn_)), Or.elim hk_ (fun hs_ => hs_.2.2.2.2.2.2.2.1) (fun hn_ => (Kd.freshB aH.out k_ hn_)), Or.elim hk_ (fun hs_ => hs_.2.2.2.2.2.2.2.2) (fun hn_ => (Kd.freshB aI.out k_ hn_))⟩)) (below_size (oB HB)))
        have eL := Aside0.mk (blk_below aA.out hb)
        have eM := Aside0.mk (blk_below aD.out hb)
        have eP := Aside0.mk (blk_below aC.out hb)
        have fZ := Aside0.mk (blk_below aE.out hb)
        have hV := Aside0.mk (blk_below aG.out hb)
        have hW := Aside0.mk (blk_below aH.out hb)
        have hX := Aside0.mk (blk_below aI.out hb)
        have sW := Aside0.mk (below_step (oB HB) hb)
        have hG := fun (h0_ : b 25 = true) => (show Kd.R k27 27 w86 w.heap.size (fun k_ => some k_ ≠ (.slice eF y538.length eG : Value).ownBlock ∧ k_ ≠ bW ∧ k_ ≠ bI ∧ k_ ≠ bQ ∧ k_ ≠ bO) cN y580 from by first | exact (Kd.R_below (uR ((bU h0_))) hb) | exact Kd.R_mono (Kd.R_below (uR ((bU h0_))) hb) (fun _ h_ => by first | trivial | exact h_ | exact h_.1))
        clear aJ
        clear bD
        clear bK
        clear bM
        clear cB
        clear cH
        clear cC
        clear cK
        clear dQ
        clear aA
        clear aD
        clear aC
        clear aE
        clear aG
        clear aH
        clear aI
        clear HB
        have aJ := gB
        have bD := gC
        have bK := gD
        have bM := gE
        have cB := gF
        have cH := gG
        have cC := gH
        have cK := gI
        have dQ := gJ
        have eI := gK
        have aA := eL
        have aD := eM
        have aC := eP
        have aE := fZ
        have aG := hV
        have aH := hW
        have aI := hX
        have HB := sW
        clear gB gC gD gE gF gG gH gI gJ gK eL eM eP fZ hV hW hX sW
        (try clear hb)
        (try clear hb2)
        (try clear hk)
        (try clear hi)
        (try clear ho0)
        refine hK.out _ _ ⟨cO, cQ, cM, cV, .slice mP y572.length nO, cR, cN, cW, dU, cS, (.agg #[.int .i64 iU, .int .i64 iV, cR]), cU, (by rw [ha.out]; exact putSel_upk 21 hb_ rfl rfl rfl), aJ.out, bD.out, bK.out, bM.out, aA.out, aD.out, aC.out, aE.out, aG.out, aH.out, aI.out, (oB HB), fun _ => cB.out, fun _ => cH.out, fun _ => cC.out, fun _ => cK.out, fun _ => dQ.out, fun _ => eI.out, hG, oF (hoff 26 oK), cG, bY, fun _ => rfl, oF (hoff 26 oK)⟩
       refine steps_cons ?_ ?_
       ·intro b a w' hR_
        refine hide_ (fun G_ hG_ => exVVVVVVVVVVVV_ hR_ (fun cO cQ cM cV cP cR cN cW dU cS cT cU hS_ => an25_ hS_ (fun ha aW aX aY aZ aM aN aQ aR aT aU aV Q_HB bF bH bG bL bT bV bU bZ cG bY cF cI => ?_)))
        refine hG_ ?_
        clear hG_ hR_ hS_
        intro hb_ hon hoff
        refine ⟨_, rfl, fun K hK => ?_⟩
        have e3 : a.tmps[3]? = some (.pointer (some ⟨bB, 0, none⟩)) := by rw [ha]; exact (putSel_off rfl).trans rfl
        have fV : a.tmps[65]? = some (.bool (!true)) := by rw [ha]; exact putSel_on (e := (17, 65, .bool (!true))) 17 rfl rfl (hon 17 oK) rfl
        replace ha := Aside0.mk ha
        obtain ⟨aJ, bD, bK, bM, aA, aD, aC, aE, aG, aH, aI, HB, cB, cH, cC, cK⟩ := o2_ aW (o2_ aX (o2_ aY (o2_ aZ (o2_ aM (o2_ aN (o2_ aQ (o2_ aR (o2_ aT (o2_ aU (o2_ aV (o2_ Q_HB (o2_ (bF (hon 7 oK)) (o2_ (bH (hon 8 oK)) (o2_ (bG (hon 12 oK)) (o1_ (bL (hon 13 oK)))))))))))))))))
        have fW : w'.cell? ⟨bB, 0, none⟩ = some (.int .i64 bR) := (blk_cell aA.out 0).trans rfl
        have fX : w'.cell? ⟨bB, 1, none⟩ = some (.int .i64 bX) := (blk_cell aA.out 1).trans rfl
        have fY : w'.cell? ⟨bB, 2, none⟩ = some (.slice dG bJ.length cY) := (blk_cell aA.out 2).trans rfl
        refine value_ (w1 := w') (v := .agg #[.int .i64 bR, .int .i64 bX, .slice dG bJ.length cY]) (wanted_on rfl rfl rfl (fV.trans (by first | rfl | (simp [*]; done)))) rfl ?_ ?_
        ·go_simp
         (try simp only [i64_w])
         try rfl
        refine hK.out _ _ ⟨cO, cQ, cM, cV, cP, cR, cN, cW, dU, cS, cT, cU, (by rw [ha.out]; exact putSel_upk 22 hb_ rfl rfl rfl), aW, aX, aY, aZ, aM, aN, aQ, aR, aT, aU, aV, Q_HB, bF, bH, bG, bL, bT, bV, bU, oF (hoff 26 oK), cG, bY, cF, oF (hoff 26 oK)⟩
       refine steps_cons ?_ ?_
       ·intro b a w' hR_
        refine hide_ (fun G_ hG_ => exVVVVVVVVVVVV_ hR_ (fun cO cQ cM cV cP cR cN cW dU cS cT cU hS_ => an25_ hS_ (fun ha aW aX aY aZ aM aN aQ aR aT aU aV Q_HB bF bH bG bL bT bV bU bZ cG bY cF cI => ?_)))
        refine hG_ ?_
        clear hG_ hR_ hS_
        intro hb_ hon hoff
        refine ⟨_, rfl, fun K hK => ?_⟩
        have e7 : a.tmps[7]? = some (.pointer (some ⟨bO, 0, none⟩)) := by rw [ha]; exact (putSel_off rfl).trans rfl
        have fV : a.tmps[65]? = some (.bool (!true)) := by rw [ha]; exact putSel_on (e := (17, 65, .bool (!true))) 17 rfl rfl (hon 17 oK) rfl
        replace ha := Aside0.mk ha
        obtain ⟨aJ, bD, bK, bM, aA, aD, aC, aE, aG, aH, aI, HB, cB, cH, cC, cK⟩ := o2_ aW (o2_ aX (o2_ aY (o2_ aZ (o2_ aM (o2_ aN (o2_ aQ (o2_ aR (o2_ aT (o2_ aU (o2_ aV (o2_ Q_HB (o2_ (bF (hon 7 oK)) (o2_ (bH (hon 8 oK)) (o2_ (bG (hon 12 oK)) (o1_ (bL (hon 13 oK)))))))))))))))))
        have fW : w'.cell? ⟨bO, 0, none⟩ = some (.int .i64 2) := (blk_cell aG.out 0).trans rfl
        have fX : w'.cell? ⟨bO, 1, none⟩ = some (.int .i64 0) := (blk_cell aG.out 1).trans rfl
        have fY : w'.cell? ⟨bO, 2, none⟩ = some (.int .i64 0) := (blk_cell aG.out 2).trans rfl
        have jD : w'.cell? ⟨bO, 3, none⟩ = some (.int .i64 0) := (blk_cell aG.out 3).trans rfl
        have jE : w'.cell? ⟨bO, 4, none⟩ = some (.int .i64 0) := (blk_cell aG.out 4).trans rfl
        refine value_ (w1 := w') (v := .agg #[.int .i64 2, .int .i64 0, .int .i64 0, .int .i64 0, .int .i64 0]) (wanted_on rfl rfl rfl (fV.trans (by first | rfl | (simp [*]; done)))) rfl ?_ ?_
        ·go_simp
         (try simp only [i64_w])
         try rfl
        refine hK.out _ _ ⟨cO, cQ, cM, cV, cP, cR, cN, cW, dU, cS, cT, cU, (by rw [ha.out]; exact putSel_upk 23 hb_ rfl rfl rfl), aW, aX, aY, aZ, aM, aN, aQ, aR, aT, aU, aV, Q_HB, bF, bH, bG, bL, bT, bV, oF (hoff 25 oK), oF (hoff 26 oK), cG, bY, cF, oF (hoff 26 oK)⟩
       refine steps_cons ?_ ?_
       ·intro b a w' hR_
        refine hide_ (fun G_ hG_ => exVVVVVVVVVVVV_ hR_ (fun cO cQ cM cV cP cR cN cW dU cS cT cU hS_ => an25_ hS_ (fun ha aW aX aY aZ aM aN aQ aR aT aU aV Q_HB bF bH bG bL bT bV bU bZ cG bY cF cI => ?_)))
        refine hG_ ?_
        clear hG_ hR_ hS_
        intro hb_ hon hoff
        refine ⟨_, rfl, fun K hK => ?_⟩
        have e5 : a.tmps[5]? = some (.pointer (some ⟨bI, 0, none⟩)) := by rw [ha]; exact (putSel_off rfl).trans rfl
        have fV : a.tmps[65]? = some (.bool (!true)) := by rw [ha]; exact putSel_on (e := (17, 65, .bool (!true))) 17 rfl rfl (hon 17 oK) rfl
        replace ha := Aside0.mk ha
        obtain ⟨aJ, bD, bK, bM, aA, aD, aC, aE, aG, aH, aI, HB, cB, cH, cC, cK⟩ := o2_ aW (o2_ aX (o2_ aY (o2_ aZ (o2_ aM (o2_ aN (o2_ aQ (o2_ aR (o2_ aT (o2_ aU (o2_ aV (o2_ Q_HB (o2_ (bF (hon 7 oK)) (o2_ (bH (hon 8 oK)) (o2_ (bG (hon 12 oK)) (o1_ (bL (hon 13 oK)))))))))))))))))
        have fW : w'.cell? ⟨bI, 0, none⟩ = some (.int .i64 6) := (blk_cell aC.out 0).trans rfl
        have fX : w'.cell? ⟨bI, 1, none⟩ = some (.int .i64 0) := (blk_cell aC.out 1).trans rfl
        have fY : w'.cell? ⟨bI, 2, none⟩ = some (.int .i64 0) := (blk_cell aC.out 2).trans rfl
        have jD : w'.cell? ⟨bI, 3, none⟩ = some (.int .i64 0) := (blk_cell aC.out 3).trans rfl
        have jE : w'.cell? ⟨bI, 4, none⟩ = some (.int .i64 0) := (blk_cell aC.out 4).trans rfl
        refine value_ (w1 := w') (v := .agg #[.int .i64 6, .int .i64 0, .int .i64 0, .int .i64 0, .int .i64 0]) (wanted_on rfl rfl rfl (fV.trans (by first | rfl | (simp [*]; done)))) rfl ?_ ?_
        ·go_simp
         (try simp only [i64_w])
         try rfl
        refine hK.out _ _ ⟨cO, cQ, cM, cV, cP, cR, cN, cW, dU, cS, cT, cU, (by rw [ha.out]; exact putSel_upk 24 hb_ rfl rfl rfl), aW, aX, aY, aZ, aM, aN, aQ, aR, aT, aU, aV, Q_HB, bF, bH, bG, bL, bT, bV, oF (hoff 25 oK), oF (hoff 26 oK), cG, bY, cF, oF (hoff 26 oK)⟩
       refine steps_cons ?_ ?_
       ·intro b a w' hR_
        refine hide_ (fun G_ hG_ => exVVVVVVVVVVVV_ hR_ (fun cO cQ cM cV cP cR cN cW dU cS cT cU hS_ => an25_ hS_ (fun ha aW aX aY aZ aM aN aQ aR aT aU aV Q_HB bF bH bG bL bT bV bU bZ cG bY cF cI => ?_)))
        refine hG_ ?_
        clear hG_ hR_ hS_
        intro hb_ hon hoff
        refine ⟨_, rfl, fun K hK => ?_⟩
        have e71 : a.tmps[71]? = some (.agg #[.int .i64 2, .int .i64 0, .int .i64 0, .int .i64 0, .int .i64 0]) := by rw [ha]; exact putSel_on (e := (23, 71, .agg #[.int .i64 2, .int .i64 0, .int .i64 0, .int .i64 0, .int .i64 0])) 23 rfl rfl (hon 23 oK) rfl
        have e72 : a.tmps[72]? = some (.agg #[.int .i64 6, .int .i64 0, .int .i64 0, .int .i64 0, .int .i64 0]) := by rw [ha]; exact putSel_on (e := (24, 72, .agg #[.int .i64 6, .int .i64 0, .int .i64 0, .int .i64 0, .int .i64 0])) 24 rfl rfl (hon 24 oK) rfl
        have fV : a.tmps[65]? = some (.bool (!true)) := by rw [ha]; exact putSel_on (e := (17, 65, .bool (!true))) 17 rfl rfl (hon 17 oK) rfl
        replace ha := Aside0.mk ha
        obtain ⟨aJ, bD, bK, bM, aA, aD, aC, aE, aG, aH, aI, HB, cB, cH, cC, cK⟩ := o2_ aW (o2_ aX (o2_ aY (o2_ aZ (o2_ aM (o2_ aN (o2_ aQ (o2_ aR (o2_ aT (o2_ aU (o2_ aV (o2_ Q_HB (o2_ (bF (hon 7 oK)) (o2_ (bH (hon 8 oK)) (o2_ (bG (hon 12 oK)) (o1_ (bL (hon 13 oK)))))))))))))))))
        refine Kd.R_lit_step k27 _ 27 ?hg (N := 73) ?hd (xs := ([(⟨2, 0, 0, 0, 0⟩ : S27), (⟨6, 0, 0, 0, 0⟩ : S27)] : List (S27))) (inner := [.int .i64 2, .int .i64 0, .int .i64 0, .int .i64 0, .int .i64 0, .int .i64 6, .int .i64 0, .int .i64 0, .int .i64 0, .int .i64 0]) (ok := fun _ => True) (okp := fun _ => True) ?hr ?hp (fun _ hk => hk) trivial (Below.refl _ _) (Nat.le_refl _) (by simp) ?_; (case hd => rfl); (case hg => first | rfl | exact wanted_on rfl rfl rfl (by assumption)); (case hr => first | (go_simp; done) | (go_simp; rfl)); (case hp => exact (Reps.c5 (show Kd.M k27 _ _ _ (⟨2, 0, 0, 0, 0⟩ : S27) [.int .i64 2, .int .i64 0, .int .i64 0, .int .i64 0, .int .i64 0] from (k27_mkM _ _ _ (⟨2, 0, 0, 0, 0⟩ : S27) )) (Reps.c5 (show Kd.M k27 _ _ _ (⟨6, 0, 0, 0, 0⟩ : S27) [.int .i64 6, .int .i64 0, .int .i64 0, .int .i64 0, .int .i64 0] from (k27_mkM _ _ _ (⟨6, 0, 0, 0, 0⟩ : S27) )) (Reps.none _ _))))
        intro cN xQ ho84 hb hg_ hnew_
        clear hg_ hnew_
        (first | rw [← kW.out] at ho84 | (simp only [Int.reduceToNat] at ho84; rw [← kW.out] at ho84))
        have gB := Aside0.mk (Kd.Q_below aJ.out hb)
        have gC := Aside0.mk (Kd.R_elder' bD.out (Kd.R_base ho84) hb)
        have gD := Aside0.mk (Kd.V_elder' bK.out (Kd.R_base ho84) hb)
        have gE := Aside0.mk (Kd.R_below bM.out hb)
        have gF := Aside0.mk (Kd.R_elder' cB.out (Kd.R_base ho84) hb)
        have gG := Aside0.mk (Kd.V_elder' cH.out (Kd.R_base ho84) hb)
        have gH := Aside0.mk (Kd.R_elder' cC.out (Kd.R_base ho84) hb)
        have gI := Aside0.mk (Kd.V_elder' cK.out (Kd.R_base ho84) hb)
        have gJ := Aside0.mk (Kd.R_lower (Kd.R_newB (Kd.R_newB (Kd.R_newB (Kd.R_newB (Kd.R_new' (Kd.R_new' (Kd.R_new' ho84 (Kd.R_lt bD.out)) (Kd.R_lt cB.out)) (Kd.R_lt cC.out)) aD.out) aC.out) aE.out) aG.out) (below_size (oB HB)))
        have gK := Aside0.mk (blk_below aA.out hb)
        have eL := Aside0.mk (blk_below aD.out hb)
        have eM := Aside0.mk (blk_below aC.out hb)
        have eP := Aside0.mk (blk_below aE.out hb)
        have fZ := Aside0.mk (blk_below aG.out hb)
        have hV := Aside0.mk (blk_below aH.out hb)
        have hW := Aside0.mk (blk_below aI.out hb)
        have hX := Aside0.mk (below_step (oB HB) hb)
        have kK := fun (h0_ : b 20 = true) => (show Kd.R k27 27 xQ w.heap.size (fun k_ => some k_ ≠ (.slice eF y538.length eG : Value).ownBlock ∧ k_ ≠ bW ∧ k_ ≠ bI ∧ k_ ≠ bQ ∧ k_ ≠ bO) cP y572 from by first | exact (Kd.R_elder' (uR ((bT h0_))) (Kd.R_base ho84) hb) | exact Kd.R_mono (Kd.R_elder' (uR ((bT h0_))) (Kd.R_base ho84) hb) (fun _ h_ => by first | trivial | exact h_ | exact h_.1))
        have kL := fun (h0_ : b 21 = true) => (show Kd.V k38 38 xQ w.heap.size (fun k_ => some k_ ≠ (.slice eF y538.length eG : Value).ownBlock ∧ some k_ ≠ (.slice cX cL.length cZ : Value).ownBlock ∧ k_ ≠ bB ∧ k_ ≠ bW ∧ k_ ≠ bI ∧ k_ ≠ bQ ∧ k_ ≠ bO ∧ k_ ≠ cA ∧ k_ ≠ bS) cR iE from by first | exact (Kd.V_elder' (uV ((bV h0_))) (Kd.R_base ho84) hb) | exact Kd.V_mono (Kd.V_elder' (uV ((bV h0_))) (Kd.R_base ho84) hb) (fun _ h_ => by first | trivial | exact h_ | exact h_.1))
        clear aJ
        clear bD
        clear bK
        clear bM
        clear cB
        clear cH
        clear cC
        clear cK
        clear aA
        clear aD
        clear aC
        clear aE
        clear aG
        clear aH
        clear aI
        clear HB
        have aJ := gB
        have bD := gC
        have bK := gD
        have bM := gE
        have cB := gF
        have cH := gG
        have cC := gH
        have cK := gI
        have eD := gJ
        have aA := gK
        have aD := eL
        have aC := eM
        have aE := eP
        have aG := fZ
        have aH := hV
        have aI := hW
        have HB := hX
        clear gB gC gD gE gF gG gH gI gJ gK eL eM eP fZ hV hW hX
        clear hb ho84
        refine hK.out _ _ ⟨cO, cQ, cM, cV, cP, cR, cN, cW, dU, cS, cT, cU, (by rw [ha.out]; exact putSel_upk 25 hb_ rfl rfl rfl), aJ.out, (by (with_reducible repeat (first | apply Kd.R_alloc | apply Kd.R_drewN | apply Kd.R_drew)); exact Kd.R_mono bD.out oY), (by (with_reducible repeat (first | apply Kd.V_alloc | apply Kd.V_drewN | apply Kd.V_drew)); exact Kd.V_mono bK.out oY), bM.out, aA.out, aD.out, aC.out, aE.out, aG.out, aH.out, aI.out, (oB HB), fun _ => (by (with_reducible repeat (first | apply Kd.R_alloc | apply Kd.R_drewN | apply Kd.R_drew)); exact Kd.R_mono cB.out oY), fun _ => (by (with_reducible repeat (first | apply Kd.V_alloc | apply Kd.V_drewN | apply Kd.V_drew)); exact Kd.V_mono cH.out oY), fun _ => (by (with_reducible repeat (first | apply Kd.R_alloc | apply Kd.R_drewN | apply Kd.R_drew)); exact Kd.R_mono cC.out oY), fun _ => (by (with_reducible repeat (first | apply Kd.V_alloc | apply Kd.V_drewN | apply Kd.V_drew)); exact Kd.V_mono cK.out oY), kK, kL, fun _ => (by (with_reducible repeat (first | apply Kd.R_alloc | apply Kd.R_drewN | apply Kd.R_drew)); exact Kd.R_mono eD.out oY), oF (hoff 26 oK), cG, bY, cF, oF (hoff 26 oK)⟩
       refine steps_cons ?_ ?_
       ·intro b a w' hR_
        refine hide_ (fun G_ hG_ => exVVVVVVVVVVVV_ hR_ (fun cO cQ cM cV cP cR cN cW dU cS cT cU hS_ => an25_ hS_ (fun ha aW aX aY aZ aM aN aQ aR aT aU aV Q_HB bF bH bG bL bT bV bU bZ cG bY cF cI => ?_)))
        refine hG_ ?_
        clear hG_ hR_ hS_
        intro hb_ hon hoff
        refine ⟨_, rfl, fun K hK => ?_⟩
        have e70 : a.tmps[70]? = some (.agg #[.int .i64 bR, .int .i64 bX, .slice dG bJ.length cY]) := by rw [ha]; exact putSel_on (e := (22, 70, .agg #[.int .i64 bR, .int .i64 bX, .slice dG bJ.length cY])) 22 rfl rfl (hon 22 oK) rfl
        have e73 : a.tmps[73]? = some (cN) := by rw [ha]; exact putSel_on (e := (25, 73, cN)) 25 rfl rfl (hon 25 oK) rfl
        have fV : a.tmps[65]? = some (.bool (!true)) := by rw [ha]; exact putSel_on (e := (17, 65, .bool (!true))) 17 rfl rfl (hon 17 oK) rfl
        replace ha := Aside0.mk ha
        obtain ⟨aJ, bD, bK, bM, aA, aD, aC, aE, aG, aH, aI, HB, cB, cH, cC, cK, dQ, eI, eD⟩ := o2_ aW (o2_ aX (o2_ aY (o2_ aZ (o2_ aM (o2_ aN (o2_ aQ (o2_ aR (o2_ aT (o2_ aU (o2_ aV (o2_ Q_HB (o2_ (bF (hon 7 oK)) (o2_ (bH (hon 8 oK)) (o2_ (bG (hon 12 oK)) (o2_ (bL (hon 13 oK)) (o2_ (bT (hon 20 oK)) (o2_ (bV (hon 21 oK)) (o1_ (bU (hon 25 oK))))))))))))))))))))
        obtain ⟨mQ, nP, nY⟩ := Kd.R_slice eD.out
        (first | subst nY | (injection nY with f1_ f2_ f3_; have f4_ := f1_.symm; have f5_ := f3_.symm; clear f1_ f2_ f3_; subst f4_; subst f5_))
        refine goes_ Try.func27 oK rfl #[.agg #[.int .i64 bR, .int .i64 bX, .slice dG bJ.length cY], .slice mQ y580.length nP] (by first | rfl | exact wanted_on rfl rfl rfl (by assumption)) rfl rfl (by first | (simp only [List.map_toArray, List.map_cons, List.map_nil, Act.eval, Array.getD_eq_getD_getElem?, Option.getD_some, e70, e73, fV]; done) | (simp only [List.map_toArray, List.map_cons, List.map_nil, Act.eval, Array.getD_eq_getD_getElem?, Option.getD_some, e70, e73, fV]; rfl)) ?_
        with_reducible refine (laws_eaDo.calls k bR bX (fun k_ => some k_ = (.slice dG bJ.length cY : Value).ownBlock) _ _ bJ _ _ y580 jR jS jT _ ?side1 ?side2 ?side3 A66.out).mono ?_
        (case side1 => exact Kd.Q_V (Kd.Q_tight rfl (Kd.Q_types (Kd.Q_types (Kd.Q_types (Kd.Q_types (Kd.Q_types (Kd.Q_types (Kd.Q_types (Kd.Q_apart' (Kd.Q_apart' (Kd.Q_apart' (Kd.Q_apart' (Kd.Q_apart' (aJ.out) (Kd.R_typed bD.out) oD) (Kd.R_typed cB.out) oD) (Kd.R_typed cC.out) oD) (Kd.R_typed dQ.out) oD) (Kd.R_typed eD.out) oD) aA.out oD) aD.out oD) aC.out oD) aE.out oD) aG.out oD) aH.out oD) aI.out oD)))
        (case side2 => repeat (first | exact (Kd.R_reads' eD.out).2.2 | (with_reducible refine Kd.C_alloc ?_ _) | (with_reducible refine Kd.C_drewN ?_ _) | (with_reducible refine Kd.C_drew ?_)))
        (case side3 => exact (Kd.R_reads' eD.out).2.1)
        rintro e w90 ⟨cW, rfl, ho0, hb⟩
        refine ⟨_, rfl, ?_⟩
        have hq_ := (Kd.Q_types (Kd.Q_types (Kd.Q_types (Kd.Q_types (Kd.Q_types (Kd.Q_types (Kd.Q_types (Kd.Q_apart' (Kd.Q_apart' (Kd.Q_apart' (Kd.Q_apart' (Kd.Q_apart' (aJ.out) (Kd.R_typed bD.out) oD) (Kd.R_typed cB.out) oD) (Kd.R_typed cC.out) oD) (Kd.R_typed dQ.out) oD) (Kd.R_typed eD.out) oD) aA.out oD) aD.out oD) aC.out oD) aE.out oD) aG.out oD) aH.out oD) aI.out oD)
        have n_ := o2_ (Kd.Q_below aJ.out hb) (o2_ (Kd.R_below bD.out hb) (o2_ (Kd.V_below bK.out hb) (o2_ (Kd.R_below bM.out hb) (o2_ (Kd.R_below cB.out hb) (o2_ (Kd.V_below cH.out hb) (o2_ (Kd.R_below cC.out hb) (o2_ (Kd.V_below cK.out hb) (o2_ (Kd.R_below dQ.out hb) (o2_ (Kd.V_below eI.out hb) (o2_ (Kd.R_below eD.out hb) (o2_ (Kd.V_lower (Kd.V_mono (ok' := fun k_ => some k_ ≠ (.slice eF y538.length eG : Value).ownBlock ∧ some k_ ≠ (.slice cX cL.length cZ : Value).ownBlock ∧ k_ ≠ bB ∧ k_ ≠ bW ∧ k_ ≠ bI ∧ k_ ≠ bQ ∧ k_ ≠ bO ∧ k_ ≠ cA ∧ k_ ≠ bS) ho0 (fun k_ hk_ => ⟨Or.elim hk_ (fun hs_ => (hq_.1 k_ hs_.symm).1.1.1.1.1.1.1.1.1.1.1.2) (fun hn_ => (Kd.fresh' (Kd.R_lt bD.out) k_ hn_)), Or.elim hk_ (fun hs_ => (hq_.1 k_ hs_.symm).1.1.1.1.1.1.1.1.1.1.1.1) (fun hn_ => (Kd.fresh' (Kd.R_lt bM.out) k_ hn_)), Or.elim hk_ (fun hs_ => (hq_.1 k_ hs_.symm).1.1.1.1.1.1.2) (fun hn_ => (Kd.freshB aA.out k_ hn_)), Or.elim hk_ (fun hs_ => (hq_.1 k_ hs_.symm).1.1.1.1.1.2) (fun hn_ => (Kd.freshB aD.out k_ hn_)), Or.elim hk_ (fun hs_ => (hq_.1 k_ hs_.symm).1.1.1.1.2) (fun hn_ => (Kd.freshB aC.out k_ hn_)), Or.elim hk_ (fun hs_ => (hq_.1 k_ hs_.symm).1.1.1.2) (fun hn_ => (Kd.freshB aE.out k_ hn_)), Or.elim hk_ (fun hs_ => (hq_.1 k_ hs_.symm).1.1.2) (fun hn_ => (Kd.freshB aG.out k_ hn_)), Or.elim hk_ (fun hs_ => (hq_.1 k_ hs_.symm).1.2) (fun hn_ => (Kd.freshB aH.out k_ hn_)), Or.elim hk_ (fun hs_ => (hq_.1 k_ hs_.symm).2) (fun hn_ => (Kd.freshB aI.out k_ hn_))⟩)) (below_size (oB HB))) (o2_ (blk_below aA.out hb) (o2_ (blk_below aD.out hb) (o2_ (blk_below aC.out hb) (o2_ (blk_below aE.out hb) (o2_ (blk_below aG.out hb) (o2_ (blk_below aH.out hb) (o2_ (blk_below aI.out hb) (o1_ (below_step (oB HB) hb))))))))))))))))))))
        clear aJ bD bK bM cB cH cC cK dQ eI eD aA aD aC aE aG aH aI HB
        obtain ⟨aJ, bD, bK, bM, cB, cH, cC, cK, dQ, eI, eD, eN, aA, aD, aC, aE, aG, aH, aI, HB⟩ := n_
        clear hq_
        (try clear hb)
        (try clear hb2)
        (try clear hk)
        (try clear hi)
        (try clear ho0)
        refine hK.out _ _ ⟨cO, cQ, cM, cV, cP, cR, .slice mQ y580.length nP, cW, dU, cS, cT, (.agg #[.int .i64 jR, .int .i64 jS, cW]), (by rw [ha.out]; exact putSel_upk 26 hb_ rfl rfl rfl), aJ.out, bD.out, bK.out, bM.out, aA.out, aD.out, aC.out, aE.out, aG.out, aH.out, aI.out, (oB HB), fun _ => cB.out, fun _ => cH.out, fun _ => cC.out, fun _ => cK.out, fun _ => dQ.out, fun _ => eI.out, fun _ => eD.out, fun _ => eN.out, cG, bY, cF, fun _ => rfl⟩
       refine steps_cons ?_ ?_
       ·intro b a w' hR_
        refine hide_ (fun G_ hG_ => exVVVVVVVVVVVV_ hR_ (fun cO cQ cM cV cP cR cN cW dU cS cT cU hS_ => an25_ hS_ (fun ha aW aX aY aZ aM aN aQ aR aT aU aV Q_HB bF bH bG bL bT bV bU bZ cG bY cF cI => ?_)))
        refine hG_ ?_
        clear hG_ hR_ hS_
        intro hb_ hon hoff
        refine ⟨_, rfl, fun K hK => ?_⟩
        have yM : a.tmps[69]? = some (cT) := by rw [ha]; exact putSel_on (e := (21, 69, cT)) 21 rfl rfl (hon 21 oK) rfl
        rw [cF (hon 21 oK)] at yM
        have yN : a.tmps[74]? = some (cU) := by rw [ha]; exact putSel_on (e := (26, 74, cU)) 26 rfl rfl (hon 26 oK) rfl
        rw [cI (hon 26 oK)] at yN
        have fV : a.tmps[65]? = some (.bool (!true)) := by rw [ha]; exact putSel_on (e := (17, 65, .bool (!true))) 17 rfl rfl (hon 17 oK) rfl
        replace ha := Aside0.mk ha
        obtain ⟨aJ, bD, bK, bM, aA, aD, aC, aE, aG, aH, aI, HB, cB, cH, cC, cK, dQ, eI, eD, eN⟩ := o2_ aW (o2_ aX (o2_ aY (o2_ aZ (o2_ aM (o2_ aN (o2_ aQ (o2_ aR (o2_ aT (o2_ aU (o2_ aV (o2_ Q_HB (o2_ (bF (hon 7 oK)) (o2_ (bH (hon 8 oK)) (o2_ (bG (hon 12 oK)) (o2_ (bL (hon 13 oK)) (o2_ (bT (hon 20 oK)) (o2_ (bV (hon 21 oK)) (o2_ (bU (hon 25 oK)) (o1_ (bZ (hon 26 oK)))))))))))))))))))))
        obtain ⟨mR, nQ, nZ⟩ := Kd.V_slice eI.out
        (first | subst nZ | (injection nZ with f1_ f2_ f3_; have f4_ := f1_.symm; have f5_ := f3_.symm; clear f1_ f2_ f3_; subst f4_; subst f5_))
        obtain ⟨mS, nR, oO⟩ := Kd.V_slice eN.out
        (first | subst oO | (injection oO with f1_ f2_ f3_; have f4_ := f1_.symm; have f5_ := f3_.symm; clear f1_ f2_ f3_; subst f4_; subst f5_))
        refine goes_ Try.func21 oK rfl #[.agg #[.int .i64 iU, .int .i64 iV, .slice mR iE.length nQ], .agg #[.int .i64 jR, .int .i64 jS, .slice mS jT.length nR]] (by first | rfl | exact wanted_on rfl rfl rfl (by assumption)) rfl rfl (by first | (simp only [List.map_toArray, List.map_cons, List.map_nil, Act.eval, Array.getD_eq_getD_getElem?, Option.getD_some, yM, yN, fV]; done) | (simp only [List.map_toArray, List.map_cons, List.map_nil, Act.eval, Array.getD_eq_getD_getElem?, Option.getD_some, yM, yN, fV]; rfl)) ?_
        with_reducible refine (laws_eaRas.calls k iU iV _ _ iE jR jS _ _ jT eJ _ ?side1 ?side2 ?side3 ?side4 A67.out).mono ?_
        (case side1 => repeat (first | exact (Kd.V_reads' eI.out).2.2 | (with_reducible refine Kd.C_alloc ?_ _) | (with_reducible refine Kd.C_drewN ?_ _) | (with_reducible refine Kd.C_drew ?_)))
        (case side2 => exact (Kd.V_reads' eI.out).2.1)
        (case side3 => repeat (first | exact (Kd.V_reads' eN.out).2.2 | (with_reducible refine Kd.C_alloc ?_ _) | (with_reducible refine Kd.C_drewN ?_ _) | (with_reducible refine Kd.C_drew ?_)))
        (case side4 => exact (Kd.V_reads' eN.out).2.1)
        rintro e w93 ⟨rfl, hb⟩
        refine ⟨_, rfl, ?_⟩
        have n_ := o2_ (Kd.Q_below aJ.out hb) (o2_ (Kd.R_below bD.out hb) (o2_ (Kd.V_below bK.out hb) (o2_ (Kd.R_below bM.out hb) (o2_ (Kd.R_below cB.out hb) (o2_ (Kd.V_below cH.out hb) (o2_ (Kd.R_below cC.out hb) (o2_ (Kd.V_below cK.out hb) (o2_ (Kd.R_below dQ.out hb) (o2_ (Kd.V_below eI.out hb) (o2_ (Kd.R_below eD.out hb) (o2_ (Kd.V_below eN.out hb) (o2_ (blk_below aA.out hb) (o2_ (blk_below aD.out hb) (o2_ (blk_below aC.out hb) (o2_ (blk_below aE.out hb) (o2_ (blk_below aG.out hb) (o2_ (blk_below aH.out hb) (o2_ (blk_below aI.out hb) (o1_ (below_step (oB HB) hb))))))))))))))))))))
        clear aJ bD bK bM cB cH cC cK dQ eI eD eN aA aD aC aE aG aH aI HB
        obtain ⟨aJ, bD, bK, bM, cB, cH, cC, cK, dQ, eI, eD, eN, aA, aD, aC, aE, aG, aH, aI, HB⟩ := n_
        (try clear hb)
        (try clear hb2)
        (try clear hk)
        (try clear hi)
        refine hK.out _ _ ⟨cO, cQ, cM, cV, cP, .slice mR iE.length nQ, cN, .slice mS jT.length nR, dU, cS, cT, cU, (by rw [ha.out]; exact putSel_upk 27 hb_ rfl rfl rfl), aJ.out, bD.out, bK.out, bM.out, aA.out, aD.out, aC.out, aE.out, aG.out, aH.out, aI.out, (oB HB), fun _ => cB.out, fun _ => cH.out, fun _ => cC.out, fun _ => cK.out, fun _ => dQ.out, fun _ => eI.out, fun _ => eD.out, fun _ => eN.out, cG, bY, cF, cI⟩
       refine steps_cons ?_ ?_
       ·intro b a w' hR_
        refine hide_ (fun G_ hG_ => exVVVVVVVVVVVV_ hR_ (fun cO cQ cM cV cP cR cN cW dU cS cT cU hS_ => an25_ hS_ (fun ha aW aX aY aZ aM aN aQ aR aT aU aV Q_HB bF bH bG bL bT bV bU bZ cG bY cF cI => ?_)))
        refine hG_ ?_
        clear hG_ hR_ hS_
        intro hb_ hon hoff
        refine ⟨_, rfl, fun K hK => ?_⟩
        have e75 : a.tmps[75]? = some (.bool eJ) := by rw [ha]; exact putSel_on (e := (27, 75, .bool eJ)) 27 rfl rfl (hon 27 oK) rfl
        have fV : a.tmps[65]? = some (.bool (!true)) := by rw [ha]; exact putSel_on (e := (17, 65, .bool (!true))) 17 rfl rfl (hon 17 oK) rfl
        replace ha := Aside0.mk ha
        obtain ⟨aJ, bD, bK, bM, aA, aD, aC, aE, aG, aH, aI, HB, cB, cH, cC, cK, dQ, eI, eD, eN⟩ := o2_ aW (o2_ aX (o2_ aY (o2_ aZ (o2_ aM (o2_ aN (o2_ aQ (o2_ aR (o2_ aT (o2_ aU (o2_ aV (o2_ Q_HB (o2_ (bF (hon 7 oK)) (o2_ (bH (hon 8 oK)) (o2_ (bG (hon 12 oK)) (o2_ (bL (hon 13 oK)) (o2_ (bT (hon 20 oK)) (o2_ (bV (hon 21 oK)) (o2_ (bU (hon 25 oK)) (o1_ (bZ (hon 26 oK)))))))))))))))))))))
        refine value_ (w1 := w') (v := .bool (!eJ)) (wanted_on rfl rfl rfl (fV.trans (by first | rfl | (simp [*]; done)))) rfl ?_ ?_
        ·go_simp
         (try simp only [i64_w])
         try rfl
        refine hK.out _ _ ⟨cO, cQ, cM, cV, cP, cR, cN, cW, dU, cS, cT, cU, (by rw [ha.out]; exact putSel_upk 28 hb_ rfl rfl rfl), aW, aX, aY, aZ, aM, aN, aQ, aR, aT, aU, aV, Q_HB, bF, bH, bG, bL, bT, bV, bU, bZ, cG, bY, cF, cI⟩
       refine steps_cons ?_ ?_
       ·intro b a w' hR_
        refine hide_ (fun G_ hG_ => exVVVVVVVVVVVV_ hR_ (fun cO cQ cM cV cP cR cN cW dU cS cT cU hS_ => an25_ hS_ (fun ha aW aX aY aZ aM aN aQ aR aT aU aV Q_HB bF bH bG bL bT bV bU bZ cG bY cF cI => ?_)))
        refine hG_ ?_
        clear hG_ hR_ hS_
        intro hb_ hon hoff
        refine ⟨_, rfl, fun K hK => ?_⟩
        have fV : a.tmps[65]? = some (.bool (!true)) := by rw [ha]; exact putSel_on (e := (17, 65, .bool (!true))) 17 rfl rfl (hon 17 oK) rfl
        have e76 : a.tmps[76]? = some (.bool (!eJ)) := by rw [ha]; exact putSel_on (e := (28, 76, .bool (!eJ))) 28 rfl rfl (hon 28 oK) rfl
        replace ha := Aside0.mk ha
        obtain ⟨aJ, bD, bK, bM, aA, aD, aC, aE, aG, aH, aI, HB, cB, cH, cC, cK, dQ, eI, eD, eN⟩ := o2_ aW (o2_ aX (o2_ aY (o2_ aZ (o2_ aM (o2_ aN (o2_ aQ (o2_ aR (o2_ aT (o2_ aU (o2_ aV (o2_ Q_HB (o2_ (bF (hon 7 oK)) (o2_ (bH (hon 8 oK)) (o2_ (bG (hon 12 oK)) (o2_ (bL (hon 13 oK)) (o2_ (bT (hon 20 oK)) (o2_ (bV (hon 21 oK)) (o2_ (bU (hon 25 oK)) (o1_ (bZ (hon 26 oK)))))))))))))))))))))
        refine value_ (w1 := w') (v := .bool (!eJ)) (by rfl) rfl ?_ ?_
        ·go_simp
         (try simp only [i64_w])
         try rfl
        refine hK.out _ _ ⟨cO, cQ, cM, cV, cP, cR, cN, cW, dU, cS, cT, cU, (by rw [ha.out]; exact putSel_upk 29 hb_ rfl rfl rfl), aW, aX, aY, aZ, aM, aN, aQ, aR, aT, aU, aV, Q_HB, bF, bH, bG, bL, bT, bV, bU, bZ, cG, bY, cF, cI⟩
       exact steps_nil
      intro b a w93 hall hR_
      refine hide_ (fun G_ hG_ => exVVVVVVVVVVVV_ hR_ (fun cO cQ cM cV cP cR cN cW dU cS cT cU hS_ => an25_ hS_ (fun ha aW aX aY aZ aM aN aQ aR aT aU aV Q_HB bF bH bG bL bT bV bU bZ cG bY cF cI => ?_)))
      refine hG_ ?_
      clear hG_ hR_ hS_
      clear aA aD aC aE aG aH aI HB aJ bD bK bM
      have hb0_ := hall 0 oK
      have hb1_ := hall 1 oK
      have hb2_ := hall 2 oK
      have hb3_ := hall 3 oK
      have hb4_ := hall 4 oK
      have hb5_ := hall 5 oK
      have hb6_ := hall 6 oK
      have hb7_ := hall 7 oK
      have hb8_ := hall 8 oK
      have hb9_ := hall 9 oK
      have hb10_ := hall 10 oK
      have hb11_ := hall 11 oK
      have hb12_ := hall 12 oK
      have hb13_ := hall 13 oK
      have hb14_ := hall 14 oK
      have hb15_ := hall 15 oK
      have hb16_ := hall 16 oK
      have hb17_ := hall 17 oK
      have hb18_ := hall 18 oK
      have hb19_ := hall 19 oK
      have hb20_ := hall 20 oK
      have hb21_ := hall 21 oK
      have hb22_ := hall 22 oK
      have hb23_ := hall 23 oK
      have hb24_ := hall 24 oK
      have hb25_ := hall 25 oK
      have hb26_ := hall 26 oK
      have hb27_ := hall 27 oK
      have hb28_ := hall 28 oK
      have hb29_ := hall 29 oK
      subst ha
      obtain rfl := cG hb8_
      obtain rfl := bY hb13_
      obtain rfl := cF hb21_
      obtain rfl := cI hb26_
      simp only [putSel, hb0_, hb1_, hb2_, hb3_, hb4_, hb5_, hb6_, hb7_, hb8_, hb9_, hb10_, hb11_, hb12_, hb13_, hb14_, hb15_, hb16_, hb17_, hb18_, hb19_, hb20_, hb21_, hb22_, hb23_, hb24_, hb25_, hb26_, hb27_, hb28_, hb29_, if_true, Act.put, List.setIfInBounds_toArray, List.set_cons_zero, List.set_cons_succ]
      have aJ := Aside0.mk aW
      clear aW
      have bD := Aside0.mk aX
      clear aX
      have bK := Aside0.mk aY
      clear aY
      have bM := Aside0.mk aZ
      clear aZ
      have aA := Aside0.mk aM
      clear aM
      have aD := Aside0.mk aN
      clear aN
      have aC := Aside0.mk aQ
      clear aQ
      have aE := Aside0.mk aR
      clear aR
      have aG := Aside0.mk aT
      clear aT
      have aH := Aside0.mk aU
      clear aU
      have aI := Aside0.mk aV
      clear aV
      have HB := Aside0.mk Q_HB
      clear Q_HB
      have cB := Aside0.mk (bF hb7_)
      clear bF
      have cH := Aside0.mk (bH hb8_)
      clear bH
      have cC := Aside0.mk (bG hb12_)
      clear bG
      have cK := Aside0.mk (bL hb13_)
      clear bL
      have dQ := Aside0.mk (bT hb20_)
      clear bT
      have eI := Aside0.mk (bV hb21_)
      clear bV
      have eD := Aside0.mk (bU hb25_)
      clear bU
      have eN := Aside0.mk (bZ hb26_)
      clear bZ
      clear hall hb0_ hb1_ hb2_ hb3_ hb4_ hb5_ hb6_ hb7_ hb8_ hb9_ hb10_ hb11_ hb12_ hb13_ hb14_ hb15_ hb16_ hb17_ hb18_ hb19_ hb20_ hb21_ hb22_ hb23_ hb24_ hb25_ hb26_ hb27_ hb28_ hb29_
      try go_wp2
      go_meet
      case rel => exact ⟨_, (!eJ), oU, H', ⟨(by first | omega | exact Nat.le_refl _)⟩, ⟨(oQ aJ)⟩, ⟨(by (with_reducible repeat (first | apply Kd.V_alloc | apply Kd.V_drewN | apply Kd.V_drew)); exact Kd.V_mono bK.out oY)⟩, ⟨Kd.Q_of_R (oR bM)⟩, ⟨(oP aA)⟩, ⟨(oP aD)⟩, ⟨(oP aC)⟩, ⟨(oP aE)⟩, ⟨(oP aG)⟩, ⟨(oP aH)⟩, ⟨(oP aI)⟩, ⟨(oB HB)⟩⟩
     ·replace sZ := Bool.eq_false_iff.mpr sZ
      subst sZ
      have H1 : (laws_FnOpBlur.j0 k true bR bX bJ 6 0 0 0 0 dC dD cJ) = some r := by rw [if_neg (show ¬ (false = true) by decide)] at H; exact H
      exact nomatch (H1.symm.trans (laws_FnOpBlur.j0_true ..))
    ·replace lK := Bool.eq_false_iff.mpr lK
     subst lK
     have H1 : (laws_FnOpBlur.j0 k true bR bX bJ 6 0 0 0 0 dC dD cJ) = some r := by rw [if_neg (show ¬ (false = true) by decide)] at H; exact H
     exact nomatch (H1.symm.trans (laws_FnOpBlur.j0_true ..))
   case rest =>
    clear xV
    try clear c2
    try clear p2
    try clear c6
    try clear c21
    try clear lK
    obtain ⟨kq, iF, rfl, HA, kQ, bC, bE, bA, aA, aD, aC, aE, aG, aH, aI, HB⟩ := hcut
    cases kq with
    | zero => exact nomatch (show none = some _ from HA.out)
    | succ kj7 =>
     have H := HA.out
     clear HA
     simp only [laws_FnOpBlur.j0] at H
     by_cases iO : iF = true
     ·subst iO
      rw [if_pos rfl] at H
      exact absurd H (by simp)
     ·replace iO := Bool.eq_false_iff.mpr iO
      subst iO
      rw [if_neg (show ¬ (false = true) by decide)] at H
      have H' := Aside0.mk H
      clear H
      have yS := bN.out
      have aD7 := dM.out
      have yT := dJ.out
      have aD8 := dN.out
      have yU := dK.out
      have aD9 := dO.out
      have yV := dL.out
      have aE0 := dP.out
      have yW := dV.out
      have aE1 := dY.out
      have yX := dW.out
      have aE2 := dZ.out
      have hI : wc.cell? ⟨bB, 0, none⟩ = some (.int .i64 bR) := (blk_cell aA.out 0).trans rfl
      have hJ : wc.cell? ⟨bB, 1, none⟩ = some (.int .i64 bX) := (blk_cell aA.out 1).trans rfl
      have hL : wc.cell? ⟨bB, 2, none⟩ = some (.slice dG bJ.length cY) := (blk_cell aA.out 2).trans rfl
      have hP := blk_frozen aA.out 0
      have hQ := blk_frozen aA.out 1
      have hR := blk_frozen aA.out 2
      go_wp2_with (first | ((with_reducible refine gate_dst (N := 11) rfl ?_); (try (refine gate_guard (by rfl) ?_; dsimp only)); refine box_event rfl (N := 11) rfl (cs := #[.int .i64 0, .int .i64 0, .slice none 0 0]) (t := 25) oS ?_; intro dE hg lW hbox hb; have n_ := o2_ (Kd.Q_below (oQ bC) hb) (o2_ (Kd.V_below (Kd.V_elderB (oV bE) dE (Nat.le_of_eq hg.symm)) hb) (o2_ (Kd.Q_below (oQ bA) hb) (o2_ (blk_below (oP aA) hb) (o2_ (blk_below (oP aD) hb) (o2_ (blk_below (oP aC) hb) (o2_ (blk_below (oP aE) hb) (o2_ (blk_below (oP aG) hb) (o2_ (blk_below (oP aH) hb) (o2_ (blk_below (oP aI) hb) (o2_ (below_step (oB HB) hb) (o2_ (hbox) (o2_ ((oG hg (below_size (oB HB)) : w.heap.size ≤ dE)) (o2_ ((oG hg (below_size (oB HB)) : w.heap.size ≤ dE)) (o2_ ((oL hg (blk_lt (oP aA)))) (o2_ ((oN hg (blk_lt (oP aA)))) (o2_ ((oL hg (blk_lt (oP aD)))) (o2_ ((oN hg (blk_lt (oP aD)))) (o2_ ((oL hg (blk_lt (oP aC)))) (o2_ ((oN hg (blk_lt (oP aC)))) (o2_ ((oL hg (blk_lt (oP aE)))) (o2_ ((oN hg (blk_lt (oP aE)))) (o2_ ((oL hg (blk_lt (oP aG)))) (o2_ ((oN hg (blk_lt (oP aG)))) (o2_ ((oL hg (blk_lt (oP aH)))) (o2_ ((oN hg (blk_lt (oP aH)))) (o2_ ((oL hg (blk_lt (oP aI)))) (o1_ ((oN hg (blk_lt (oP aI))))))))))))))))))))))))))))))); clear bC bE bA aA aD aC aE aG aH aI HB; obtain ⟨bC, bE, bA, aA, aD, aC, aE, aG, aH, aI, HB, bP, aM6, aM3, dX, eA, gM, hA, gO, hB, gQ, hC, gS, hD, fQ, fR, gZ, hE⟩ := n_; clear hb hbox hg; have yY := eA.out; have aE3 := dX.out; have yZ := hA.out; have aE4 := gM.out; have zA := hB.out; have aE5 := gO.out; have zB := hC.out; have aE6 := gQ.out; have zC := hD.out; have aE7 := gS.out; have zD := fR.out; have aE8 := fQ.out; have zE := hE.out; have aE9 := gZ.out; have hM : lW.cell? ⟨dE, 0, none⟩ = some (.int .i64 0) := (blk_cell bP.out 0).trans rfl; have hN : lW.cell? ⟨dE, 1, none⟩ = some (.int .i64 0) := (blk_cell bP.out 1).trans rfl; have hO : lW.cell? ⟨dE, 2, none⟩ = some (.slice none 0 0) := (blk_cell bP.out 2).trans rfl; have hS := blk_frozen bP.out 0; have hT := blk_frozen bP.out 1; have hU := blk_frozen bP.out 2))
      go_loopg [12] kj7 (fun kq v12 w' => ∃ (dB : Int) (dF : List (S38)) (eH : Value), v12 = .int .i64 dB ∧ Aside0 (laws_FnOpBlur.l0 kq dB bR bX bJ 6 0 0 0 0 dC dD cJ bR bX dF = some r) ∧ Aside0 (kq ≤ kj7) ∧ Aside0 (Kd.Q k38 38 w' w.heap.size (fun k_ => some k_ ≠ ((.slice cX cL.length cZ) : Value).ownBlock ∧ some k_ ≠ (eH : Value).ownBlock) (.slice dG bJ.length cY) bJ) ∧ Aside0 (Kd.V k38 38 w' w.heap.size (fun k_ => some k_ ≠ ((.slice cX cL.length cZ) : Value).ownBlock ∧ some k_ ≠ (eH : Value).ownBlock ∧ k_ ≠ bB ∧ k_ ≠ bW ∧ k_ ≠ bI ∧ k_ ≠ bQ ∧ k_ ≠ bO ∧ k_ ≠ cA ∧ k_ ≠ bS ∧ k_ ≠ dE) (.slice dR cJ.length dT) cJ) ∧ Aside0 (Kd.Q k38 38 w' w.heap.size (fun k_ => some k_ ≠ ((.slice dG bJ.length cY) : Value).ownBlock ∧ some k_ ≠ (eH : Value).ownBlock) (.slice cX cL.length cZ) cL) ∧ Aside0 (Kd.Q k38 38 w' w.heap.size (fun k_ => some k_ ≠ ((.slice dG bJ.length cY) : Value).ownBlock ∧ some k_ ≠ ((.slice cX cL.length cZ) : Value).ownBlock) eH dF) ∧ Aside0 (w'.heap[bB]? = some (.cells #[.int .i64 bR, .int .i64 bX, (.slice dG bJ.length cY)] 25 (0, 0))) ∧ Aside0 (w'.heap[bW]? = some (.cells #[.int .i64 eY, .int .i64 eZ, .int .i64 fA, .int .i64 fB, .int .i64 fC] 27 (0, 0))) ∧ Aside0 (w'.heap[bI]? = some (.cells #[.int .i64 6, .int .i64 0, .int .i64 0, .int .i64 0, .int .i64 0] 27 (0, 0))) ∧ Aside0 (w'.heap[bQ]? = some (.cells #[.int .i64 4, .int .i64 0, .int .i64 0, .int .i64 0, .int .i64 0] 27 (0, 0))) ∧ Aside0 (w'.heap[bO]? = some (.cells #[.int .i64 2, .int .i64 0, .int .i64 0, .int .i64 0, .int .i64 0] 27 (0, 0))) ∧ Aside0 (w'.heap[cA]? = some (.cells #[.int .i64 dC, .int .i64 dD, (.slice dR cJ.length dT)] 25 (0, 0))) ∧ Aside0 (w'.heap[bS]? = some (.cells #[.int .i64 eB, .int .i64 eC, (.slice cX cL.length cZ)] 25 (0, 0))) ∧ Aside0 (w'.heap[dE]? = some (.cells #[.int .i64 bR, .int .i64 bX, eH] 25 (0, 0))) ∧ Aside0 (Below w.heap.size w w'))
      case atStart => exact ⟨(0), (([] : List (S38))), (.slice none 0 0), oU, H', ⟨Nat.le_refl _⟩, ⟨(by (with_reducible repeat (first | apply Kd.Q_alloc | apply Kd.Q_drewN | apply Kd.Q_drew)); exact Kd.Q_mono (Kd.Q_far (p := ⟨dE, 2, none⟩) (Kd.Q_far (p := ⟨dE, 1, none⟩) (Kd.Q_far (p := ⟨dE, 0, none⟩) (Kd.Q_types bC.out bP.out oD) (fun _ hk => hk.2) (.int .i64 bR)) (fun _ hk => hk.2) (.int .i64 bX)) (fun _ hk => hk.2) (.slice none 0 0)) (fun _ hk => ⟨hk.1, (by simp [Value.ownBlock])⟩))⟩, ⟨(by (with_reducible repeat (first | apply Kd.V_alloc | apply Kd.V_drewN | apply Kd.V_drew)); exact Kd.V_mono (Kd.V_far (p := ⟨dE, 2, none⟩) (Kd.V_far (p := ⟨dE, 1, none⟩) (Kd.V_far (p := ⟨dE, 0, none⟩) (Kd.V_mono bE.out (fun k_ hk => (⟨hk, hk.2⟩ : _ ∧ k_ ≠ dE))) (fun _ hk => hk.2) (.int .i64 bR)) (fun _ hk => hk.2) (.int .i64 bX)) (fun _ hk => hk.2) (.slice none 0 0)) (fun _ hk => ⟨hk.1.1.1, ⟨(by simp [Value.ownBlock]), ⟨hk.1.1.2.1, ⟨hk.1.1.2.2.1, ⟨hk.1.1.2.2.2.1, ⟨hk.1.1.2.2.2.2.1, ⟨hk.1.1.2.2.2.2.2.1, ⟨hk.1.1.2.2.2.2.2.2.1, ⟨hk.1.1.2.2.2.2.2.2.2, hk.1.2⟩⟩⟩⟩⟩⟩⟩⟩⟩))⟩, ⟨(by (with_reducible repeat (first | apply Kd.Q_alloc | apply Kd.Q_drewN | apply Kd.Q_drew)); exact Kd.Q_mono (Kd.Q_far (p := ⟨dE, 2, none⟩) (Kd.Q_far (p := ⟨dE, 1, none⟩) (Kd.Q_far (p := ⟨dE, 0, none⟩) (Kd.Q_types bA.out bP.out oD) (fun _ hk => hk.2) (.int .i64 bR)) (fun _ hk => hk.2) (.int .i64 bX)) (fun _ hk => hk.2) (.slice none 0 0)) (fun _ hk => ⟨hk.1, (by simp [Value.ownBlock])⟩))⟩, ⟨Kd.Q_of_R oZ⟩, ⟨(oP aA)⟩, ⟨(oP aD)⟩, ⟨(oP aC)⟩, ⟨(oP aE)⟩, ⟨(oP aG)⟩, ⟨(oP aH)⟩, ⟨(oP aI)⟩, ⟨(blk_put (blk_put (blk_put bP.out 0 _ rfl) 1 _ rfl) 2 _ rfl)⟩, ⟨(oB HB)⟩⟩
      case round =>
       clear H'
       try clear c1
       try clear c2
       try clear p2
       try clear c6
       try clear c11
       try clear c12
       try clear c21
       try clear lK
       try clear iO
       try clear c113
       try clear c114
       try clear c115
       try clear c116
       try clear c117
       try clear c118
       try clear c121
       try clear c122
       try clear c123
       try clear c124
       try clear c125
       try clear c126
       try clear c127
       try clear hI
       try clear hJ
       try clear hL
       try clear hM
       try clear hN
       try clear hO
       try clear hP
       try clear hQ
       try clear hR
       try clear hS
       try clear hT
       try clear hU
       try clear p2
       obtain ⟨dB, dF, eH, rfl, HA, HK2, bC, bE, bA, aK, aA, aD, aC, aE, aG, aH, aI, bP, HB⟩ := hrel
       cases gk with
       | zero => exact nomatch (show none = some _ from HA.out)
       | succ k2 =>
        have H := HA.out
        clear HA
        simp only [laws_FnOpBlur.l0] at H
        by_cases iB : dB < (bJ.length : Int)
        ·rw [if_pos iB] at H
         have iZ : decide (dB < (bJ.length : Int)) = true := decide_eq_true iB
         clear iB
         by_cases jA : 0 < (bJ.length : Int)
         ·rw [if_pos jA] at H
          have lF : decide (0 < (bJ.length : Int)) = true := decide_eq_true jA
          have lG : decide (0 < bJ.length) = true := decide_eq_true (by omega)
          clear jA
          by_cases jB : dF.length < 4398046511104
          ·rw [if_pos jB] at H
           have LMc131 := Aside0.mk jB
           clear jB
           obtain ⟨y600, hy600⟩ : ∃ y_ : List (S38), y_ = (dF ++ [(⟨(rd_T38 bJ 0).f0, (rd_T38 bJ 0).f1, (rd_T38 bJ 0).f2, (rd_T38 bJ 0).f3⟩ : S38)]) := ⟨_, rfl⟩
           replace H : (laws_FnOpBlur.l1 k2 dB 255 0 0 bR bX bJ 6 0 0 0 0 dC dD cJ bR bX y600) = some r := by first | (rw [hy600]; with_reducible exact H) | (have H2_ := (Option.bind_some _ _).symm.trans H; rw [hy600]; with_reducible exact H2_) | (have H2_ := (Option.bind_some _ _).symm.trans H; with_reducible exact H2_) | with_reducible exact H | (rw [hy600]; exact H) | exact H
           have nD := Aside0.mk hy600
           clear hy600
           have H' := Aside0.mk H
           clear H
           have zF := bN.out
           have aF0 := dM.out
           have zG := dJ.out
           have aF1 := dN.out
           have zH := dK.out
           have aF2 := dO.out
           have zI := dL.out
           have aF3 := dP.out
           have zJ := dV.out
           have aF4 := dY.out
           have zK := dW.out
           have aF5 := dZ.out
           have zL := dX.out
           have aF6 := eA.out
           have jF : wr.cell? ⟨bB, 0, none⟩ = some (.int .i64 bR) := (blk_cell aA.out 0).trans rfl
           have jG : wr.cell? ⟨bB, 1, none⟩ = some (.int .i64 bX) := (blk_cell aA.out 1).trans rfl
           have jH : wr.cell? ⟨bB, 2, none⟩ = some (.slice dG bJ.length cY) := (blk_cell aA.out 2).trans rfl
           have jI := blk_frozen aA.out 0
           have jJ := blk_frozen aA.out 1
           have jK := blk_frozen aA.out 2
           try go_wp2
           have n_ := o2_ (Kd.Q_drew bC.out) (o2_ (Kd.V_drew bE.out) (o2_ (Kd.Q_drew bA.out) (o2_ (Kd.Q_drew aK.out) (o2_ (blk_drew aA.out) (o2_ (blk_drew aD.out) (o2_ (blk_drew aC.out) (o2_ (blk_drew aE.out) (o2_ (blk_drew aG.out) (o2_ (blk_drew aH.out) (o2_ (blk_drew aI.out) (o2_ (blk_drew bP.out) (o1_ (below_drew1 HB.out)))))))))))))
           clear bC bE bA aK aA aD aC aE aG aH aI bP HB
           obtain ⟨bC, bE, bA, aK, aA, aD, aC, aE, aG, aH, aI, bP, HB⟩ := n_
           have kG : 0 ≤ (0 : Int) := (by omega)
           have kH : 0 < (bJ.length : Int) := of_decide_eq_true oM
           obtain ⟨dH, yG, eR, eS, eT, eU⟩ := at_T38 (Kd.Q_reads' bC.out).2.2 0 kG kH
           cases yG
           have qi599 : (0 < bJ.length) = True := eq_true (by omega)
           (try rw [show ((0 : Int)).toNat = 0 from rfl] at eR)
           (try rw [show 0 * 4 = 0 from rfl] at eR)
           (try rw [Addr.add_zero'] at eR)
           (try rw [show ((0 : Int)).toNat = 0 from rfl] at eS)
           (try rw [show 0 * 4 = 0 from rfl] at eS)
           (try rw [Addr.add_zero'] at eS)
           (try rw [show ((0 : Int)).toNat = 0 from rfl] at eT)
           (try rw [show 0 * 4 = 0 from rfl] at eT)
           (try rw [Addr.add_zero'] at eT)
           (try rw [show ((0 : Int)).toNat = 0 from rfl] at eU)
           (try rw [show 0 * 4 = 0 from rfl] at eU)
           (try rw [Addr.add_zero'] at eU)
           replace kG := eq_true kG
           replace kH := eq_true kH
           refine start_ (n := 10) (S := fun w' => w'.cell? ⟨dE, 0, none⟩ = some (.int .i64 bR) ∧ w'.cell? ⟨dE, 1, none⟩ = some (.int .i64 bX) ∧ w'.cell? ⟨dE, 2, none⟩ = some (eH) ∧ w'.cell? ⟨bB, 0, none⟩ = some (.int .i64 bR) ∧ w'.cell? ⟨bB, 1, none⟩ = some (.int .i64 bX) ∧ w'.cell? ⟨bB, 2, none⟩ = some (.slice (some dH) bJ.length cY) ∧ w'.cell? dH = some (.int .i64 ((rd_T38 bJ 0).f0)) ∧ w'.cell? ⟨dH.block, dH.off + 1, none⟩ = some (.int .i64 ((rd_T38 bJ 0).f1)) ∧ w'.cell? ⟨dH.block, dH.off + 2, none⟩ = some (.int .i64 ((rd_T38 bJ 0).f2)) ∧ w'.cell? ⟨dH.block, dH.off + 3, none⟩ = some (.int .i64 ((rd_T38 bJ 0).f3))) (ds := [7, 9]) #[false, false, false, false, false, false, false, false, false, false] oK rfl rfl ⟨(blk_cell bP.out 0).trans rfl, (blk_cell bP.out 1).trans rfl, (blk_cell bP.out 2).trans rfl, (blk_cell aA.out 0).trans rfl, (blk_cell aA.out 1).trans rfl, (blk_cell aA.out 2).trans rfl, eR, eS, eT, eU⟩ (fun hHeld => ?_); refine with_tabW laws_FnOpBlur.tab17 laws_FnOpBlur.bits17 (fun HT_ HW_ => ?_)
           generalize wr.drew = aT9 at bC bE bA aK aA aD aC aE aG aH aI bP HB eR eS eT eU hHeld ⊢
           refine pure_ (i := 0) (N := some 90) (v := ?_) (a' := ?_) #[true, false, false, false, false, false, false, false, false, false] rfl rfl (any_of HT_.out oK) (fun _ _ _ h => h) (Or.inl ⟨by rfl, ?_⟩) ?_ ?_
           rotate_left
           ·intro w'
            go_simp
            with_reducible rfl
           rotate_left
           ·exact oT
           refine pure_ (i := 2) (N := some 92) (v := ?_) (a' := ?_) #[true, false, true, false, false, false, false, false, false, false] rfl rfl (any_of HT_.out oK) (fun _ _ _ h => h) (Or.inl ⟨by rfl, ?_⟩) ?_ ?_
           rotate_left
           ·intro w'
            go_simp
            with_reducible rfl
           rotate_left
           ·exact oT
           refine take_ (i := 1) (N := some 91) (v := ?_) (a' := ?_) #[true, true, true, false, false, false, false, false, false, false] rfl rfl (take_ofW HT_.out HW_.out oK) (fun _ _ _ h => h) (Or.inl ⟨by rfl, ?_⟩) hHeld ?_ ?_
           rotate_left
           ·rintro w' ⟨s0, s1, s2, s3, s4, s5, s6, s7, s8, s9⟩
            go_simp
            with_reducible rfl
           rotate_left
           ·exact oT
           refine take_ (i := 3) (N := some 93) (v := ?_) (a' := ?_) #[true, true, true, true, false, false, false, false, false, false] rfl rfl (take_ofW HT_.out HW_.out oK) (fun _ _ _ h => h) (Or.inl ⟨by rfl, ?_⟩) hHeld ?_ ?_
           rotate_left
           ·rintro w' ⟨s0, s1, s2, s3, s4, s5, s6, s7, s8, s9⟩
            go_simp
            with_reducible rfl
           rotate_left
           ·exact oT
           refine pure_ (i := 4) (N := some 94) (v := ?_) (a' := ?_) #[true, true, true, true, true, false, false, false, false, false] rfl rfl (any_of HT_.out oK) (fun _ _ _ h => h) (Or.inl ⟨by rfl, ?_⟩) ?_ ?_
           rotate_left
           ·intro w'
            go_simp
            with_reducible rfl
           rotate_left
           ·exact oT
           refine take_ (i := 5) (N := some 95) (v := ?_) (a' := ?_) #[true, true, true, true, true, true, false, false, false, false] rfl rfl (take_ofW HT_.out HW_.out oK) (fun _ _ _ h => h) (Or.inl ⟨by rfl, ?_⟩) hHeld ?_ ?_
           rotate_left
           ·rintro w' ⟨s0, s1, s2, s3, s4, s5, s6, s7, s8, s9⟩
            go_simp
            with_reducible rfl
           rotate_left
           ·exact oT
           refine one_ (i := 6) (N := some 96) #[true, true, true, true, true, true, true, false, false, false] rfl rfl (one_of HT_.out oK) oD (fun K hK => ?_)
           refine value_ (w1 := ?_) (v := ?_) (by rfl) rfl ?_ ?_
           rotate_left 2
           ·go_simp
            constructor
            ·rfl
            ·rfl
           refine hK.out _ _ ⟨(blk_cell (blk_alloc bP.out _) 0).trans rfl, (blk_cell (blk_alloc bP.out _) 1).trans rfl, (blk_cell (blk_alloc bP.out _) 2).trans rfl, (blk_cell (blk_alloc aA.out _) 0).trans rfl, (blk_cell (blk_alloc aA.out _) 1).trans rfl, (blk_cell (blk_alloc aA.out _) 2).trans rfl, (World.cell?_alloc_lt _ _ _ (World.block_lt_of_cell? _ _ (hHeld.2.2.2.2.2.2.1))).trans (hHeld.2.2.2.2.2.2.1), (World.cell?_alloc_lt _ _ _ (World.block_lt_of_cell? _ _ (hHeld.2.2.2.2.2.2.2.1))).trans (hHeld.2.2.2.2.2.2.2.1), (World.cell?_alloc_lt _ _ _ (World.block_lt_of_cell? _ _ (hHeld.2.2.2.2.2.2.2.2.1))).trans (hHeld.2.2.2.2.2.2.2.2.1), (World.cell?_alloc_lt _ _ _ (World.block_lt_of_cell? _ _ (hHeld.2.2.2.2.2.2.2.2.2))).trans (hHeld.2.2.2.2.2.2.2.2.2)⟩ (fun hHeld => ?_)
           clear hK K
           refine norm_ (a' := ?_) ?_ ?_
           rotate_left
           ·show Act.put _ (some 96) _ = _
            exact oT
           refine last_ (i := 7) (N := some 97) #[true, true, true, true, true, true, true, true, false, false] rfl rfl (one_of HT_.out oK) oD (fun K hK => ?_)
           refine Kd.Q_append_step k38 (w0 := w) w.heap.size (by rfl) (.tmp 91) (.tmp 96) 23 38 (.agg #[(.int .i64 0), (.int .i64 0), (.int .i64 0), (.int .i64 0)]) 32 rfl Try.underlying23 info38 rfl oD (by omega) eH dF (⟨(rd_T38 bJ 0).f0, (rd_T38 bJ 0).f1, (rd_T38 bJ 0).f2, (rd_T38 bJ 0).f3⟩ : S38) [.int .i64 ((rd_T38 bJ 0).f0), .int .i64 ((rd_T38 bJ 0).f1), .int .i64 ((rd_T38 bJ 0).f2), .int .i64 ((rd_T38 bJ 0).f3)] (fun k_ => some k_ ≠ (.slice (some dH) bJ.length cY : Value).ownBlock ∧ some k_ ≠ (.slice cX cL.length cZ : Value).ownBlock) (fun _ => False) rfl rfl ?aP (fun _ hk => hk.elim) ?aF ?aO ?aB ?aS ?aL ?_
           (case aP => exact k38_mkM _ _ _ (⟨(rd_T38 bJ 0).f0, (rd_T38 bJ 0).f1, (rd_T38 bJ 0).f2, (rd_T38 bJ 0).f3⟩ : S38))
           (case aB => exact (oB HB))
           (case aF => exact (fun k_ hk => ⟨Kd.fresh' (Kd.Q_lt (oQ bC)) k_ hk, Kd.fresh' (Kd.Q_lt (oQ bA)) k_ hk⟩))
           (case aO => exact (oQ aK))
           (case aS => exact (below_size (oB HB)))
           (case aL => have := LMc131.out; omega)
           intro aT7 aL0 ho hb hg hat
           rw [← nD.out] at ho
           have n_ := o2_ (Kd.Q_after (ok := (fun k_ => some k_ ≠ (.slice cX cL.length cZ : Value).ownBlock)) (oQ bC) hg hat) (o2_ (Kd.V_afterv (ok := (fun k_ => some k_ ≠ (.slice cX cL.length cZ : Value).ownBlock ∧ k_ ≠ bB ∧ k_ ≠ bW ∧ k_ ≠ bI ∧ k_ ≠ bQ ∧ k_ ≠ bO ∧ k_ ≠ cA ∧ k_ ≠ bS ∧ k_ ≠ dE)) (by (with_reducible repeat (first | apply Kd.V_alloc | apply Kd.V_drewN | apply Kd.V_drew)); exact Kd.V_mono bE.out (fun _ hk => ⟨⟨hk.1, ⟨hk.2.2.1, ⟨hk.2.2.2.1, ⟨hk.2.2.2.2.1, ⟨hk.2.2.2.2.2.1, ⟨hk.2.2.2.2.2.2.1, ⟨hk.2.2.2.2.2.2.2.1, ⟨hk.2.2.2.2.2.2.2.2.1, hk.2.2.2.2.2.2.2.2.2⟩⟩⟩⟩⟩⟩⟩⟩, hk.2.1⟩)) hg hat) (o2_ (Kd.Q_after (ok := (fun k_ => some k_ ≠ (.slice (some dH) bJ.length cY : Value).ownBlock)) (oQ bA) hg hat) (o2_ (blk_grown (oP aA) hg (Kd.Q_ne aK.out aA.out oD)) (o2_ (blk_grown (oP aD) hg (Kd.Q_ne aK.out aD.out oD)) (o2_ (blk_grown (oP aC) hg (Kd.Q_ne aK.out aC.out oD)) (o2_ (blk_grown (oP aE) hg (Kd.Q_ne aK.out aE.out oD)) (o2_ (blk_grown (oP aG) hg (Kd.Q_ne aK.out aG.out oD)) (o2_ (blk_grown (oP aH) hg (Kd.Q_ne aK.out aH.out oD)) (o2_ (blk_grown (oP aI) hg (Kd.Q_ne aK.out aI.out oD)) (o2_ (blk_grown (oP bP) hg (Kd.Q_ne aK.out bP.out oD)) (o2_ (hb) (o1_ (ho)))))))))))))
           clear bC bE bA aA aD aC aE aG aH aI bP HB aK
           obtain ⟨bC, bE, bA, aA, aD, aC, aE, aG, aH, aI, bP, HB, kR⟩ := n_
           clear ho hb hg hat
           obtain ⟨eV, eW, kY, _⟩ := Kd.Q_slice kR.out
           (first | subst kY | (injection kY with f1_ f2_ f3_; have f4_ := f1_.symm; have f5_ := f3_.symm; clear f1_ f2_ f3_; subst f4_; subst f5_))
           refine hK.out _ _ ?_
           clear hK K
           refine norm_ (a' := ?_) ?_ ?_
           rotate_left
           ·show Act.put _ (some 97) _ = _
            exact oT
           refine pure_ (i := 8) (N := some 98) (v := ?_) (a' := ?_) #[true, true, true, true, true, true, true, true, true, false] rfl rfl (any_of HT_.out oK) (fun _ _ _ h => h) (Or.inl ⟨by rfl, ?_⟩) ?_ ?_
           rotate_left
           ·intro w'
            go_simp
            with_reducible rfl
           rotate_left
           ·exact oT
           refine last_ (i := 9) (N := none) #[true, true, true, true, true, true, true, true, true, true] rfl rfl (one_of HT_.out oK) oD (fun K hK => ?_)
           have hs143 : aL0.cell? ⟨dE, 2, none⟩ = some (eH) := (blk_cell bP.out 2).trans rfl
           have hfs143 := blk_frozen bP.out 2
           have hns143_0 := dX.out
           have hns143_1 := gM.out
           have hns143_2 := gO.out
           have hns143_3 := gQ.out
           have hns143_4 := gS.out
           have hns143_5 := fQ.out
           have hns143_6 := gZ.out
           have hms143_0 := eA.out
           have hms143_1 := hA.out
           have hms143_2 := hB.out
           have hms143_3 := hC.out
           have hms143_4 := hD.out
           have hms143_5 := fR.out
           have hms143_6 := hE.out
           refine skip_ (w1 := ?_) (by rfl) rfl ?_ ?_
           rotate_left
           ·go_simp
            rfl
           refine hK.out _ _ ?_
           clear hK K
           refine done_ (done_of HT_.out oK) ?_
           try go_wp2
           go_loopg [13, 14, 15] k2 (fun kq v13 v14 v15 w' => ∃ (eX : Int) (eQ : Int) (dA : Int), v13 = .int .i64 eX ∧ v14 = .int .i64 eQ ∧ v15 = .int .i64 dA ∧ Aside0 (laws_FnOpBlur.l1 kq dB eX eQ dA bR bX bJ 6 0 0 0 0 dC dD cJ bR bX y600 = some r) ∧ Aside0 (kq ≤ k2) ∧ Aside0 (Kd.Q k38 38 w' w.heap.size (fun k_ => some k_ ≠ ((.slice cX cL.length cZ) : Value).ownBlock ∧ some k_ ≠ ((.slice eV y600.length eW) : Value).ownBlock) (.slice (some dH) bJ.length cY) bJ) ∧ Aside0 (Kd.V k38 38 w' w.heap.size (fun k_ => some k_ ≠ ((.slice cX cL.length cZ) : Value).ownBlock ∧ some k_ ≠ ((.slice eV y600.length eW) : Value).ownBlock ∧ k_ ≠ bB ∧ k_ ≠ bW ∧ k_ ≠ bI ∧ k_ ≠ bQ ∧ k_ ≠ bO ∧ k_ ≠ cA ∧ k_ ≠ bS ∧ k_ ≠ dE) (.slice dR cJ.length dT) cJ) ∧ Aside0 (Kd.Q k38 38 w' w.heap.size (fun k_ => some k_ ≠ ((.slice (some dH) bJ.length cY) : Value).ownBlock ∧ some k_ ≠ ((.slice eV y600.length eW) : Value).ownBlock) (.slice cX cL.length cZ) cL) ∧ Aside0 (Kd.Q k38 38 w' w.heap.size (fun k_ => some k_ ≠ ((.slice (some dH) bJ.length cY) : Value).ownBlock ∧ some k_ ≠ ((.slice cX cL.length cZ) : Value).ownBlock) (.slice eV y600.length eW) y600) ∧ Aside0 (w'.heap[bB]? = some (.cells #[.int .i64 bR, .int .i64 bX, (.slice (some dH) bJ.length cY)] 25 (0, 0))) ∧ Aside0 (w'.heap[bW]? = some (.cells #[.int .i64 eY, .int .i64 eZ, .int .i64 fA, .int .i64 fB, .int .i64 fC] 27 (0, 0))) ∧ Aside0 (w'.heap[bI]? = some (.cells #[.int .i64 6, .int .i64 0, .int .i64 0, .int .i64 0, .int .i64 0] 27 (0, 0))) ∧ Aside0 (w'.heap[bQ]? = some (.cells #[.int .i64 4, .int .i64 0, .int .i64 0, .int .i64 0, .int .i64 0] 27 (0, 0))) ∧ Aside0 (w'.heap[bO]? = some (.cells #[.int .i64 2, .int .i64 0, .int .i64 0, .int .i64 0, .int .i64 0] 27 (0, 0))) ∧ Aside0 (w'.heap[cA]? = some (.cells #[.int .i64 dC, .int .i64 dD, (.slice dR cJ.length dT)] 25 (0, 0))) ∧ Aside0 (w'.heap[bS]? = some (.cells #[.int .i64 eB, .int .i64 eC, (.slice cX cL.length cZ)] 25 (0, 0))) ∧ Aside0 (w'.heap[dE]? = some (.cells #[.int .i64 bR, .int .i64 bX, (.slice eV y600.length eW)] 25 (0, 0))) ∧ Aside0 (Below w.heap.size w w'))
           case atStart => exact ⟨(255), (0), (0), oU, oU, oU, H', ⟨Nat.le_refl _⟩, ⟨(by (with_reducible repeat (first | apply Kd.Q_alloc | apply Kd.Q_drewN | apply Kd.Q_drew)); exact Kd.Q_mono (Kd.Q_far (p := ⟨dE, 2, none⟩) (Kd.Q_types bC.out bP.out oD) (fun _ hk => hk.2) (.slice eV y600.length eW)) oY)⟩, ⟨(by (with_reducible repeat (first | apply Kd.V_alloc | apply Kd.V_drewN | apply Kd.V_drew)); exact Kd.V_mono (Kd.V_far (p := ⟨dE, 2, none⟩) (Kd.V_mono bE.out (fun k_ hk => (⟨hk, hk.1.2.2.2.2.2.2.2.2⟩ : _ ∧ k_ ≠ dE))) (fun _ hk => hk.2) (.slice eV y600.length eW)) oY)⟩, ⟨(by (with_reducible repeat (first | apply Kd.Q_alloc | apply Kd.Q_drewN | apply Kd.Q_drew)); exact Kd.Q_mono (Kd.Q_far (p := ⟨dE, 2, none⟩) (Kd.Q_types bA.out bP.out oD) (fun _ hk => hk.2) (.slice eV y600.length eW)) oY)⟩, ⟨(by (with_reducible repeat (first | apply Kd.Q_alloc | apply Kd.Q_drewN | apply Kd.Q_drew)); exact Kd.Q_mono (Kd.Q_far (p := ⟨dE, 2, none⟩) (Kd.Q_types kR.out bP.out oD) (fun _ hk => hk.2) (.slice eV y600.length eW)) oY)⟩, ⟨(oP aA)⟩, ⟨(oP aD)⟩, ⟨(oP aC)⟩, ⟨(oP aE)⟩, ⟨(oP aG)⟩, ⟨(oP aH)⟩, ⟨(oP aI)⟩, ⟨(blk_put bP.out 2 _ rfl)⟩, ⟨(oB HB)⟩⟩
           case round =>
            clear H'
            try clear c1
            try clear c2
            try clear p2
            try clear p5
            try clear q5
            try clear hx5
            try clear qi5
            try clear c6
            try clear c11
            try clear c12
            try clear c13
            try clear c21
            try clear p59
            try clear q59
            try clear hx59
            try clear qi59
            try clear lK
            try clear iO
            try clear c113
            try clear c114
            try clear c115
            try clear c116
            try clear c117
            try clear c118
            try clear c121
            try clear c122
            try clear c123
            try clear c124
            try clear c125
            try clear c126
            try clear c127
            try clear iB
            try clear iZ
            try clear jA
            try clear lF
            try clear lG
            try clear jB
            try clear c132
            try clear c133
            try clear c134
            try clear c135
            try clear c136
            try clear c137
            try clear c138
            try clear hI
            try clear hJ
            try clear hL
            try clear hM
            try clear hN
            try clear hO
            try clear jF
            try clear jG
            try clear jH
            try clear hP
            try clear hQ
            try clear hR
            try clear hS
            try clear hT
            try clear hU
            try clear jI
            try clear jJ
            try clear jK
            try clear eR
            try clear eS
            try clear eT
            try clear eU
            try clear p2
            try clear kG
            try clear kH
            obtain ⟨eX, eQ, dA, rfl, rfl, rfl, HA, HK3, bC, bE, bA, aK, aA, aD, aC, aE, aG, aH, aI, bP, HB⟩ := hrel
            cases gk with
            | zero => exact nomatch (show none = some _ from HA.out)
            | succ k3 =>
             have H := HA.out
             clear HA
             simp only [laws_FnOpBlur.l1] at H
             by_cases iP : dA < (bJ.length : Int)
             ·rw [if_pos iP] at H
              have lH : decide (dA < (bJ.length : Int)) = true := decide_eq_true iP
              clear iP
              by_cases jZ : bR = 0
              ·rw [if_pos jZ] at H
               exact absurd H (by simp)
              ·rw [if_neg jZ] at H
               have xW : (bR == 0) = false := beq_eq_false_iff_ne.mpr jZ
               have xX : (bR != 0) = true := bne_iff_ne.mpr jZ
               by_cases iQ : (wrap64 ((wrap64 ((Int.tmod dA bR) - (Int.tmod dB bR))) * (wrap64 ((Int.tmod dA bR) - (Int.tmod dB bR))))) ≤ 1
               ·rw [if_pos iQ] at H
                have lI : decide ((wrap64 ((wrap64 ((Int.tmod dA bR) - (Int.tmod dB bR))) * (wrap64 ((Int.tmod dA bR) - (Int.tmod dB bR))))) ≤ 1) = true := decide_eq_true iQ
                clear iQ
                by_cases iR : (wrap64 ((wrap64 ((wrap64 (Int.tdiv dA bR)) - (wrap64 (Int.tdiv dB bR)))) * (wrap64 ((wrap64 (Int.tdiv dA bR)) - (wrap64 (Int.tdiv dB bR)))))) ≤ 1
                ·rw [if_pos iR] at H
                 have lJ : decide ((wrap64 ((wrap64 ((wrap64 (Int.tdiv dA bR)) - (wrap64 (Int.tdiv dB bR)))) * (wrap64 ((wrap64 (Int.tdiv dA bR)) - (wrap64 (Int.tdiv dB bR)))))) ≤ 1) = true := decide_eq_true iR
                 clear iR
                 by_cases kA : 0 ≤ dA
                 ·rw [if_pos kA] at H
                  have xY : decide (0 ≤ dA) = true := decide_eq_true kA
                  clear kA
                  obtain ⟨ji149, hji149⟩ : ∃ j_ : Int, (mn eX ((rd_T38 bJ dA).f1)) = j_ := ⟨_, rfl⟩
                  replace H : (laws_FnOpBlur.l1 k3 dB ji149 (mx eQ ((rd_T38 bJ dA).f1)) (wrap64 (dA + 1)) bR bX bJ 6 0 0 0 0 dC dD cJ bR bX y600) = some r := by first | (rw [hji149] at H; exact H) | (simp only [hji149] at H ⊢; exact H)
                  have wX : (if ((rd_T38 bJ dA).f1) < eX then ((rd_T38 bJ dA).f1) else eX) = ji149 := hji149
                  obtain ⟨ji150, hji150⟩ : ∃ j_ : Int, (mx eQ ((rd_T38 bJ dA).f1)) = j_ := ⟨_, rfl⟩
                  replace H : (laws_FnOpBlur.l1 k3 dB ji149 ji150 (wrap64 (dA + 1)) bR bX bJ 6 0 0 0 0 dC dD cJ bR bX y600) = some r := by first | (rw [hji150] at H; exact H) | (simp only [hji150] at H ⊢; exact H)
                  have wY : (if eQ < ((rd_T38 bJ dA).f1) then ((rd_T38 bJ dA).f1) else eQ) = ji150 := hji150
                  have H' := Aside0.mk H
                  clear H
                  have zM := bN.out
                  have aF7 := dM.out
                  have zN := dJ.out
                  have aF8 := dN.out
                  have zO := dK.out
                  have aF9 := dO.out
                  have zP := dL.out
                  have aG0 := dP.out
                  have zQ := dV.out
                  have aG1 := dY.out
                  have zR := dW.out
                  have aG2 := dZ.out
                  have zS := dX.out
                  have aG3 := eA.out
                  have pA : wr.cell? ⟨bB, 0, none⟩ = some (.int .i64 bR) := (blk_cell aA.out 0).trans rfl
                  have pB : wr.cell? ⟨bB, 1, none⟩ = some (.int .i64 bX) := (blk_cell aA.out 1).trans rfl
                  have pC : wr.cell? ⟨bB, 2, none⟩ = some (.slice (some dH) bJ.length cY) := (blk_cell aA.out 2).trans rfl
                  have qY := blk_frozen aA.out 0
                  have qZ := blk_frozen aA.out 1
                  have rA := blk_frozen aA.out 2
                  try go_wp2
                  have n_ := o2_ (Kd.Q_drew bC.out) (o2_ (Kd.V_drew bE.out) (o2_ (Kd.Q_drew bA.out) (o2_ (Kd.Q_drew aK.out) (o2_ (blk_drew aA.out) (o2_ (blk_drew aD.out) (o2_ (blk_drew aC.out) (o2_ (blk_drew aE.out) (o2_ (blk_drew aG.out) (o2_ (blk_drew aH.out) (o2_ (blk_drew aI.out) (o2_ (blk_drew bP.out) (o1_ (below_drew1 HB.out)))))))))))))
                  clear bC bE bA aK aA aD aC aE aG aH aI bP HB
                  obtain ⟨bC, bE, bA, aK, aA, aD, aC, aE, aG, aH, aI, bP, HB⟩ := n_
                  refine start_ (n := 10) (S := fun w' => w'.cell? ⟨bB, 0, none⟩ = some (.int .i64 bR) ∧ w'.cell? ⟨bB, 1, none⟩ = some (.int .i64 bX) ∧ w'.cell? ⟨bB, 2, none⟩ = some (.slice (some dH) bJ.length cY)) (ds := []) #[false, false, false, false, false, false, false, false, false, false] oK rfl rfl ⟨(blk_cell aA.out 0).trans rfl, (blk_cell aA.out 1).trans rfl, (blk_cell aA.out 2).trans rfl⟩ (fun hHeld => ?_); refine with_tabW laws_FnOpBlur.tab23 laws_FnOpBlur.bits23 (fun HT_ HW_ => ?_)
                  generalize wr.drew = aL1 at bC bE bA aK aA aD aC aE aG aH aI bP HB hHeld ⊢
                  refine pure_ (i := 0) (N := some 106) (v := ?_) (a' := ?_) #[true, false, false, false, false, false, false, false, false, false] rfl rfl (any_of HT_.out oK) (fun _ _ _ h => h) (Or.inl ⟨by rfl, ?_⟩) ?_ ?_
                  rotate_left
                  ·intro w'
                   go_simp
                   with_reducible rfl
                  rotate_left
                  ·exact oT
                  refine pure_ (i := 1) (N := some 107) (v := ?_) (a' := ?_) #[true, true, false, false, false, false, false, false, false, false] rfl rfl (any_of HT_.out oK) (fun _ _ _ h => h) (Or.inl ⟨by rfl, ?_⟩) ?_ ?_
                  rotate_left
                  ·intro w'
                   go_simp
                   with_reducible rfl
                  rotate_left
                  ·exact oT
                  refine pure_ (i := 4) (N := some 110) (v := ?_) (a' := ?_) #[true, true, false, false, true, false, false, false, false, false] rfl rfl (any_of HT_.out oK) (fun _ _ _ h => h) (Or.inl ⟨by rfl, ?_⟩) ?_ ?_
                  rotate_left
                  ·intro w'
                   go_simp
                   with_reducible rfl
                  rotate_left
                  ·exact oT
                  refine pure_ (i := 5) (N := some 111) (v := ?_) (a' := ?_) #[true, true, false, false, true, true, false, false, false, false] rfl rfl (any_of HT_.out oK) (fun _ _ _ h => h) (Or.inl ⟨by rfl, ?_⟩) ?_ ?_
                  rotate_left
                  ·intro w'
                   go_simp
                   with_reducible rfl
                  rotate_left
                  ·exact oT
                  refine take_ (i := 2) (N := some 108) (v := ?_) (a' := ?_) #[true, true, true, false, true, true, false, false, false, false] rfl rfl (take_ofW HT_.out HW_.out oK) (fun _ _ _ h => h) (Or.inl ⟨by rfl, ?_⟩) hHeld ?_ ?_
                  rotate_left
                  ·rintro w' ⟨s0, s1, s2⟩
                   go_simp
                   with_reducible rfl
                  rotate_left
                  ·exact oT
                  refine pure_ (i := 3) (N := some 109) (v := ?_) (a' := ?_) #[true, true, true, true, true, true, false, false, false, false] rfl rfl (any_of HT_.out oK) (fun _ _ _ h => h) (Or.inl ⟨by rfl, ?_⟩) ?_ ?_
                  rotate_left
                  ·intro w'
                   go_simp
                   with_reducible rfl
                  rotate_left
                  ·exact oT
                  refine take_ (i := 6) (N := some 112) (v := ?_) (a' := ?_) #[true, true, true, true, true, true, true, false, false, false] rfl rfl (take_ofW HT_.out HW_.out oK) (fun _ _ _ h => h) (Or.inl ⟨by rfl, ?_⟩) hHeld ?_ ?_
                  rotate_left
                  ·rintro w' ⟨s0, s1, s2⟩
                   go_simp
                   with_reducible rfl
                  rotate_left
                  ·exact oT
                  refine pure_ (i := 7) (N := some 113) (v := ?_) (a' := ?_) #[true, true, true, true, true, true, true, true, false, false] rfl rfl (any_of HT_.out oK) (fun _ _ _ h => h) (Or.inl ⟨by rfl, ?_⟩) ?_ ?_
                  rotate_left
                  ·intro w'
                   go_simp
                   with_reducible rfl
                  rotate_left
                  ·exact oT
                  refine pure_ (i := 8) (N := some 114) (v := ?_) (a' := ?_) #[true, true, true, true, true, true, true, true, true, false] rfl rfl (any_of HT_.out oK) (fun _ _ _ h => h) (Or.inl ⟨by rfl, ?_⟩) ?_ ?_
                  rotate_left
                  ·intro w'
                   go_simp
                   with_reducible rfl
                  rotate_left
                  ·exact oT
                  refine pure_ (i := 9) (N := some 16) (v := ?_) (a' := ?_) #[true, true, true, true, true, true, true, true, true, true] rfl rfl (any_of HT_.out oK) (fun _ _ _ h => h) (Or.inl ⟨by rfl, ?_⟩) ?_ ?_
                  rotate_left
                  ·intro w'
                   go_simp
                   with_reducible rfl
                  rotate_left
                  ·exact oT
                  refine done_ (done_of HT_.out oK) ?_
                  try go_wp2
                  have n_ := o2_ (Kd.Q_drew bC.out) (o2_ (Kd.V_drew bE.out) (o2_ (Kd.Q_drew bA.out) (o2_ (Kd.Q_drew aK.out) (o2_ (blk_drew aA.out) (o2_ (blk_drew aD.out) (o2_ (blk_drew aC.out) (o2_ (blk_drew aE.out) (o2_ (blk_drew aG.out) (o2_ (blk_drew aH.out) (o2_ (blk_drew aI.out) (o2_ (blk_drew bP.out) (o1_ (below_drew1 HB.out)))))))))))))
                  clear bC bE bA aK aA aD aC aE aG aH aI bP HB
                  obtain ⟨bC, bE, bA, aK, aA, aD, aC, aE, aG, aH, aI, bP, HB⟩ := n_
                  refine start_ (n := 10) (S := fun w' => w'.cell? ⟨bB, 0, none⟩ = some (.int .i64 bR) ∧ w'.cell? ⟨bB, 1, none⟩ = some (.int .i64 bX) ∧ w'.cell? ⟨bB, 2, none⟩ = some (.slice (some dH) bJ.length cY)) (ds := []) #[false, false, false, false, false, false, false, false, false, false] oK rfl rfl ⟨(blk_cell aA.out 0).trans rfl, (blk_cell aA.out 1).trans rfl, (blk_cell aA.out 2).trans rfl⟩ (fun hHeld => ?_); refine with_tabW laws_FnOpBlur.tab24 laws_FnOpBlur.bits24 (fun HT_ HW_ => ?_)
                  generalize aL1.drew = lX at bC bE bA aK aA aD aC aE aG aH aI bP HB hHeld ⊢
                  refine pure_ (i := 0) (N := some 115) (v := ?_) (a' := ?_) #[true, false, false, false, false, false, false, false, false, false] rfl rfl (any_of HT_.out oK) (fun _ _ _ h => h) (Or.inl ⟨by rfl, ?_⟩) ?_ ?_
                  rotate_left
                  ·intro w'
                   go_simp
                   with_reducible rfl
                  rotate_left
                  ·exact oT
                  refine pure_ (i := 1) (N := some 116) (v := ?_) (a' := ?_) #[true, true, false, false, false, false, false, false, false, false] rfl rfl (any_of HT_.out oK) (fun _ _ _ h => h) (Or.inl ⟨by rfl, ?_⟩) ?_ ?_
                  rotate_left
                  ·intro w'
                   go_simp
                   with_reducible rfl
                  rotate_left
                  ·exact oT
                  refine pure_ (i := 4) (N := some 119) (v := ?_) (a' := ?_) #[true, true, false, false, true, false, false, false, false, false] rfl rfl (any_of HT_.out oK) (fun _ _ _ h => h) (Or.inl ⟨by rfl, ?_⟩) ?_ ?_
                  rotate_left
                  ·intro w'
                   go_simp
                   with_reducible rfl
                  rotate_left
                  ·exact oT
                  refine pure_ (i := 5) (N := some 120) (v := ?_) (a' := ?_) #[true, true, false, false, true, true, false, false, false, false] rfl rfl (any_of HT_.out oK) (fun _ _ _ h => h) (Or.inl ⟨by rfl, ?_⟩) ?_ ?_
                  rotate_left
                  ·intro w'
                   go_simp
                   with_reducible rfl
                  rotate_left
                  ·exact oT
                  refine take_ (i := 2) (N := some 117) (v := ?_) (a' := ?_) #[true, true, true, false, true, true, false, false, false, false] rfl rfl (take_ofW HT_.out HW_.out oK) (fun _ _ _ h => h) (Or.inl ⟨by rfl, ?_⟩) hHeld ?_ ?_
                  rotate_left
                  ·rintro w' ⟨s0, s1, s2⟩
                   go_simp
                   with_reducible rfl
                  rotate_left
                  ·exact oT
                  refine pure_ (i := 3) (N := some 118) (v := ?_) (a' := ?_) #[true, true, true, true, true, true, false, false, false, false] rfl rfl (any_of HT_.out oK) (fun _ _ _ h => h) (Or.inl ⟨by rfl, ?_⟩) ?_ ?_
                  rotate_left
                  ·intro w'
                   go_simp
                   with_reducible rfl
                  rotate_left
                  ·exact oT
                  refine take_ (i := 6) (N := some 121) (v := ?_) (a' := ?_) #[true, true, true, true, true, true, true, false, false, false] rfl rfl (take_ofW HT_.out HW_.out oK) (fun _ _ _ h => h) (Or.inl ⟨by rfl, ?_⟩) hHeld ?_ ?_
                  rotate_left
                  ·rintro w' ⟨s0, s1, s2⟩
                   go_simp
                   with_reducible rfl
                  rotate_left
                  ·exact oT
                  refine pure_ (i := 7) (N := some 122) (v := ?_) (a' := ?_) #[true, true, true, true, true, true, true, true, false, false] rfl rfl (any_of HT_.out oK) (fun _ _ _ h => h) (Or.inl ⟨by rfl, ?_⟩) ?_ ?_
                  rotate_left
                  ·intro w'
                   go_simp
                   with_reducible rfl
                  rotate_left
                  ·exact oT
                  refine pure_ (i := 8) (N := some 123) (v := ?_) (a' := ?_) #[true, true, true, true, true, true, true, true, true, false] rfl rfl (any_of HT_.out oK) (fun _ _ _ h => h) (Or.inl ⟨by rfl, ?_⟩) ?_ ?_
                  rotate_left
                  ·intro w'
                   go_simp
                   with_reducible rfl
                  rotate_left
                  ·exact oT
                  refine pure_ (i := 9) (N := some 17) (v := ?_) (a' := ?_) #[true, true, true, true, true, true, true, true, true, true] rfl rfl (any_of HT_.out oK) (fun _ _ _ h => h) (Or.inl ⟨by rfl, ?_⟩) ?_ ?_
                  rotate_left
                  ·intro w'
                   go_simp
                   with_reducible rfl
                  rotate_left
                  ·exact oT
                  refine done_ (done_of HT_.out oK) ?_
                  have pD : lX.cell? ⟨bB, 0, none⟩ = some (.int .i64 bR) := (blk_cell aA.out 0).trans rfl
                  have pE : lX.cell? ⟨bB, 1, none⟩ = some (.int .i64 bX) := (blk_cell aA.out 1).trans rfl
                  have pF : lX.cell? ⟨bB, 2, none⟩ = some (.slice (some dH) bJ.length cY) := (blk_cell aA.out 2).trans rfl
                  have rB := blk_frozen aA.out 0
                  have rC := blk_frozen aA.out 1
                  have rD := blk_frozen aA.out 2
                  have lL : 0 ≤ (dA : Int) := of_decide_eq_true oM
                  have lP : dA < (bJ.length : Int) := of_decide_eq_true oM
                  obtain ⟨nE, yH, wZ, xA, xB, xC⟩ := at_T38 (Kd.Q_reads' bC.out).2.2 dA lL lP
                  obtain rfl : dH = nE := (by injection yH)
                  replace lL := eq_true lL
                  replace lP := eq_true lP
                  have lM : 0 ≤ (dA : Int) := of_decide_eq_true oM
                  have lQ : dA < (bJ.length : Int) := of_decide_eq_true oM
                  obtain ⟨nF, yI, xD, xE, xF, xG⟩ := at_T38 (Kd.Q_reads' bC.out).2.2 dA lM lQ
                  obtain rfl : dH = nF := (by injection yI)
                  replace lM := eq_true lM
                  replace lQ := eq_true lQ
                  try go_wp2
                  go_roundg k3
                  case measure => have := kQ.out; have := HK2.out; have := HK3.out; omega
                  case rel => exact ⟨(ji149), (ji150), (wrap64 (dA + 1)), (by first | rfl | (simp; done) | (simp only [← hji149] <;> (first | rfl | simp)) | (simp [*]; done)), (by first | rfl | (simp; done) | (simp only [← hji150] <;> (first | rfl | simp)) | (simp [*]; done)), oU, H', ⟨(by have := kQ.out; have := HK2.out; have := HK3.out; omega)⟩, ⟨(oQ bC)⟩, ⟨(oV bE)⟩, ⟨(oQ bA)⟩, ⟨(oQ aK)⟩, ⟨(oP aA)⟩, ⟨(oP aD)⟩, ⟨(oP aC)⟩, ⟨(oP aE)⟩, ⟨(oP aG)⟩, ⟨(oP aH)⟩, ⟨(oP aI)⟩, ⟨(oP bP)⟩, ⟨(oB HB)⟩⟩
                 ·rw [if_neg kA] at H
                  exact absurd H (by simp)
                ·rw [if_neg iR] at H
                 have lJ : decide ((wrap64 ((wrap64 ((wrap64 (Int.tdiv dA bR)) - (wrap64 (Int.tdiv dB bR)))) * (wrap64 ((wrap64 (Int.tdiv dA bR)) - (wrap64 (Int.tdiv dB bR)))))) ≤ 1) = false := decide_eq_false iR
                 clear iR
                 have H' := Aside0.mk H
                 clear H
                 have zT := bN.out
                 have aG4 := dM.out
                 have zU := dJ.out
                 have aG5 := dN.out
                 have zV := dK.out
                 have aG6 := dO.out
                 have zW := dL.out
                 have aG7 := dP.out
                 have zX := dV.out
                 have aG8 := dY.out
                 have zY := dW.out
                 have aG9 := dZ.out
                 have zZ := dX.out
                 have aH0 := eA.out
                 have pG : wr.cell? ⟨bB, 0, none⟩ = some (.int .i64 bR) := (blk_cell aA.out 0).trans rfl
                 have pH : wr.cell? ⟨bB, 1, none⟩ = some (.int .i64 bX) := (blk_cell aA.out 1).trans rfl
                 have pI : wr.cell? ⟨bB, 2, none⟩ = some (.slice (some dH) bJ.length cY) := (blk_cell aA.out 2).trans rfl
                 have rE := blk_frozen aA.out 0
                 have rF := blk_frozen aA.out 1
                 have rG := blk_frozen aA.out 2
                 try go_wp2
                 have n_ := o2_ (Kd.Q_drew bC.out) (o2_ (Kd.V_drew bE.out) (o2_ (Kd.Q_drew bA.out) (o2_ (Kd.Q_drew aK.out) (o2_ (blk_drew aA.out) (o2_ (blk_drew aD.out) (o2_ (blk_drew aC.out) (o2_ (blk_drew aE.out) (o2_ (blk_drew aG.out) (o2_ (blk_drew aH.out) (o2_ (blk_drew aI.out) (o2_ (blk_drew bP.out) (o1_ (below_drew1 HB.out)))))))))))))
                 clear bC bE bA aK aA aD aC aE aG aH aI bP HB
                 obtain ⟨bC, bE, bA, aK, aA, aD, aC, aE, aG, aH, aI, bP, HB⟩ := n_
                 refine start_ (n := 10) (S := fun w' => w'.cell? ⟨bB, 0, none⟩ = some (.int .i64 bR) ∧ w'.cell? ⟨bB, 1, none⟩ = some (.int .i64 bX) ∧ w'.cell? ⟨bB, 2, none⟩ = some (.slice (some dH) bJ.length cY)) (ds := []) #[false, false, false, false, false, false, false, false, false, false] oK rfl rfl ⟨(blk_cell aA.out 0).trans rfl, (blk_cell aA.out 1).trans rfl, (blk_cell aA.out 2).trans rfl⟩ (fun hHeld => ?_); refine with_tabW laws_FnOpBlur.tab23 laws_FnOpBlur.bits23 (fun HT_ HW_ => ?_)
                 generalize wr.drew = aL2 at bC bE bA aK aA aD aC aE aG aH aI bP HB hHeld ⊢
                 refine pure_ (i := 0) (N := some 106) (v := ?_) (a' := ?_) #[true, false, false, false, false, false, false, false, false, false] rfl rfl (any_of HT_.out oK) (fun _ _ _ h => h) (Or.inl ⟨by rfl, ?_⟩) ?_ ?_
                 rotate_left
                 ·intro w'
                  go_simp
                  with_reducible rfl
                 rotate_left
                 ·exact oT
                 refine pure_ (i := 1) (N := some 107) (v := ?_) (a' := ?_) #[true, true, false, false, false, false, false, false, false, false] rfl rfl (any_of HT_.out oK) (fun _ _ _ h => h) (Or.inl ⟨by rfl, ?_⟩) ?_ ?_
                 rotate_left
                 ·intro w'
                  go_simp
                  with_reducible rfl
                 rotate_left
                 ·exact oT
                 refine pure_ (i := 4) (N := some 110) (v := ?_) (a' := ?_) #[true, true, false, false, true, false, false, false, false, false] rfl rfl (any_of HT_.out oK) (fun _ _ _ h => h) (Or.inl ⟨by rfl, ?_⟩) ?_ ?_
                 rotate_left
                 ·intro w'
                  go_simp
                  with_reducible rfl
                 rotate_left
                 ·exact oT
                 refine pure_ (i := 5) (N := some 111) (v := ?_) (a' := ?_) #[true, true, false, false, true, true, false, false, false, false] rfl rfl (any_of HT_.out oK) (fun _ _ _ h => h) (Or.inl ⟨by rfl, ?_⟩) ?_ ?_
                 rotate_left
                 ·intro w'
                  go_simp
                  with_reducible rfl
                 rotate_left
                 ·exact oT
                 refine take_ (i := 2) (N := some 108) (v := ?_) (a' := ?_) #[true, true, true, false, true, true, false, false, false, false] rfl rfl (take_ofW HT_.out HW_.out oK) (fun _ _ _ h => h) (Or.inl ⟨by rfl, ?_⟩) hHeld ?_ ?_
                 rotate_left
                 ·rintro w' ⟨s0, s1, s2⟩
                  go_simp
                  with_reducible rfl
                 rotate_left
                 ·exact oT
                 refine pure_ (i := 3) (N := some 109) (v := ?_) (a' := ?_) #[true, true, true, true, true, true, false, false, false, false] rfl rfl (any_of HT_.out oK) (fun _ _ _ h => h) (Or.inl ⟨by rfl, ?_⟩) ?_ ?_
                 rotate_left
                 ·intro w'
                  go_simp
                  with_reducible rfl
                 rotate_left
                 ·exact oT
                 refine take_ (i := 6) (N := some 112) (v := ?_) (a' := ?_) #[true, true, true, true, true, true, true, false, false, false] rfl rfl (take_ofW HT_.out HW_.out oK) (fun _ _ _ h => h) (Or.inl ⟨by rfl, ?_⟩) hHeld ?_ ?_
                 rotate_left
                 ·rintro w' ⟨s0, s1, s2⟩
                  go_simp
                  with_reducible rfl
                 rotate_left
                 ·exact oT
                 refine pure_ (i := 7) (N := some 113) (v := ?_) (a' := ?_) #[true, true, true, true, true, true, true, true, false, false] rfl rfl (any_of HT_.out oK) (fun _ _ _ h => h) (Or.inl ⟨by rfl, ?_⟩) ?_ ?_
                 rotate_left
                 ·intro w'
                  go_simp
                  with_reducible rfl
                 rotate_left
                 ·exact oT
                 refine pure_ (i := 8) (N := some 114) (v := ?_) (a' := ?_) #[true, true, true, true, true, true, true, true, true, false] rfl rfl (any_of HT_.out oK) (fun _ _ _ h => h) (Or.inl ⟨by rfl, ?_⟩) ?_ ?_
                 rotate_left
                 ·intro w'
                  go_simp
                  with_reducible rfl
                 rotate_left
                 ·exact oT
                 refine pure_ (i := 9) (N := some 16) (v := ?_) (a' := ?_) #[true, true, true, true, true, true, true, true, true, true] rfl rfl (any_of HT_.out oK) (fun _ _ _ h => h) (Or.inl ⟨by rfl, ?_⟩) ?_ ?_
                 rotate_left
                 ·intro w'
                  go_simp
                  with_reducible rfl
                 rotate_left
                 ·exact oT
                 refine done_ (done_of HT_.out oK) ?_
                 try go_wp2
                 have n_ := o2_ (Kd.Q_drew bC.out) (o2_ (Kd.V_drew bE.out) (o2_ (Kd.Q_drew bA.out) (o2_ (Kd.Q_drew aK.out) (o2_ (blk_drew aA.out) (o2_ (blk_drew aD.out) (o2_ (blk_drew aC.out) (o2_ (blk_drew aE.out) (o2_ (blk_drew aG.out) (o2_ (blk_drew aH.out) (o2_ (blk_drew aI.out) (o2_ (blk_drew bP.out) (o1_ (below_drew1 HB.out)))))))))))))
                 clear bC bE bA aK aA aD aC aE aG aH aI bP HB
                 obtain ⟨bC, bE, bA, aK, aA, aD, aC, aE, aG, aH, aI, bP, HB⟩ := n_
                 refine start_ (n := 10) (S := fun w' => w'.cell? ⟨bB, 0, none⟩ = some (.int .i64 bR) ∧ w'.cell? ⟨bB, 1, none⟩ = some (.int .i64 bX) ∧ w'.cell? ⟨bB, 2, none⟩ = some (.slice (some dH) bJ.length cY)) (ds := []) #[false, false, false, false, false, false, false, false, false, false] oK rfl rfl ⟨(blk_cell aA.out 0).trans rfl, (blk_cell aA.out 1).trans rfl, (blk_cell aA.out 2).trans rfl⟩ (fun hHeld => ?_); refine with_tabW laws_FnOpBlur.tab24 laws_FnOpBlur.bits24 (fun HT_ HW_ => ?_)
                 generalize aL2.drew = aU0 at bC bE bA aK aA aD aC aE aG aH aI bP HB hHeld ⊢
                 refine pure_ (i := 0) (N := some 115) (v := ?_) (a' := ?_) #[true, false, false, false, false, false, false, false, false, false] rfl rfl (any_of HT_.out oK) (fun _ _ _ h => h) (Or.inl ⟨by rfl, ?_⟩) ?_ ?_
                 rotate_left
                 ·intro w'
                  go_simp
                  with_reducible rfl
                 rotate_left
                 ·exact oT
                 refine pure_ (i := 1) (N := some 116) (v := ?_) (a' := ?_) #[true, true, false, false, false, false, false, false, false, false] rfl rfl (any_of HT_.out oK) (fun _ _ _ h => h) (Or.inl ⟨by rfl, ?_⟩) ?_ ?_
                 rotate_left
                 ·intro w'
                  go_simp
                  with_reducible rfl
                 rotate_left
                 ·exact oT
                 refine pure_ (i := 4) (N := some 119) (v := ?_) (a' := ?_) #[true, true, false, false, true, false, false, false, false, false] rfl rfl (any_of HT_.out oK) (fun _ _ _ h => h) (Or.inl ⟨by rfl, ?_⟩) ?_ ?_
                 rotate_left
                 ·intro w'
                  go_simp
                  with_reducible rfl
                 rotate_left
                 ·exact oT
                 refine pure_ (i := 5) (N := some 120) (v := ?_) (a' := ?_) #[true, true, false, false, true, true, false, false, false, false] rfl rfl (any_of HT_.out oK) (fun _ _ _ h => h) (Or.inl ⟨by rfl, ?_⟩) ?_ ?_
                 rotate_left
                 ·intro w'
                  go_simp
                  with_reducible rfl
                 rotate_left
                 ·exact oT
                 refine take_ (i := 2) (N := some 117) (v := ?_) (a' := ?_) #[true, true, true, false, true, true, false, false, false, false] rfl rfl (take_ofW HT_.out HW_.out oK) (fun _ _ _ h => h) (Or.inl ⟨by rfl, ?_⟩) hHeld ?_ ?_
                 rotate_left
                 ·rintro w' ⟨s0, s1, s2⟩
                  go_simp
                  with_reducible rfl
                 rotate_left
                 ·exact oT
                 refine pure_ (i := 3) (N := some 118) (v := ?_) (a' := ?_) #[true, true, true, true, true, true, false, false, false, false] rfl rfl (any_of HT_.out oK) (fun _ _ _ h => h) (Or.inl ⟨by rfl, ?_⟩) ?_ ?_
                 rotate_left
                 ·intro w'
                  go_simp
                  with_reducible rfl
                 rotate_left
                 ·exact oT
                 refine take_ (i := 6) (N := some 121) (v := ?_) (a' := ?_) #[true, true, true, true, true, true, true, false, false, false] rfl rfl (take_ofW HT_.out HW_.out oK) (fun _ _ _ h => h) (Or.inl ⟨by rfl, ?_⟩) hHeld ?_ ?_
                 rotate_left
                 ·rintro w' ⟨s0, s1, s2⟩
                  go_simp
                  with_reducible rfl
                 rotate_left
                 ·exact oT
                 refine pure_ (i := 7) (N := some 122) (v := ?_) (a' := ?_) #[true, true, true, true, true, true, true, true, false, false] rfl rfl (any_of HT_.out oK) (fun _ _ _ h => h) (Or.inl ⟨by rfl, ?_⟩) ?_ ?_
                 rotate_left
                 ·intro w'
                  go_simp
                  with_reducible rfl
                 rotate_left
                 ·exact oT
                 refine pure_ (i := 8) (N := some 123) (v := ?_) (a' := ?_) #[true, true, true, true, true, true, true, true, true, false] rfl rfl (any_of HT_.out oK) (fun _ _ _ h => h) (Or.inl ⟨by rfl, ?_⟩) ?_ ?_
                 rotate_left
                 ·intro w'
                  go_simp
                  with_reducible rfl
                 rotate_left
                 ·exact oT
                 refine pure_ (i := 9) (N := some 17) (v := ?_) (a' := ?_) #[true, true, true, true, true, true, true, true, true, true] rfl rfl (any_of HT_.out oK) (fun _ _ _ h => h) (Or.inl ⟨by rfl, ?_⟩) ?_ ?_
                 rotate_left
                 ·intro w'
                  go_simp
                  with_reducible rfl
                 rotate_left
                 ·exact oT
                 refine done_ (done_of HT_.out oK) ?_
                 try go_wp2
                 go_roundg k3
                 case measure => have := kQ.out; have := HK2.out; have := HK3.out; omega
                 case rel => exact ⟨(eX), (eQ), (wrap64 (dA + 1)), oU, oU, oU, H', ⟨(by have := kQ.out; have := HK2.out; have := HK3.out; omega)⟩, ⟨(oQ bC)⟩, ⟨(oV bE)⟩, ⟨(oQ bA)⟩, ⟨(oQ aK)⟩, ⟨(oP aA)⟩, ⟨(oP aD)⟩, ⟨(oP aC)⟩, ⟨(oP aE)⟩, ⟨(oP aG)⟩, ⟨(oP aH)⟩, ⟨(oP aI)⟩, ⟨(oP bP)⟩, ⟨(oB HB)⟩⟩
               ·rw [if_neg iQ] at H
                have lI : decide ((wrap64 ((wrap64 ((Int.tmod dA bR) - (Int.tmod dB bR))) * (wrap64 ((Int.tmod dA bR) - (Int.tmod dB bR))))) ≤ 1) = false := decide_eq_false iQ
                clear iQ
                have H' := Aside0.mk H
                clear H
                have aA0 := bN.out
                have aH1 := dM.out
                have aA1 := dJ.out
                have aH2 := dN.out
                have aA2 := dK.out
                have aH3 := dO.out
                have aA3 := dL.out
                have aH4 := dP.out
                have aA4 := dV.out
                have aH5 := dY.out
                have aA5 := dW.out
                have aH6 := dZ.out
                have aA6 := dX.out
                have aH7 := eA.out
                have pJ : wr.cell? ⟨bB, 0, none⟩ = some (.int .i64 bR) := (blk_cell aA.out 0).trans rfl
                have pK : wr.cell? ⟨bB, 1, none⟩ = some (.int .i64 bX) := (blk_cell aA.out 1).trans rfl
                have pL : wr.cell? ⟨bB, 2, none⟩ = some (.slice (some dH) bJ.length cY) := (blk_cell aA.out 2).trans rfl
                have rH := blk_frozen aA.out 0
                have rI := blk_frozen aA.out 1
                have rJ := blk_frozen aA.out 2
                try go_wp2
                have n_ := o2_ (Kd.Q_drew bC.out) (o2_ (Kd.V_drew bE.out) (o2_ (Kd.Q_drew bA.out) (o2_ (Kd.Q_drew aK.out) (o2_ (blk_drew aA.out) (o2_ (blk_drew aD.out) (o2_ (blk_drew aC.out) (o2_ (blk_drew aE.out) (o2_ (blk_drew aG.out) (o2_ (blk_drew aH.out) (o2_ (blk_drew aI.out) (o2_ (blk_drew bP.out) (o1_ (below_drew1 HB.out)))))))))))))
                clear bC bE bA aK aA aD aC aE aG aH aI bP HB
                obtain ⟨bC, bE, bA, aK, aA, aD, aC, aE, aG, aH, aI, bP, HB⟩ := n_
                refine start_ (n := 10) (S := fun w' => w'.cell? ⟨bB, 0, none⟩ = some (.int .i64 bR) ∧ w'.cell? ⟨bB, 1, none⟩ = some (.int .i64 bX) ∧ w'.cell? ⟨bB, 2, none⟩ = some (.slice (some dH) bJ.length cY)) (ds := []) #[false, false, false, false, false, false, false, false, false, false] oK rfl rfl ⟨(blk_cell aA.out 0).trans rfl, (blk_cell aA.out 1).trans rfl, (blk_cell aA.out 2).trans rfl⟩ (fun hHeld => ?_); refine with_tabW laws_FnOpBlur.tab23 laws_FnOpBlur.bits23 (fun HT_ HW_ => ?_)
                generalize wr.drew = aL3 at bC bE bA aK aA aD aC aE aG aH aI bP HB hHeld ⊢
                refine pure_ (i := 0) (N := some 106) (v := ?_) (a' := ?_) #[true, false, false, false, false, false, false, false, false, false] rfl rfl (any_of HT_.out oK) (fun _ _ _ h => h) (Or.inl ⟨by rfl, ?_⟩) ?_ ?_
                rotate_left
                ·intro w'
                 go_simp
                 with_reducible rfl
                rotate_left
                ·exact oT
                refine pure_ (i := 1) (N := some 107) (v := ?_) (a' := ?_) #[true, true, false, false, false, false, false, false, false, false] rfl rfl (any_of HT_.out oK) (fun _ _ _ h => h) (Or.inl ⟨by rfl, ?_⟩) ?_ ?_
                rotate_left
                ·intro w'
                 go_simp
                 with_reducible rfl
                rotate_left
                ·exact oT
                refine pure_ (i := 4) (N := some 110) (v := ?_) (a' := ?_) #[true, true, false, false, true, false, false, false, false, false] rfl rfl (any_of HT_.out oK) (fun _ _ _ h => h) (Or.inl ⟨by rfl, ?_⟩) ?_ ?_
                rotate_left
                ·intro w'
                 go_simp
                 with_reducible rfl
                rotate_left
                ·exact oT
                refine pure_ (i := 5) (N := some 111) (v := ?_) (a' := ?_) #[true, true, false, false, true, true, false, false, false, false] rfl rfl (any_of HT_.out oK) (fun _ _ _ h => h) (Or.inl ⟨by rfl, ?_⟩) ?_ ?_
                rotate_left
                ·intro w'
                 go_simp
                 with_reducible rfl
                rotate_left
                ·exact oT
                refine take_ (i := 2) (N := some 108) (v := ?_) (a' := ?_) #[true, true, true, false, true, true, false, false, false, false] rfl rfl (take_ofW HT_.out HW_.out oK) (fun _ _ _ h => h) (Or.inl ⟨by rfl, ?_⟩) hHeld ?_ ?_
                rotate_left
                ·rintro w' ⟨s0, s1, s2⟩
                 go_simp
                 with_reducible rfl
                rotate_left
                ·exact oT
                refine pure_ (i := 3) (N := some 109) (v := ?_) (a' := ?_) #[true, true, true, true, true, true, false, false, false, false] rfl rfl (any_of HT_.out oK) (fun _ _ _ h => h) (Or.inl ⟨by rfl, ?_⟩) ?_ ?_
                rotate_left
                ·intro w'
                 go_simp
                 with_reducible rfl
                rotate_left
                ·exact oT
                refine take_ (i := 6) (N := some 112) (v := ?_) (a' := ?_) #[true, true, true, true, true, true, true, false, false, false] rfl rfl (take_ofW HT_.out HW_.out oK) (fun _ _ _ h => h) (Or.inl ⟨by rfl, ?_⟩) hHeld ?_ ?_
                rotate_left
                ·rintro w' ⟨s0, s1, s2⟩
                 go_simp
                 with_reducible rfl
                rotate_left
                ·exact oT
                refine pure_ (i := 7) (N := some 113) (v := ?_) (a' := ?_) #[true, true, true, true, true, true, true, true, false, false] rfl rfl (any_of HT_.out oK) (fun _ _ _ h => h) (Or.inl ⟨by rfl, ?_⟩) ?_ ?_
                rotate_left
                ·intro w'
                 go_simp
                 with_reducible rfl
                rotate_left
                ·exact oT
                refine pure_ (i := 8) (N := some 114) (v := ?_) (a' := ?_) #[true, true, true, true, true, true, true, true, true, false] rfl rfl (any_of HT_.out oK) (fun _ _ _ h => h) (Or.inl ⟨by rfl, ?_⟩) ?_ ?_
                rotate_left
                ·intro w'
                 go_simp
                 with_reducible rfl
                rotate_left
                ·exact oT
                refine pure_ (i := 9) (N := some 16) (v := ?_) (a' := ?_) #[true, true, true, true, true, true, true, true, true, true] rfl rfl (any_of HT_.out oK) (fun _ _ _ h => h) (Or.inl ⟨by rfl, ?_⟩) ?_ ?_
                rotate_left
                ·intro w'
                 go_simp
                 with_reducible rfl
                rotate_left
                ·exact oT
                refine done_ (done_of HT_.out oK) ?_
                try go_wp2
                have n_ := o2_ (Kd.Q_drew bC.out) (o2_ (Kd.V_drew bE.out) (o2_ (Kd.Q_drew bA.out) (o2_ (Kd.Q_drew aK.out) (o2_ (blk_drew aA.out) (o2_ (blk_drew aD.out) (o2_ (blk_drew aC.out) (o2_ (blk_drew aE.out) (o2_ (blk_drew aG.out) (o2_ (blk_drew aH.out) (o2_ (blk_drew aI.out) (o2_ (blk_drew bP.out) (o1_ (below_drew1 HB.out)))))))))))))
                clear bC bE bA aK aA aD aC aE aG aH aI bP HB
                obtain ⟨bC, bE, bA, aK, aA, aD, aC, aE, aG, aH, aI, bP, HB⟩ := n_
                refine start_ (n := 10) (S := fun w' => w'.cell? ⟨bB, 0, none⟩ = some (.int .i64 bR) ∧ w'.cell? ⟨bB, 1, none⟩ = some (.int .i64 bX) ∧ w'.cell? ⟨bB, 2, none⟩ = some (.slice (some dH) bJ.length cY)) (ds := []) #[false, false, false, false, false, false, false, false, false, false] oK rfl rfl ⟨(blk_cell aA.out 0).trans rfl, (blk_cell aA.out 1).trans rfl, (blk_cell aA.out 2).trans rfl⟩ (fun hHeld => ?_); refine with_tabW laws_FnOpBlur.tab24 laws_FnOpBlur.bits24 (fun HT_ HW_ => ?_)
                generalize aL3.drew = aU1 at bC bE bA aK aA aD aC aE aG aH aI bP HB hHeld ⊢
                refine pure_ (i := 0) (N := some 115) (v := ?_) (a' := ?_) #[true, false, false, false, false, false, false, false, false, false] rfl rfl (any_of HT_.out oK) (fun _ _ _ h => h) (Or.inl ⟨by rfl, ?_⟩) ?_ ?_
                rotate_left
                ·intro w'
                 go_simp
                 with_reducible rfl
                rotate_left
                ·exact oT
                refine pure_ (i := 1) (N := some 116) (v := ?_) (a' := ?_) #[true, true, false, false, false, false, false, false, false, false] rfl rfl (any_of HT_.out oK) (fun _ _ _ h => h) (Or.inl ⟨by rfl, ?_⟩) ?_ ?_
                rotate_left
                ·intro w'
                 go_simp
                 with_reducible rfl
                rotate_left
                ·exact oT
                refine pure_ (i := 4) (N := some 119) (v := ?_) (a' := ?_) #[true, true, false, false, true, false, false, false, false, false] rfl rfl (any_of HT_.out oK) (fun _ _ _ h => h) (Or.inl ⟨by rfl, ?_⟩) ?_ ?_
                rotate_left
                ·intro w'
                 go_simp
                 with_reducible rfl
                rotate_left
                ·exact oT
                refine pure_ (i := 5) (N := some 120) (v := ?_) (a' := ?_) #[true, true, false, false, true, true, false, false, false, false] rfl rfl (any_of HT_.out oK) (fun _ _ _ h => h) (Or.inl ⟨by rfl, ?_⟩) ?_ ?_
                rotate_left
                ·intro w'
                 go_simp
                 with_reducible rfl
                rotate_left
                ·exact oT
                refine take_ (i := 2) (N := some 117) (v := ?_) (a' := ?_) #[true, true, true, false, true, true, false, false, false, false] rfl rfl (take_ofW HT_.out HW_.out oK) (fun _ _ _ h => h) (Or.inl ⟨by rfl, ?_⟩) hHeld ?_ ?_
                rotate_left
                ·rintro w' ⟨s0, s1, s2⟩
                 go_simp
                 with_reducible rfl
                rotate_left
                ·exact oT
                refine pure_ (i := 3) (N := some 118) (v := ?_) (a' := ?_) #[true, true, true, true, true, true, false, false, false, false] rfl rfl (any_of HT_.out oK) (fun _ _ _ h => h) (Or.inl ⟨by rfl, ?_⟩) ?_ ?_
                rotate_left
                ·intro w'
                 go_simp
                 with_reducible rfl
                rotate_left
                ·exact oT
                refine take_ (i := 6) (N := some 121) (v := ?_) (a' := ?_) #[true, true, true, true, true, true, true, false, false, false] rfl rfl (take_ofW HT_.out HW_.out oK) (fun _ _ _ h => h) (Or.inl ⟨by rfl, ?_⟩) hHeld ?_ ?_
                rotate_left
                ·rintro w' ⟨s0, s1, s2⟩
                 go_simp
                 with_reducible rfl
                rotate_left
                ·exact oT
                refine pure_ (i := 7) (N := some 122) (v := ?_) (a' := ?_) #[true, true, true, true, true, true, true, true, false, false] rfl rfl (any_of HT_.out oK) (fun _ _ _ h => h) (Or.inl ⟨by rfl, ?_⟩) ?_ ?_
                rotate_left
                ·intro w'
                 go_simp
                 with_reducible rfl
                rotate_left
                ·exact oT
                refine pure_ (i := 8) (N := some 123) (v := ?_) (a' := ?_) #[true, true, true, true, true, true, true, true, true, false] rfl rfl (any_of HT_.out oK) (fun _ _ _ h => h) (Or.inl ⟨by rfl, ?_⟩) ?_ ?_
                rotate_left
                ·intro w'
                 go_simp
                 with_reducible rfl
                rotate_left
                ·exact oT
                refine pure_ (i := 9) (N := some 17) (v := ?_) (a' := ?_) #[true, true, true, true, true, true, true, true, true, true] rfl rfl (any_of HT_.out oK) (fun _ _ _ h => h) (Or.inl ⟨by rfl, ?_⟩) ?_ ?_
                rotate_left
                ·intro w'
                 go_simp
                 with_reducible rfl
                rotate_left
                ·exact oT
                refine done_ (done_of HT_.out oK) ?_
                try go_wp2
                go_roundg k3
                case measure => have := kQ.out; have := HK2.out; have := HK3.out; omega
                case rel => exact ⟨(eX), (eQ), (wrap64 (dA + 1)), oU, oU, oU, H', ⟨(by have := kQ.out; have := HK2.out; have := HK3.out; omega)⟩, ⟨(oQ bC)⟩, ⟨(oV bE)⟩, ⟨(oQ bA)⟩, ⟨(oQ aK)⟩, ⟨(oP aA)⟩, ⟨(oP aD)⟩, ⟨(oP aC)⟩, ⟨(oP aE)⟩, ⟨(oP aG)⟩, ⟨(oP aH)⟩, ⟨(oP aI)⟩, ⟨(oP bP)⟩, ⟨(oB HB)⟩⟩
             ·rw [if_neg iP] at H
              have lH : decide (dA < (bJ.length : Int)) = false := decide_eq_false iP
              clear iP
              by_cases kB : 0 ≤ dB
              ·rw [if_pos kB] at H
               have xZ : decide (0 ≤ dB) = true := decide_eq_true kB
               clear kB
               by_cases kC : dB < (cJ.length : Int)
               ·rw [if_pos kC] at H
                have yA : decide (dB < (cJ.length : Int)) = true := decide_eq_true kC
                clear kC
                by_cases kD : ((rd_T38 cJ dB).f1) < eX
                ·rw [if_pos kD] at H
                 exact absurd H (by simp)
                ·rw [if_neg kD] at H
                 have yB : decide (((rd_T38 cJ dB).f1) < eX) = false := decide_eq_false kD
                 clear kD
                 by_cases kE : ((rd_T38 cJ dB).f1) > eQ
                 ·rw [if_pos kE] at H
                  exact absurd H (by simp)
                 ·rw [if_neg kE] at H
                  have yC : decide (eQ < ((rd_T38 cJ dB).f1)) = false := decide_eq_false kE
                  clear kE
                  have H' := Aside0.mk H
                  clear H
                  have aA7 := bN.out
                  have aH8 := dM.out
                  have aA8 := dJ.out
                  have aH9 := dN.out
                  have aA9 := dK.out
                  have aI0 := dO.out
                  have aB0 := dL.out
                  have aI1 := dP.out
                  have aB1 := dV.out
                  have aI2 := dY.out
                  have aB2 := dW.out
                  have aI3 := dZ.out
                  have aB3 := dX.out
                  have aI4 := eA.out
                  have pM : wr.cell? ⟨bB, 0, none⟩ = some (.int .i64 bR) := (blk_cell aA.out 0).trans rfl
                  have pN : wr.cell? ⟨bB, 1, none⟩ = some (.int .i64 bX) := (blk_cell aA.out 1).trans rfl
                  have pO : wr.cell? ⟨bB, 2, none⟩ = some (.slice (some dH) bJ.length cY) := (blk_cell aA.out 2).trans rfl
                  have rK := blk_frozen aA.out 0
                  have rL := blk_frozen aA.out 1
                  have rM := blk_frozen aA.out 2
                  have aB4 := gT.out
                  have aI5 := gL.out
                  have aB5 := gU.out
                  have aI6 := gN.out
                  have aB6 := gV.out
                  have aI7 := gP.out
                  have aB7 := gW.out
                  have aI8 := gR.out
                  have aB8 := gX.out
                  have aI9 := gY.out
                  have aB9 := fQ.out
                  have aJ0 := fR.out
                  have pP : wr.cell? ⟨cA, 0, none⟩ = some (.int .i64 dC) := (blk_cell aH.out 0).trans rfl
                  have pQ : wr.cell? ⟨cA, 1, none⟩ = some (.int .i64 dD) := (blk_cell aH.out 1).trans rfl
                  have pR : wr.cell? ⟨cA, 2, none⟩ = some (.slice dR cJ.length dT) := (blk_cell aH.out 2).trans rfl
                  have rN := blk_frozen aH.out 0
                  have rO := blk_frozen aH.out 1
                  have rP := blk_frozen aH.out 2
                  have lN : 0 ≤ (dB : Int) := of_decide_eq_true oM
                  have lR : dB < (cJ.length : Int) := of_decide_eq_true oM
                  obtain ⟨nG, yJ, xH, xI, xJ, xK⟩ := at_T38 (Kd.V_reads' bE.out).2.2 dB lN lR
                  cases yJ
                  replace lN := eq_true lN
                  replace lR := eq_true lR
                  have lO : 0 ≤ (dB : Int) := of_decide_eq_true oM
                  have lS : dB < (cJ.length : Int) := of_decide_eq_true oM
                  obtain ⟨nH, yK, xL, xM, xN, xO⟩ := at_T38 (Kd.V_reads' bE.out).2.2 dB lO lS
                  obtain rfl : nG = nH := (by injection yK)
                  replace lO := eq_true lO
                  replace lS := eq_true lS
                  go_wp2
                  go_roundg k3
                  case measure => have := kQ.out; have := HK2.out; have := HK3.out; omega
                  case rel => exact ⟨(wrap64 (dB + 1)), (y600), (.slice eV y600.length eW), oU, H', ⟨(by have := kQ.out; have := HK2.out; have := HK3.out; omega)⟩, ⟨(oQ bC)⟩, ⟨(oV bE)⟩, ⟨(oQ bA)⟩, ⟨(oQ aK)⟩, ⟨(oP aA)⟩, ⟨(oP aD)⟩, ⟨(oP aC)⟩, ⟨(oP aE)⟩, ⟨(oP aG)⟩, ⟨(oP aH)⟩, ⟨(oP aI)⟩, ⟨(oP bP)⟩, ⟨(oB HB)⟩⟩
               ·rw [if_neg kC] at H
                exact absurd H (by simp)
              ·rw [if_neg kB] at H
               exact absurd H (by simp)
          ·rw [if_neg jB] at H
           exact absurd H (by simp)
         ·rw [if_neg jA] at H
          exact absurd H (by simp)
        ·rw [if_neg iB] at H
         have iZ : decide (dB < (bJ.length : Int)) = false := decide_eq_false iB
         clear iB
         obtain ⟨y590, hy590⟩ : ∃ y_ : List (S27), y_ = (([(⟨6, 0, 0, 0, 0⟩ : S27)] : List (S27))) := ⟨_, rfl⟩
         replace H : ((laws_eaDo.f k2 bR bX dF y590).bind fun fT => ((laws_eaRas.f k2 fT.1 fT.2.1 fT.2.2 bR bX dF).bind fun jU => (some jU))) = some r := by first | (rw [hy590]; with_reducible exact H) | (have H2_ := (Option.bind_some _ _).symm.trans H; rw [hy590]; with_reducible exact H2_) | (have H2_ := (Option.bind_some _ _).symm.trans H; with_reducible exact H2_) | with_reducible exact H | (rw [hy590]; exact H) | exact H
         have kX := Aside0.mk hy590
         clear hy590
         replace H := Option.bind_eq_some_iff.mp H
         obtain ⟨⟨lT, lU, lV⟩, kM, H⟩ := H
         (try dsimp only at H)
         have xR := Aside0.mk kM
         clear kM
         replace H := Option.bind_eq_some_iff.mp H
         obtain ⟨jU, kN, H⟩ := H
         (try dsimp only at H)
         have xS := Aside0.mk kN
         clear kN
         obtain rfl := Option.some.inj H
         have aC0 := bN.out
         have aJ1 := dM.out
         have aC1 := dJ.out
         have aJ2 := dN.out
         have aC2 := dK.out
         have aJ3 := dO.out
         have aC3 := dL.out
         have aJ4 := dP.out
         have aC4 := dV.out
         have aJ5 := dY.out
         have aC5 := dW.out
         have aJ6 := dZ.out
         have aC6 := dX.out
         have aJ7 := eA.out
         have pS : wr.cell? ⟨bB, 0, none⟩ = some (.int .i64 bR) := (blk_cell aA.out 0).trans rfl
         have pT : wr.cell? ⟨bB, 1, none⟩ = some (.int .i64 bX) := (blk_cell aA.out 1).trans rfl
         have pU : wr.cell? ⟨bB, 2, none⟩ = some (.slice dG bJ.length cY) := (blk_cell aA.out 2).trans rfl
         have rQ := blk_frozen aA.out 0
         have rR := blk_frozen aA.out 1
         have rS := blk_frozen aA.out 2
         try go_wp2
         have n_ := o2_ (Kd.Q_drew bC.out) (o2_ (Kd.V_drew bE.out) (o2_ (Kd.Q_drew bA.out) (o2_ (Kd.Q_drew aK.out) (o2_ (blk_drew aA.out) (o2_ (blk_drew aD.out) (o2_ (blk_drew aC.out) (o2_ (blk_drew aE.out) (o2_ (blk_drew aG.out) (o2_ (blk_drew aH.out) (o2_ (blk_drew aI.out) (o2_ (blk_drew bP.out) (o1_ (below_drew1 HB.out)))))))))))))
         clear bC bE bA aK aA aD aC aE aG aH aI bP HB
         obtain ⟨bC, bE, bA, aK, aA, aD, aC, aE, aG, aH, aI, bP, HB⟩ := n_
         refine start_ (n := 7) (S := fun w' => w'.cell? ⟨dE, 0, none⟩ = some (.int .i64 bR) ∧ w'.cell? ⟨dE, 1, none⟩ = some (.int .i64 bX) ∧ w'.cell? ⟨dE, 2, none⟩ = some (eH) ∧ w'.cell? ⟨bI, 0, none⟩ = some (.int .i64 6) ∧ w'.cell? ⟨bI, 1, none⟩ = some (.int .i64 0) ∧ w'.cell? ⟨bI, 2, none⟩ = some (.int .i64 0) ∧ w'.cell? ⟨bI, 3, none⟩ = some (.int .i64 0) ∧ w'.cell? ⟨bI, 4, none⟩ = some (.int .i64 0)) (ds := []) #[false, false, false, false, false, false, false] oK rfl rfl ⟨(blk_cell bP.out 0).trans rfl, (blk_cell bP.out 1).trans rfl, (blk_cell bP.out 2).trans rfl, (blk_cell aC.out 0).trans rfl, (blk_cell aC.out 1).trans rfl, (blk_cell aC.out 2).trans rfl, (blk_cell aC.out 3).trans rfl, (blk_cell aC.out 4).trans rfl⟩ (fun hHeld => ?_)
         generalize wr.drew = aU2 at bC bE bA aK aA aD aC aE aG aH aI bP HB hHeld ⊢
         refine take_ (i := 0) (N := some 168) (v := ?_) (a' := ?_) #[true, false, false, false, false, false, false] rfl rfl oK (fun _ _ _ h => h) (Or.inl ⟨by rfl, ?_⟩) hHeld ?_ ?_
         rotate_left
         ·rintro w' ⟨s0, s1, s2, s3, s4, s5, s6, s7⟩
          go_simp
          with_reducible rfl
         rotate_left
         ·exact oT
         refine take_ (i := 1) (N := some 169) (v := ?_) (a' := ?_) #[true, true, false, false, false, false, false] rfl rfl oK (fun _ _ _ h => h) (Or.inl ⟨by rfl, ?_⟩) hHeld ?_ ?_
         rotate_left
         ·rintro w' ⟨s0, s1, s2, s3, s4, s5, s6, s7⟩
          go_simp
          with_reducible rfl
         rotate_left
         ·exact oT
         refine take_ (i := 4) (N := some 172) (v := ?_) (a' := ?_) #[true, true, false, false, true, false, false] rfl rfl oK (fun _ _ _ h => h) (Or.inl ⟨by rfl, ?_⟩) hHeld ?_ ?_
         rotate_left
         ·rintro w' ⟨s0, s1, s2, s3, s4, s5, s6, s7⟩
          go_simp
          with_reducible rfl
         rotate_left
         ·exact oT
         refine one_ (i := 2) (N := some 170) #[true, true, true, false, true, false, false] rfl rfl oK oD (fun K hK => ?_)
         refine Kd.R_lit_step k27 _ 27 ?hg (N := 170) ?hd (xs := ([(⟨6, 0, 0, 0, 0⟩ : S27)] : List (S27))) (inner := [.int .i64 6, .int .i64 0, .int .i64 0, .int .i64 0, .int .i64 0]) (ok := fun _ => True) (okp := fun _ => True) ?hr ?hp (fun _ hk => hk) trivial (Below.refl _ _) (Nat.le_refl _) (by simp) ?_; (case hd => rfl); (case hg => first | rfl | exact wanted_on rfl rfl rfl (by assumption)); (case hr => first | (go_simp; done) | (go_simp; rfl)); (case hp => exact (Reps.c5 (show Kd.M k27 _ _ _ (⟨6, 0, 0, 0, 0⟩ : S27) [.int .i64 6, .int .i64 0, .int .i64 0, .int .i64 0, .int .i64 0] from (k27_mkM _ _ _ (⟨6, 0, 0, 0, 0⟩ : S27) )) (Reps.none _ _)))
         intro aT5 aU3 ho213 hb hg_ hnew_
         clear hg_ hnew_
         (first | rw [← kX.out] at ho213 | (simp only [Int.reduceToNat] at ho213; rw [← kX.out] at ho213))
         have n_ := o2_ (Kd.Q_below (oQ bA) hb) (o2_ (Kd.Q_below (oQ aK) hb) (o2_ (Kd.R_lower (Kd.R_newB (Kd.R_newB (Kd.R_newB (Kd.R_newB ho213 (oP aD)) (oP aC)) (oP aE)) (oP aG)) (below_size (oB HB))) (o2_ (blk_below (oP aA) hb) (o2_ (blk_below (oP aD) hb) (o2_ (blk_below (oP aC) hb) (o2_ (blk_below (oP aE) hb) (o2_ (blk_below (oP aG) hb) (o2_ (blk_below (oP aH) hb) (o2_ (blk_below (oP aI) hb) (o2_ (blk_below (oP bP) hb) (o1_ (below_step (oB HB) hb))))))))))))
         clear bA aK aA aD aC aE aG aH aI bP HB
         obtain ⟨bA, aK, hH, aA, aD, aC, aE, aG, aH, aI, bP, HB⟩ := n_
         clear hb ho213
         obtain ⟨iX, jC, kZ, _⟩ := Kd.Q_slice aK.out
         (first | subst kZ | (injection kZ with f1_ f2_ f3_; have f4_ := f1_.symm; have f5_ := f3_.symm; clear f1_ f2_ f3_; subst f4_; subst f5_))
         obtain ⟨mJ, nI, lA⟩ := Kd.R_slice hH.out
         (first | subst lA | (injection lA with f1_ f2_ f3_; have f4_ := f1_.symm; have f5_ := f3_.symm; clear f1_ f2_ f3_; subst f4_; subst f5_))
         refine hK.out _ _ ⟨(blk_cell bP.out 0).trans rfl, (blk_cell bP.out 1).trans rfl, (blk_cell bP.out 2).trans rfl, (blk_cell aC.out 0).trans rfl, (blk_cell aC.out 1).trans rfl, (blk_cell aC.out 2).trans rfl, (blk_cell aC.out 3).trans rfl, (blk_cell aC.out 4).trans rfl⟩ (fun hHeld => ?_)
         clear hK K
         refine norm_ (a' := ?_) ?_ ?_
         rotate_left
         ·show Act.put _ (some 170) _ = _
          exact oT
         refine one_ (i := 3) (N := some 171) #[true, true, true, true, true, false, false] rfl rfl oK oD (fun K hK => ?_)
         refine goes_ Try.func27 oK rfl #[.agg #[.int .i64 bR, .int .i64 bX, .slice iX dF.length jC], .slice mJ y590.length nI] (by first | rfl | exact wanted_on rfl rfl rfl (by assumption)) rfl rfl oA ?_
         with_reducible refine (laws_eaDo.calls k2 bR bX (fun k_ => some k_ = (.slice iX dF.length jC : Value).ownBlock) _ _ dF _ _ y590 lT lU lV _ ?side1 ?side2 ?side3 xR.out).mono ?_
         (case side1 => exact Kd.Q_V (Kd.Q_tight rfl (Kd.Q_types (Kd.Q_types (Kd.Q_types (Kd.Q_types (Kd.Q_types (Kd.Q_types (Kd.Q_types (Kd.Q_types (Kd.Q_apart' (aK.out) (Kd.R_typed hH.out) oD) aA.out oD) aD.out oD) aC.out oD) aE.out oD) aG.out oD) aH.out oD) aI.out oD) bP.out oD)))
         (case side2 => repeat (first | exact (Kd.R_reads' hH.out).2.2 | (with_reducible refine Kd.C_alloc ?_ _) | (with_reducible refine Kd.C_drewN ?_ _) | (with_reducible refine Kd.C_drew ?_)))
         (case side3 => exact (Kd.R_reads' hH.out).2.1)
         rintro e aU4 ⟨aT6, rfl, ho0, hb⟩
         refine ⟨_, rfl, ?_⟩
         have hq_ := (Kd.Q_types (Kd.Q_types (Kd.Q_types (Kd.Q_types (Kd.Q_types (Kd.Q_types (Kd.Q_types (Kd.Q_types (Kd.Q_apart' (aK.out) (Kd.R_typed hH.out) oD) aA.out oD) aD.out oD) aC.out oD) aE.out oD) aG.out oD) aH.out oD) aI.out oD) bP.out oD)
         have n_ := o2_ (Kd.Q_below (oQ aK) hb) (o2_ (Kd.V_lower (Kd.V_mono (ok' := fun k_ => some k_ ≠ (.slice cX cL.length cZ : Value).ownBlock ∧ k_ ≠ bB ∧ k_ ≠ bW ∧ k_ ≠ bI ∧ k_ ≠ bQ ∧ k_ ≠ bO ∧ k_ ≠ cA ∧ k_ ≠ bS ∧ k_ ≠ dE) ho0 (fun k_ hk_ => ⟨Or.elim hk_ (fun hs_ => (hq_.1 k_ hs_.symm).1.1.1.1.1.1.1.1.1.2) (fun hn_ => (Kd.fresh' (Kd.Q_lt (oQ bA)) k_ hn_)), Or.elim hk_ (fun hs_ => (hq_.1 k_ hs_.symm).1.1.1.1.1.1.1.2) (fun hn_ => (Kd.freshB (oP aA) k_ hn_)), Or.elim hk_ (fun hs_ => (hq_.1 k_ hs_.symm).1.1.1.1.1.1.2) (fun hn_ => (Kd.freshB (oP aD) k_ hn_)), Or.elim hk_ (fun hs_ => (hq_.1 k_ hs_.symm).1.1.1.1.1.2) (fun hn_ => (Kd.freshB (oP aC) k_ hn_)), Or.elim hk_ (fun hs_ => (hq_.1 k_ hs_.symm).1.1.1.1.2) (fun hn_ => (Kd.freshB (oP aE) k_ hn_)), Or.elim hk_ (fun hs_ => (hq_.1 k_ hs_.symm).1.1.1.2) (fun hn_ => (Kd.freshB (oP aG) k_ hn_)), Or.elim hk_ (fun hs_ => (hq_.1 k_ hs_.symm).1.1.2) (fun hn_ => (Kd.freshB (oP aH) k_ hn_)), Or.elim hk_ (fun hs_ => (hq_.1 k_ hs_.symm).1.2) (fun hn_ => (Kd.freshB (oP aI) k_ hn_)), Or.elim hk_ (fun hs_ => (hq_.1 k_ hs_.symm).2) (fun hn_ => (Kd.freshB (oP bP) k_ hn_))⟩)) (below_size (oB HB))) (o2_ (blk_below (oP aA) hb) (o2_ (blk_below (oP aD) hb) (o2_ (blk_below (oP aC) hb) (o2_ (blk_below (oP aE) hb) (o2_ (blk_below (oP aG) hb) (o2_ (blk_below (oP bP) hb) (o1_ (below_step (oB HB) hb)))))))))
         clear aK aA aD aC aE aG bP HB
         obtain ⟨aK, iY, aA, aD, aC, aE, aG, bP, HB⟩ := n_
         clear hq_
         (try clear hb)
         (try clear hb2)
         (try clear hk)
         (try clear hi)
         (try clear ho0)
         obtain ⟨mK, nJ, lB⟩ := Kd.V_slice iY.out
         (first | subst lB | (injection lB with f1_ f2_ f3_; have f4_ := f1_.symm; have f5_ := f3_.symm; clear f1_ f2_ f3_; subst f4_; subst f5_))
         refine hK.out _ _ ⟨(blk_cell bP.out 0).trans rfl, (blk_cell bP.out 1).trans rfl, (blk_cell bP.out 2).trans rfl, (blk_cell aC.out 0).trans rfl, (blk_cell aC.out 1).trans rfl, (blk_cell aC.out 2).trans rfl, (blk_cell aC.out 3).trans rfl, (blk_cell aC.out 4).trans rfl⟩ (fun hHeld => ?_)
         clear hK K
         refine norm_ (a' := ?_) ?_ ?_
         rotate_left
         ·show Act.put _ (some 171) _ = _
          exact oT
         refine one_ (i := 5) (N := some 173) #[true, true, true, true, true, true, false] rfl rfl oK oD (fun K hK => ?_)
         refine goes_ Try.func21 oK rfl #[.agg #[.int .i64 lT, .int .i64 lU, .slice mK lV.length nJ], .agg #[.int .i64 bR, .int .i64 bX, .slice iX dF.length jC]] (by first | rfl | exact wanted_on rfl rfl rfl (by assumption)) rfl rfl oA ?_
         with_reducible refine (laws_eaRas.calls k2 lT lU _ _ lV bR bX _ _ dF jU _ ?side1 ?side2 ?side3 ?side4 xS.out).mono ?_
         (case side1 => repeat (first | exact (Kd.V_reads' iY.out).2.2 | (with_reducible refine Kd.C_alloc ?_ _) | (with_reducible refine Kd.C_drewN ?_ _) | (with_reducible refine Kd.C_drew ?_)))
         (case side2 => exact (Kd.V_reads' iY.out).2.1)
         (case side3 => repeat (first | exact (Kd.Q_reads' aK.out).2.2 | (with_reducible refine Kd.C_alloc ?_ _) | (with_reducible refine Kd.C_drewN ?_ _) | (with_reducible refine Kd.C_drew ?_)))
         (case side4 => exact (Kd.Q_reads' aK.out).2.1)
         rintro e aU5 ⟨rfl, hb⟩
         refine ⟨_, rfl, ?_⟩
         have n_ := o2_ (blk_below (oP aA) hb) (o2_ (blk_below (oP aD) hb) (o2_ (blk_below (oP aC) hb) (o2_ (blk_below (oP aE) hb) (o2_ (blk_below (oP aG) hb) (o2_ (blk_below (oP bP) hb) (o1_ (below_step (oB HB) hb)))))))
         clear aA aD aC aE aG bP HB
         obtain ⟨aA, aD, aC, aE, aG, bP, HB⟩ := n_
         (try clear hb)
         (try clear hb2)
         (try clear hk)
         (try clear hi)
         refine hK.out _ _ ⟨(blk_cell bP.out 0).trans rfl, (blk_cell bP.out 1).trans rfl, (blk_cell bP.out 2).trans rfl, (blk_cell aC.out 0).trans rfl, (blk_cell aC.out 1).trans rfl, (blk_cell aC.out 2).trans rfl, (blk_cell aC.out 3).trans rfl, (blk_cell aC.out 4).trans rfl⟩ (fun hHeld => ?_)
         clear hK K
         refine norm_ (a' := ?_) ?_ ?_
         rotate_left
         ·show Act.put _ (some 173) _ = _
          exact oT
         refine pure_ (i := 6) (N := some 2) (v := ?_) (a' := ?_) #[true, true, true, true, true, true, true] rfl rfl oK (fun _ _ _ h => h) (Or.inl ⟨by rfl, ?_⟩) ?_ ?_
         rotate_left
         ·intro w'
          go_simp
          with_reducible rfl
         rotate_left
         ·exact oT
         refine done_ oK ?_
         try go_wp2
         go_ret
         exact ⟨by first | rfl | (simp [errW_none, errW_some] <;> rfl) | (simp [*, errW_none, errW_some] <;> rfl), oB HB⟩
  ·replace c5 := Bool.eq_false_iff.mpr c5
   subst c5
   rw [if_neg (show ¬ (false = true) by decide)] at H
   replace H := Option.bind_eq_some_iff.mp H
   obtain ⟨jM, kO, H⟩ := H
   (try dsimp only at H)
   have xT := Aside0.mk kO
   clear kO
   by_cases kF : jM = true
   ·subst kF
    rw [if_pos rfl] at H
    exact absurd H (by simp)
   ·replace kF := Bool.eq_false_iff.mpr kF
    subst kF
    rw [if_neg (show ¬ (false = true) by decide)] at H
    replace H := Option.bind_eq_some_iff.mp H
    obtain ⟨jN, kP, H⟩ := H
    (try dsimp only at H)
    have xU := Aside0.mk kP
    clear kP
    obtain rfl := Option.some.inj H
    go_enter Try.func5, Try.ntmps5
    go_wp2_with (first | ((with_reducible refine gate_callee (f := 18) rfl ?_); refine goesL_ (some 23) rfl rfl Try.func18 oK rfl #[.slice A0 l0.length c0] rfl oA ?_; (with_reducible refine (spec_DrawOpDo.calls k _ _ l0 bR bX bJ eY eZ fA fB fC _ ?side1 ?side2 A3.out).mono ?_); (case side1 => repeat (first | exact HR0.out | (with_reducible refine Kd.C_alloc ?_ _) | (with_reducible refine Kd.C_drewN ?_ _) | (with_reducible refine Kd.C_drew ?_))); (case side2 => exact HC0.out); rintro e aU6 ⟨aK9, rfl, ho0, hb⟩; refine ⟨_, rfl, ?_⟩; have n_ := o2_ (Kd.Q_lower ho0 (below_size (oB HB))) (o1_ (below_step (oB HB) hb)); clear HB; obtain ⟨aJ, HB⟩ := n_; (try clear hb); (try clear hb2); (try clear hk); (try clear hi); (try clear ho0)) | ((with_reducible refine gate_dst (N := 3) rfl ?_); (try (refine gate_guard (by rfl) ?_; dsimp only)); refine box_event rfl (N := 3) rfl (cs := #[.int .i64 0, .int .i64 0, .slice none 0 0]) (t := 25) oS ?_; intro bB hg aU7 hbox hb; have n_ := o2_ (Kd.Q_below (oQ aJ) hb) (o2_ (below_step (oB HB) hb) (o2_ (hbox) (o2_ ((oG hg (below_size (oB HB)) : w.heap.size ≤ bB)) (o1_ ((oG hg (below_size (oB HB)) : w.heap.size ≤ bB)))))); clear aJ HB; obtain ⟨aJ, HB, aA, mY, mT⟩ := n_; clear hb hbox hg) | ((with_reducible refine gate_dst (N := 4) rfl ?_); (try (refine gate_guard (by rfl) ?_; dsimp only)); refine box_event rfl (N := 4) rfl (cs := #[.int .i64 0, .int .i64 0, .int .i64 0, .int .i64 0, .int .i64 0]) (t := 27) oS ?_; intro bW hg hY hbox hb; have n_ := o2_ (Kd.Q_below (oQ aJ) hb) (o2_ (blk_below (oP aA) hb) (o2_ (below_step (oB HB) hb) (o2_ (hbox) (o2_ ((oG hg (below_size (oB HB)) : w.heap.size ≤ bW)) (o2_ ((oG hg (below_size (oB HB)) : w.heap.size ≤ bW)) (o2_ ((oL hg (blk_lt (oP aA)))) (o1_ ((oN hg (blk_lt (oP aA))))))))))); clear aJ aA HB; obtain ⟨aJ, aA, HB, aD, mZ, mU, bN, dM⟩ := n_; clear hb hbox hg; have aC7 := bN.out; have aJ8 := dM.out; have pV : hY.cell? ⟨bB, 0, none⟩ = some (.int .i64 0) := (blk_cell aA.out 0).trans rfl; have pW : hY.cell? ⟨bB, 1, none⟩ = some (.int .i64 0) := (blk_cell aA.out 1).trans rfl; have pX : hY.cell? ⟨bB, 2, none⟩ = some (.slice none 0 0) := (blk_cell aA.out 2).trans rfl; have rT := blk_frozen aA.out 0; have rU := blk_frozen aA.out 1; have rV := blk_frozen aA.out 2; obtain ⟨fS, fD, nS, _⟩ := Kd.Q_slice aJ.out; subst nS; have pY : hY.cell? ⟨bW, 0, none⟩ = some (.int .i64 0) := (blk_cell aD.out 0).trans rfl; have pZ : hY.cell? ⟨bW, 1, none⟩ = some (.int .i64 0) := (blk_cell aD.out 1).trans rfl; have qA : hY.cell? ⟨bW, 2, none⟩ = some (.int .i64 0) := (blk_cell aD.out 2).trans rfl; have qB : hY.cell? ⟨bW, 3, none⟩ = some (.int .i64 0) := (blk_cell aD.out 3).trans rfl; have qC : hY.cell? ⟨bW, 4, none⟩ = some (.int .i64 0) := (blk_cell aD.out 4).trans rfl; have rW := blk_frozen aD.out 0; have rX := blk_frozen aD.out 1; have rY := blk_frozen aD.out 2; have rZ := blk_frozen aD.out 3; have sA := blk_frozen aD.out 4) | ((with_reducible refine gate_dst (N := 5) rfl ?_); (try (refine gate_guard (by rfl) ?_; dsimp only)); refine box_event rfl (N := 5) rfl (cs := #[.int .i64 0, .int .i64 0, .int .i64 0, .int .i64 0, .int .i64 0]) (t := 27) oS ?_; intro bI hg jV hbox hb; have n_ := o2_ (Kd.Q_below (by (with_reducible repeat (first | apply Kd.Q_alloc | apply Kd.Q_drewN | apply Kd.Q_drew)); exact (Kd.Q_mono (Kd.Q_mono (Kd.Q_far (p := ⟨bW, 4, none⟩) (Kd.Q_far (p := ⟨bW, 3, none⟩) (Kd.Q_far (p := ⟨bW, 2, none⟩) (Kd.Q_far (p := ⟨bW, 1, none⟩) (Kd.Q_far (p := ⟨bW, 0, none⟩) (Kd.Q_far (p := ⟨bB, 2, none⟩) (Kd.Q_far (p := ⟨bB, 1, none⟩) (Kd.Q_far (p := ⟨bB, 0, none⟩) (Kd.Q_types (Kd.Q_types aJ.out aA.out oD) aD.out oD) (fun _ hk => hk.1.2) (.int .i64 bR)) (fun _ hk => hk.1.2) (.int .i64 bX)) (fun _ hk => hk.1.2) (.slice fS bJ.length fD)) (fun _ hk => hk.2) (.int .i64 eY)) (fun _ hk => hk.2) (.int .i64 eZ)) (fun _ hk => hk.2) (.int .i64 fA)) (fun _ hk => hk.2) (.int .i64 fB)) (fun _ hk => hk.2) (.int .i64 fC)) (fun _ h_ => h_.1)) (fun _ h_ => h_.1))) hb) (o2_ (blk_below (g := bB) (o := .cells #[.int .i64 bR, .int .i64 bX, .slice fS bJ.length fD] 25 (0, 0)) (blk_far (blk_far (blk_far (blk_far (blk_far (blk_put (blk_put (blk_put (oP aA) 0 _ rfl) 1 _ rfl) 2 _ rfl) bN.out _) bN.out _) bN.out _) bN.out _) bN.out _) hb) (o2_ (blk_below (g := bW) (o := .cells #[.int .i64 eY, .int .i64 eZ, .int .i64 fA, .int .i64 fB, .int .i64 fC] 27 (0, 0)) (blk_put (blk_put (blk_put (blk_put (blk_put (oP aD) 0 _ rfl) 1 _ rfl) 2 _ rfl) 3 _ rfl) 4 _ rfl) hb) (o2_ (below_step (oB HB) hb) (o2_ (hbox) (o2_ ((oG hg (below_size (oB HB)) : w.heap.size ≤ bI)) (o2_ ((oG hg (below_size (oB HB)) : w.heap.size ≤ bI)) (o2_ ((by rw [hg]; exact Nat.ne_of_lt (blk_lt (g := bB) (o := .cells #[.int .i64 bR, .int .i64 bX, .slice fS bJ.length fD] 25 (0, 0)) (blk_far (blk_far (blk_far (blk_far (blk_far (blk_put (blk_put (blk_put (oP aA) 0 _ rfl) 1 _ rfl) 2 _ rfl) bN.out _) bN.out _) bN.out _) bN.out _) bN.out _)) : bB ≠ bI)) (o2_ ((by rw [hg]; exact Nat.ne_of_gt (blk_lt (g := bB) (o := .cells #[.int .i64 bR, .int .i64 bX, .slice fS bJ.length fD] 25 (0, 0)) (blk_far (blk_far (blk_far (blk_far (blk_far (blk_put (blk_put (blk_put (oP aA) 0 _ rfl) 1 _ rfl) 2 _ rfl) bN.out _) bN.out _) bN.out _) bN.out _) bN.out _)) : bI ≠ bB)) (o2_ ((by rw [hg]; exact Nat.ne_of_lt (blk_lt (g := bW) (o := .cells #[.int .i64 eY, .int .i64 eZ, .int .i64 fA, .int .i64 fB, .int .i64 fC] 27 (0, 0)) (blk_put (blk_put (blk_put (blk_put (blk_put (oP aD) 0 _ rfl) 1 _ rfl) 2 _ rfl) 3 _ rfl) 4 _ rfl)) : bW ≠ bI)) (o1_ ((by rw [hg]; exact Nat.ne_of_gt (blk_lt (g := bW) (o := .cells #[.int .i64 eY, .int .i64 eZ, .int .i64 fA, .int .i64 fB, .int .i64 fC] 27 (0, 0)) (blk_put (blk_put (blk_put (blk_put (blk_put (oP aD) 0 _ rfl) 1 _ rfl) 2 _ rfl) 3 _ rfl) 4 _ rfl)) : bI ≠ bW)))))))))))); clear aJ aA aD HB; obtain ⟨aJ, aA, aD, HB, aC, nA, mV, dJ, dN, fE, fH⟩ := n_; clear hb hbox hg; have aC8 := dN.out; have aJ9 := dJ.out; have aC9 := fH.out; have aK0 := fE.out; have qD : jV.cell? ⟨bI, 0, none⟩ = some (.int .i64 0) := (blk_cell aC.out 0).trans rfl; have qE : jV.cell? ⟨bI, 1, none⟩ = some (.int .i64 0) := (blk_cell aC.out 1).trans rfl; have qF : jV.cell? ⟨bI, 2, none⟩ = some (.int .i64 0) := (blk_cell aC.out 2).trans rfl; have qG : jV.cell? ⟨bI, 3, none⟩ = some (.int .i64 0) := (blk_cell aC.out 3).trans rfl; have qH : jV.cell? ⟨bI, 4, none⟩ = some (.int .i64 0) := (blk_cell aC.out 4).trans rfl; have sB := blk_frozen aC.out 0; have sC := blk_frozen aC.out 1; have sD := blk_frozen aC.out 2; have sE := blk_frozen aC.out 3; have sF := blk_frozen aC.out 4) | ((with_reducible refine gate_dst (N := 6) rfl ?_); (try (refine gate_guard (by rfl) ?_; dsimp only)); refine box_event rfl (N := 6) rfl (cs := #[.int .i64 0, .int .i64 0, .int .i64 0, .int .i64 0, .int .i64 0]) (t := 27) oS ?_; intro bQ hg jW hbox hb; have n_ := o2_ (Kd.Q_below (by (with_reducible repeat (first | apply Kd.Q_alloc | apply Kd.Q_drewN | apply Kd.Q_drew)); exact (Kd.Q_mono (Kd.Q_far (p := ⟨bI, 4, none⟩) (Kd.Q_far (p := ⟨bI, 3, none⟩) (Kd.Q_far (p := ⟨bI, 2, none⟩) (Kd.Q_far (p := ⟨bI, 1, none⟩) (Kd.Q_far (p := ⟨bI, 0, none⟩) (Kd.Q_types aJ.out aC.out oD) (fun _ hk => hk.2) (.int .i64 6)) (fun _ hk => hk.2) (.int .i64 0)) (fun _ hk => hk.2) (.int .i64 0)) (fun _ hk => hk.2) (.int .i64 0)) (fun _ hk => hk.2) (.int .i64 0)) (fun _ h_ => h_.1))) hb) (o2_ (blk_below (oP aA) hb) (o2_ (blk_below (oP aD) hb) (o2_ (blk_below (g := bI) (o := .cells #[.int .i64 6, .int .i64 0, .int .i64 0, .int .i64 0, .int .i64 0] 27 (0, 0)) (blk_put (blk_put (blk_put (blk_put (blk_put aC.out 0 _ rfl) 1 _ rfl) 2 _ rfl) 3 _ rfl) 4 _ rfl) hb) (o2_ (below_step (oB HB) hb) (o2_ (hbox) (o2_ ((oG hg (below_size (oB HB)) : w.heap.size ≤ bQ)) (o2_ ((oG hg (below_size (oB HB)) : w.heap.size ≤ bQ)) (o2_ ((oL hg (blk_lt (oP aA)))) (o2_ ((oN hg (blk_lt (oP aA)))) (o2_ ((oL hg (blk_lt (oP aD)))) (o2_ ((oN hg (blk_lt (oP aD)))) (o2_ ((by rw [hg]; exact Nat.ne_of_lt (blk_lt (g := bI) (o := .cells #[.int .i64 6, .int .i64 0, .int .i64 0, .int .i64 0, .int .i64 0] 27 (0, 0)) (blk_put (blk_put (blk_put (blk_put (blk_put aC.out 0 _ rfl) 1 _ rfl) 2 _ rfl) 3 _ rfl) 4 _ rfl)) : bI ≠ bQ)) (o1_ ((by rw [hg]; exact Nat.ne_of_gt (blk_lt (g := bI) (o := .cells #[.int .i64 6, .int .i64 0, .int .i64 0, .int .i64 0, .int .i64 0] 27 (0, 0)) (blk_put (blk_put (blk_put (blk_put (blk_put aC.out 0 _ rfl) 1 _ rfl) 2 _ rfl) 3 _ rfl) 4 _ rfl)) : bQ ≠ bI))))))))))))))); clear aJ aA aD aC HB; obtain ⟨aJ, aA, aD, aC, HB, aE, nB, mW, dK, dO, fF, fK, fI, fL⟩ := n_; clear hb hbox hg; have aD0 := dO.out; have aK1 := dK.out; have aD1 := fK.out; have aK2 := fF.out; have aD2 := fL.out; have aK3 := fI.out; have qI : jW.cell? ⟨bQ, 0, none⟩ = some (.int .i64 0) := (blk_cell aE.out 0).trans rfl; have qJ : jW.cell? ⟨bQ, 1, none⟩ = some (.int .i64 0) := (blk_cell aE.out 1).trans rfl; have qK : jW.cell? ⟨bQ, 2, none⟩ = some (.int .i64 0) := (blk_cell aE.out 2).trans rfl; have qL : jW.cell? ⟨bQ, 3, none⟩ = some (.int .i64 0) := (blk_cell aE.out 3).trans rfl; have qM : jW.cell? ⟨bQ, 4, none⟩ = some (.int .i64 0) := (blk_cell aE.out 4).trans rfl; have sG := blk_frozen aE.out 0; have sH := blk_frozen aE.out 1; have sI := blk_frozen aE.out 2; have sJ := blk_frozen aE.out 3; have sK := blk_frozen aE.out 4) | ((with_reducible refine gate_dst (N := 7) rfl ?_); (try (refine gate_guard (by rfl) ?_; dsimp only)); refine box_event rfl (N := 7) rfl (cs := #[.int .i64 0, .int .i64 0, .int .i64 0, .int .i64 0, .int .i64 0]) (t := 27) oS ?_; intro bO hg hZ hbox hb; have n_ := o2_ (Kd.Q_below (by (with_reducible repeat (first | apply Kd.Q_alloc | apply Kd.Q_drewN | apply Kd.Q_drew)); exact (Kd.Q_mono (Kd.Q_far (p := ⟨bQ, 4, none⟩) (Kd.Q_far (p := ⟨bQ, 3, none⟩) (Kd.Q_far (p := ⟨bQ, 2, none⟩) (Kd.Q_far (p := ⟨bQ, 1, none⟩) (Kd.Q_far (p := ⟨bQ, 0, none⟩) (Kd.Q_types aJ.out aE.out oD) (fun _ hk => hk.2) (.int .i64 4)) (fun _ hk => hk.2) (.int .i64 0)) (fun _ hk => hk.2) (.int .i64 0)) (fun _ hk => hk.2) (.int .i64 0)) (fun _ hk => hk.2) (.int .i64 0)) (fun _ h_ => h_.1))) hb) (o2_ (blk_below (oP aA) hb) (o2_ (below_step (oB HB) hb) (o2_ (hbox) (o2_ ((oG hg (below_size (oB HB)) : w.heap.size ≤ bO)) (o2_ ((oG hg (below_size (oB HB)) : w.heap.size ≤ bO)) (o2_ ((oL hg (blk_lt (oP aA)))) (o2_ ((oN hg (blk_lt (oP aA)))) (o2_ ((oL hg (blk_lt (oP aD)))) (o2_ ((oN hg (blk_lt (oP aD)))) (o2_ ((oL hg (blk_lt (oP aC)))) (o2_ ((oN hg (blk_lt (oP aC)))) (o2_ ((by rw [hg]; exact Nat.ne_of_lt (blk_lt (g := bQ) (o := .cells #[.int .i64 4, .int .i64 0, .int .i64 0, .int .i64 0, .int .i64 0] 27 (0, 0)) (blk_put (blk_put (blk_put (blk_put (blk_put aE.out 0 _ rfl) 1 _ rfl) 2 _ rfl) 3 _ rfl) 4 _ rfl)) : bQ ≠ bO)) (o1_ ((by rw [hg]; exact Nat.ne_of_gt (blk_lt (g := bQ) (o := .cells #[.int .i64 4, .int .i64 0, .int .i64 0, .int .i64 0, .int .i64 0] 27 (0, 0)) (blk_put (blk_put (blk_put (blk_put (blk_put aE.out 0 _ rfl) 1 _ rfl) 2 _ rfl) 3 _ rfl) 4 _ rfl)) : bO ≠ bQ))))))))))))))); clear aJ aA HB; obtain ⟨aJ, aA, HB, aG, nC, mX, dL, dP, fG, fN, fJ, fO, fM, fP⟩ := n_; clear hb hbox hg; have aD3 := dP.out; have aK4 := dL.out; have aD4 := fN.out; have aK5 := fG.out; have aD5 := fO.out; have aK6 := fJ.out; have aD6 := fP.out; have aK7 := fM.out; have qN : hZ.cell? ⟨bO, 0, none⟩ = some (.int .i64 0) := (blk_cell aG.out 0).trans rfl; have qO : hZ.cell? ⟨bO, 1, none⟩ = some (.int .i64 0) := (blk_cell aG.out 1).trans rfl; have qP : hZ.cell? ⟨bO, 2, none⟩ = some (.int .i64 0) := (blk_cell aG.out 2).trans rfl; have qQ : hZ.cell? ⟨bO, 3, none⟩ = some (.int .i64 0) := (blk_cell aG.out 3).trans rfl; have qR : hZ.cell? ⟨bO, 4, none⟩ = some (.int .i64 0) := (blk_cell aG.out 4).trans rfl; have sL := blk_frozen aG.out 0; have sM := blk_frozen aG.out 1; have sN := blk_frozen aG.out 2; have sO := blk_frozen aG.out 3; have sP := blk_frozen aG.out 4; have qS : hZ.cell? ⟨bB, 0, none⟩ = some (.int .i64 bR) := (blk_cell aA.out 0).trans rfl; have qT : hZ.cell? ⟨bB, 1, none⟩ = some (.int .i64 bX) := (blk_cell aA.out 1).trans rfl; have qU : hZ.cell? ⟨bB, 2, none⟩ = some (.slice fS bJ.length fD) := (blk_cell aA.out 2).trans rfl; have sQ := blk_frozen aA.out 0; have sR := blk_frozen aA.out 1; have sS := blk_frozen aA.out 2) | ((with_reducible refine gate_callee (f := 24) rfl ?_); refine goesL_ (some 30) rfl rfl Try.func24 oK rfl #[.agg #[.int .i64 bR, .int .i64 bX, .slice fS bJ.length fD]] rfl oA ?_; (with_reducible refine (spec_RasOk.calls k bR bX _ _ bJ false _ ?side1 ?side2 A4.out).mono ?_); (case side1 => refine (Kd.Q_reads' (e := 38) (base := w.heap.size) (ok := fun k_ => True) (n := bJ.length) (c := fD) ?_).2.2; exact (by (with_reducible repeat (first | apply Kd.Q_alloc | apply Kd.Q_drewN | apply Kd.Q_drew)); exact (Kd.Q_mono (Kd.Q_far (p := ⟨bO, 4, none⟩) (Kd.Q_far (p := ⟨bO, 3, none⟩) (Kd.Q_far (p := ⟨bO, 2, none⟩) (Kd.Q_far (p := ⟨bO, 1, none⟩) (Kd.Q_far (p := ⟨bO, 0, none⟩) (Kd.Q_types aJ.out aG.out oD) (fun _ hk => hk.2) (.int .i64 2)) (fun _ hk => hk.2) (.int .i64 0)) (fun _ hk => hk.2) (.int .i64 0)) (fun _ hk => hk.2) (.int .i64 0)) (fun _ hk => hk.2) (.int .i64 0)) (fun _ h_ => h_.1)))); (case side2 => exact (Kd.Q_reads' aJ.out).2.1); rintro e lY ⟨rfl, hb⟩; refine ⟨_, rfl, ?_⟩; have n_ := o2_ (Kd.Q_below (by (with_reducible repeat (first | apply Kd.Q_alloc | apply Kd.Q_drewN | apply Kd.Q_drew)); exact (Kd.Q_mono (Kd.Q_far (p := ⟨bO, 4, none⟩) (Kd.Q_far (p := ⟨bO, 3, none⟩) (Kd.Q_far (p := ⟨bO, 2, none⟩) (Kd.Q_far (p := ⟨bO, 1, none⟩) (Kd.Q_far (p := ⟨bO, 0, none⟩) (Kd.Q_types aJ.out aG.out oD) (fun _ hk => hk.2) (.int .i64 2)) (fun _ hk => hk.2) (.int .i64 0)) (fun _ hk => hk.2) (.int .i64 0)) (fun _ hk => hk.2) (.int .i64 0)) (fun _ hk => hk.2) (.int .i64 0)) (fun _ h_ => h_.1))) hb) (o2_ (blk_below (oP aA) hb) (o1_ (below_step (oB HB) hb))); clear aJ aA HB; obtain ⟨aJ, aA, HB⟩ := n_; (try clear hb); (try clear hb2); (try clear hk); (try clear hi); have qV : lY.cell? ⟨bB, 0, none⟩ = some (.int .i64 bR) := (blk_cell aA.out 0).trans rfl; have qW : lY.cell? ⟨bB, 1, none⟩ = some (.int .i64 bX) := (blk_cell aA.out 1).trans rfl; have qX : lY.cell? ⟨bB, 2, none⟩ = some (.slice fS bJ.length fD) := (blk_cell aA.out 2).trans rfl; have sT := blk_frozen aA.out 0; have sU := blk_frozen aA.out 1; have sV := blk_frozen aA.out 2) | ((with_reducible refine gate_callee (f := 26) rfl ?_); refine goesL_ (some 33) rfl rfl Try.func26 oK rfl #[.agg #[.int .i64 bR, .int .i64 bX, .slice fS bJ.length fD]] rfl oA ?_; (with_reducible refine (impl_RasOk.calls k bR bX _ _ bJ false _ ?side1 ?side2 xT.out).mono ?_); (case side1 => repeat (first | exact (Kd.Q_reads' aJ.out).2.2 | (with_reducible refine Kd.C_alloc ?_ _) | (with_reducible refine Kd.C_drewN ?_ _) | (with_reducible refine Kd.C_drew ?_))); (case side2 => exact (Kd.Q_reads' aJ.out).2.1); rintro e aU8 ⟨rfl, hb⟩; refine ⟨_, rfl, ?_⟩; replace HB := o1_ (below_step (oB HB) hb); (try clear hb); (try clear hb2); (try clear hk); (try clear hi)) | (go_at_call 25; (with_reducible refine (laws_eaOk.calls  jN _ xU.out).mono ?_); rintro e aU9 ⟨rfl, hb⟩; replace HB := o1_ (below_step (oB HB) hb); (try clear hb); (try clear hb2); (try clear hk); (try clear hi)))
    go_ret
    exact ⟨by first | rfl | (simp [errW_none, errW_some] <;> rfl) | (simp [*, errW_none, errW_some] <;> rfl), oB HB⟩

/-- THE ONE PURE STATEMENT of laws_FnOpBlur: yours. -/
def laws_FnOpBlur.Pure : Prop := ∀ (l0 : List Int), l0.length ≤ maxLen → l0.length * 1 ≤ 140737488351232 → (∀ x ∈ l0, (Lit.int .u8 x).wf = true) → ∃ k, laws_FnOpBlur.f k l0 = some true
theorem laws_FnOpBlur.walk (P : laws_FnOpBlur.Pure) (a0 : Option Addr) (len0 cap0 : Nat) (z0 : List Int) (w : World) (w0 : (a0 = none ∧ len0 = 0 ∧ cap0 = 0 ∧ z0 = []) ∨ ∃ x, a0 = some x ∧ len0 ≤ cap0 ∧ cap0 ≤ maxLen ∧ z0.length = cap0 ∧ (∀ i, i < z0.length → w.cell? (x.add i) = some (.int .u8 (z0.getD i 0))) ∧ ∀ n ∈ z0, (Lit.int .u8 n).wf = true) (y0 : len0 * 1 ≤ 140737488351232) :
  Calls Try.prog 5 #[.slice a0 len0 cap0] w fun e w' => e = .returned (.bool true) ∧ Below w.heap.size w w' := by
 obtain ⟨l0, rfl, hr0, hm0, hw0, tA⟩ := ReadsInt.ofRowC w0
 obtain ⟨k, h⟩ := P l0 hm0 y0 hw0
 refine (laws_FnOpBlur.calls k _ _ l0 true w (Kd.C_of_reads (d := (0 : Int)) (h1 := fun _ => rfl) hr0) tA h).mono ?_
 rintro e w' ⟨rfl, hd⟩
 exact ⟨rfl, hd⟩

end Go.Proofs.Ythnmeogafklhnaa.X
