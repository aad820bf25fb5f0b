/- What functions of the program come to, each with its proof. No condition but what each theorem states. -/
import Derived.Test.YthnmeogafklhnaaX0
import Derived.Test.YthnmeogafklhnaaX63
import Derived.Test.YthnmeogafklhnaaX64
import Derived.Test.YthnmeogafklhnaaX65
import Derived.Test.YthnmeogafklhnaaX68
import Derived.Test.YthnmeogafklhnaaX69
import Derived.Test.YthnmeogafklhnaaX70
import Derived.Test.YthnmeogafklhnaaX72
import Derived.Test.YthnmeogafklhnaaX74
namespace Go.Proofs.Ythnmeogafklhnaa.X
open Go.RowKit Go.Proofs.YthnmeogafklhnaaW.PrintWords Go.Proofs.YthnmeogafklhnaaW.PrintLast Go.Proofs.YthnmeogafklhnaaW.PrintMore Go.Proofs.Ythnmeogafklhnaa.Hyb
attribute [local go_sem] max2_int min2_int max_two min_two max_three min_three max_four min_four
set_option linter.unusedVariables false
set_option linter.unusedSimpArgs false

/-! ### laws_FnExactRasRead: function 16 -/
mutual
def laws_FnExactRasRead.j0 : Nat → List Int → Bool → List Int → Bool → Bool → Int → Int → List (S38) → Int → Int → List (S38) → Option (Bool)
 | 0, _, _, _, _, _, _, _, _, _, _, _ => none
 | k + 1, x0, x4, x5, x7, x37, x1267000, x1267001, x1267002, x1277000, x1277001, x1277002 => if x37 = true then (none) else ((laws_toByteS.f k x0).bind fun dI => ((laws_eqByteS.f k x5 dI).bind fun eT => (if eT = true then ((laws_markByteS.f k x5 1).bind fun gS => (if gS.1 < 0 then (laws_FnExactRasRead.j1 k x0 x4 true x1267000 x1267001 x1267002 x1277000 x1277001 x1277002) else ((laws_eqRasRaster.f k x1277000 x1277001 x1277002 x1267000 x1267001 x1267002).bind fun eU => (if eU = true then (laws_FnExactRasRead.j1 k x0 x4 (x7 != x4) x1267000 x1267001 x1267002 x1277000 x1277001 x1277002) else (laws_FnExactRasRead.j1 k x0 x4 true x1267000 x1267001 x1267002 x1277000 x1277001 x1277002))))) else (none))))
def laws_FnExactRasRead.j1 : Nat → List Int → Bool → Bool → Int → Int → List (S38) → Int → Int → List (S38) → Option (Bool)
 | 0, _, _, _, _, _, _, _, _, _ => none
 | k + 1, x0, x4, x58, x1267000, x1267001, x1267002, x1277000, x1277001, x1277002 => if x58 = true then (none) else ((laws_markRasRaster.f k x1277000 x1277001 x1277002 1).bind fun bO => ((laws_heldRasRaster.f k x1277000 x1277001 bO.2 1).bind fun bM => (if bM < 0 then (none) else (if bM = bO.1 then ((laws_toByteS.f k x0).bind fun dJ => ((impl_RasRead.f dJ).bind fun bU => ((laws_eqRasRaster.f k bU.1 bU.2.1 bU.2.2.1 x1267000 x1267001 x1267002).bind fun eV => (if eV = true then (laws_FnExactRasRead.j2 k bO.1 (bU.2.2.2 != x4) x1277000 x1277001 bO.2) else (laws_FnExactRasRead.j2 k bO.1 true x1277000 x1277001 bO.2))))) else (none)))))
def laws_FnExactRasRead.j2 : Nat → Int → Bool → Int → Int → List (S38) → Option (Bool)
 | 0, _, _, _, _, _ => none
 | k + 1, x9, x84, x1277000, x1277001, x1277002 => if x84 = true then (none) else ((laws_heldRasRaster.f k x1277000 x1277001 x1277002 1).bind fun bN => (if bN < 0 then (none) else (if bN = x9 then (some true) else (none))))
end
def laws_FnExactRasRead.f (k : Nat) (l0 : List Int) : Option (Bool) := if (l0.length : Int) > 1048576 then (some true) else ((laws_toByteS.f k l0).bind fun bS => ((spec_RasRead.f k bS).bind fun aN => ((laws_toByteS.f k l0).bind fun bA => ((impl_RasRead.f bA).bind fun aO => ((laws_eqRasRaster.f k aO.1 aO.2.1 aO.2.2.1 aN.1 aN.2.1 aN.2.2.1).bind fun dH => (if dH = true then (laws_FnExactRasRead.j0 k l0 aN.2.2.2 bA aO.2.2.2 (aO.2.2.2 != aN.2.2.2) aN.1 aN.2.1 aN.2.2.1 aO.1 aO.2.1 aO.2.2.1) else (laws_FnExactRasRead.j0 k l0 aN.2.2.2 bA aO.2.2.2 true aN.1 aN.2.1 aN.2.2.1 aO.1 aO.2.1 aO.2.2.1)))))))
theorem laws_FnExactRasRead.mono_l : ∀ k, (∀ y0 y1 y2 y3 y4 y5 y6 y7 y8 y9 iX, LeO (laws_FnExactRasRead.j0 k y0 y1 y2 y3 y4 y5 y6 y7 y8 y9 iX) (laws_FnExactRasRead.j0 (k + 1) y0 y1 y2 y3 y4 y5 y6 y7 y8 y9 iX)) ∧ (∀ y0 y1 y2 y3 y4 y5 y6 y7 y8, LeO (laws_FnExactRasRead.j1 k y0 y1 y2 y3 y4 y5 y6 y7 y8) (laws_FnExactRasRead.j1 (k + 1) y0 y1 y2 y3 y4 y5 y6 y7 y8)) ∧ (∀ y0 y1 y2 y3 y4, LeO (laws_FnExactRasRead.j2 k y0 y1 y2 y3 y4) (laws_FnExactRasRead.j2 (k + 1) y0 y1 y2 y3 y4))
 | 0 => ⟨(fun _ _ _ _ _ _ _ _ _ _ _ r h => nomatch (show none = some r from h)), (fun _ _ _ _ _ _ _ _ _ r h => nomatch (show none = some r from h)), (fun _ _ _ _ _ r h => nomatch (show none = some r from h))⟩
 | k + 1 => by
  obtain ⟨ih0, ih1, ih2⟩ := laws_FnExactRasRead.mono_l k
  refine ⟨?_, ?_, ?_⟩
  ·intro y0 y1 y2 y3 y4 y5 y6 y7 y8 y9 iX
   unfold laws_FnExactRasRead.j0
   repeat' first
   | (with_reducible exact ih0 _ _ _ _ _ _ _ _ _ _ _)
   | (with_reducible exact ih1 _ _ _ _ _ _ _ _ _)
   | (with_reducible exact ih2 _ _ _ _ _)
   | (with_reducible exact laws_eqByteS.mono _ _ _)
   | (with_reducible exact laws_eqRasRaster.mono _ _ _ _ _ _ _)
   | (with_reducible exact laws_heldRasRaster.mono _ _ _ _ _)
   | (with_reducible exact laws_markByteS.mono _ _ _)
   | (with_reducible exact laws_markRasRaster.mono _ _ _ _ _)
   | (with_reducible exact laws_toByteS.mono _ _)
   | (with_reducible exact spec_RasRead.mono _ _)
   | (with_reducible exact LeO.refl _)
   | (with_reducible exact LeO.none _)
   | (with_reducible refine LeO.ite ?_ ?_)
   | (with_reducible refine LeO.bind ?_ (fun _ => ?_))
   | exact ih0 _ _ _ _ _ _ _ _ _ _ _
   | exact ih1 _ _ _ _ _ _ _ _ _
   | exact ih2 _ _ _ _ _
   | exact laws_eqByteS.mono _ _ _
   | exact laws_eqRasRaster.mono _ _ _ _ _ _ _
   | exact laws_heldRasRaster.mono _ _ _ _ _
   | exact laws_markByteS.mono _ _ _
   | exact laws_markRasRaster.mono _ _ _ _ _
   | exact laws_toByteS.mono _ _
   | exact spec_RasRead.mono _ _
   | exact LeO.none _
   | refine LeO.ite ?_ ?_
   | refine LeO.bind ?_ (fun _ => ?_)
  ·intro y0 y1 y2 y3 y4 y5 y6 y7 y8
   unfold laws_FnExactRasRead.j1
   repeat' first
   | (with_reducible exact ih0 _ _ _ _ _ _ _ _ _ _ _)
   | (with_reducible exact ih1 _ _ _ _ _ _ _ _ _)
   | (with_reducible exact ih2 _ _ _ _ _)
   | (with_reducible exact laws_eqByteS.mono _ _ _)
   | (with_reducible exact laws_eqRasRaster.mono _ _ _ _ _ _ _)
   | (with_reducible exact laws_heldRasRaster.mono _ _ _ _ _)
   | (with_reducible exact laws_markByteS.mono _ _ _)
   | (with_reducible exact laws_markRasRaster.mono _ _ _ _ _)
   | (with_reducible exact laws_toByteS.mono _ _)
   | (with_reducible exact spec_RasRead.mono _ _)
   | (with_reducible exact LeO.refl _)
   | (with_reducible exact LeO.none _)
   | (with_reducible refine LeO.ite ?_ ?_)
   | (with_reducible refine LeO.bind ?_ (fun _ => ?_))
   | exact ih0 _ _ _ _ _ _ _ _ _ _ _
   | exact ih1 _ _ _ _ _ _ _ _ _
   | exact ih2 _ _ _ _ _
   | exact laws_eqByteS.mono _ _ _
   | exact laws_eqRasRaster.mono _ _ _ _ _ _ _
   | exact laws_heldRasRaster.mono _ _ _ _ _
   | exact laws_markByteS.mono _ _ _
   | exact laws_markRasRaster.mono _ _ _ _ _
   | exact laws_toByteS.mono _ _
   | exact spec_RasRead.mono _ _
   | exact LeO.none _
   | refine LeO.ite ?_ ?_
   | refine LeO.bind ?_ (fun _ => ?_)
  ·intro y0 y1 y2 y3 y4
   unfold laws_FnExactRasRead.j2
   repeat' first
   | (with_reducible exact ih0 _ _ _ _ _ _ _ _ _ _ _)
   | (with_reducible exact ih1 _ _ _ _ _ _ _ _ _)
   | (with_reducible exact ih2 _ _ _ _ _)
   | (with_reducible exact laws_eqByteS.mono _ _ _)
   | (with_reducible exact laws_eqRasRaster.mono _ _ _ _ _ _ _)
   | (with_reducible exact laws_heldRasRaster.mono _ _ _ _ _)
   | (with_reducible exact laws_markByteS.mono _ _ _)
   | (with_reducible exact laws_markRasRaster.mono _ _ _ _ _)
   | (with_reducible exact laws_toByteS.mono _ _)
   | (with_reducible exact spec_RasRead.mono _ _)
   | (with_reducible exact LeO.refl _)
   | (with_reducible exact LeO.none _)
   | (with_reducible refine LeO.ite ?_ ?_)
   | (with_reducible refine LeO.bind ?_ (fun _ => ?_))
   | exact ih0 _ _ _ _ _ _ _ _ _ _ _
   | exact ih1 _ _ _ _ _ _ _ _ _
   | exact ih2 _ _ _ _ _
   | exact laws_eqByteS.mono _ _ _
   | exact laws_eqRasRaster.mono _ _ _ _ _ _ _
   | exact laws_heldRasRaster.mono _ _ _ _ _
   | exact laws_markByteS.mono _ _ _
   | exact laws_markRasRaster.mono _ _ _ _ _
   | exact laws_toByteS.mono _ _
   | exact spec_RasRead.mono _ _
   | exact LeO.none _
   | refine LeO.ite ?_ ?_
   | refine LeO.bind ?_ (fun _ => ?_)
theorem laws_FnExactRasRead.mono : ∀ a0 k, LeO (laws_FnExactRasRead.f k a0) (laws_FnExactRasRead.f (k + 1) a0) := by
 intro a0 k
 obtain ⟨ih0, ih1, ih2⟩ := laws_FnExactRasRead.mono_l k
 unfold laws_FnExactRasRead.f
 repeat' first
   | (with_reducible exact ih0 _ _ _ _ _ _ _ _ _ _ _)
   | (with_reducible exact ih1 _ _ _ _ _ _ _ _ _)
   | (with_reducible exact ih2 _ _ _ _ _)
   | (with_reducible exact laws_eqByteS.mono _ _ _)
   | (with_reducible exact laws_eqRasRaster.mono _ _ _ _ _ _ _)
   | (with_reducible exact laws_heldRasRaster.mono _ _ _ _ _)
   | (with_reducible exact laws_markByteS.mono _ _ _)
   | (with_reducible exact laws_markRasRaster.mono _ _ _ _ _)
   | (with_reducible exact laws_toByteS.mono _ _)
   | (with_reducible exact spec_RasRead.mono _ _)
   | (with_reducible exact LeO.refl _)
   | (with_reducible exact LeO.none _)
   | (with_reducible refine LeO.ite ?_ ?_)
   | (with_reducible refine LeO.bind ?_ (fun _ => ?_))
   | exact ih0 _ _ _ _ _ _ _ _ _ _ _
   | exact ih1 _ _ _ _ _ _ _ _ _
   | exact ih2 _ _ _ _ _
   | exact laws_eqByteS.mono _ _ _
   | exact laws_eqRasRaster.mono _ _ _ _ _ _ _
   | exact laws_heldRasRaster.mono _ _ _ _ _
   | exact laws_markByteS.mono _ _ _
   | exact laws_markRasRaster.mono _ _ _ _ _
   | exact laws_toByteS.mono _ _
   | exact spec_RasRead.mono _ _
   | exact LeO.none _
   | refine LeO.ite ?_ ?_
   | refine LeO.bind ?_ (fun _ => ?_)
set_option maxHeartbeats 8000000 in
set_option maxRecDepth 100000 in
theorem laws_FnExactRasRead.calls (k : Nat) (A0 : Option Addr) (c0 : Nat) (l0 : List Int) (r : Bool) (w : World) (hr0 : Kd.C (Kd.int .u8) w A0 l0.length l0) (hX : l0.length ≤ c0) (h : laws_FnExactRasRead.f k l0 = some r) :
  Calls Try.prog 16 #[.slice A0 l0.length c0] w fun e w' => e = .returned (.bool r) ∧ Below w.heap.size w w' := by
 have hu25 := Try.underlying25
 have hU := Aside0.mk hr0
 have hT := Aside0.mk hX
 clear hr0 hX
 have HB := Aside0.mk (Below.refl w.heap.size w)
 have H : (if (l0.length : Int) > 1048576 then (some true) else ((laws_toByteS.f k l0).bind fun bS => ((spec_RasRead.f k bS).bind fun aN => ((laws_toByteS.f k l0).bind fun bA => ((impl_RasRead.f bA).bind fun aO => ((laws_eqRasRaster.f k aO.1 aO.2.1 aO.2.2.1 aN.1 aN.2.1 aN.2.2.1).bind fun dH => (if dH = true then (laws_FnExactRasRead.j0 k l0 aN.2.2.2 bA aO.2.2.2 (aO.2.2.2 != aN.2.2.2) aN.1 aN.2.1 aN.2.2.1 aO.1 aO.2.1 aO.2.2.1) else (laws_FnExactRasRead.j0 k l0 aN.2.2.2 bA aO.2.2.2 true aN.1 aN.2.1 aN.2.2.1 aO.1 aO.2.1 aO.2.2.1)))))))) = some r := h
 clear h
 by_cases c2 : (l0.length : Int) > 1048576
 ·rw [if_pos c2] at H
  have eW : decide (1048576 < (l0.length : Int)) = true := decide_eq_true c2
  have eX : decide (1048576 < l0.length) = true := decide_eq_true (by omega)
  clear c2
  obtain rfl := Option.some.inj H
  go_enter Try.func16, Try.ntmps16
  go_wp2
  go_ret
  exact ⟨by first | rfl | (simp [errW_none, errW_some] <;> rfl) | (simp [*, errW_none, errW_some] <;> rfl), oB HB⟩
 ·rw [if_neg c2] at H
  have eW : decide (1048576 < (l0.length : Int)) = false := decide_eq_false c2
  have eX : decide (1048576 < l0.length) = false := decide_eq_false (by omega)
  clear c2
  replace H := Option.bind_eq_some_iff.mp H
  obtain ⟨bS, iZ, H⟩ := H
  (try dsimp only at H)
  have A3 := Aside0.mk iZ
  clear iZ
  replace H := Option.bind_eq_some_iff.mp H
  obtain ⟨⟨aU, aV, aJ, bT⟩, jA, H⟩ := H
  (try dsimp only at H)
  have A4 := Aside0.mk jA
  clear jA
  replace H := Option.bind_eq_some_iff.mp H
  obtain ⟨bA, jC, H⟩ := H
  (try dsimp only at H)
  have A5 := Aside0.mk jC
  clear jC
  replace H := Option.bind_eq_some_iff.mp H
  obtain ⟨⟨aK, aL, aG, eN⟩, jD, H⟩ := H
  (try dsimp only at H)
  have A6 := Aside0.mk jD
  clear jD
  have iM := Aside0.mk H
  clear H
  go_enter Try.func16, Try.ntmps16
  go_upto_region 6 with (first | ((with_reducible refine gate_callee (f := 32) rfl ?_); refine goesL_ (some 18) rfl rfl Try.func32 oK rfl #[.slice A0 l0.length c0] rfl oA ?_; (with_reducible refine (laws_toByteS.calls k _ _ l0 bS _ ?side1 ?side2 A3.out).mono ?_); (case side1 => repeat (first | exact hU.out | (with_reducible refine Kd.C_alloc ?_ _) | (with_reducible refine Kd.C_drewN ?_ _) | (with_reducible refine Kd.C_drew ?_))); (case side2 => exact hT.out); rintro e w8 ⟨kO, rfl, ho0, hb⟩; refine ⟨_, rfl, ?_⟩; have n_ := o2_ (Kd.R_lower ho0 (below_size (oB HB))) (o1_ (below_step (oB HB) hb)); clear HB; obtain ⟨bH, HB⟩ := n_; (try clear hb); (try clear hb2); (try clear hk); (try clear hi); (try clear ho0); obtain ⟨lD, lF, lG⟩ := Kd.R_slice bH.out; subst lG) | ((with_reducible refine gate_callee (f := 31) rfl ?_); refine goesL_ (some 19) rfl rfl Try.func31 oK rfl #[.slice lD bS.length lF] rfl oA ?_; (with_reducible refine (spec_RasRead.calls k _ _ bS aU aV aJ bT _ ?side1 ?side2 A4.out).mono ?_); (case side1 => repeat (first | exact (Kd.R_reads' bH.out).2.2 | (with_reducible refine Kd.C_alloc ?_ _) | (with_reducible refine Kd.C_drewN ?_ _) | (with_reducible refine Kd.C_drew ?_))); (case side2 => exact (Kd.R_reads' bH.out).2.1); rintro e lK ⟨kP, rfl, ho0, hb⟩; refine ⟨_, rfl, ?_⟩; have n_ := o2_ (Kd.R_below (oR bH) hb) (o2_ (Kd.R_lower ho0 (below_size (oB HB))) (o1_ (below_step (oB HB) hb))); clear bH HB; obtain ⟨bH, aM, HB⟩ := n_; (try clear hb); (try clear hb2); (try clear hk); (try clear hi); (try clear ho0)) | ((with_reducible refine gate_dst (N := 3) rfl ?_); refine box_event rfl (N := 3) rfl (cs := #[.int .i64 0, .int .i64 0, .slice none 0 0]) (t := 25) oS ?_; intro aI hg iV hbox hb; have n_ := o2_ (Kd.R_below (oR bH) hb) (o2_ (Kd.R_below (oR aM) hb) (o2_ (below_step (oB HB) hb) (o2_ (hbox) (o2_ ((oG hg (below_size (oB HB)) : w.heap.size ≤ aI)) (o1_ ((oG hg (below_size (oB HB)) : w.heap.size ≤ aI))))))); clear bH aM HB; obtain ⟨bH, aM, HB, aC, iJ, iG⟩ := n_; clear hb hbox hg; have bV : iV.cell? ⟨aI, 0, none⟩ = some (.int .i64 0) := (blk_cell aC.out 0).trans rfl; have bW : iV.cell? ⟨aI, 1, none⟩ = some (.int .i64 0) := (blk_cell aC.out 1).trans rfl; have bX : iV.cell? ⟨aI, 2, none⟩ = some (.slice none 0 0) := (blk_cell aC.out 2).trans rfl; have cN := blk_frozen aC.out 0; have cO := blk_frozen aC.out 1; have cP := blk_frozen aC.out 2; obtain ⟨bB, aZ, iP⟩ := Kd.R_slice aM.out; subst iP) | ((with_reducible refine gate_callee (f := 32) rfl ?_); refine goesL_ (some 23) rfl rfl Try.func32 oK rfl #[.slice A0 l0.length c0] rfl oA ?_; (with_reducible refine (laws_toByteS.calls k _ _ l0 bA _ ?side1 ?side2 A5.out).mono ?_); (case side1 => exact Kd.C_below hU.out (oB HB)); (case side2 => exact hT.out); rintro e lL ⟨kQ, rfl, ho0, hb⟩; refine ⟨_, rfl, ?_⟩; have n_ := o2_ (Kd.R_below (by (with_reducible repeat (first | apply Kd.R_alloc | apply Kd.R_drewN | apply Kd.R_drew)); exact (Kd.R_mono (Kd.R_far (p := ⟨aI, 2, none⟩) (Kd.R_far (p := ⟨aI, 1, none⟩) (Kd.R_far (p := ⟨aI, 0, none⟩) (Kd.R_types aM.out aC.out oD) (fun _ hk => hk.2) (.int .i64 aU)) (fun _ hk => hk.2) (.int .i64 aV)) (fun _ hk => hk.2) (.slice bB aJ.length aZ)) (fun _ h_ => h_.1))) hb) (o2_ (Kd.R_lower (Kd.R_new' ho0 (Kd.R_lt (by (with_reducible repeat (first | apply Kd.R_alloc | apply Kd.R_drewN | apply Kd.R_drew)); exact (Kd.R_mono (Kd.R_far (p := ⟨aI, 2, none⟩) (Kd.R_far (p := ⟨aI, 1, none⟩) (Kd.R_far (p := ⟨aI, 0, none⟩) (Kd.R_types bH.out aC.out oD) (fun _ hk => hk.2) (.int .i64 aU)) (fun _ hk => hk.2) (.int .i64 aV)) (fun _ hk => hk.2) (.slice bB aJ.length aZ)) (fun _ h_ => h_.1))))) (below_size (oB HB))) (o2_ (blk_below (g := aI) (o := .cells #[.int .i64 aU, .int .i64 aV, .slice bB aJ.length aZ] 25 (0, 0)) (blk_put (blk_put (blk_put aC.out 0 _ rfl) 1 _ rfl) 2 _ rfl) hb) (o1_ (below_step (oB HB) hb)))); clear aM aC HB; obtain ⟨aM, aW, aC, HB⟩ := n_; (try clear hb); (try clear hb2); (try clear hk); (try clear hi); (try clear ho0); obtain ⟨eQ, eR, iQ⟩ := Kd.R_slice aW.out; subst iQ) | ((with_reducible refine gate_callee (f := 33) rfl ?_); refine goesL_ (some 26) rfl rfl Try.func33 oK rfl #[.slice eQ bA.length eR] rfl oA ?_; (with_reducible refine (impl_RasRead.calls _ _ bA aK aL aG eN _ ?side1 ?side2 A6.out).mono ?_); (case side1 => repeat (first | exact (Kd.R_reads' aW.out).2.2 | (with_reducible refine Kd.C_alloc ?_ _) | (with_reducible refine Kd.C_drewN ?_ _) | (with_reducible refine Kd.C_drew ?_))); (case side2 => exact (Kd.R_reads' aW.out).2.1); rintro e lM ⟨kR, rfl, ho0, hb⟩; refine ⟨_, rfl, ?_⟩; have n_ := o2_ (Kd.R_elder' (oR aM) (Kd.R_base ho0) hb) (o2_ (Kd.R_below (oR aW) hb) (o2_ (Kd.R_lower (Kd.R_new' ho0 (Kd.R_lt (oR aM))) (below_size (oB HB))) (o2_ (blk_below (oP aC) hb) (o1_ (below_step (oB HB) hb))))); clear aM aW aC HB; obtain ⟨aM, aW, aX, aC, HB⟩ := n_; (try clear hb); (try clear hb2); (try clear hk); (try clear hi); (try clear ho0)) | ((with_reducible refine gate_dst (N := 6) rfl ?_); refine box_event rfl (N := 6) rfl (cs := #[.int .i64 0, .int .i64 0, .slice none 0 0]) (t := 25) oS ?_; intro aE hg dN hbox hb; have n_ := o2_ (Kd.R_below (oR aM) hb) (o2_ (Kd.R_below (oR aW) hb) (o2_ (Kd.R_below (oR aX) hb) (o2_ (blk_below (oP aC) hb) (o2_ (below_step (oB HB) hb) (o2_ (hbox) (o2_ ((oG hg (below_size (oB HB)) : w.heap.size ≤ aE)) (o2_ ((oG hg (below_size (oB HB)) : w.heap.size ≤ aE)) (o2_ ((oL hg (blk_lt (oP aC)))) (o1_ ((oN hg (blk_lt (oP aC))))))))))))); clear aM aW aX aC HB; obtain ⟨aM, aW, aX, aC, HB, aB, iK, iH, aP, aQ⟩ := n_; clear hb hbox hg; have jI := aQ.out; have jY := aP.out; have bY : dN.cell? ⟨aE, 0, none⟩ = some (.int .i64 0) := (blk_cell aB.out 0).trans rfl; have bZ : dN.cell? ⟨aE, 1, none⟩ = some (.int .i64 0) := (blk_cell aB.out 1).trans rfl; have cA : dN.cell? ⟨aE, 2, none⟩ = some (.slice none 0 0) := (blk_cell aB.out 2).trans rfl; have cQ := blk_frozen aB.out 0; have cR := blk_frozen aB.out 1; have cS := blk_frozen aB.out 2; obtain ⟨aS, aR, iR⟩ := Kd.R_slice aX.out; subst iR))
  (try simp only [Act.put, List.setIfInBounds_toArray, List.set_cons_zero, List.set_cons_succ])
  go_cut [37] (fun lH wc => ∃ (kq : Nat) (eP : Bool), lH = .bool eP ∧ Aside0 (laws_FnExactRasRead.j0 kq l0 bT bA eN eP aU aV aJ aK aL aG = some r) ∧ Aside0 (kq ≤ k) ∧ Aside0 (Kd.R (Kd.int .u8) 5 wc w.heap.size (fun _ => True) (.slice eQ bA.length eR) bA) ∧ Aside0 (Kd.R k38 38 wc w.heap.size (fun k_ => some k_ ≠ ((.slice aS aG.length aR) : Value).ownBlock) (.slice bB aJ.length aZ) aJ) ∧ Aside0 (Kd.R k38 38 wc w.heap.size (fun k_ => some k_ ≠ ((.slice bB aJ.length aZ) : Value).ownBlock) (.slice aS aG.length aR) aG) ∧ Aside0 (wc.heap[aI]? = some (.cells #[.int .i64 aU, .int .i64 aV, (.slice bB aJ.length aZ)] 25 (0, 0))) ∧ Aside0 (wc.heap[aE]? = some (.cells #[.int .i64 aK, .int .i64 aL, (.slice aS aG.length aR)] 25 (0, 0))) ∧ Aside0 (Below w.heap.size w wc))
  case first =>
   have H := iM.out
   clear iM
   replace H := Option.bind_eq_some_iff.mp H
   obtain ⟨dH, gY, H⟩ := H
   (try dsimp only at H)
   have iY := Aside0.mk gY
   clear gY
   by_cases gT : dH = true
   ·subst gT
    rw [if_pos rfl] at H
    have H' := Aside0.mk H
    clear H
    have jJ := aQ.out
    have jZ := aP.out
    have cB : dN.cell? ⟨aE, 0, none⟩ = some (.int .i64 0) := (blk_cell aB.out 0).trans rfl
    have cC : dN.cell? ⟨aE, 1, none⟩ = some (.int .i64 0) := (blk_cell aB.out 1).trans rfl
    have cD : dN.cell? ⟨aE, 2, none⟩ = some (.slice none 0 0) := (blk_cell aB.out 2).trans rfl
    have cT := blk_frozen aB.out 0
    have cU := blk_frozen aB.out 1
    have cV := blk_frozen aB.out 2
    have cE : dN.cell? ⟨aI, 0, none⟩ = some (.int .i64 aU) := (blk_cell aC.out 0).trans rfl
    have cF : dN.cell? ⟨aI, 1, none⟩ = some (.int .i64 aV) := (blk_cell aC.out 1).trans rfl
    have cG : dN.cell? ⟨aI, 2, none⟩ = some (.slice bB aJ.length aZ) := (blk_cell aC.out 2).trans rfl
    have cW := blk_frozen aC.out 0
    have cX := blk_frozen aC.out 1
    have cY := blk_frozen aC.out 2
    go_wp2_with (first | ((with_reducible refine gate_callee (f := 34) rfl ?_); refine goesL_ (some 31) rfl rfl Try.func34 oK rfl #[.agg #[.int .i64 aK, .int .i64 aL, .slice aS aG.length aR], .agg #[.int .i64 aU, .int .i64 aV, .slice bB aJ.length aZ]] rfl oA ?_; (with_reducible refine (laws_eqRasRaster.calls k aK aL _ _ aG aU aV _ _ aJ true _ ?side1 ?side2 ?side3 ?side4 iY.out).mono ?_); (case side1 => refine (Kd.R_reads' (e := 38) (base := w.heap.size) (ok := fun k_ => (True ∧ some k_ ≠ (.slice bB aJ.length aZ : Value).ownBlock)) (n := aG.length) (c := aR) ?_).2.2; exact (by (with_reducible repeat (first | apply Kd.R_alloc | apply Kd.R_drewN | apply Kd.R_drew)); exact (Kd.R_mono (Kd.R_far (p := ⟨aE, 2, none⟩) (Kd.R_far (p := ⟨aE, 1, none⟩) (Kd.R_far (p := ⟨aE, 0, none⟩) (Kd.R_types aX.out aB.out oD) (fun _ hk => hk.2) (.int .i64 aK)) (fun _ hk => hk.2) (.int .i64 aL)) (fun _ hk => hk.2) (.slice aS aG.length aR)) (fun _ h_ => h_.1)))); (case side2 => exact (Kd.R_reads' aX.out).2.1); (case side3 => refine (Kd.R_reads' (e := 38) (base := w.heap.size) (ok := fun k_ => (True ∧ some k_ ≠ (.slice aS aG.length aR : Value).ownBlock)) (n := aJ.length) (c := aZ) ?_).2.2; exact (by (with_reducible repeat (first | apply Kd.R_alloc | apply Kd.R_drewN | apply Kd.R_drew)); exact (Kd.R_mono (Kd.R_far (p := ⟨aE, 2, none⟩) (Kd.R_far (p := ⟨aE, 1, none⟩) (Kd.R_far (p := ⟨aE, 0, none⟩) (Kd.R_types aM.out aB.out oD) (fun _ hk => hk.2) (.int .i64 aK)) (fun _ hk => hk.2) (.int .i64 aL)) (fun _ hk => hk.2) (.slice aS aG.length aR)) (fun _ h_ => h_.1)))); (case side4 => exact (Kd.R_reads' aM.out).2.1); rintro e lN ⟨rfl, hb⟩; refine ⟨_, rfl, ?_⟩; have n_ := o2_ (Kd.R_below (by (with_reducible repeat (first | apply Kd.R_alloc | apply Kd.R_drewN | apply Kd.R_drew)); exact (Kd.R_mono (Kd.R_far (p := ⟨aE, 2, none⟩) (Kd.R_far (p := ⟨aE, 1, none⟩) (Kd.R_far (p := ⟨aE, 0, none⟩) (Kd.R_types aM.out aB.out oD) (fun _ hk => hk.2) (.int .i64 aK)) (fun _ hk => hk.2) (.int .i64 aL)) (fun _ hk => hk.2) (.slice aS aG.length aR)) (fun _ h_ => h_.1))) hb) (o2_ (Kd.R_below (by (with_reducible repeat (first | apply Kd.R_alloc | apply Kd.R_drewN | apply Kd.R_drew)); exact (Kd.R_mono (Kd.R_far (p := ⟨aE, 2, none⟩) (Kd.R_far (p := ⟨aE, 1, none⟩) (Kd.R_far (p := ⟨aE, 0, none⟩) (Kd.R_types aW.out aB.out oD) (fun _ hk => hk.2) (.int .i64 aK)) (fun _ hk => hk.2) (.int .i64 aL)) (fun _ hk => hk.2) (.slice aS aG.length aR)) (fun _ h_ => h_.1))) hb) (o2_ (Kd.R_below (by (with_reducible repeat (first | apply Kd.R_alloc | apply Kd.R_drewN | apply Kd.R_drew)); exact (Kd.R_mono (Kd.R_far (p := ⟨aE, 2, none⟩) (Kd.R_far (p := ⟨aE, 1, none⟩) (Kd.R_far (p := ⟨aE, 0, none⟩) (Kd.R_types aX.out aB.out oD) (fun _ hk => hk.2) (.int .i64 aK)) (fun _ hk => hk.2) (.int .i64 aL)) (fun _ hk => hk.2) (.slice aS aG.length aR)) (fun _ h_ => h_.1))) hb) (o2_ (blk_below (oP aC) hb) (o2_ (blk_below (g := aE) (o := .cells #[.int .i64 aK, .int .i64 aL, .slice aS aG.length aR] 25 (0, 0)) (blk_put (blk_put (blk_put aB.out 0 _ rfl) 1 _ rfl) 2 _ rfl) hb) (o1_ (below_step (oB HB) hb)))))); clear aM aW aX aC aB HB; obtain ⟨aM, aW, aX, aC, aB, HB⟩ := n_; (try clear hb); (try clear hb2); (try clear hk); (try clear hi)))
    go_meet
    case rel => exact ⟨_, ((eN != bT)), oU, H', ⟨(by first | omega | exact Nat.le_refl _)⟩, ⟨(by (with_reducible repeat (first | apply Kd.R_alloc | apply Kd.R_drewN | apply Kd.R_drew)); exact Kd.R_mono aW.out (fun _ hk => trivial))⟩, ⟨(by (with_reducible repeat (first | apply Kd.R_alloc | apply Kd.R_drewN | apply Kd.R_drew)); exact Kd.R_mono aM.out (fun _ hk => hk.2))⟩, ⟨(by (with_reducible repeat (first | apply Kd.R_alloc | apply Kd.R_drewN | apply Kd.R_drew)); exact Kd.R_mono aX.out (fun _ hk => hk.2))⟩, ⟨(oP aC)⟩, ⟨(oP aB)⟩, ⟨(oB HB)⟩⟩
   ·replace gT := Bool.eq_false_iff.mpr gT
    subst gT
    rw [if_neg (show ¬ (false = true) by decide)] at H
    have H' := Aside0.mk H
    clear H
    have jK := aQ.out
    have kA := aP.out
    have cH : dN.cell? ⟨aE, 0, none⟩ = some (.int .i64 0) := (blk_cell aB.out 0).trans rfl
    have cI : dN.cell? ⟨aE, 1, none⟩ = some (.int .i64 0) := (blk_cell aB.out 1).trans rfl
    have cJ : dN.cell? ⟨aE, 2, none⟩ = some (.slice none 0 0) := (blk_cell aB.out 2).trans rfl
    have cZ := blk_frozen aB.out 0
    have dA := blk_frozen aB.out 1
    have dB := blk_frozen aB.out 2
    have cK : dN.cell? ⟨aI, 0, none⟩ = some (.int .i64 aU) := (blk_cell aC.out 0).trans rfl
    have cL : dN.cell? ⟨aI, 1, none⟩ = some (.int .i64 aV) := (blk_cell aC.out 1).trans rfl
    have cM : dN.cell? ⟨aI, 2, none⟩ = some (.slice bB aJ.length aZ) := (blk_cell aC.out 2).trans rfl
    have dC := blk_frozen aC.out 0
    have dD := blk_frozen aC.out 1
    have dE := blk_frozen aC.out 2
    go_wp2_with (first | ((with_reducible refine gate_callee (f := 34) rfl ?_); refine goesL_ (some 31) rfl rfl Try.func34 oK rfl #[.agg #[.int .i64 aK, .int .i64 aL, .slice aS aG.length aR], .agg #[.int .i64 aU, .int .i64 aV, .slice bB aJ.length aZ]] rfl oA ?_; (with_reducible refine (laws_eqRasRaster.calls k aK aL _ _ aG aU aV _ _ aJ false _ ?side1 ?side2 ?side3 ?side4 iY.out).mono ?_); (case side1 => refine (Kd.R_reads' (e := 38) (base := w.heap.size) (ok := fun k_ => (True ∧ some k_ ≠ (.slice bB aJ.length aZ : Value).ownBlock)) (n := aG.length) (c := aR) ?_).2.2; exact (by (with_reducible repeat (first | apply Kd.R_alloc | apply Kd.R_drewN | apply Kd.R_drew)); exact (Kd.R_mono (Kd.R_far (p := ⟨aE, 2, none⟩) (Kd.R_far (p := ⟨aE, 1, none⟩) (Kd.R_far (p := ⟨aE, 0, none⟩) (Kd.R_types aX.out aB.out oD) (fun _ hk => hk.2) (.int .i64 aK)) (fun _ hk => hk.2) (.int .i64 aL)) (fun _ hk => hk.2) (.slice aS aG.length aR)) (fun _ h_ => h_.1)))); (case side2 => exact (Kd.R_reads' aX.out).2.1); (case side3 => refine (Kd.R_reads' (e := 38) (base := w.heap.size) (ok := fun k_ => (True ∧ some k_ ≠ (.slice aS aG.length aR : Value).ownBlock)) (n := aJ.length) (c := aZ) ?_).2.2; exact (by (with_reducible repeat (first | apply Kd.R_alloc | apply Kd.R_drewN | apply Kd.R_drew)); exact (Kd.R_mono (Kd.R_far (p := ⟨aE, 2, none⟩) (Kd.R_far (p := ⟨aE, 1, none⟩) (Kd.R_far (p := ⟨aE, 0, none⟩) (Kd.R_types aM.out aB.out oD) (fun _ hk => hk.2) (.int .i64 aK)) (fun _ hk => hk.2) (.int .i64 aL)) (fun _ hk => hk.2) (.slice aS aG.length aR)) (fun _ h_ => h_.1)))); (case side4 => exact (Kd.R_reads' aM.out).2.1); rintro e lO ⟨rfl, hb⟩; refine ⟨_, rfl, ?_⟩; have n_ := o2_ (Kd.R_below (by (with_reducible repeat (first | apply Kd.R_alloc | apply Kd.R_drewN | apply Kd.R_drew)); exact (Kd.R_mono (Kd.R_far (p := ⟨aE, 2, none⟩) (Kd.R_far (p := ⟨aE, 1, none⟩) (Kd.R_far (p := ⟨aE, 0, none⟩) (Kd.R_types aM.out aB.out oD) (fun _ hk => hk.2) (.int .i64 aK)) (fun _ hk => hk.2) (.int .i64 aL)) (fun _ hk => hk.2) (.slice aS aG.length aR)) (fun _ h_ => h_.1))) hb) (o2_ (Kd.R_below (by (with_reducible repeat (first | apply Kd.R_alloc | apply Kd.R_drewN | apply Kd.R_drew)); exact (Kd.R_mono (Kd.R_far (p := ⟨aE, 2, none⟩) (Kd.R_far (p := ⟨aE, 1, none⟩) (Kd.R_far (p := ⟨aE, 0, none⟩) (Kd.R_types aW.out aB.out oD) (fun _ hk => hk.2) (.int .i64 aK)) (fun _ hk => hk.2) (.int .i64 aL)) (fun _ hk => hk.2) (.slice aS aG.length aR)) (fun _ h_ => h_.1))) hb) (o2_ (Kd.R_below (by (with_reducible repeat (first | apply Kd.R_alloc | apply Kd.R_drewN | apply Kd.R_drew)); exact (Kd.R_mono (Kd.R_far (p := ⟨aE, 2, none⟩) (Kd.R_far (p := ⟨aE, 1, none⟩) (Kd.R_far (p := ⟨aE, 0, none⟩) (Kd.R_types aX.out aB.out oD) (fun _ hk => hk.2) (.int .i64 aK)) (fun _ hk => hk.2) (.int .i64 aL)) (fun _ hk => hk.2) (.slice aS aG.length aR)) (fun _ h_ => h_.1))) hb) (o2_ (blk_below (oP aC) hb) (o2_ (blk_below (g := aE) (o := .cells #[.int .i64 aK, .int .i64 aL, .slice aS aG.length aR] 25 (0, 0)) (blk_put (blk_put (blk_put aB.out 0 _ rfl) 1 _ rfl) 2 _ rfl) hb) (o1_ (below_step (oB HB) hb)))))); clear aM aW aX aC aB HB; obtain ⟨aM, aW, aX, aC, aB, HB⟩ := n_; (try clear hb); (try clear hb2); (try clear hk); (try clear hi)))
    go_meet
    case rel => exact ⟨_, (true), oU, H', ⟨(by first | omega | exact Nat.le_refl _)⟩, ⟨(by (with_reducible repeat (first | apply Kd.R_alloc | apply Kd.R_drewN | apply Kd.R_drew)); exact Kd.R_mono aW.out (fun _ hk => trivial))⟩, ⟨(by (with_reducible repeat (first | apply Kd.R_alloc | apply Kd.R_drewN | apply Kd.R_drew)); exact Kd.R_mono aM.out (fun _ hk => hk.2))⟩, ⟨(by (with_reducible repeat (first | apply Kd.R_alloc | apply Kd.R_drewN | apply Kd.R_drew)); exact Kd.R_mono aX.out (fun _ hk => hk.2))⟩, ⟨(oP aC)⟩, ⟨(oP aB)⟩, ⟨(oB HB)⟩⟩
  case rest =>
   clear iM
   try clear c1
   try clear c2
   try clear eW
   try clear eX
   try clear p2
   try clear c3
   try clear c16
   try clear c18
   try clear gT
   try clear c23
   try clear c27
   try clear bV
   try clear bW
   try clear bX
   try clear bY
   try clear bZ
   try clear cA
   try clear cB
   try clear cC
   try clear cD
   try clear cE
   try clear cF
   try clear cG
   try clear cH
   try clear cI
   try clear cJ
   try clear cK
   try clear cL
   try clear cM
   try clear cN
   try clear cO
   try clear cP
   try clear cQ
   try clear cR
   try clear cS
   try clear cT
   try clear cU
   try clear cV
   try clear cW
   try clear cX
   try clear cY
   try clear cZ
   try clear dA
   try clear dB
   try clear dC
   try clear dD
   try clear dE
   obtain ⟨kq, eP, rfl, HA, hK, bQ, aD, aA, aC, aB, HB⟩ := hcut
   cases kq with
   | zero => exact nomatch (show none = some _ from HA.out)
   | succ kj6 =>
    have H := HA.out
    clear HA
    simp only [laws_FnExactRasRead.j0] at H
    by_cases gU : eP = true
    ·subst gU
     rw [if_pos rfl] at H
     exact absurd H (by simp)
    ·replace gU := Bool.eq_false_iff.mpr gU
     subst gU
     rw [if_neg (show ¬ (false = true) by decide)] at H
     replace H := Option.bind_eq_some_iff.mp H
     obtain ⟨dI, gZ, H⟩ := H
     (try dsimp only at H)
     have kV := Aside0.mk gZ
     clear gZ
     replace H := Option.bind_eq_some_iff.mp H
     obtain ⟨eT, hA, H⟩ := H
     (try dsimp only at H)
     have kW := Aside0.mk hA
     clear hA
     by_cases gV : eT = true
     ·subst gV
      rw [if_pos rfl] at H
      replace H := Option.bind_eq_some_iff.mp H
      obtain ⟨⟨eO, hS⟩, hB, H⟩ := H
      (try dsimp only at H)
      have kX := Aside0.mk hB
      clear hB
      have gQ := Aside0.mk H
      clear H
      go_upto_region 12 with (first | ((with_reducible refine gate_callee (f := 32) rfl ?_); refine goesL_ (some 40) rfl rfl Try.func32 oK rfl #[.slice A0 l0.length c0] rfl oA ?_; (with_reducible refine (laws_toByteS.calls kj6 _ _ l0 dI _ ?side1 ?side2 kV.out).mono ?_); (case side1 => repeat (first | exact (Kd.C_below hU.out HB.out) | (with_reducible refine Kd.C_alloc ?_ _) | (with_reducible refine Kd.C_drewN ?_ _) | (with_reducible refine Kd.C_drew ?_))); (case side2 => exact hT.out); rintro e lP ⟨kS, rfl, ho0, hb⟩; refine ⟨_, rfl, ?_⟩; have n_ := o2_ (Kd.R_elder' (oR bQ) (Kd.R_base ho0) hb) (o2_ (Kd.R_below (oR aD) hb) (o2_ (Kd.R_below (oR aA) hb) (o2_ (Kd.R_lower (Kd.R_new' ho0 (Kd.R_lt (oR bQ))) (below_size (oB HB))) (o2_ (blk_below (oP aC) hb) (o2_ (blk_below (oP aB) hb) (o1_ (below_step (oB HB) hb))))))); clear bQ aD aA aC aB HB; obtain ⟨bQ, aD, aA, dK, aC, aB, HB⟩ := n_; (try clear hb); (try clear hb2); (try clear hk); (try clear hi); (try clear ho0); obtain ⟨iE, iN, iS⟩ := Kd.R_slice dK.out; subst iS) | ((with_reducible refine gate_callee (f := 35) rfl ?_); refine goesL_ (some 41) rfl rfl Try.func35 oK rfl #[.slice eQ bA.length eR, .slice iE dI.length iN] rfl oA ?_; (with_reducible refine (laws_eqByteS.calls kj6 _ _ bA _ _ dI true _ ?side1 ?side2 ?side3 ?side4 kW.out).mono ?_); (case side1 => repeat (first | exact (Kd.R_reads' bQ.out).2.2 | (with_reducible refine Kd.C_alloc ?_ _) | (with_reducible refine Kd.C_drewN ?_ _) | (with_reducible refine Kd.C_drew ?_))); (case side2 => exact (Kd.R_reads' bQ.out).2.1); (case side3 => repeat (first | exact (Kd.R_reads' dK.out).2.2 | (with_reducible refine Kd.C_alloc ?_ _) | (with_reducible refine Kd.C_drewN ?_ _) | (with_reducible refine Kd.C_drew ?_))); (case side4 => exact (Kd.R_reads' dK.out).2.1); rintro e w' ⟨rfl, ⟨nd, rfl⟩⟩; refine ⟨_, rfl, ?_⟩) | ((with_reducible refine gate_callee (f := 36) rfl ?_); refine goesL_ (some 45) rfl rfl Try.func36 oK rfl #[.slice eQ bA.length eR, .int .i64 1] rfl oA ?_; (with_reducible refine (laws_markByteS.calls kj6 (fun k_ => some k_ = (.slice eQ bA.length eR : Value).ownBlock) (.slice eQ bA.length eR) bA 1 eO hS w _ ?side1 ?side2 kX.out).mono ?_); (case side1 => exact oB HB); (case side2 => exact Kd.R_tight rfl bQ.out); rintro e eS ⟨rfl, hy0, hb, hkp⟩; refine ⟨_, rfl, ?_⟩; have n_ := o2_ (Kd.R_mono (ok' := fun k_ => some k_ ≠ (.slice aS aG.length aR : Value).ownBlock) (Kd.R_keptB ((Kd.R_apart' aD.out (Kd.R_typed bQ.out) oD)) hkp (fun k_ hk_ hs_ => (hk_.2) hs_)) (fun k_ hk_ => hk_.1.1)) (o2_ (Kd.R_mono (ok' := fun k_ => some k_ ≠ (.slice bB aJ.length aZ : Value).ownBlock) (Kd.R_keptB ((Kd.R_apart' aA.out (Kd.R_typed bQ.out) oD)) hkp (fun k_ hk_ hs_ => (hk_.2) hs_)) (fun k_ hk_ => hk_.1.1)) (o2_ (blk_kept (oP aC) hkp (fun hs_ => (fun e_ => (Kd.R_ne bQ.out aC.out oD) e_) hs_)) (o2_ (blk_kept (oP aB) hkp (fun hs_ => (fun e_ => (Kd.R_ne bQ.out aB.out oD) e_) hs_)) (o1_ (hb))))); clear aD aA aC aB HB; obtain ⟨aD, aA, aC, aB, HB⟩ := n_; (try clear hb); (try clear hkp); (try clear hy0)))
      (try simp only [Act.put, List.setIfInBounds_toArray, List.set_cons_zero, List.set_cons_succ])
      go_cut [58] (fun lI wc => ∃ (kq : Nat) (dF : Bool), lI = .bool dF ∧ Aside0 (laws_FnExactRasRead.j1 kq l0 bT dF aU aV aJ aK aL aG = some r) ∧ Aside0 (kq ≤ kj6) ∧ Aside0 (Kd.R k38 38 wc w.heap.size (fun k_ => some k_ ≠ ((.slice aS aG.length aR) : Value).ownBlock) (.slice bB aJ.length aZ) aJ) ∧ Aside0 (Kd.R k38 38 wc w.heap.size (fun k_ => some k_ ≠ ((.slice bB aJ.length aZ) : Value).ownBlock) (.slice aS aG.length aR) aG) ∧ Aside0 (wc.heap[aI]? = some (.cells #[.int .i64 aU, .int .i64 aV, (.slice bB aJ.length aZ)] 25 (0, 0))) ∧ Aside0 (wc.heap[aE]? = some (.cells #[.int .i64 aK, .int .i64 aL, (.slice aS aG.length aR)] 25 (0, 0))) ∧ Aside0 (Below w.heap.size w wc))
      case first =>
       have H := gQ.out
       clear gQ
       by_cases gO : eO < 0
       ·rw [if_pos gO] at H
        have bR : decide (eO < 0) = true := decide_eq_true gO
        clear gO
        (first | rw [bR] | (simp only [i64_w, i32_w]; rw [bR]) | skip)
        have H' := Aside0.mk H
        clear H
        go_wp2
        go_meet
        case rel => exact ⟨_, (true), oU, H', ⟨(by have := hK.out; first | omega | exact Nat.le_refl _)⟩, ⟨(oR aD)⟩, ⟨(oR aA)⟩, ⟨(oP aC)⟩, ⟨(oP aB)⟩, ⟨(oB HB)⟩⟩
       ·rw [if_neg gO] at H
        have bR : decide (eO < 0) = false := decide_eq_false gO
        clear gO
        (first | rw [bR] | (simp only [i64_w, i32_w]; rw [bR]) | skip)
        replace H := Option.bind_eq_some_iff.mp H
        obtain ⟨eU, hC, H⟩ := H
        (try dsimp only at H)
        have jB := Aside0.mk hC
        clear hC
        by_cases gW : eU = true
        ·subst gW
         rw [if_pos rfl] at H
         have H' := Aside0.mk H
         clear H
         have jL := aQ.out
         have kB := aP.out
         have dP : eS.cell? ⟨aE, 0, none⟩ = some (.int .i64 aK) := (blk_cell aB.out 0).trans rfl
         have dQ : eS.cell? ⟨aE, 1, none⟩ = some (.int .i64 aL) := (blk_cell aB.out 1).trans rfl
         have dR : eS.cell? ⟨aE, 2, none⟩ = some (.slice aS aG.length aR) := (blk_cell aB.out 2).trans rfl
         have eB := blk_frozen aB.out 0
         have eC := blk_frozen aB.out 1
         have eD := blk_frozen aB.out 2
         have dS : eS.cell? ⟨aI, 0, none⟩ = some (.int .i64 aU) := (blk_cell aC.out 0).trans rfl
         have dT : eS.cell? ⟨aI, 1, none⟩ = some (.int .i64 aV) := (blk_cell aC.out 1).trans rfl
         have dU : eS.cell? ⟨aI, 2, none⟩ = some (.slice bB aJ.length aZ) := (blk_cell aC.out 2).trans rfl
         have eE := blk_frozen aC.out 0
         have eF := blk_frozen aC.out 1
         have eG := blk_frozen aC.out 2
         go_wp2_with (first | (go_at_call 34; (with_reducible refine (laws_eqRasRaster.calls kj6 aK aL _ _ aG aU aV _ _ aJ true _ ?side1 ?side2 ?side3 ?side4 jB.out).mono ?_); (case side1 => repeat (first | exact (Kd.R_reads' aA.out).2.2 | (with_reducible refine Kd.C_alloc ?_ _) | (with_reducible refine Kd.C_drewN ?_ _) | (with_reducible refine Kd.C_drew ?_))); (case side2 => exact (Kd.R_reads' aA.out).2.1); (case side3 => repeat (first | exact (Kd.R_reads' aD.out).2.2 | (with_reducible refine Kd.C_alloc ?_ _) | (with_reducible refine Kd.C_drewN ?_ _) | (with_reducible refine Kd.C_drew ?_))); (case side4 => exact (Kd.R_reads' aD.out).2.1); rintro e lQ ⟨rfl, hb⟩; have n_ := o2_ (Kd.R_below (oR aD) hb) (o2_ (Kd.R_below (oR aA) hb) (o2_ (blk_below (oP aC) hb) (o2_ (blk_below (oP aB) hb) (o1_ (below_step (oB HB) hb))))); clear aD aA aC aB HB; obtain ⟨aD, aA, aC, aB, HB⟩ := n_; (try clear hb); (try clear hb2); (try clear hk); (try clear hi)))
         go_meet
         case rel => exact ⟨_, ((eN != bT)), oU, H', ⟨(by have := hK.out; first | omega | exact Nat.le_refl _)⟩, ⟨(oR aD)⟩, ⟨(oR aA)⟩, ⟨(oP aC)⟩, ⟨(oP aB)⟩, ⟨(oB HB)⟩⟩
        ·replace gW := Bool.eq_false_iff.mpr gW
         subst gW
         rw [if_neg (show ¬ (false = true) by decide)] at H
         have H' := Aside0.mk H
         clear H
         have jM := aQ.out
         have kC := aP.out
         have dV : eS.cell? ⟨aE, 0, none⟩ = some (.int .i64 aK) := (blk_cell aB.out 0).trans rfl
         have dW : eS.cell? ⟨aE, 1, none⟩ = some (.int .i64 aL) := (blk_cell aB.out 1).trans rfl
         have dX : eS.cell? ⟨aE, 2, none⟩ = some (.slice aS aG.length aR) := (blk_cell aB.out 2).trans rfl
         have eH := blk_frozen aB.out 0
         have eI := blk_frozen aB.out 1
         have eJ := blk_frozen aB.out 2
         have dY : eS.cell? ⟨aI, 0, none⟩ = some (.int .i64 aU) := (blk_cell aC.out 0).trans rfl
         have dZ : eS.cell? ⟨aI, 1, none⟩ = some (.int .i64 aV) := (blk_cell aC.out 1).trans rfl
         have eA : eS.cell? ⟨aI, 2, none⟩ = some (.slice bB aJ.length aZ) := (blk_cell aC.out 2).trans rfl
         have eK := blk_frozen aC.out 0
         have eL := blk_frozen aC.out 1
         have eM := blk_frozen aC.out 2
         go_wp2_with (first | (go_at_call 34; (with_reducible refine (laws_eqRasRaster.calls kj6 aK aL _ _ aG aU aV _ _ aJ false _ ?side1 ?side2 ?side3 ?side4 jB.out).mono ?_); (case side1 => repeat (first | exact (Kd.R_reads' aA.out).2.2 | (with_reducible refine Kd.C_alloc ?_ _) | (with_reducible refine Kd.C_drewN ?_ _) | (with_reducible refine Kd.C_drew ?_))); (case side2 => exact (Kd.R_reads' aA.out).2.1); (case side3 => repeat (first | exact (Kd.R_reads' aD.out).2.2 | (with_reducible refine Kd.C_alloc ?_ _) | (with_reducible refine Kd.C_drewN ?_ _) | (with_reducible refine Kd.C_drew ?_))); (case side4 => exact (Kd.R_reads' aD.out).2.1); rintro e lR ⟨rfl, hb⟩; have n_ := o2_ (Kd.R_below (oR aD) hb) (o2_ (Kd.R_below (oR aA) hb) (o2_ (blk_below (oP aC) hb) (o2_ (blk_below (oP aB) hb) (o1_ (below_step (oB HB) hb))))); clear aD aA aC aB HB; obtain ⟨aD, aA, aC, aB, HB⟩ := n_; (try clear hb); (try clear hb2); (try clear hk); (try clear hi)))
         go_meet
         case rel => exact ⟨_, (true), oU, H', ⟨(by have := hK.out; first | omega | exact Nat.le_refl _)⟩, ⟨(oR aD)⟩, ⟨(oR aA)⟩, ⟨(oP aC)⟩, ⟨(oP aB)⟩, ⟨(oB HB)⟩⟩
      case rest =>
       clear gQ
       try clear c1
       try clear c2
       try clear eW
       try clear eX
       try clear p2
       try clear c3
       try clear c4
       try clear c16
       try clear c18
       try clear gT
       try clear c23
       try clear c27
       try clear gU
       try clear c32
       try clear c33
       try clear gV
       try clear c35
       try clear c36
       try clear gO
       try clear bR
       try clear gW
       try clear c43
       try clear c47
       try clear bV
       try clear bW
       try clear bX
       try clear bY
       try clear bZ
       try clear cA
       try clear cB
       try clear cC
       try clear cD
       try clear cE
       try clear cF
       try clear cG
       try clear cH
       try clear cI
       try clear cJ
       try clear cK
       try clear cL
       try clear cM
       try clear dP
       try clear dQ
       try clear dR
       try clear dS
       try clear dT
       try clear dU
       try clear dV
       try clear dW
       try clear dX
       try clear dY
       try clear dZ
       try clear eA
       try clear cN
       try clear cO
       try clear cP
       try clear cQ
       try clear cR
       try clear cS
       try clear cT
       try clear cU
       try clear cV
       try clear cW
       try clear cX
       try clear cY
       try clear cZ
       try clear dA
       try clear dB
       try clear dC
       try clear dD
       try clear dE
       try clear eB
       try clear eC
       try clear eD
       try clear eE
       try clear eF
       try clear eG
       try clear eH
       try clear eI
       try clear eJ
       try clear eK
       try clear eL
       try clear eM
       try clear p2
       obtain ⟨kq, dF, rfl, HA, hJ, aD, aA, aC, aB, HB⟩ := hcut
       cases kq with
       | zero => exact nomatch (show none = some _ from HA.out)
       | succ kj35 =>
        have H := HA.out
        clear HA
        simp only [laws_FnExactRasRead.j1] at H
        by_cases hL : dF = true
        ·subst hL
         rw [if_pos rfl] at H
         exact absurd H (by simp)
        ·replace hL := Bool.eq_false_iff.mpr hL
         subst hL
         rw [if_neg (show ¬ (false = true) by decide)] at H
         replace H := Option.bind_eq_some_iff.mp H
         obtain ⟨⟨bP, bL⟩, hD, H⟩ := H
         (try dsimp only at H)
         have kY := Aside0.mk hD
         clear hD
         replace H := Option.bind_eq_some_iff.mp H
         obtain ⟨bM, hE, H⟩ := H
         (try dsimp only at H)
         have kZ := Aside0.mk hE
         clear hE
         by_cases hM : bM < 0
         ·rw [if_pos hM] at H
          exact absurd H (by simp)
         ·rw [if_neg hM] at H
          have hN : decide (bM < 0) = false := decide_eq_false hM
          clear hM
          by_cases gX : bM = bP
          ·rw [if_pos gX] at H
           have hO : (bM == bP) = true := beq_iff_eq.mpr gX
           have hP : (bM != bP) = false := bne_eq_false_iff_eq.mpr gX
           clear gX
           replace H := Option.bind_eq_some_iff.mp H
           obtain ⟨dJ, hF, H⟩ := H
           (try dsimp only at H)
           have lA := Aside0.mk hF
           clear hF
           replace H := Option.bind_eq_some_iff.mp H
           obtain ⟨⟨bC, bD, aT, gP⟩, hG, H⟩ := H
           (try dsimp only at H)
           have lB := Aside0.mk hG
           clear hG
           have gR := Aside0.mk H
           clear H
           have jN := aQ.out
           have kD := aP.out
           have eY : wc.cell? ⟨aE, 0, none⟩ = some (.int .i64 aK) := (blk_cell aB.out 0).trans rfl
           have eZ : wc.cell? ⟨aE, 1, none⟩ = some (.int .i64 aL) := (blk_cell aB.out 1).trans rfl
           have fA : wc.cell? ⟨aE, 2, none⟩ = some (.slice aS aG.length aR) := (blk_cell aB.out 2).trans rfl
           have fT := blk_frozen aB.out 0
           have fU := blk_frozen aB.out 1
           have fV := blk_frozen aB.out 2
           go_upto_region 23 with (first | ((with_reducible refine gate_callee (f := 37) rfl ?_); refine goesL_ (some 61) rfl rfl Try.func37 oK rfl #[.agg #[.int .i64 aK, .int .i64 aL, .slice aS aG.length aR], .int .i64 1] rfl oA ?_; (with_reducible refine (laws_markRasRaster.calls kj35 aK aL (fun k_ => some k_ = (.slice aS aG.length aR : Value).ownBlock) (.slice aS aG.length aR) aG 1 bP bL w _ ?side1 ?side2 kY.out).mono ?_); (case side1 => exact oB HB); (case side2 => exact Kd.R_tight rfl aA.out); rintro e iW ⟨rfl, hy0, hb, hkp⟩; refine ⟨_, rfl, ?_⟩; have n_ := o2_ (Kd.R_mono (ok' := fun k_ => some k_ ≠ (.slice aS aG.length aR : Value).ownBlock) (Kd.R_keptB (aD.out) hkp (fun k_ hk_ hs_ => (hk_) hs_)) (fun k_ hk_ => hk_.1)) (o2_ (Kd.R_reok rfl hy0 (fun k_ e_ => aA.out.1 k_ e_)) (o2_ (blk_kept (oP aC) hkp (fun hs_ => (fun e_ => (Kd.R_ne aA.out aC.out oD) e_) hs_)) (o2_ (blk_kept (oP aB) hkp (fun hs_ => (fun e_ => (Kd.R_ne aA.out aB.out oD) e_) hs_)) (o1_ (hb))))); clear aD aA aC aB HB; obtain ⟨aD, aA, aC, aB, HB⟩ := n_; (try clear hb); (try clear hkp); (try clear hy0); have fB : iW.cell? ⟨aE, 0, none⟩ = some (.int .i64 aK) := (blk_cell aB.out 0).trans rfl; have fC : iW.cell? ⟨aE, 1, none⟩ = some (.int .i64 aL) := (blk_cell aB.out 1).trans rfl; have fD : iW.cell? ⟨aE, 2, none⟩ = some (.slice aS aG.length aR) := (blk_cell aB.out 2).trans rfl; have fW := blk_frozen aB.out 0; have fX := blk_frozen aB.out 1; have fY := blk_frozen aB.out 2) | ((with_reducible refine gate_callee (f := 38) rfl ?_); refine goesL_ (some 64) rfl rfl Try.func38 oK rfl #[.agg #[.int .i64 aK, .int .i64 aL, .slice aS bL.length aR], .int .i64 1] rfl (by (try simp only [List.map_toArray, List.map_cons, List.map_nil]); first | done | (rw [show bL.length = aG.length from (Kd.R_reads' aA.out).1.symm] <;> rfl) | rfl | (simp only [List.length_drop, List.length_take]; rfl)) ?_; (with_reducible refine (laws_heldRasRaster.calls kj35 aK aL _ _ bL 1 bM _ ?side1 ?side2 kZ.out).mono ?_); (case side1 => repeat (first | exact (Kd.R_reads' aA.out).2.2 | (with_reducible refine Kd.C_alloc ?_ _) | (with_reducible refine Kd.C_drewN ?_ _) | (with_reducible refine Kd.C_drew ?_))); (case side2 => rw [show bL.length = aG.length from (Kd.R_reads' aA.out).1.symm]; exact (Kd.R_reads' aA.out).2.1); rintro e lS ⟨rfl, hb⟩; refine ⟨_, rfl, ?_⟩; have n_ := o2_ (Kd.R_below (oR aD) hb) (o2_ (Kd.R_below (oR aA) hb) (o2_ (blk_below (oP aC) hb) (o2_ (blk_below (oP aB) hb) (o1_ (below_step (oB HB) hb))))); clear aD aA aC aB HB; obtain ⟨aD, aA, aC, aB, HB⟩ := n_; (try clear hb); (try clear hb2); (try clear hk); (try clear hi)) | ((with_reducible refine gate_callee (f := 32) rfl ?_); refine goesL_ (some 72) rfl rfl Try.func32 oK rfl #[.slice A0 l0.length c0] rfl oA ?_; (with_reducible refine (laws_toByteS.calls kj35 _ _ l0 dJ _ ?side1 ?side2 lA.out).mono ?_); (case side1 => repeat (first | exact (Kd.C_below hU.out HB.out) | (with_reducible refine Kd.C_alloc ?_ _) | (with_reducible refine Kd.C_drewN ?_ _) | (with_reducible refine Kd.C_drew ?_))); (case side2 => exact hT.out); rintro e lT ⟨kT, rfl, ho0, hb⟩; refine ⟨_, rfl, ?_⟩; have n_ := o2_ (Kd.R_below (oR aD) hb) (o2_ (Kd.R_below (oR aA) hb) (o2_ (Kd.R_lower ho0 (below_size (oB HB))) (o2_ (blk_below (oP aC) hb) (o2_ (blk_below (oP aB) hb) (o1_ (below_step (oB HB) hb)))))); clear aD aA aC aB HB; obtain ⟨aD, aA, dL, aC, aB, HB⟩ := n_; (try clear hb); (try clear hb2); (try clear hk); (try clear hi); (try clear ho0); obtain ⟨iF, iO, iT⟩ := Kd.R_slice dL.out; subst iT) | ((with_reducible refine gate_callee (f := 33) rfl ?_); refine goesL_ (some 73) rfl rfl Try.func33 oK rfl #[.slice iF dJ.length iO] rfl oA ?_; (with_reducible refine (impl_RasRead.calls _ _ dJ bC bD aT gP _ ?side1 ?side2 lB.out).mono ?_); (case side1 => repeat (first | exact (Kd.R_reads' dL.out).2.2 | (with_reducible refine Kd.C_alloc ?_ _) | (with_reducible refine Kd.C_drewN ?_ _) | (with_reducible refine Kd.C_drew ?_))); (case side2 => exact (Kd.R_reads' dL.out).2.1); rintro e lU ⟨kU, rfl, ho0, hb⟩; refine ⟨_, rfl, ?_⟩; have n_ := o2_ (Kd.R_elder' (oR aD) (Kd.R_base ho0) hb) (o2_ (Kd.R_elder' (oR aA) (Kd.R_base ho0) hb) (o2_ (Kd.R_lower (Kd.R_new' (Kd.R_new' ho0 (Kd.R_lt (oR aD))) (Kd.R_lt (oR aA))) (below_size (oB HB))) (o2_ (blk_below (oP aC) hb) (o2_ (blk_below (oP aB) hb) (o1_ (below_step (oB HB) hb)))))); clear aD aA aC aB HB; obtain ⟨aD, aA, aY, aC, aB, HB⟩ := n_; (try clear hb); (try clear hb2); (try clear hk); (try clear hi); (try clear ho0)) | ((with_reducible refine gate_dst (N := 11) rfl ?_); refine box_event rfl (N := 11) rfl (cs := #[.int .i64 0, .int .i64 0, .slice none 0 0]) (t := 25) oS ?_; intro aF hg dO hbox hb; have n_ := o2_ (Kd.R_below (oR aD) hb) (o2_ (Kd.R_below (oR aA) hb) (o2_ (Kd.R_below (oR aY) hb) (o2_ (blk_below (oP aC) hb) (o2_ (blk_below (oP aB) hb) (o2_ (below_step (oB HB) hb) (o2_ (hbox) (o2_ ((oG hg (below_size (oB HB)) : w.heap.size ≤ aF)) (o2_ ((oG hg (below_size (oB HB)) : w.heap.size ≤ aF)) (o2_ ((oL hg (blk_lt (oP aC)))) (o2_ ((oN hg (blk_lt (oP aC)))) (o2_ ((oL hg (blk_lt (oP aB)))) (o1_ ((oN hg (blk_lt (oP aB)))))))))))))))); clear aD aA aY aC aB HB; obtain ⟨aD, aA, aY, aC, aB, HB, aH, iL, iI, bJ, bK, bF, bG⟩ := n_; clear hb hbox hg; have jO := bK.out; have kE := bJ.out; have jP := bG.out; have kF := bF.out; have fE : dO.cell? ⟨aF, 0, none⟩ = some (.int .i64 0) := (blk_cell aH.out 0).trans rfl; have fF : dO.cell? ⟨aF, 1, none⟩ = some (.int .i64 0) := (blk_cell aH.out 1).trans rfl; have fG : dO.cell? ⟨aF, 2, none⟩ = some (.slice none 0 0) := (blk_cell aH.out 2).trans rfl; have fZ := blk_frozen aH.out 0; have gA := blk_frozen aH.out 1; have gB := blk_frozen aH.out 2; obtain ⟨bI, bE, iU⟩ := Kd.R_slice aY.out; subst iU))
           (try simp only [Act.put, List.setIfInBounds_toArray, List.set_cons_zero, List.set_cons_succ])
           go_cut [84] (fun lJ wc => ∃ (kq : Nat) (dG : Bool), lJ = .bool dG ∧ Aside0 (laws_FnExactRasRead.j2 kq bP dG aK aL bL = some r) ∧ Aside0 (kq ≤ kj35) ∧ Aside0 (Kd.R k38 38 wc w.heap.size (fun k_ => some k_ ≠ ((.slice aS aG.length aR) : Value).ownBlock ∧ some k_ ≠ ((.slice bI aT.length bE) : Value).ownBlock) (.slice bB aJ.length aZ) aJ) ∧ Aside0 (Kd.R k38 38 wc w.heap.size (fun k_ => some k_ ≠ ((.slice bB aJ.length aZ) : Value).ownBlock ∧ some k_ ≠ ((.slice bI aT.length bE) : Value).ownBlock) (.slice aS aG.length aR) bL) ∧ Aside0 (Kd.R k38 38 wc w.heap.size (fun k_ => some k_ ≠ ((.slice bB aJ.length aZ) : Value).ownBlock ∧ some k_ ≠ ((.slice aS aG.length aR) : Value).ownBlock) (.slice bI aT.length bE) aT) ∧ Aside0 (wc.heap[aI]? = some (.cells #[.int .i64 aU, .int .i64 aV, (.slice bB aJ.length aZ)] 25 (0, 0))) ∧ Aside0 (wc.heap[aE]? = some (.cells #[.int .i64 aK, .int .i64 aL, (.slice aS aG.length aR)] 25 (0, 0))) ∧ Aside0 (wc.heap[aF]? = some (.cells #[.int .i64 bC, .int .i64 bD, (.slice bI aT.length bE)] 25 (0, 0))) ∧ Aside0 (Below w.heap.size w wc))
           case first =>
            have H := gR.out
            clear gR
            replace H := Option.bind_eq_some_iff.mp H
            obtain ⟨eV, hH, H⟩ := H
            (try dsimp only at H)
            have jE := Aside0.mk hH
            clear hH
            by_cases hQ : eV = true
            ·subst hQ
             rw [if_pos rfl] at H
             have H' := Aside0.mk H
             clear H
             have jQ := bK.out
             have kG := bJ.out
             have jR := bG.out
             have kH := bF.out
             have fH : dO.cell? ⟨aF, 0, none⟩ = some (.int .i64 0) := (blk_cell aH.out 0).trans rfl
             have fI : dO.cell? ⟨aF, 1, none⟩ = some (.int .i64 0) := (blk_cell aH.out 1).trans rfl
             have fJ : dO.cell? ⟨aF, 2, none⟩ = some (.slice none 0 0) := (blk_cell aH.out 2).trans rfl
             have gC := blk_frozen aH.out 0
             have gD := blk_frozen aH.out 1
             have gE := blk_frozen aH.out 2
             have jS := aP.out
             have kI := aQ.out
             have fK : dO.cell? ⟨aI, 0, none⟩ = some (.int .i64 aU) := (blk_cell aC.out 0).trans rfl
             have fL : dO.cell? ⟨aI, 1, none⟩ = some (.int .i64 aV) := (blk_cell aC.out 1).trans rfl
             have fM : dO.cell? ⟨aI, 2, none⟩ = some (.slice bB aJ.length aZ) := (blk_cell aC.out 2).trans rfl
             have gF := blk_frozen aC.out 0
             have gG := blk_frozen aC.out 1
             have gH := blk_frozen aC.out 2
             go_wp2_with (first | ((with_reducible refine gate_callee (f := 34) rfl ?_); refine goesL_ (some 78) rfl rfl Try.func34 oK rfl #[.agg #[.int .i64 bC, .int .i64 bD, .slice bI aT.length bE], .agg #[.int .i64 aU, .int .i64 aV, .slice bB aJ.length aZ]] rfl oA ?_; (with_reducible refine (laws_eqRasRaster.calls kj35 bC bD _ _ aT aU aV _ _ aJ true _ ?side1 ?side2 ?side3 ?side4 jE.out).mono ?_); (case side1 => refine (Kd.R_reads' (e := 38) (base := w.heap.size) (ok := fun k_ => ((True ∧ some k_ ≠ (.slice bB aJ.length aZ : Value).ownBlock) ∧ some k_ ≠ (.slice aS aG.length aR : Value).ownBlock)) (n := aT.length) (c := bE) ?_).2.2; exact (by (with_reducible repeat (first | apply Kd.R_alloc | apply Kd.R_drewN | apply Kd.R_drew)); exact (Kd.R_mono (Kd.R_far (p := ⟨aF, 2, none⟩) (Kd.R_far (p := ⟨aF, 1, none⟩) (Kd.R_far (p := ⟨aF, 0, none⟩) (Kd.R_types aY.out aH.out oD) (fun _ hk => hk.2) (.int .i64 bC)) (fun _ hk => hk.2) (.int .i64 bD)) (fun _ hk => hk.2) (.slice bI aT.length bE)) (fun _ h_ => h_.1)))); (case side2 => exact (Kd.R_reads' aY.out).2.1); (case side3 => refine (Kd.R_reads' (e := 38) (base := w.heap.size) (ok := fun k_ => (some k_ ≠ (.slice aS aG.length aR : Value).ownBlock ∧ some k_ ≠ (.slice bI aT.length bE : Value).ownBlock)) (n := aJ.length) (c := aZ) ?_).2.2; exact (by (with_reducible repeat (first | apply Kd.R_alloc | apply Kd.R_drewN | apply Kd.R_drew)); exact (Kd.R_mono (Kd.R_far (p := ⟨aF, 2, none⟩) (Kd.R_far (p := ⟨aF, 1, none⟩) (Kd.R_far (p := ⟨aF, 0, none⟩) (Kd.R_types aD.out aH.out oD) (fun _ hk => hk.2) (.int .i64 bC)) (fun _ hk => hk.2) (.int .i64 bD)) (fun _ hk => hk.2) (.slice bI aT.length bE)) (fun _ h_ => h_.1)))); (case side4 => exact (Kd.R_reads' aD.out).2.1); rintro e lV ⟨rfl, hb⟩; refine ⟨_, rfl, ?_⟩; have n_ := o2_ (Kd.R_below (by (with_reducible repeat (first | apply Kd.R_alloc | apply Kd.R_drewN | apply Kd.R_drew)); exact (Kd.R_mono (Kd.R_far (p := ⟨aF, 2, none⟩) (Kd.R_far (p := ⟨aF, 1, none⟩) (Kd.R_far (p := ⟨aF, 0, none⟩) (Kd.R_types aD.out aH.out oD) (fun _ hk => hk.2) (.int .i64 bC)) (fun _ hk => hk.2) (.int .i64 bD)) (fun _ hk => hk.2) (.slice bI aT.length bE)) (fun _ h_ => h_.1))) hb) (o2_ (Kd.R_below (by (with_reducible repeat (first | apply Kd.R_alloc | apply Kd.R_drewN | apply Kd.R_drew)); exact (Kd.R_mono (Kd.R_far (p := ⟨aF, 2, none⟩) (Kd.R_far (p := ⟨aF, 1, none⟩) (Kd.R_far (p := ⟨aF, 0, none⟩) (Kd.R_types aA.out aH.out oD) (fun _ hk => hk.2) (.int .i64 bC)) (fun _ hk => hk.2) (.int .i64 bD)) (fun _ hk => hk.2) (.slice bI aT.length bE)) (fun _ h_ => h_.1))) hb) (o2_ (Kd.R_below (by (with_reducible repeat (first | apply Kd.R_alloc | apply Kd.R_drewN | apply Kd.R_drew)); exact (Kd.R_mono (Kd.R_far (p := ⟨aF, 2, none⟩) (Kd.R_far (p := ⟨aF, 1, none⟩) (Kd.R_far (p := ⟨aF, 0, none⟩) (Kd.R_types aY.out aH.out oD) (fun _ hk => hk.2) (.int .i64 bC)) (fun _ hk => hk.2) (.int .i64 bD)) (fun _ hk => hk.2) (.slice bI aT.length bE)) (fun _ h_ => h_.1))) hb) (o2_ (blk_below (oP aC) hb) (o2_ (blk_below (oP aB) hb) (o2_ (blk_below (g := aF) (o := .cells #[.int .i64 bC, .int .i64 bD, .slice bI aT.length bE] 25 (0, 0)) (blk_put (blk_put (blk_put aH.out 0 _ rfl) 1 _ rfl) 2 _ rfl) hb) (o1_ (below_step (oB HB) hb))))))); clear aD aA aY aC aB aH HB; obtain ⟨aD, aA, aY, aC, aB, aH, HB⟩ := n_; (try clear hb); (try clear hb2); (try clear hk); (try clear hi)))
             go_meet
             case rel => exact ⟨_, ((gP != bT)), oU, H', ⟨(by have := hK.out; have := hJ.out; first | omega | exact Nat.le_refl _)⟩, ⟨(oR aD)⟩, ⟨(oR aA)⟩, ⟨(by (with_reducible repeat (first | apply Kd.R_alloc | apply Kd.R_drewN | apply Kd.R_drew)); exact Kd.R_mono aY.out (fun _ hk => ⟨hk.1.2, hk.2⟩))⟩, ⟨(oP aC)⟩, ⟨(oP aB)⟩, ⟨(oP aH)⟩, ⟨(oB HB)⟩⟩
            ·replace hQ := Bool.eq_false_iff.mpr hQ
             subst hQ
             rw [if_neg (show ¬ (false = true) by decide)] at H
             have H' := Aside0.mk H
             clear H
             have jT := bK.out
             have kJ := bJ.out
             have jU := bG.out
             have kK := bF.out
             have fN : dO.cell? ⟨aF, 0, none⟩ = some (.int .i64 0) := (blk_cell aH.out 0).trans rfl
             have fO : dO.cell? ⟨aF, 1, none⟩ = some (.int .i64 0) := (blk_cell aH.out 1).trans rfl
             have fP : dO.cell? ⟨aF, 2, none⟩ = some (.slice none 0 0) := (blk_cell aH.out 2).trans rfl
             have gI := blk_frozen aH.out 0
             have gJ := blk_frozen aH.out 1
             have gK := blk_frozen aH.out 2
             have jV := aP.out
             have kL := aQ.out
             have fQ : dO.cell? ⟨aI, 0, none⟩ = some (.int .i64 aU) := (blk_cell aC.out 0).trans rfl
             have fR : dO.cell? ⟨aI, 1, none⟩ = some (.int .i64 aV) := (blk_cell aC.out 1).trans rfl
             have fS : dO.cell? ⟨aI, 2, none⟩ = some (.slice bB aJ.length aZ) := (blk_cell aC.out 2).trans rfl
             have gL := blk_frozen aC.out 0
             have gM := blk_frozen aC.out 1
             have gN := blk_frozen aC.out 2
             go_wp2_with (first | ((with_reducible refine gate_callee (f := 34) rfl ?_); refine goesL_ (some 78) rfl rfl Try.func34 oK rfl #[.agg #[.int .i64 bC, .int .i64 bD, .slice bI aT.length bE], .agg #[.int .i64 aU, .int .i64 aV, .slice bB aJ.length aZ]] rfl oA ?_; (with_reducible refine (laws_eqRasRaster.calls kj35 bC bD _ _ aT aU aV _ _ aJ false _ ?side1 ?side2 ?side3 ?side4 jE.out).mono ?_); (case side1 => refine (Kd.R_reads' (e := 38) (base := w.heap.size) (ok := fun k_ => ((True ∧ some k_ ≠ (.slice bB aJ.length aZ : Value).ownBlock) ∧ some k_ ≠ (.slice aS aG.length aR : Value).ownBlock)) (n := aT.length) (c := bE) ?_).2.2; exact (by (with_reducible repeat (first | apply Kd.R_alloc | apply Kd.R_drewN | apply Kd.R_drew)); exact (Kd.R_mono (Kd.R_far (p := ⟨aF, 2, none⟩) (Kd.R_far (p := ⟨aF, 1, none⟩) (Kd.R_far (p := ⟨aF, 0, none⟩) (Kd.R_types aY.out aH.out oD) (fun _ hk => hk.2) (.int .i64 bC)) (fun _ hk => hk.2) (.int .i64 bD)) (fun _ hk => hk.2) (.slice bI aT.length bE)) (fun _ h_ => h_.1)))); (case side2 => exact (Kd.R_reads' aY.out).2.1); (case side3 => refine (Kd.R_reads' (e := 38) (base := w.heap.size) (ok := fun k_ => (some k_ ≠ (.slice aS aG.length aR : Value).ownBlock ∧ some k_ ≠ (.slice bI aT.length bE : Value).ownBlock)) (n := aJ.length) (c := aZ) ?_).2.2; exact (by (with_reducible repeat (first | apply Kd.R_alloc | apply Kd.R_drewN | apply Kd.R_drew)); exact (Kd.R_mono (Kd.R_far (p := ⟨aF, 2, none⟩) (Kd.R_far (p := ⟨aF, 1, none⟩) (Kd.R_far (p := ⟨aF, 0, none⟩) (Kd.R_types aD.out aH.out oD) (fun _ hk => hk.2) (.int .i64 bC)) (fun _ hk => hk.2) (.int .i64 bD)) (fun _ hk => hk.2) (.slice bI aT.length bE)) (fun _ h_ => h_.1)))); (case side4 => exact (Kd.R_reads' aD.out).2.1); rintro e lW ⟨rfl, hb⟩; refine ⟨_, rfl, ?_⟩; have n_ := o2_ (Kd.R_below (by (with_reducible repeat (first | apply Kd.R_alloc | apply Kd.R_drewN | apply Kd.R_drew)); exact (Kd.R_mono (Kd.R_far (p := ⟨aF, 2, none⟩) (Kd.R_far (p := ⟨aF, 1, none⟩) (Kd.R_far (p := ⟨aF, 0, none⟩) (Kd.R_types aD.out aH.out oD) (fun _ hk => hk.2) (.int .i64 bC)) (fun _ hk => hk.2) (.int .i64 bD)) (fun _ hk => hk.2) (.slice bI aT.length bE)) (fun _ h_ => h_.1))) hb) (o2_ (Kd.R_below (by (with_reducible repeat (first | apply Kd.R_alloc | apply Kd.R_drewN | apply Kd.R_drew)); exact (Kd.R_mono (Kd.R_far (p := ⟨aF, 2, none⟩) (Kd.R_far (p := ⟨aF, 1, none⟩) (Kd.R_far (p := ⟨aF, 0, none⟩) (Kd.R_types aA.out aH.out oD) (fun _ hk => hk.2) (.int .i64 bC)) (fun _ hk => hk.2) (.int .i64 bD)) (fun _ hk => hk.2) (.slice bI aT.length bE)) (fun _ h_ => h_.1))) hb) (o2_ (Kd.R_below (by (with_reducible repeat (first | apply Kd.R_alloc | apply Kd.R_drewN | apply Kd.R_drew)); exact (Kd.R_mono (Kd.R_far (p := ⟨aF, 2, none⟩) (Kd.R_far (p := ⟨aF, 1, none⟩) (Kd.R_far (p := ⟨aF, 0, none⟩) (Kd.R_types aY.out aH.out oD) (fun _ hk => hk.2) (.int .i64 bC)) (fun _ hk => hk.2) (.int .i64 bD)) (fun _ hk => hk.2) (.slice bI aT.length bE)) (fun _ h_ => h_.1))) hb) (o2_ (blk_below (oP aC) hb) (o2_ (blk_below (oP aB) hb) (o2_ (blk_below (g := aF) (o := .cells #[.int .i64 bC, .int .i64 bD, .slice bI aT.length bE] 25 (0, 0)) (blk_put (blk_put (blk_put aH.out 0 _ rfl) 1 _ rfl) 2 _ rfl) hb) (o1_ (below_step (oB HB) hb))))))); clear aD aA aY aC aB aH HB; obtain ⟨aD, aA, aY, aC, aB, aH, HB⟩ := n_; (try clear hb); (try clear hb2); (try clear hk); (try clear hi)))
             go_meet
             case rel => exact ⟨_, (true), oU, H', ⟨(by have := hK.out; have := hJ.out; first | omega | exact Nat.le_refl _)⟩, ⟨(oR aD)⟩, ⟨(oR aA)⟩, ⟨(by (with_reducible repeat (first | apply Kd.R_alloc | apply Kd.R_drewN | apply Kd.R_drew)); exact Kd.R_mono aY.out (fun _ hk => ⟨hk.1.2, hk.2⟩))⟩, ⟨(oP aC)⟩, ⟨(oP aB)⟩, ⟨(oP aH)⟩, ⟨(oB HB)⟩⟩
           case rest =>
            clear gR
            try clear c1
            try clear c2
            try clear eW
            try clear eX
            try clear p2
            try clear c3
            try clear c4
            try clear c5
            try clear c6
            try clear c7
            try clear c8
            try clear c16
            try clear c18
            try clear gT
            try clear c23
            try clear c27
            try clear gU
            try clear c32
            try clear c33
            try clear gV
            try clear c35
            try clear c36
            try clear c37
            try clear c38
            try clear gO
            try clear bR
            try clear gW
            try clear c43
            try clear c47
            try clear hL
            try clear hM
            try clear hN
            try clear gX
            try clear hO
            try clear hP
            try clear c59
            try clear c68
            try clear c69
            try clear hQ
            try clear c74
            try clear c75
            try clear c77
            try clear c80
            try clear c81
            try clear c83
            try clear bV
            try clear bW
            try clear bX
            try clear bY
            try clear bZ
            try clear cA
            try clear cB
            try clear cC
            try clear cD
            try clear cE
            try clear cF
            try clear cG
            try clear cH
            try clear cI
            try clear cJ
            try clear cK
            try clear cL
            try clear cM
            try clear dP
            try clear dQ
            try clear dR
            try clear dS
            try clear dT
            try clear dU
            try clear dV
            try clear dW
            try clear dX
            try clear dY
            try clear dZ
            try clear eA
            try clear eY
            try clear eZ
            try clear fA
            try clear fB
            try clear fC
            try clear fD
            try clear fE
            try clear fF
            try clear fG
            try clear fH
            try clear fI
            try clear fJ
            try clear fK
            try clear fL
            try clear fM
            try clear fN
            try clear fO
            try clear fP
            try clear fQ
            try clear fR
            try clear fS
            try clear cN
            try clear cO
            try clear cP
            try clear cQ
            try clear cR
            try clear cS
            try clear cT
            try clear cU
            try clear cV
            try clear cW
            try clear cX
            try clear cY
            try clear cZ
            try clear dA
            try clear dB
            try clear dC
            try clear dD
            try clear dE
            try clear eB
            try clear eC
            try clear eD
            try clear eE
            try clear eF
            try clear eG
            try clear eH
            try clear eI
            try clear eJ
            try clear eK
            try clear eL
            try clear eM
            try clear fT
            try clear fU
            try clear fV
            try clear fW
            try clear fX
            try clear fY
            try clear fZ
            try clear gA
            try clear gB
            try clear gC
            try clear gD
            try clear gE
            try clear gF
            try clear gG
            try clear gH
            try clear gI
            try clear gJ
            try clear gK
            try clear gL
            try clear gM
            try clear gN
            try clear p2
            obtain ⟨kq, dG, rfl, HA, lE, aD, aA, dM, aC, aB, aH, HB⟩ := hcut
            have hl1277002_57 := (Kd.R_reads' aA.out).1
            rw [hl1277002_57] at aA
            (try simp only [hl1277002_57])
            (try simp only [hl1277002_57] at aC)
            (try simp only [hl1277002_57] at aB)
            (try simp only [hl1277002_57] at aH)
            (try simp only [hl1277002_57] at aD)
            (try simp only [hl1277002_57] at dM)
            cases kq with
            | zero => exact nomatch (show none = some _ from HA.out)
            | succ kj57 =>
             have H := HA.out
             clear HA
             simp only [laws_FnExactRasRead.j2] at H
             by_cases hV : dG = true
             ·subst hV
              rw [if_pos rfl] at H
              exact absurd H (by simp)
             ·replace hV := Bool.eq_false_iff.mpr hV
              subst hV
              rw [if_neg (show ¬ (false = true) by decide)] at H
              replace H := Option.bind_eq_some_iff.mp H
              obtain ⟨bN, hI, H⟩ := H
              (try dsimp only at H)
              have lC := Aside0.mk hI
              clear hI
              by_cases hW : bN < 0
              ·rw [if_pos hW] at H
               exact absurd H (by simp)
              ·rw [if_neg hW] at H
               have jF : decide (bN < 0) = false := decide_eq_false hW
               clear hW
               by_cases hR : bN = bP
               ·rw [if_pos hR] at H
                have jG : (bN == bP) = true := beq_iff_eq.mpr hR
                have jH : (bN != bP) = false := bne_eq_false_iff_eq.mpr hR
                clear hR
                obtain rfl := Option.some.inj H
                have jW := aQ.out
                have kM := aP.out
                have jX := bF.out
                have kN := bG.out
                have hY : wc.cell? ⟨aE, 0, none⟩ = some (.int .i64 aK) := (blk_cell aB.out 0).trans rfl
                have hZ : wc.cell? ⟨aE, 1, none⟩ = some (.int .i64 aL) := (blk_cell aB.out 1).trans rfl
                have iA : wc.cell? ⟨aE, 2, none⟩ = some (.slice aS bL.length aR) := (blk_cell aB.out 2).trans rfl
                have iB := blk_frozen aB.out 0
                have iC := blk_frozen aB.out 1
                have iD := blk_frozen aB.out 2
                go_wp2_with (first | ((with_reducible refine gate_callee (f := 38) rfl ?_); refine goesL_ (some 87) rfl rfl Try.func38 oK rfl #[.agg #[.int .i64 aK, .int .i64 aL, .slice aS bL.length aR], .int .i64 1] rfl oA ?_; (with_reducible refine (laws_heldRasRaster.calls kj57 aK aL _ _ bL 1 bN _ ?side1 ?side2 lC.out).mono ?_); (case side1 => repeat (first | exact (Kd.R_reads' aA.out).2.2 | (with_reducible refine Kd.C_alloc ?_ _) | (with_reducible refine Kd.C_drewN ?_ _) | (with_reducible refine Kd.C_drew ?_))); (case side2 => exact (Kd.R_reads' aA.out).2.1); rintro e lX ⟨rfl, hb⟩; refine ⟨_, rfl, ?_⟩; replace HB := o1_ (below_step (oB HB) hb); (try clear hb); (try clear hb2); (try clear hk); (try clear hi)))
                go_ret
                exact ⟨by first | rfl | (simp [errW_none, errW_some] <;> rfl) | (simp [*, errW_none, errW_some] <;> rfl), oB HB⟩
               ·rw [if_neg hR] at H
                exact absurd H (by simp)
          ·rw [if_neg gX] at H
           exact absurd H (by simp)
     ·replace gV := Bool.eq_false_iff.mpr gV
      subst gV
      rw [if_neg (show ¬ (false = true) by decide)] at H
      exact absurd H (by simp)

/-- THE ONE PURE STATEMENT of laws_FnExactRasRead: yours. -/
def laws_FnExactRasRead.Pure : Prop := ∀ (l0 : List Int), l0.length ≤ maxLen → l0.length * 1 ≤ 140737488351232 → (∀ x ∈ l0, (Lit.int .u8 x).wf = true) → ∃ k, laws_FnExactRasRead.f k l0 = some true
theorem laws_FnExactRasRead.walk (P : laws_FnExactRasRead.Pure) (a0 : Option Addr) (len0 cap0 : Nat) (z0 : List Int) (w : World) (w0 : (a0 = none ∧ len0 = 0 ∧ cap0 = 0 ∧ z0 = []) ∨ ∃ x, a0 = some x ∧ len0 ≤ cap0 ∧ cap0 ≤ maxLen ∧ z0.length = cap0 ∧ (∀ i, i < z0.length → w.cell? (x.add i) = some (.int .u8 (z0.getD i 0))) ∧ ∀ n ∈ z0, (Lit.int .u8 n).wf = true) (y0 : len0 * 1 ≤ 140737488351232) :
  Calls Try.prog 16 #[.slice a0 len0 cap0] w fun e w' => e = .returned (.bool true) ∧ Below w.heap.size w w' := by
 obtain ⟨l0, rfl, hr0, hm0, hw0, hX⟩ := ReadsInt.ofRowC w0
 obtain ⟨k, h⟩ := P l0 hm0 y0 hw0
 refine (laws_FnExactRasRead.calls k _ _ l0 true w (Kd.C_of_reads (d := (0 : Int)) (h1 := fun _ => rfl) hr0) hX h).mono ?_
 rintro e w' ⟨rfl, hd⟩
 exact ⟨rfl, hd⟩

end Go.Proofs.Ythnmeogafklhnaa.X
