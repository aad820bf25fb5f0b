/- What functions of the program come to, each with its proof. No condition but what each theorem states. -/
import Derived.Test.YtmkiajoanblkbaaX0
import Derived.Test.YtmkiajoanblkbaaX15
import Derived.Test.YtmkiajoanblkbaaX19
import Derived.Test.YtmkiajoanblkbaaX21
import Derived.Test.YtmkiajoanblkbaaX23
namespace Go.Proofs.Ytmkiajoanblkbaa.X
open Go.RowKit Go.Proofs.YtmkiajoanblkbaaW.PrintWords Go.Proofs.YtmkiajoanblkbaaW.PrintLast Go.Proofs.YtmkiajoanblkbaaW.PrintMore Go.Proofs.Ytmkiajoanblkbaa.Hyb
attribute [local go_sem] max2_int min2_int max_two min_two max_three min_three max_four min_four
set_option linter.unusedVariables false
set_option linter.unusedSimpArgs false

/-! ### laws_FnOpOk: function 4 -/
mutual
def laws_FnOpOk.j0 : Nat → Bool → Int → Int → Int → Int → Int → Option (Bool)
 | 0, _, _, _, _, _, _ => none
 | k + 1, x29, x248000, x248001, x248002, x248003, x248004 => if x29 = true then (none) else (if x248000 ≥ 2 then (laws_FnOpOk.j1 k (decide (x248000 ≤ 6))) else (laws_FnOpOk.j1 k false))
def laws_FnOpOk.j1 : Nat → Bool → Option (Bool)
 | 0, _ => none
 | k + 1, x37 => if x37 = true then (laws_FnOpOk.l0 k 2) else (some true)
def laws_FnOpOk.l0 : Nat → Int → Option (Bool)
 | 0, _ => none
 | k + 1, x6 => if x6 ≤ 6 then ((impl_OpOk.f k x6 0 0 0 0).bind fun eR => (if eR = true then (laws_FnOpOk.l0 k (wrap64 (x6 + 1))) else (none))) else (some true)
end
def laws_FnOpOk.f (k : Nat) (l0 : List Int) : Option (Bool) := if (l0.length : Int) > 1048576 then (some true) else ((spec_DrawOpOk.f k l0).bind fun aC => ((impl_OpOk.f k aC.1 aC.2.1 aC.2.2.1 aC.2.2.2.1 aC.2.2.2.2).bind fun aO => ((spec_OpOk.f aC.1 aC.2.1 aC.2.2.1 aC.2.2.2.1 aC.2.2.2.2).bind fun aP => (if (aO != aP) = true then (none) else (if aO = true then (if aC.1 = 1 then (laws_FnOpOk.j0 k false aC.1 aC.2.1 aC.2.2.1 aC.2.2.2.1 aC.2.2.2.2) else ((impl_OpOk.f k aC.1 aC.2.1 aC.2.2.1 aC.2.2.2.1 1).bind fun eH => (laws_FnOpOk.j0 k eH aC.1 aC.2.1 aC.2.2.1 aC.2.2.2.1 aC.2.2.2.2))) else ((laws_eaOk.f).bind fun eI => (some eI)))))))
theorem laws_FnOpOk.mono_l : ∀ k, (∀ y0 y1 y2 y3 y4 y5, LeO (laws_FnOpOk.j0 k y0 y1 y2 y3 y4 y5) (laws_FnOpOk.j0 (k + 1) y0 y1 y2 y3 y4 y5)) ∧ (∀ y0, LeO (laws_FnOpOk.j1 k y0) (laws_FnOpOk.j1 (k + 1) y0)) ∧ (∀ y0, LeO (laws_FnOpOk.l0 k y0) (laws_FnOpOk.l0 (k + 1) y0))
 | 0 => ⟨(fun _ _ _ _ _ _ r h => nomatch (show none = some r from h)), (fun _ r h => nomatch (show none = some r from h)), (fun _ r h => nomatch (show none = some r from h))⟩
 | k + 1 => by
  obtain ⟨ih0, ih1, ih2⟩ := laws_FnOpOk.mono_l k
  refine ⟨?_, ?_, ?_⟩
  ·intro y0 y1 y2 y3 y4 y5
   unfold laws_FnOpOk.j0
   repeat' first
   | (with_reducible exact ih0 _ _ _ _ _ _)
   | (with_reducible exact ih1 _)
   | (with_reducible exact ih2 _)
   | (with_reducible exact impl_OpOk.mono _ _ _ _ _ _)
   | (with_reducible exact spec_DrawOpOk.mono _ _)
   | (with_reducible exact LeO.refl _)
   | (with_reducible exact LeO.none _)
   | (with_reducible refine LeO.ite ?_ ?_)
   | (with_reducible refine LeO.bind ?_ (fun _ => ?_))
   | exact ih0 _ _ _ _ _ _
   | exact ih1 _
   | exact ih2 _
   | exact impl_OpOk.mono _ _ _ _ _ _
   | exact spec_DrawOpOk.mono _ _
   | exact LeO.none _
   | refine LeO.ite ?_ ?_
   | refine LeO.bind ?_ (fun _ => ?_)
  ·intro y0
   unfold laws_FnOpOk.j1
   repeat' first
   | (with_reducible exact ih0 _ _ _ _ _ _)
   | (with_reducible exact ih1 _)
   | (with_reducible exact ih2 _)
   | (with_reducible exact impl_OpOk.mono _ _ _ _ _ _)
   | (with_reducible exact spec_DrawOpOk.mono _ _)
   | (with_reducible exact LeO.refl _)
   | (with_reducible exact LeO.none _)
   | (with_reducible refine LeO.ite ?_ ?_)
   | (with_reducible refine LeO.bind ?_ (fun _ => ?_))
   | exact ih0 _ _ _ _ _ _
   | exact ih1 _
   | exact ih2 _
   | exact impl_OpOk.mono _ _ _ _ _ _
   | exact spec_DrawOpOk.mono _ _
   | exact LeO.none _
   | refine LeO.ite ?_ ?_
   | refine LeO.bind ?_ (fun _ => ?_)
  ·intro y0
   unfold laws_FnOpOk.l0
   repeat' first
   | (with_reducible exact ih0 _ _ _ _ _ _)
   | (with_reducible exact ih1 _)
   | (with_reducible exact ih2 _)
   | (with_reducible exact impl_OpOk.mono _ _ _ _ _ _)
   | (with_reducible exact spec_DrawOpOk.mono _ _)
   | (with_reducible exact LeO.refl _)
   | (with_reducible exact LeO.none _)
   | (with_reducible refine LeO.ite ?_ ?_)
   | (with_reducible refine LeO.bind ?_ (fun _ => ?_))
   | exact ih0 _ _ _ _ _ _
   | exact ih1 _
   | exact ih2 _
   | exact impl_OpOk.mono _ _ _ _ _ _
   | exact spec_DrawOpOk.mono _ _
   | exact LeO.none _
   | refine LeO.ite ?_ ?_
   | refine LeO.bind ?_ (fun _ => ?_)
theorem laws_FnOpOk.mono : ∀ a0 k, LeO (laws_FnOpOk.f k a0) (laws_FnOpOk.f (k + 1) a0) := by
 intro a0 k
 obtain ⟨ih0, ih1, ih2⟩ := laws_FnOpOk.mono_l k
 unfold laws_FnOpOk.f
 repeat' first
   | (with_reducible exact ih0 _ _ _ _ _ _)
   | (with_reducible exact ih1 _)
   | (with_reducible exact ih2 _)
   | (with_reducible exact impl_OpOk.mono _ _ _ _ _ _)
   | (with_reducible exact spec_DrawOpOk.mono _ _)
   | (with_reducible exact LeO.refl _)
   | (with_reducible exact LeO.none _)
   | (with_reducible refine LeO.ite ?_ ?_)
   | (with_reducible refine LeO.bind ?_ (fun _ => ?_))
   | exact ih0 _ _ _ _ _ _
   | exact ih1 _
   | exact ih2 _
   | exact impl_OpOk.mono _ _ _ _ _ _
   | exact spec_DrawOpOk.mono _ _
   | exact LeO.none _
   | refine LeO.ite ?_ ?_
   | refine LeO.bind ?_ (fun _ => ?_)
set_option maxHeartbeats 8000000 in
set_option maxRecDepth 100000 in
theorem laws_FnOpOk.calls (k : Nat) (A0 : Option Addr) (c0 : Nat) (l0 : List Int) (r : Bool) (w : World) (hr0 : Kd.C (Kd.int .u8) w A0 l0.length l0) (fJ : l0.length ≤ c0) (h : laws_FnOpOk.f k l0 = some r) :
  Calls Try.prog 4 #[.slice A0 l0.length c0] w fun e w' => e = .returned (.bool r) ∧ Below w.heap.size w w' := by
 have hu29 := Try.underlying29
 have gO := Aside0.mk hr0
 have gN := Aside0.mk fJ
 clear hr0 fJ
 have HB := Aside0.mk (Below.refl w.heap.size w)
 have H : (if (l0.length : Int) > 1048576 then (some true) else ((spec_DrawOpOk.f k l0).bind fun aC => ((impl_OpOk.f k aC.1 aC.2.1 aC.2.2.1 aC.2.2.2.1 aC.2.2.2.2).bind fun aO => ((spec_OpOk.f aC.1 aC.2.1 aC.2.2.1 aC.2.2.2.1 aC.2.2.2.2).bind fun aP => (if (aO != aP) = true then (none) else (if aO = true then (if aC.1 = 1 then (laws_FnOpOk.j0 k false aC.1 aC.2.1 aC.2.2.1 aC.2.2.2.1 aC.2.2.2.2) else ((impl_OpOk.f k aC.1 aC.2.1 aC.2.2.1 aC.2.2.2.1 1).bind fun eH => (laws_FnOpOk.j0 k eH aC.1 aC.2.1 aC.2.2.1 aC.2.2.2.1 aC.2.2.2.2))) else ((laws_eaOk.f).bind fun eI => (some eI)))))))) = some r := h
 clear h
 by_cases c2 : (l0.length : Int) > 1048576
 ·rw [if_pos c2] at H
  have eK : decide (1048576 < (l0.length : Int)) = true := decide_eq_true c2
  have eL : decide (1048576 < l0.length) = true := decide_eq_true (by omega)
  clear c2
  obtain rfl := Option.some.inj H
  go_enter Try.func4, Try.ntmps4
  go_wp2
  go_ret
  exact ⟨by first | rfl | (simp [errW_none, errW_some] <;> rfl) | (simp [*, errW_none, errW_some] <;> rfl), oB HB⟩
 ·rw [if_neg c2] at H
  have eK : decide (1048576 < (l0.length : Int)) = false := decide_eq_false c2
  have eL : decide (1048576 < l0.length) = false := decide_eq_false (by omega)
  clear c2
  replace H := Option.bind_eq_some_iff.mp H
  obtain ⟨⟨aF, aG, aH, aI, aJ⟩, gI, H⟩ := H
  (try dsimp only at H)
  have A3 := Aside0.mk gI
  clear gI
  replace H := Option.bind_eq_some_iff.mp H
  obtain ⟨aO, gJ, H⟩ := H
  (try dsimp only at H)
  have A4 := Aside0.mk gJ
  clear gJ
  replace H := Option.bind_eq_some_iff.mp H
  obtain ⟨aP, gK, H⟩ := H
  (try dsimp only at H)
  have A5 := Aside0.mk gK
  clear gK
  by_cases c6 : (aO != aP) = true
  ·rw [if_pos c6] at H
   exact absurd H (by simp)
  ·rw [if_neg c6] at H
   have eO : (aO != aP) = false := by simpa using c6
   (try (have eP : decide (aO = aP) = true := by simpa using c6))
   (try (have eQ : (aO == aP) = true := by simpa using c6))
   clear c6
   by_cases c7 : aO = true
   ·subst c7
    rw [if_pos rfl] at H
    have gE := Aside0.mk H
    clear H
    go_enter Try.func4, Try.ntmps4
    go_upto_region 11 with (first | ((with_reducible refine gate_callee (f := 16) rfl ?_); refine goesL_ (some 11) rfl rfl Try.func16 oK rfl #[.slice A0 l0.length c0] rfl oA ?_; (with_reducible refine (spec_DrawOpOk.calls k _ _ l0 aF aG aH aI aJ _ ?side1 ?side2 A3.out).mono ?_); (case side1 => repeat (first | exact gO.out | (with_reducible refine Kd.C_alloc ?_ _) | (with_reducible refine Kd.C_drewN ?_ _) | (with_reducible refine Kd.C_drew ?_))); (case side2 => exact gN.out); rintro e w9 ⟨rfl, hb⟩; refine ⟨_, rfl, ?_⟩; replace HB := o1_ (below_step (oB HB) hb); (try clear hb); (try clear hb2); (try clear hk); (try clear hi)) | ((with_reducible refine gate_dst (N := 3) rfl ?_); refine box_event rfl (N := 3) rfl (cs := #[.int .i64 0, .int .i64 0, .int .i64 0, .int .i64 0, .int .i64 0]) (t := 29) oS ?_; intro aB hg fC hbox hb; have n_ := o2_ (below_step (oB HB) hb) (o2_ (hbox) (o2_ ((oG hg (below_size (oB HB)) : w.heap.size ≤ aB)) (o1_ ((oG hg (below_size (oB HB)) : w.heap.size ≤ aB))))); clear HB; obtain ⟨HB, aA, eY, eX⟩ := n_; clear hb hbox hg; have aQ : fC.cell? ⟨aB, 0, none⟩ = some (.int .i64 0) := (blk_cell aA.out 0).trans rfl; have aR : fC.cell? ⟨aB, 1, none⟩ = some (.int .i64 0) := (blk_cell aA.out 1).trans rfl; have aS : fC.cell? ⟨aB, 2, none⟩ = some (.int .i64 0) := (blk_cell aA.out 2).trans rfl; have aT : fC.cell? ⟨aB, 3, none⟩ = some (.int .i64 0) := (blk_cell aA.out 3).trans rfl; have aU : fC.cell? ⟨aB, 4, none⟩ = some (.int .i64 0) := (blk_cell aA.out 4).trans rfl; have bZ := blk_frozen aA.out 0; have cA := blk_frozen aA.out 1; have cB := blk_frozen aA.out 2; have cC := blk_frozen aA.out 3; have cD := blk_frozen aA.out 4) | ((with_reducible refine gate_callee (f := 17) rfl ?_); refine goesL_ (some 13) rfl rfl Try.func17 oK rfl #[.agg #[.int .i64 aF, .int .i64 aG, .int .i64 aH, .int .i64 aI, .int .i64 aJ]] rfl oA ?_; (with_reducible refine (impl_OpOk.calls k aF aG aH aI aJ true _ A4.out).mono ?_); rintro e fD ⟨rfl, hb⟩; refine ⟨_, rfl, ?_⟩; have n_ := o2_ (blk_below (g := aB) (o := .cells #[.int .i64 aF, .int .i64 aG, .int .i64 aH, .int .i64 aI, .int .i64 aJ] 29 (0, 0)) (blk_put (blk_put (blk_put (blk_put (blk_put aA.out 0 _ rfl) 1 _ rfl) 2 _ rfl) 3 _ rfl) 4 _ rfl) hb) (o1_ (below_step (oB HB) hb)); clear aA HB; obtain ⟨aA, HB⟩ := n_; (try clear hb); (try clear hb2); (try clear hk); (try clear hi); have aV : fD.cell? ⟨aB, 0, none⟩ = some (.int .i64 aF) := (blk_cell aA.out 0).trans rfl; have aW : fD.cell? ⟨aB, 1, none⟩ = some (.int .i64 aG) := (blk_cell aA.out 1).trans rfl; have aX : fD.cell? ⟨aB, 2, none⟩ = some (.int .i64 aH) := (blk_cell aA.out 2).trans rfl; have aY : fD.cell? ⟨aB, 3, none⟩ = some (.int .i64 aI) := (blk_cell aA.out 3).trans rfl; have aZ : fD.cell? ⟨aB, 4, none⟩ = some (.int .i64 aJ) := (blk_cell aA.out 4).trans rfl; have cE := blk_frozen aA.out 0; have cF := blk_frozen aA.out 1; have cG := blk_frozen aA.out 2; have cH := blk_frozen aA.out 3; have cI := blk_frozen aA.out 4) | ((with_reducible refine gate_callee (f := 18) rfl ?_); refine goesL_ (some 16) rfl rfl Try.func18 oK rfl #[.agg #[.int .i64 aF, .int .i64 aG, .int .i64 aH, .int .i64 aI, .int .i64 aJ]] rfl oA ?_; (with_reducible refine (spec_OpOk.calls aF aG aH aI aJ aP _ A5.out).mono ?_); rintro e fE ⟨rfl, hb⟩; refine ⟨_, rfl, ?_⟩; have n_ := o2_ (blk_below (oP aA) hb) (o1_ (below_step (oB HB) hb)); clear aA HB; obtain ⟨aA, HB⟩ := n_; (try clear hb); (try clear hb2); (try clear hk); (try clear hi); have bA : fE.cell? ⟨aB, 0, none⟩ = some (.int .i64 aF) := (blk_cell aA.out 0).trans rfl; have bB : fE.cell? ⟨aB, 1, none⟩ = some (.int .i64 aG) := (blk_cell aA.out 1).trans rfl; have bC : fE.cell? ⟨aB, 2, none⟩ = some (.int .i64 aH) := (blk_cell aA.out 2).trans rfl; have bD : fE.cell? ⟨aB, 3, none⟩ = some (.int .i64 aI) := (blk_cell aA.out 3).trans rfl; have bE : fE.cell? ⟨aB, 4, none⟩ = some (.int .i64 aJ) := (blk_cell aA.out 4).trans rfl; have cJ := blk_frozen aA.out 0; have cK := blk_frozen aA.out 1; have cL := blk_frozen aA.out 2; have cM := blk_frozen aA.out 3; have cN := blk_frozen aA.out 4) | ((with_reducible refine gate_dst (N := 5) rfl ?_); refine box_event rfl (N := 5) rfl (cs := #[.int .i64 0, .int .i64 0, .int .i64 0, .int .i64 0, .int .i64 0]) (t := 29) oS ?_; intro aD hg eF hbox hb; have n_ := o2_ (blk_below (oP aA) hb) (o2_ (below_step (oB HB) hb) (o2_ (hbox) (o2_ ((oG hg (below_size (oB HB)) : w.heap.size ≤ aD)) (o2_ ((oG hg (below_size (oB HB)) : w.heap.size ≤ aD)) (o2_ ((oL hg (blk_lt (oP aA)))) (o1_ ((oN hg (blk_lt (oP aA)))))))))); clear aA HB; obtain ⟨aA, HB, aE, gM, gL, aK, aL⟩ := n_; clear hb hbox hg; have gP := aL.out; have gU := aK.out; have bF : eF.cell? ⟨aD, 0, none⟩ = some (.int .i64 0) := (blk_cell aE.out 0).trans rfl; have bG : eF.cell? ⟨aD, 1, none⟩ = some (.int .i64 0) := (blk_cell aE.out 1).trans rfl; have bH : eF.cell? ⟨aD, 2, none⟩ = some (.int .i64 0) := (blk_cell aE.out 2).trans rfl; have bI : eF.cell? ⟨aD, 3, none⟩ = some (.int .i64 0) := (blk_cell aE.out 3).trans rfl; have bJ : eF.cell? ⟨aD, 4, none⟩ = some (.int .i64 0) := (blk_cell aE.out 4).trans rfl; have cO := blk_frozen aE.out 0; have cP := blk_frozen aE.out 1; have cQ := blk_frozen aE.out 2; have cR := blk_frozen aE.out 3; have cS := blk_frozen aE.out 4))
    (try simp only [Act.put, List.setIfInBounds_toArray, List.set_cons_zero, List.set_cons_succ])
    go_cut [29] (fun hC wc => ∃ (kq : Nat) (eG : Bool), hC = .bool eG ∧ Aside0 (laws_FnOpOk.j0 kq eG aF aG aH aI aJ = some r) ∧ Aside0 (kq ≤ k) ∧ Aside0 (wc.heap[aB]? = some (.cells #[.int .i64 aF, .int .i64 aG, .int .i64 aH, .int .i64 aI, .int .i64 aJ] 29 (0, 0))) ∧ Aside0 (wc.heap[aD]? = some (.cells #[.int .i64 aF, .int .i64 aG, .int .i64 aH, .int .i64 aI, .int .i64 1] 29 (0, 0))) ∧ Aside0 (Below w.heap.size w wc))
    case first =>
     have H := gE.out
     clear gE
     by_cases eJ : aF = 1
     ·rw [if_pos eJ] at H
      have aM : (aF == 1) = true := beq_iff_eq.mpr eJ
      have dK : (aF != 1) = false := bne_eq_false_iff_eq.mpr eJ
      clear eJ
      (first | rw [aM] | (simp only [i64_w, i32_w]; rw [aM]) | skip)
      have H' := Aside0.mk H
      clear H
      have gQ := aK.out
      have gV := aL.out
      have bK : eF.cell? ⟨aB, 0, none⟩ = some (.int .i64 aF) := (blk_cell aA.out 0).trans rfl
      have bL : eF.cell? ⟨aB, 1, none⟩ = some (.int .i64 aG) := (blk_cell aA.out 1).trans rfl
      have bM : eF.cell? ⟨aB, 2, none⟩ = some (.int .i64 aH) := (blk_cell aA.out 2).trans rfl
      have bN : eF.cell? ⟨aB, 3, none⟩ = some (.int .i64 aI) := (blk_cell aA.out 3).trans rfl
      have bO : eF.cell? ⟨aB, 4, none⟩ = some (.int .i64 aJ) := (blk_cell aA.out 4).trans rfl
      have cT := blk_frozen aA.out 0
      have cU := blk_frozen aA.out 1
      have cV := blk_frozen aA.out 2
      have cW := blk_frozen aA.out 3
      have cX := blk_frozen aA.out 4
      go_wp2
      go_meet
      case rel => exact ⟨_, (false), oU, H', ⟨(by first | omega | exact Nat.le_refl _)⟩, ⟨(oP aA)⟩, ⟨(blk_put (blk_put (blk_put (blk_put (blk_put (blk_put aE.out 0 _ rfl) 1 _ rfl) 2 _ rfl) 3 _ rfl) 4 _ rfl) 4 _ rfl)⟩, ⟨(oB HB)⟩⟩
     ·rw [if_neg eJ] at H
      have aM : (aF == 1) = false := beq_eq_false_iff_ne.mpr eJ
      have dK : (aF != 1) = true := bne_iff_ne.mpr eJ
      (first | rw [aM] | (simp only [i64_w, i32_w]; rw [aM]) | skip)
      replace H := Option.bind_eq_some_iff.mp H
      obtain ⟨eH, eU, H⟩ := H
      (try dsimp only at H)
      have gZ := Aside0.mk eU
      clear eU
      have H' := Aside0.mk H
      clear H
      have gF : Aside0 (((((((eF.setCell ⟨aD, 0, none⟩ (.int .i64 aF)).setCell ⟨aD, 1, none⟩ (.int .i64 aG)).setCell ⟨aD, 2, none⟩ (.int .i64 aH)).setCell ⟨aD, 3, none⟩ (.int .i64 aI)).setCell ⟨aD, 4, none⟩ (.int .i64 aJ)).setCell ⟨aD, 4, none⟩ (.int .i64 1)).heap[aB]? = some (.cells #[.int .i64 aF, .int .i64 aG, .int .i64 aH, .int .i64 aI, .int .i64 aJ] 29 (0, 0))) := ⟨oP aA⟩
      have gG : Aside0 (((((((eF.setCell ⟨aD, 0, none⟩ (.int .i64 aF)).setCell ⟨aD, 1, none⟩ (.int .i64 aG)).setCell ⟨aD, 2, none⟩ (.int .i64 aH)).setCell ⟨aD, 3, none⟩ (.int .i64 aI)).setCell ⟨aD, 4, none⟩ (.int .i64 aJ)).setCell ⟨aD, 4, none⟩ (.int .i64 1)).heap[aD]? = some (.cells #[.int .i64 aF, .int .i64 aG, .int .i64 aH, .int .i64 aI, .int .i64 1] 29 (0, 0))) := ⟨blk_put (blk_put (blk_put (blk_put (blk_put (blk_put (aE.out) 0 _ rfl) 1 _ rfl) 2 _ rfl) 3 _ rfl) 4 _ rfl) 4 _ rfl⟩
      have gH : Aside0 (Below w.heap.size w ((((((eF.setCell ⟨aD, 0, none⟩ (.int .i64 aF)).setCell ⟨aD, 1, none⟩ (.int .i64 aG)).setCell ⟨aD, 2, none⟩ (.int .i64 aH)).setCell ⟨aD, 3, none⟩ (.int .i64 aI)).setCell ⟨aD, 4, none⟩ (.int .i64 aJ)).setCell ⟨aD, 4, none⟩ (.int .i64 1))) := ⟨oB HB⟩
      generalize ((((((eF.setCell ⟨aD, 0, none⟩ (.int .i64 aF)).setCell ⟨aD, 1, none⟩ (.int .i64 aG)).setCell ⟨aD, 2, none⟩ (.int .i64 aH)).setCell ⟨aD, 3, none⟩ (.int .i64 aI)).setCell ⟨aD, 4, none⟩ (.int .i64 aJ)).setCell ⟨aD, 4, none⟩ (.int .i64 1)) = wz at gF gG gH ⊢
      clear aA aE HB
      have aA := gF
      have aE := gG
      have HB := gH
      clear gF gG gH
      have gR := aK.out
      have gW := aL.out
      have bP : wz.cell? ⟨aB, 0, none⟩ = some (.int .i64 aF) := (blk_cell aA.out 0).trans rfl
      have bQ : wz.cell? ⟨aB, 1, none⟩ = some (.int .i64 aG) := (blk_cell aA.out 1).trans rfl
      have bR : wz.cell? ⟨aB, 2, none⟩ = some (.int .i64 aH) := (blk_cell aA.out 2).trans rfl
      have bS : wz.cell? ⟨aB, 3, none⟩ = some (.int .i64 aI) := (blk_cell aA.out 3).trans rfl
      have bT : wz.cell? ⟨aB, 4, none⟩ = some (.int .i64 aJ) := (blk_cell aA.out 4).trans rfl
      have cY := blk_frozen aA.out 0
      have cZ := blk_frozen aA.out 1
      have dA := blk_frozen aA.out 2
      have dB := blk_frozen aA.out 3
      have dC := blk_frozen aA.out 4
      have bU : wz.cell? ⟨aD, 0, none⟩ = some (.int .i64 aF) := (blk_cell aE.out 0).trans rfl
      have bV : wz.cell? ⟨aD, 1, none⟩ = some (.int .i64 aG) := (blk_cell aE.out 1).trans rfl
      have bW : wz.cell? ⟨aD, 2, none⟩ = some (.int .i64 aH) := (blk_cell aE.out 2).trans rfl
      have bX : wz.cell? ⟨aD, 3, none⟩ = some (.int .i64 aI) := (blk_cell aE.out 3).trans rfl
      have bY : wz.cell? ⟨aD, 4, none⟩ = some (.int .i64 1) := (blk_cell aE.out 4).trans rfl
      have dD := blk_frozen aE.out 0
      have dE := blk_frozen aE.out 1
      have dF := blk_frozen aE.out 2
      have dG := blk_frozen aE.out 3
      have dH := blk_frozen aE.out 4
      go_wp2_with (first | (go_at_call 17; (with_reducible refine (impl_OpOk.calls k aF aG aH aI 1 eH _ gZ.out).mono ?_); rintro e hE ⟨rfl, hb⟩; have n_ := o2_ (blk_below (oP aA) hb) (o2_ (blk_below (oP aE) hb) (o1_ (below_step (oB HB) hb))); clear aA aE HB; obtain ⟨aA, aE, HB⟩ := n_; (try clear hb); (try clear hb2); (try clear hk); (try clear hi)))
      go_meet
      case rel => exact ⟨_, (eH), oU, H', ⟨(by first | omega | exact Nat.le_refl _)⟩, ⟨(oP aA)⟩, ⟨(oP aE)⟩, ⟨(oB HB)⟩⟩
    case rest =>
     clear gE
     try clear c1
     try clear c2
     try clear eK
     try clear eL
     try clear p2
     try clear c4
     try clear c6
     try clear eO
     try clear eP
     try clear eQ
     try clear c7
     try clear c16
     try clear c17
     try clear c18
     try clear eJ
     try clear aM
     try clear dK
     try clear c20
     try clear c23
     try clear aQ
     try clear aR
     try clear aS
     try clear aT
     try clear aU
     try clear aV
     try clear aW
     try clear aX
     try clear aY
     try clear aZ
     try clear bA
     try clear bB
     try clear bC
     try clear bD
     try clear bE
     try clear bF
     try clear bG
     try clear bH
     try clear bI
     try clear bJ
     try clear bK
     try clear bL
     try clear bM
     try clear bN
     try clear bO
     try clear bP
     try clear bQ
     try clear bR
     try clear bS
     try clear bT
     try clear bU
     try clear bV
     try clear bW
     try clear bX
     try clear bY
     try clear bZ
     try clear cA
     try clear cB
     try clear cC
     try clear cD
     try clear cE
     try clear cF
     try clear cG
     try clear cH
     try clear cI
     try clear cJ
     try clear cK
     try clear cL
     try clear cM
     try clear cN
     try clear cO
     try clear cP
     try clear cQ
     try clear cR
     try clear cS
     try clear cT
     try clear cU
     try clear cV
     try clear cW
     try clear cX
     try clear cY
     try clear cZ
     try clear dA
     try clear dB
     try clear dC
     try clear dD
     try clear dE
     try clear dF
     try clear dG
     try clear dH
     obtain ⟨kq, eG, rfl, HA, fH, aA, aE, HB⟩ := hcut
     cases kq with
     | zero => exact nomatch (show none = some _ from HA.out)
     | succ kj7 =>
      have H := HA.out
      clear HA
      simp only [laws_FnOpOk.j0] at H
      by_cases eS : eG = true
      ·subst eS
       rw [if_pos rfl] at H
       exact absurd H (by simp)
      ·replace eS := Bool.eq_false_iff.mpr eS
       subst eS
       rw [if_neg (show ¬ (false = true) by decide)] at H
       have eN := Aside0.mk H
       clear H
       go_upto_region 13 with (fail)
       go_cut [37] (fun hD wc => ∃ (kq : Nat) (dI : Bool), hD = .bool dI ∧ Aside0 (laws_FnOpOk.j1 kq dI = some r) ∧ Aside0 (kq ≤ kj7) ∧ Aside0 (wc.heap[aB]? = some (.cells #[.int .i64 aF, .int .i64 aG, .int .i64 aH, .int .i64 aI, .int .i64 aJ] 29 (0, 0))) ∧ Aside0 (wc.heap[aD]? = some (.cells #[.int .i64 aF, .int .i64 aG, .int .i64 aH, .int .i64 aI, .int .i64 1] 29 (0, 0))) ∧ Aside0 (Below w.heap.size w wc))
       case first =>
        have H := eN.out
        clear eN
        by_cases eM : aF ≥ 2
        ·rw [if_pos eM] at H
         have aN : decide (2 ≤ aF) = true := decide_eq_true eM
         clear eM
         (first | rw [aN] | (simp only [i64_w, i32_w]; rw [aN]) | skip)
         have H' := Aside0.mk H
         clear H
         have gS := aK.out
         have gX := aL.out
         have dL : wc.cell? ⟨aB, 0, none⟩ = some (.int .i64 aF) := (blk_cell aA.out 0).trans rfl
         have dM : wc.cell? ⟨aB, 1, none⟩ = some (.int .i64 aG) := (blk_cell aA.out 1).trans rfl
         have dN : wc.cell? ⟨aB, 2, none⟩ = some (.int .i64 aH) := (blk_cell aA.out 2).trans rfl
         have dO : wc.cell? ⟨aB, 3, none⟩ = some (.int .i64 aI) := (blk_cell aA.out 3).trans rfl
         have dP : wc.cell? ⟨aB, 4, none⟩ = some (.int .i64 aJ) := (blk_cell aA.out 4).trans rfl
         have dV := blk_frozen aA.out 0
         have dW := blk_frozen aA.out 1
         have dX := blk_frozen aA.out 2
         have dY := blk_frozen aA.out 3
         have dZ := blk_frozen aA.out 4
         go_wp2
         go_meet
         case rel => exact ⟨_, (decide (aF ≤ 6)), oU, H', ⟨(by have := fH.out; first | omega | exact Nat.le_refl _)⟩, ⟨(oP aA)⟩, ⟨(oP aE)⟩, ⟨(oB HB)⟩⟩
        ·rw [if_neg eM] at H
         have aN : decide (2 ≤ aF) = false := decide_eq_false eM
         clear eM
         (first | rw [aN] | (simp only [i64_w, i32_w]; rw [aN]) | skip)
         have H' := Aside0.mk H
         clear H
         have gT := aK.out
         have gY := aL.out
         have dQ : wc.cell? ⟨aB, 0, none⟩ = some (.int .i64 aF) := (blk_cell aA.out 0).trans rfl
         have dR : wc.cell? ⟨aB, 1, none⟩ = some (.int .i64 aG) := (blk_cell aA.out 1).trans rfl
         have dS : wc.cell? ⟨aB, 2, none⟩ = some (.int .i64 aH) := (blk_cell aA.out 2).trans rfl
         have dT : wc.cell? ⟨aB, 3, none⟩ = some (.int .i64 aI) := (blk_cell aA.out 3).trans rfl
         have dU : wc.cell? ⟨aB, 4, none⟩ = some (.int .i64 aJ) := (blk_cell aA.out 4).trans rfl
         have eA := blk_frozen aA.out 0
         have eB := blk_frozen aA.out 1
         have eC := blk_frozen aA.out 2
         have eD := blk_frozen aA.out 3
         have eE := blk_frozen aA.out 4
         go_wp2
         go_meet
         case rel => exact ⟨_, (false), oU, H', ⟨(by have := fH.out; first | omega | exact Nat.le_refl _)⟩, ⟨(oP aA)⟩, ⟨(oP aE)⟩, ⟨(oB HB)⟩⟩
       case rest =>
        clear eN
        try clear c1
        try clear c2
        try clear eK
        try clear eL
        try clear p2
        try clear c3
        try clear c4
        try clear c6
        try clear eO
        try clear eP
        try clear eQ
        try clear c7
        try clear c16
        try clear c17
        try clear c18
        try clear eJ
        try clear aM
        try clear dK
        try clear c20
        try clear c23
        try clear eS
        try clear eM
        try clear aN
        try clear c30
        try clear c32
        try clear aQ
        try clear aR
        try clear aS
        try clear aT
        try clear aU
        try clear aV
        try clear aW
        try clear aX
        try clear aY
        try clear aZ
        try clear bA
        try clear bB
        try clear bC
        try clear bD
        try clear bE
        try clear bF
        try clear bG
        try clear bH
        try clear bI
        try clear bJ
        try clear bK
        try clear bL
        try clear bM
        try clear bN
        try clear bO
        try clear bP
        try clear bQ
        try clear bR
        try clear bS
        try clear bT
        try clear bU
        try clear bV
        try clear bW
        try clear bX
        try clear bY
        try clear dL
        try clear dM
        try clear dN
        try clear dO
        try clear dP
        try clear dQ
        try clear dR
        try clear dS
        try clear dT
        try clear dU
        try clear bZ
        try clear cA
        try clear cB
        try clear cC
        try clear cD
        try clear cE
        try clear cF
        try clear cG
        try clear cH
        try clear cI
        try clear cJ
        try clear cK
        try clear cL
        try clear cM
        try clear cN
        try clear cO
        try clear cP
        try clear cQ
        try clear cR
        try clear cS
        try clear cT
        try clear cU
        try clear cV
        try clear cW
        try clear cX
        try clear cY
        try clear cZ
        try clear dA
        try clear dB
        try clear dC
        try clear dD
        try clear dE
        try clear dF
        try clear dG
        try clear dH
        try clear dV
        try clear dW
        try clear dX
        try clear dY
        try clear dZ
        try clear eA
        try clear eB
        try clear eC
        try clear eD
        try clear eE
        try clear p2
        obtain ⟨kq, dI, rfl, HA, eZ, aA, aE, HB⟩ := hcut
        cases kq with
        | zero => exact nomatch (show none = some _ from HA.out)
        | succ kj27 =>
         have H := HA.out
         clear HA
         simp only [laws_FnOpOk.j1] at H
         by_cases fA : dI = true
         ·subst fA
          rw [if_pos rfl] at H
          have H' := Aside0.mk H
          clear H
          go_wp2
          go_loopg [6] kj27 (fun kq v6 w' => ∃ (dJ : Int), v6 = .int .i64 dJ ∧ Aside0 (laws_FnOpOk.l0 kq dJ = some r) ∧ Aside0 (kq ≤ kj27) ∧ Aside0 (w'.heap[aB]? = some (.cells #[.int .i64 aF, .int .i64 aG, .int .i64 aH, .int .i64 aI, .int .i64 aJ] 29 (0, 0))) ∧ Aside0 (w'.heap[aD]? = some (.cells #[.int .i64 aF, .int .i64 aG, .int .i64 aH, .int .i64 aI, .int .i64 1] 29 (0, 0))) ∧ Aside0 (Below w.heap.size w w'))
          case atStart => exact ⟨(2), oU, H', ⟨Nat.le_refl _⟩, ⟨(oP aA)⟩, ⟨(oP aE)⟩, ⟨(oB HB)⟩⟩
          case round =>
           clear H'
           try clear c1
           try clear c2
           try clear eK
           try clear eL
           try clear p2
           try clear c3
           try clear c4
           try clear c6
           try clear eO
           try clear eP
           try clear eQ
           try clear c7
           try clear c16
           try clear c17
           try clear c18
           try clear eJ
           try clear aM
           try clear dK
           try clear c20
           try clear c23
           try clear eS
           try clear eM
           try clear aN
           try clear c30
           try clear c32
           try clear fA
           try clear aQ
           try clear aR
           try clear aS
           try clear aT
           try clear aU
           try clear aV
           try clear aW
           try clear aX
           try clear aY
           try clear aZ
           try clear bA
           try clear bB
           try clear bC
           try clear bD
           try clear bE
           try clear bF
           try clear bG
           try clear bH
           try clear bI
           try clear bJ
           try clear bK
           try clear bL
           try clear bM
           try clear bN
           try clear bO
           try clear bP
           try clear bQ
           try clear bR
           try clear bS
           try clear bT
           try clear bU
           try clear bV
           try clear bW
           try clear bX
           try clear bY
           try clear dL
           try clear dM
           try clear dN
           try clear dO
           try clear dP
           try clear dQ
           try clear dR
           try clear dS
           try clear dT
           try clear dU
           try clear bZ
           try clear cA
           try clear cB
           try clear cC
           try clear cD
           try clear cE
           try clear cF
           try clear cG
           try clear cH
           try clear cI
           try clear cJ
           try clear cK
           try clear cL
           try clear cM
           try clear cN
           try clear cO
           try clear cP
           try clear cQ
           try clear cR
           try clear cS
           try clear cT
           try clear cU
           try clear cV
           try clear cW
           try clear cX
           try clear cY
           try clear cZ
           try clear dA
           try clear dB
           try clear dC
           try clear dD
           try clear dE
           try clear dF
           try clear dG
           try clear dH
           try clear dV
           try clear dW
           try clear dX
           try clear dY
           try clear dZ
           try clear eA
           try clear eB
           try clear eC
           try clear eD
           try clear eE
           try clear p2
           obtain ⟨dJ, rfl, HA, HK3, aA, aE, HB⟩ := hrel
           cases gk with
           | zero => exact nomatch (show none = some _ from HA.out)
           | succ k3 =>
            have H := HA.out
            clear HA
            simp only [laws_FnOpOk.l0] at H
            by_cases eT : dJ ≤ 6
            ·rw [if_pos eT] at H
             have fB : decide (dJ ≤ 6) = true := decide_eq_true eT
             clear eT
             replace H := Option.bind_eq_some_iff.mp H
             obtain ⟨eR, eV, H⟩ := H
             (try dsimp only at H)
             have hA := Aside0.mk eV
             clear eV
             by_cases fI : eR = true
             ·subst fI
              rw [if_pos rfl] at H
              have H' := Aside0.mk H
              clear H
              go_wp2_with (first | ((with_reducible refine gate_callee (f := 17) rfl ?_); refine goesL_ (some 44) rfl rfl Try.func17 oK rfl #[.agg #[.int .i64 dJ, .int .i64 0, .int .i64 0, .int .i64 0, .int .i64 0]] rfl oA ?_; (with_reducible refine (impl_OpOk.calls k3 dJ 0 0 0 0 true _ hA.out).mono ?_); rintro e hF ⟨rfl, hb⟩; refine ⟨_, rfl, ?_⟩; have n_ := o2_ (blk_below (oP aA) hb) (o2_ (blk_below (oP aE) hb) (o1_ (below_step (oB HB) hb))); clear aA aE HB; obtain ⟨aA, aE, HB⟩ := n_; (try clear hb); (try clear hb2); (try clear hk); (try clear hi)))
              go_roundg k3
              case measure => have := fH.out; have := eZ.out; have := HK3.out; omega
              case rel => exact ⟨(wrap64 (dJ + 1)), oU, H', ⟨(by have := fH.out; have := eZ.out; have := HK3.out; omega)⟩, ⟨(oP aA)⟩, ⟨(oP aE)⟩, ⟨(oB HB)⟩⟩
             ·replace fI := Bool.eq_false_iff.mpr fI
              subst fI
              rw [if_neg (show ¬ (false = true) by decide)] at H
              exact absurd H (by simp)
            ·rw [if_neg eT] at H
             have fB : decide (dJ ≤ 6) = false := decide_eq_false eT
             clear eT
             obtain rfl := Option.some.inj H
             go_wp2
             go_ret
             exact ⟨by first | rfl | (simp [errW_none, errW_some] <;> rfl) | (simp [*, errW_none, errW_some] <;> rfl), oB HB⟩
         ·replace fA := Bool.eq_false_iff.mpr fA
          subst fA
          rw [if_neg (show ¬ (false = true) by decide)] at H
          obtain rfl := Option.some.inj H
          go_wp2
          go_ret
          exact ⟨by first | rfl | (simp [errW_none, errW_some] <;> rfl) | (simp [*, errW_none, errW_some] <;> rfl), oB HB⟩
   ·replace c7 := Bool.eq_false_iff.mpr c7
    subst c7
    rw [if_neg (show ¬ (false = true) by decide)] at H
    replace H := Option.bind_eq_some_iff.mp H
    obtain ⟨eI, eW, H⟩ := H
    (try dsimp only at H)
    have hB := Aside0.mk eW
    clear eW
    obtain rfl := Option.some.inj H
    go_enter Try.func4, Try.ntmps4
    go_wp2_with (first | ((with_reducible refine gate_callee (f := 16) rfl ?_); refine goesL_ (some 11) rfl rfl Try.func16 oK rfl #[.slice A0 l0.length c0] rfl oA ?_; (with_reducible refine (spec_DrawOpOk.calls k _ _ l0 aF aG aH aI aJ _ ?side1 ?side2 A3.out).mono ?_); (case side1 => repeat (first | exact gO.out | (with_reducible refine Kd.C_alloc ?_ _) | (with_reducible refine Kd.C_drewN ?_ _) | (with_reducible refine Kd.C_drew ?_))); (case side2 => exact gN.out); rintro e hG ⟨rfl, hb⟩; refine ⟨_, rfl, ?_⟩; replace HB := o1_ (below_step (oB HB) hb); (try clear hb); (try clear hb2); (try clear hk); (try clear hi)) | ((with_reducible refine gate_dst (N := 3) rfl ?_); refine box_event rfl (N := 3) rfl (cs := #[.int .i64 0, .int .i64 0, .int .i64 0, .int .i64 0, .int .i64 0]) (t := 29) oS ?_; intro aB hg fF hbox hb; have n_ := o2_ (below_step (oB HB) hb) (o2_ (hbox) (o2_ ((oG hg (below_size (oB HB)) : w.heap.size ≤ aB)) (o1_ ((oG hg (below_size (oB HB)) : w.heap.size ≤ aB))))); clear HB; obtain ⟨HB, aA, eY, eX⟩ := n_; clear hb hbox hg; have fK : fF.cell? ⟨aB, 0, none⟩ = some (.int .i64 0) := (blk_cell aA.out 0).trans rfl; have fL : fF.cell? ⟨aB, 1, none⟩ = some (.int .i64 0) := (blk_cell aA.out 1).trans rfl; have fM : fF.cell? ⟨aB, 2, none⟩ = some (.int .i64 0) := (blk_cell aA.out 2).trans rfl; have fN : fF.cell? ⟨aB, 3, none⟩ = some (.int .i64 0) := (blk_cell aA.out 3).trans rfl; have fO : fF.cell? ⟨aB, 4, none⟩ = some (.int .i64 0) := (blk_cell aA.out 4).trans rfl; have fU := blk_frozen aA.out 0; have fV := blk_frozen aA.out 1; have fW := blk_frozen aA.out 2; have fX := blk_frozen aA.out 3; have fY := blk_frozen aA.out 4) | ((with_reducible refine gate_callee (f := 17) rfl ?_); refine goesL_ (some 13) rfl rfl Try.func17 oK rfl #[.agg #[.int .i64 aF, .int .i64 aG, .int .i64 aH, .int .i64 aI, .int .i64 aJ]] rfl oA ?_; (with_reducible refine (impl_OpOk.calls k aF aG aH aI aJ false _ A4.out).mono ?_); rintro e fG ⟨rfl, hb⟩; refine ⟨_, rfl, ?_⟩; have n_ := o2_ (blk_below (g := aB) (o := .cells #[.int .i64 aF, .int .i64 aG, .int .i64 aH, .int .i64 aI, .int .i64 aJ] 29 (0, 0)) (blk_put (blk_put (blk_put (blk_put (blk_put aA.out 0 _ rfl) 1 _ rfl) 2 _ rfl) 3 _ rfl) 4 _ rfl) hb) (o1_ (below_step (oB HB) hb)); clear aA HB; obtain ⟨aA, HB⟩ := n_; (try clear hb); (try clear hb2); (try clear hk); (try clear hi); have fP : fG.cell? ⟨aB, 0, none⟩ = some (.int .i64 aF) := (blk_cell aA.out 0).trans rfl; have fQ : fG.cell? ⟨aB, 1, none⟩ = some (.int .i64 aG) := (blk_cell aA.out 1).trans rfl; have fR : fG.cell? ⟨aB, 2, none⟩ = some (.int .i64 aH) := (blk_cell aA.out 2).trans rfl; have fS : fG.cell? ⟨aB, 3, none⟩ = some (.int .i64 aI) := (blk_cell aA.out 3).trans rfl; have fT : fG.cell? ⟨aB, 4, none⟩ = some (.int .i64 aJ) := (blk_cell aA.out 4).trans rfl; have fZ := blk_frozen aA.out 0; have gA := blk_frozen aA.out 1; have gB := blk_frozen aA.out 2; have gC := blk_frozen aA.out 3; have gD := blk_frozen aA.out 4) | ((with_reducible refine gate_callee (f := 18) rfl ?_); refine goesL_ (some 16) rfl rfl Try.func18 oK rfl #[.agg #[.int .i64 aF, .int .i64 aG, .int .i64 aH, .int .i64 aI, .int .i64 aJ]] rfl oA ?_; (with_reducible refine (spec_OpOk.calls aF aG aH aI aJ aP _ A5.out).mono ?_); rintro e hH ⟨rfl, hb⟩; refine ⟨_, rfl, ?_⟩; replace HB := o1_ (below_step (oB HB) hb); (try clear hb); (try clear hb2); (try clear hk); (try clear hi)) | ((with_reducible refine gate_callee (f := 19) rfl ?_); refine goesL_ (some 20) rfl rfl Try.func19 oK rfl #[] rfl oA ?_; (with_reducible refine (laws_eaOk.calls  eI _ hB.out).mono ?_); rintro e hI ⟨rfl, hb⟩; refine ⟨_, rfl, ?_⟩; replace HB := o1_ (below_step (oB HB) hb); (try clear hb); (try clear hb2); (try clear hk); (try clear hi)))
    go_ret
    exact ⟨by first | rfl | (simp [errW_none, errW_some] <;> rfl) | (simp [*, errW_none, errW_some] <;> rfl), oB HB⟩

/-- THE ONE PURE STATEMENT of laws_FnOpOk: yours. -/
def laws_FnOpOk.Pure : Prop := ∀ (l0 : List Int), l0.length ≤ maxLen → l0.length * 1 ≤ 140737488351232 → (∀ x ∈ l0, (Lit.int .u8 x).wf = true) → ∃ k, laws_FnOpOk.f k l0 = some true
theorem laws_FnOpOk.walk (P : laws_FnOpOk.Pure) (a0 : Option Addr) (len0 cap0 : Nat) (z0 : List Int) (w : World) (w0 : (a0 = none ∧ len0 = 0 ∧ cap0 = 0 ∧ z0 = []) ∨ ∃ x, a0 = some x ∧ len0 ≤ cap0 ∧ cap0 ≤ maxLen ∧ z0.length = cap0 ∧ (∀ i, i < z0.length → w.cell? (x.add i) = some (.int .u8 (z0.getD i 0))) ∧ ∀ n ∈ z0, (Lit.int .u8 n).wf = true) (y0 : len0 * 1 ≤ 140737488351232) :
  Calls Try.prog 4 #[.slice a0 len0 cap0] w fun e w' => e = .returned (.bool true) ∧ Below w.heap.size w w' := by
 obtain ⟨l0, rfl, hr0, hm0, hw0, fJ⟩ := ReadsInt.ofRowC w0
 obtain ⟨k, h⟩ := P l0 hm0 y0 hw0
 refine (laws_FnOpOk.calls k _ _ l0 true w (Kd.C_of_reads (d := (0 : Int)) (h1 := fun _ => rfl) hr0) fJ h).mono ?_
 rintro e w' ⟨rfl, hd⟩
 exact ⟨rfl, hd⟩

end Go.Proofs.Ytmkiajoanblkbaa.X
