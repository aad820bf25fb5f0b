/- What functions of the program come to, each with its proof. No condition but what each theorem states. -/
import Derived.Test.YtjkaalcocgioaaaX0
import Derived.Test.YtjkaalcocgioaaaX14
import Derived.Test.YtjkaalcocgioaaaX16
import Derived.Test.YtjkaalcocgioaaaX22
import Derived.Test.YtjkaalcocgioaaaX24
import Derived.Test.YtjkaalcocgioaaaX26
import Derived.Test.YtjkaalcocgioaaaX32
namespace Go.Proofs.Ytjkaalcocgioaaa.X
open Go.RowKit Go.Proofs.YtjkaalcocgioaaaW.PrintWords Go.Proofs.YtjkaalcocgioaaaW.PrintLast Go.Proofs.YtjkaalcocgioaaaW.PrintMore Go.Proofs.Ytjkaalcocgioaaa.Hyb
attribute [local go_sem] max2_int min2_int max_two min_two max_three min_three max_four min_four
set_option linter.unusedVariables false
set_option linter.unusedSimpArgs false

/-! ### laws_FnFoldKeep: function 5 -/
def laws_FnFoldKeep.l0 : Nat → List (S25) → List (S25) → Int → Option (Bool)
 | 0, _, _, _ => none
 | k + 1, x3, x4, x5 => if x5 < (x3.length : Int) then (if 0 ≤ x5 then ((spec_OpOk.f ((rd_T25 x3 x5).f0) ((rd_T25 x3 x5).f1) ((rd_T25 x3 x5).f2) ((rd_T25 x3 x5).f3) ((rd_T25 x3 x5).f4)).bind fun dK => (if dK = true then (if (x4.length : Int) = 0 then (if x4.length < 3518437208883 then (laws_FnFoldKeep.l0 k x3 (x4 ++ [(⟨(rd_T25 x3 x5).f0, (rd_T25 x3 x5).f1, (rd_T25 x3 x5).f2, (rd_T25 x3 x5).f3, (rd_T25 x3 x5).f4⟩ : S25)]) (wrap64 (x5 + 1))) else (none)) else (if 0 ≤ (wrap64 ((x4.length : Int) - 1)) then (if (wrap64 ((x4.length : Int) - 1)) < (x4.length : Int) then (if ((rd_T25 x4 (wrap64 ((x4.length : Int) - 1))).f0) = ((rd_T25 x3 x5).f0) then (laws_FnFoldKeep.l0 k x3 x4 (wrap64 (x5 + 1))) else (if x4.length < 3518437208883 then (laws_FnFoldKeep.l0 k x3 (x4 ++ [(⟨(rd_T25 x3 x5).f0, (rd_T25 x3 x5).f1, (rd_T25 x3 x5).f2, (rd_T25 x3 x5).f3, (rd_T25 x3 x5).f4⟩ : S25)]) (wrap64 (x5 + 1))) else (none))) else (none)) else (none))) else ((laws_eaOk.f).bind fun dE => (some dE)))) else (none)) else ((impl_OpsFold.f k x4).bind fun bX => ((laws_eaOps.f k bX x4).bind fun dL => (if dL = true then ((impl_OpsFold.f k x3).bind fun bY => ((spec_OpsFold.f k x3).bind fun bZ => ((laws_eaOps.f k bY bZ).bind fun dM => (if dM = true then ((laws_eaOk.f).bind fun dF => (some dF)) else (none))))) else (none))))
def laws_FnFoldKeep.f (k : Nat) (l0 : List Int) : Option (Bool) := if (l0.length : Int) > 1048576 then (some true) else ((spec_DrawOpsFold.f k l0).bind fun aC => (if (aC.length : Int) > 5 then ((laws_eaOk.f).bind fun cB => (some cB)) else (laws_FnFoldKeep.l0 k aC (([] : List (S25))) 0)))
theorem laws_FnFoldKeep.mono_l : ∀ k, (∀ y0 y1 y2, LeO (laws_FnFoldKeep.l0 k y0 y1 y2) (laws_FnFoldKeep.l0 (k + 1) y0 y1 y2))
 | 0 => (fun _ _ _ r h => nomatch (show none = some r from h))
 | k + 1 => by
  have ih0 := laws_FnFoldKeep.mono_l k
  ·intro y0 y1 y2
   unfold laws_FnFoldKeep.l0
   repeat' first
   | (with_reducible exact ih0 _ _ _)
   | (with_reducible exact impl_OpsFold.mono _ _)
   | (with_reducible exact laws_eaOps.mono _ _ _)
   | (with_reducible exact spec_DrawOpsFold.mono _ _)
   | (with_reducible exact spec_OpsFold.mono _ _)
   | (with_reducible exact LeO.refl _)
   | (with_reducible exact LeO.none _)
   | (with_reducible refine LeO.ite ?_ ?_)
   | (with_reducible refine LeO.bind ?_ (fun _ => ?_))
   | exact ih0 _ _ _
   | exact impl_OpsFold.mono _ _
   | exact laws_eaOps.mono _ _ _
   | exact spec_DrawOpsFold.mono _ _
   | exact spec_OpsFold.mono _ _
   | exact LeO.none _
   | refine LeO.ite ?_ ?_
   | refine LeO.bind ?_ (fun _ => ?_)
theorem laws_FnFoldKeep.mono : ∀ a0 k, LeO (laws_FnFoldKeep.f k a0) (laws_FnFoldKeep.f (k + 1) a0) := by
 intro a0 k
 have ih0 := laws_FnFoldKeep.mono_l k
 unfold laws_FnFoldKeep.f
 repeat' first
   | (with_reducible exact ih0 _ _ _)
   | (with_reducible exact impl_OpsFold.mono _ _)
   | (with_reducible exact laws_eaOps.mono _ _ _)
   | (with_reducible exact spec_DrawOpsFold.mono _ _)
   | (with_reducible exact spec_OpsFold.mono _ _)
   | (with_reducible exact LeO.refl _)
   | (with_reducible exact LeO.none _)
   | (with_reducible refine LeO.ite ?_ ?_)
   | (with_reducible refine LeO.bind ?_ (fun _ => ?_))
   | exact ih0 _ _ _
   | exact impl_OpsFold.mono _ _
   | exact laws_eaOps.mono _ _ _
   | exact spec_DrawOpsFold.mono _ _
   | exact spec_OpsFold.mono _ _
   | exact LeO.none _
   | refine LeO.ite ?_ ?_
   | refine LeO.bind ?_ (fun _ => ?_)
set_option maxHeartbeats 8000000 in
set_option maxRecDepth 100000 in
theorem laws_FnFoldKeep.calls (k : Nat) (A0 : Option Addr) (c0 : Nat) (l0 : List Int) (r : Bool) (w : World) (hr0 : Kd.C (Kd.int .u8) w A0 l0.length l0) (fF : l0.length ≤ c0) (h : laws_FnFoldKeep.f k l0 = some r) :
  Calls Try.prog 5 #[.slice A0 l0.length c0] w fun e w' => e = .returned (.bool r) ∧ Below w.heap.size w w' := by
 have hu25 := Try.underlying25
 have dO := Aside0.mk hr0
 have dN := Aside0.mk fF
 clear hr0 fF
 have HB := Aside0.mk (Below.refl w.heap.size w)
 have H : (if (l0.length : Int) > 1048576 then (some true) else ((spec_DrawOpsFold.f k l0).bind fun aC => (if (aC.length : Int) > 5 then ((laws_eaOk.f).bind fun cB => (some cB)) else (laws_FnFoldKeep.l0 k aC (([] : List (S25))) 0)))) = some r := h
 clear h
 by_cases c2 : (l0.length : Int) > 1048576
 ·rw [if_pos c2] at H
  have eI : decide (1048576 < (l0.length : Int)) = true := decide_eq_true c2
  have eJ : decide (1048576 < l0.length) = true := decide_eq_true (by omega)
  clear c2
  obtain rfl := Option.some.inj H
  go_enter Try.func5, Try.ntmps5
  go_wp2
  repeat (go_quiet (fail); try go_wp2)
  go_ret
  exact ⟨by first | rfl | (simp [errW_none, errW_some] <;> rfl) | (simp [*, errW_none, errW_some] <;> rfl), oB HB⟩
 ·rw [if_neg c2] at H
  have eI : decide (1048576 < (l0.length : Int)) = false := decide_eq_false c2
  have eJ : decide (1048576 < l0.length) = false := decide_eq_false (by omega)
  clear c2
  replace H := Option.bind_eq_some_iff.mp H
  obtain ⟨aC, fP, H⟩ := H
  (try dsimp only at H)
  have A3 := Aside0.mk fP
  clear fP
  by_cases c4 : (aC.length : Int) > 5
  ·rw [if_pos c4] at H
   have eK : decide (5 < (aC.length : Int)) = true := decide_eq_true c4
   have eL : decide (5 < aC.length) = true := decide_eq_true (by omega)
   clear c4
   replace H := Option.bind_eq_some_iff.mp H
   obtain ⟨cB, fQ, H⟩ := H
   (try dsimp only at H)
   have A5 := Aside0.mk fQ
   clear fQ
   obtain rfl := Option.some.inj H
   go_enter Try.func5, Try.ntmps5
   go_wp2_with (first | (go_at_call 10; (with_reducible refine (spec_DrawOpsFold.calls k _ _ l0 aC _ ?side1 ?side2 A3.out).mono ?_); (case side1 => repeat (first | exact dO.out | (with_reducible refine Kd.C_alloc ?_ _) | (with_reducible refine Kd.C_drewN ?_ _) | (with_reducible refine Kd.C_drew ?_))); (case side2 => exact dN.out); rintro e w6 ⟨dG, rfl, ho0, hb⟩; have n_ := o2_ (Kd.R_lower ho0 (below_size (oB HB))) (o1_ (below_step (oB HB) hb)); clear HB; obtain ⟨aI, HB⟩ := n_; (try clear hb); (try clear hb2); (try clear hk); (try clear hi); (try clear ho0); obtain ⟨fR, fW, eQ⟩ := Kd.R_slice aI.out; subst eQ) | (go_at_call 11; (with_reducible refine (laws_eaOk.calls  cB _ A5.out).mono ?_); rintro e w8 ⟨rfl, hb⟩; have n_ := o2_ (Kd.R_below (oR aI) hb) (o1_ (below_step (oB HB) hb)); clear aI HB; obtain ⟨aI, HB⟩ := n_; (try clear hb); (try clear hb2); (try clear hk); (try clear hi)))
   repeat (go_quiet (first | (go_at_call 10; (with_reducible refine (spec_DrawOpsFold.calls k _ _ l0 aC _ ?side1 ?side2 A3.out).mono ?_); (case side1 => repeat (first | exact dO.out | (with_reducible refine Kd.C_alloc ?_ _) | (with_reducible refine Kd.C_drewN ?_ _) | (with_reducible refine Kd.C_drew ?_))); (case side2 => exact dN.out); rintro e w6 ⟨dG, rfl, ho0, hb⟩; have n_ := o2_ (Kd.R_lower ho0 (below_size (oB HB))) (o1_ (below_step (oB HB) hb)); clear HB; obtain ⟨aI, HB⟩ := n_; (try clear hb); (try clear hb2); (try clear hk); (try clear hi); (try clear ho0); obtain ⟨fR, fW, eQ⟩ := Kd.R_slice aI.out; subst eQ) | (go_at_call 11; (with_reducible refine (laws_eaOk.calls  cB _ A5.out).mono ?_); rintro e w8 ⟨rfl, hb⟩; have n_ := o2_ (Kd.R_below (oR aI) hb) (o1_ (below_step (oB HB) hb)); clear aI HB; obtain ⟨aI, HB⟩ := n_; (try clear hb); (try clear hb2); (try clear hk); (try clear hi))); try go_wp2_with (first | (go_at_call 10; (with_reducible refine (spec_DrawOpsFold.calls k _ _ l0 aC _ ?side1 ?side2 A3.out).mono ?_); (case side1 => repeat (first | exact dO.out | (with_reducible refine Kd.C_alloc ?_ _) | (with_reducible refine Kd.C_drewN ?_ _) | (with_reducible refine Kd.C_drew ?_))); (case side2 => exact dN.out); rintro e w6 ⟨dG, rfl, ho0, hb⟩; have n_ := o2_ (Kd.R_lower ho0 (below_size (oB HB))) (o1_ (below_step (oB HB) hb)); clear HB; obtain ⟨aI, HB⟩ := n_; (try clear hb); (try clear hb2); (try clear hk); (try clear hi); (try clear ho0); obtain ⟨fR, fW, eQ⟩ := Kd.R_slice aI.out; subst eQ) | (go_at_call 11; (with_reducible refine (laws_eaOk.calls  cB _ A5.out).mono ?_); rintro e w8 ⟨rfl, hb⟩; have n_ := o2_ (Kd.R_below (oR aI) hb) (o1_ (below_step (oB HB) hb)); clear aI HB; obtain ⟨aI, HB⟩ := n_; (try clear hb); (try clear hb2); (try clear hk); (try clear hi))))
   go_ret
   exact ⟨by first | rfl | (simp [errW_none, errW_some] <;> rfl) | (simp [*, errW_none, errW_some] <;> rfl), oB HB⟩
  ·rw [if_neg c4] at H
   have eK : decide (5 < (aC.length : Int)) = false := decide_eq_false c4
   have eL : decide (5 < aC.length) = false := decide_eq_false (by omega)
   clear c4
   obtain ⟨y380, hy380⟩ : ∃ y_ : List (S25), y_ = (([] : List (S25))) := ⟨_, rfl⟩
   replace H : (laws_FnFoldKeep.l0 k aC y380 0) = some r := by first | (rw [hy380]; with_reducible exact H) | (have H2_ := (Option.bind_some _ _).symm.trans H; rw [hy380]; with_reducible exact H2_) | (have H2_ := (Option.bind_some _ _).symm.trans H; with_reducible exact H2_) | with_reducible exact H | (rw [hy380]; exact H) | exact H
   have bP := Aside0.mk hy380
   clear hy380
   have H' := Aside0.mk H
   clear H
   go_enter Try.func5, Try.ntmps5
   go_wp2_with (first | (go_at_call 10; (with_reducible refine (spec_DrawOpsFold.calls k _ _ l0 aC _ ?side1 ?side2 A3.out).mono ?_); (case side1 => repeat (first | exact dO.out | (with_reducible refine Kd.C_alloc ?_ _) | (with_reducible refine Kd.C_drewN ?_ _) | (with_reducible refine Kd.C_drew ?_))); (case side2 => exact dN.out); rintro e w9 ⟨dG, rfl, ho0, hb⟩; have n_ := o2_ (Kd.R_lower ho0 (below_size (oB HB))) (o1_ (below_step (oB HB) hb)); clear HB; obtain ⟨aI, HB⟩ := n_; (try clear hb); (try clear hb2); (try clear hk); (try clear hi); (try clear ho0); obtain ⟨dH, bO, cX⟩ := Kd.R_slice aI.out; subst cX) | ((with_reducible refine gate_dst (N := 15) rfl ?_); (try (refine gate_guard (by rfl) ?_; dsimp only)); refine Kd.R_lit k25 _ 25 ?hg (N := 15) ?hd (xs := ([] : List (S25))) (inner := []) (ok := fun _ => True) (okp := fun _ => True) ?hr ?hp (fun _ hk => hk) trivial (Below.refl _ _) (Nat.le_refl _) (by simp) ?_; (case hd => rfl); (case hg => rfl); (case hr => first | (go_simp; done) | (go_simp; rfl)); (case hp => exact (Reps.none _ _)); intro eR fX ho12 hb hg_ hnew_; clear hg_ hnew_; (first | rw [← bP.out] at ho12 | (simp only [Int.reduceToNat] at ho12; rw [← bP.out] at ho12)); have n_ := o2_ (Kd.R_elder' (oR aI) (Kd.R_base ho12) hb) (o2_ (Kd.R_lower (Kd.R_new' ho12 (Kd.R_lt (oR aI))) (below_size (oB HB))) (o1_ (below_step (oB HB) hb))); clear aI HB; obtain ⟨aI, cO, HB⟩ := n_; clear hb ho12))
   repeat (go_quiet (first | (go_at_call 10; (with_reducible refine (spec_DrawOpsFold.calls k _ _ l0 aC _ ?side1 ?side2 A3.out).mono ?_); (case side1 => repeat (first | exact dO.out | (with_reducible refine Kd.C_alloc ?_ _) | (with_reducible refine Kd.C_drewN ?_ _) | (with_reducible refine Kd.C_drew ?_))); (case side2 => exact dN.out); rintro e w9 ⟨dG, rfl, ho0, hb⟩; have n_ := o2_ (Kd.R_lower ho0 (below_size (oB HB))) (o1_ (below_step (oB HB) hb)); clear HB; obtain ⟨aI, HB⟩ := n_; (try clear hb); (try clear hb2); (try clear hk); (try clear hi); (try clear ho0); obtain ⟨dH, bO, cX⟩ := Kd.R_slice aI.out; subst cX) | ((with_reducible refine gate_dst (N := 15) rfl ?_); (try (refine gate_guard (by rfl) ?_; dsimp only)); refine Kd.R_lit k25 _ 25 ?hg (N := 15) ?hd (xs := ([] : List (S25))) (inner := []) (ok := fun _ => True) (okp := fun _ => True) ?hr ?hp (fun _ hk => hk) trivial (Below.refl _ _) (Nat.le_refl _) (by simp) ?_; (case hd => rfl); (case hg => rfl); (case hr => first | (go_simp; done) | (go_simp; rfl)); (case hp => exact (Reps.none _ _)); intro eR fX ho12 hb hg_ hnew_; clear hg_ hnew_; (first | rw [← bP.out] at ho12 | (simp only [Int.reduceToNat] at ho12; rw [← bP.out] at ho12)); have n_ := o2_ (Kd.R_elder' (oR aI) (Kd.R_base ho12) hb) (o2_ (Kd.R_lower (Kd.R_new' ho12 (Kd.R_lt (oR aI))) (below_size (oB HB))) (o1_ (below_step (oB HB) hb))); clear aI HB; obtain ⟨aI, cO, HB⟩ := n_; clear hb ho12)); try go_wp2_with (first | (go_at_call 10; (with_reducible refine (spec_DrawOpsFold.calls k _ _ l0 aC _ ?side1 ?side2 A3.out).mono ?_); (case side1 => repeat (first | exact dO.out | (with_reducible refine Kd.C_alloc ?_ _) | (with_reducible refine Kd.C_drewN ?_ _) | (with_reducible refine Kd.C_drew ?_))); (case side2 => exact dN.out); rintro e w9 ⟨dG, rfl, ho0, hb⟩; have n_ := o2_ (Kd.R_lower ho0 (below_size (oB HB))) (o1_ (below_step (oB HB) hb)); clear HB; obtain ⟨aI, HB⟩ := n_; (try clear hb); (try clear hb2); (try clear hk); (try clear hi); (try clear ho0); obtain ⟨dH, bO, cX⟩ := Kd.R_slice aI.out; subst cX) | ((with_reducible refine gate_dst (N := 15) rfl ?_); (try (refine gate_guard (by rfl) ?_; dsimp only)); refine Kd.R_lit k25 _ 25 ?hg (N := 15) ?hd (xs := ([] : List (S25))) (inner := []) (ok := fun _ => True) (okp := fun _ => True) ?hr ?hp (fun _ hk => hk) trivial (Below.refl _ _) (Nat.le_refl _) (by simp) ?_; (case hd => rfl); (case hg => rfl); (case hr => first | (go_simp; done) | (go_simp; rfl)); (case hp => exact (Reps.none _ _)); intro eR fX ho12 hb hg_ hnew_; clear hg_ hnew_; (first | rw [← bP.out] at ho12 | (simp only [Int.reduceToNat] at ho12; rw [← bP.out] at ho12)); have n_ := o2_ (Kd.R_elder' (oR aI) (Kd.R_base ho12) hb) (o2_ (Kd.R_lower (Kd.R_new' ho12 (Kd.R_lt (oR aI))) (below_size (oB HB))) (o1_ (below_step (oB HB) hb))); clear aI HB; obtain ⟨aI, cO, HB⟩ := n_; clear hb ho12)))
   go_loopg [4, 5] k (fun kq v4 v5 w' => ∃ (aH : List (S25)) (aA : Int), v5 = .int .i64 aA ∧ Aside0 (laws_FnFoldKeep.l0 kq aC aH aA = some r) ∧ Aside0 (kq ≤ k) ∧ Aside0 (Kd.R k25 25 w' w.heap.size (fun k_ => some k_ ≠ (v4 : Value).ownBlock) (.slice dH aC.length bO) aC) ∧ Aside0 (Kd.R k25 25 w' w.heap.size (fun k_ => some k_ ≠ ((.slice dH aC.length bO) : Value).ownBlock) v4 aH) ∧ Aside0 (Below w.heap.size w w'))
   case atStart => exact ⟨(y380), (0), oU, H', ⟨Nat.le_refl _⟩, ⟨(by (with_reducible repeat (first | apply Kd.R_alloc | apply Kd.R_drewN | apply Kd.R_drew)); exact Kd.R_mono aI.out (fun _ hk => hk.2))⟩, ⟨(by (with_reducible repeat (first | apply Kd.R_alloc | apply Kd.R_drewN | apply Kd.R_drew)); exact Kd.R_mono cO.out (fun _ hk => hk.2))⟩, ⟨(oB HB)⟩⟩
   case round =>
    clear H'
    try clear c2
    try clear eI
    try clear eJ
    try clear p2
    try clear c4
    try clear eK
    try clear eL
    try clear c5
    obtain ⟨aH, aA, rfl, HA, HK1, aD, aE, HB⟩ := hrel
    cases gk with
    | zero => exact nomatch (show none = some _ from HA.out)
    | succ k1 =>
     have H := HA.out
     clear HA
     simp only [laws_FnFoldKeep.l0] at H
     by_cases dP : aA < (aC.length : Int)
     ·rw [if_pos dP] at H
      have eD : decide (aA < (aC.length : Int)) = true := decide_eq_true dP
      clear dP
      by_cases eX : 0 ≤ aA
      ·rw [if_pos eX] at H
       have fS : decide (0 ≤ aA) = true := decide_eq_true eX
       clear eX
       replace H := Option.bind_eq_some_iff.mp H
       obtain ⟨dK, dQ, H⟩ := H
       (try dsimp only at H)
       have cM := Aside0.mk dQ
       clear dQ
       by_cases eY : dK = true
       ·subst eY
        rw [if_pos rfl] at H
        by_cases dI : (aH.length : Int) = 0
        ·rw [if_pos dI] at H
         have eE : ((aH.length : Int) == 0) = true := beq_iff_eq.mpr dI
         have eF : ((aH.length : Int) != 0) = false := bne_eq_false_iff_eq.mpr dI
         clear dI
         by_cases eZ : aH.length < 3518437208883
         ·rw [if_pos eZ] at H
          have LMc18 := Aside0.mk eZ
          clear eZ
          obtain ⟨y386, hy386⟩ : ∃ y_ : List (S25), y_ = (aH ++ [(⟨(rd_T25 aC aA).f0, (rd_T25 aC aA).f1, (rd_T25 aC aA).f2, (rd_T25 aC aA).f3, (rd_T25 aC aA).f4⟩ : S25)]) := ⟨_, rfl⟩
          replace H : (laws_FnFoldKeep.l0 k1 aC y386 (wrap64 (aA + 1))) = some r := by first | (rw [hy386]; with_reducible exact H) | (have H2_ := (Option.bind_some _ _).symm.trans H; rw [hy386]; with_reducible exact H2_) | (have H2_ := (Option.bind_some _ _).symm.trans H; with_reducible exact H2_) | with_reducible exact H | (rw [hy386]; exact H) | exact H
          have cR := Aside0.mk hy386
          clear hy386
          have H' := Aside0.mk H
          clear H
          have aV : 0 ≤ (aA : Int) := of_decide_eq_true oM
          have aW : aA < (aC.length : Int) := of_decide_eq_true oM
          obtain ⟨aK, cA, bQ, bR, bS, bT, bU⟩ := at_T25 (Kd.R_reads' aD.out).2.2 aA aV aW
          cases cA
          replace aV := eq_true aV
          replace aW := eq_true aW
          go_wp2_with (first | (go_at_call 12; (with_reducible refine (spec_OpOk.calls ((rd_T25 aC aA).f0) ((rd_T25 aC aA).f1) ((rd_T25 aC aA).f2) ((rd_T25 aC aA).f3) ((rd_T25 aC aA).f4) true _ cM.out).mono ?_); rintro e fY ⟨rfl, hb⟩; have n_ := o2_ (Kd.R_below (oR aD) hb) (o2_ (Kd.R_below (oR aE) hb) (o1_ (below_step (oB HB) hb))); clear aD aE HB; obtain ⟨aD, aE, HB⟩ := n_; (try clear hb); (try clear hb2); (try clear hk); (try clear hi); obtain ⟨cN, cT, cY⟩ := Kd.R_slice aE.out; subst cY; have bK : 0 ≤ (aA : Int) := of_decide_eq_true oM; have bM : aA < (aC.length : Int) := of_decide_eq_true oM; obtain ⟨bV, cV, cC, cD, cE, cF, cG⟩ := at_T25 (Kd.R_reads' aD.out).2.2 aA bK bM; obtain rfl : aK = bV := (by injection cV); replace bK := eq_true bK; replace bM := eq_true bM) | ((with_reducible refine gate_builtin (b := .append) (xs := #[.tmp 47, .tmp 52]) rfl ?_); (try (refine gate_guard (by rfl) ?_; dsimp only)); at_builtin; refine Kd.R_append k25 (w0 := w) w.heap.size rfl (.tmp 47) (.tmp 52) 23 25 (.agg #[(.int .i64 0), (.int .i64 0), (.int .i64 0), (.int .i64 0), (.int .i64 0)]) 40 rfl Try.underlying23 info25 rfl oD (by omega) (.slice cN aH.length cT) aH (⟨(rd_T25 aC aA).f0, (rd_T25 aC aA).f1, (rd_T25 aC aA).f2, (rd_T25 aC aA).f3, (rd_T25 aC aA).f4⟩ : S25) [.int .i64 ((rd_T25 aC aA).f0), .int .i64 ((rd_T25 aC aA).f1), .int .i64 ((rd_T25 aC aA).f2), .int .i64 ((rd_T25 aC aA).f3), .int .i64 ((rd_T25 aC aA).f4)] (fun k_ => some k_ ≠ (.slice (some aK) aC.length bO : Value).ownBlock) (fun _ => False) rfl rfl ?aP (fun _ hk => hk.elim) ?aF ?aO ?aB ?aS ?aL ?_; (case aP => exact k25_mkM _ _ _ (⟨(rd_T25 aC aA).f0, (rd_T25 aC aA).f1, (rd_T25 aC aA).f2, (rd_T25 aC aA).f3, (rd_T25 aC aA).f4⟩ : S25)); (case aB => exact (oB HB)); (case aF => exact (fun k_ hk => Kd.fresh' (Kd.R_lt (oR aD)) k_ hk)); (case aO => exact (oR aE)); (case aS => exact (below_size (oB HB))); (case aL => have := LMc18.out; omega); intro eS fZ ho hb hg hat; rw [← cR.out] at ho; have n_ := o2_ (Kd.R_after (ok := (fun _ => True)) (by (with_reducible repeat (first | apply Kd.R_alloc | apply Kd.R_drewN | apply Kd.R_drew)); exact Kd.R_mono aD.out (fun _ hk => ⟨trivial, hk⟩)) hg hat) (o2_ (hb) (o1_ (ho))); clear aD HB aE; obtain ⟨aD, HB, cP⟩ := n_; clear ho hb hg hat))
          repeat (go_quiet (first | (go_at_call 12; (with_reducible refine (spec_OpOk.calls ((rd_T25 aC aA).f0) ((rd_T25 aC aA).f1) ((rd_T25 aC aA).f2) ((rd_T25 aC aA).f3) ((rd_T25 aC aA).f4) true _ cM.out).mono ?_); rintro e fY ⟨rfl, hb⟩; have n_ := o2_ (Kd.R_below (oR aD) hb) (o2_ (Kd.R_below (oR aE) hb) (o1_ (below_step (oB HB) hb))); clear aD aE HB; obtain ⟨aD, aE, HB⟩ := n_; (try clear hb); (try clear hb2); (try clear hk); (try clear hi); obtain ⟨cN, cT, cY⟩ := Kd.R_slice aE.out; subst cY; have bK : 0 ≤ (aA : Int) := of_decide_eq_true oM; have bM : aA < (aC.length : Int) := of_decide_eq_true oM; obtain ⟨bV, cV, cC, cD, cE, cF, cG⟩ := at_T25 (Kd.R_reads' aD.out).2.2 aA bK bM; obtain rfl : aK = bV := (by injection cV); replace bK := eq_true bK; replace bM := eq_true bM) | ((with_reducible refine gate_builtin (b := .append) (xs := #[.tmp 47, .tmp 52]) rfl ?_); (try (refine gate_guard (by rfl) ?_; dsimp only)); at_builtin; refine Kd.R_append k25 (w0 := w) w.heap.size rfl (.tmp 47) (.tmp 52) 23 25 (.agg #[(.int .i64 0), (.int .i64 0), (.int .i64 0), (.int .i64 0), (.int .i64 0)]) 40 rfl Try.underlying23 info25 rfl oD (by omega) (.slice cN aH.length cT) aH (⟨(rd_T25 aC aA).f0, (rd_T25 aC aA).f1, (rd_T25 aC aA).f2, (rd_T25 aC aA).f3, (rd_T25 aC aA).f4⟩ : S25) [.int .i64 ((rd_T25 aC aA).f0), .int .i64 ((rd_T25 aC aA).f1), .int .i64 ((rd_T25 aC aA).f2), .int .i64 ((rd_T25 aC aA).f3), .int .i64 ((rd_T25 aC aA).f4)] (fun k_ => some k_ ≠ (.slice (some aK) aC.length bO : Value).ownBlock) (fun _ => False) rfl rfl ?aP (fun _ hk => hk.elim) ?aF ?aO ?aB ?aS ?aL ?_; (case aP => exact k25_mkM _ _ _ (⟨(rd_T25 aC aA).f0, (rd_T25 aC aA).f1, (rd_T25 aC aA).f2, (rd_T25 aC aA).f3, (rd_T25 aC aA).f4⟩ : S25)); (case aB => exact (oB HB)); (case aF => exact (fun k_ hk => Kd.fresh' (Kd.R_lt (oR aD)) k_ hk)); (case aO => exact (oR aE)); (case aS => exact (below_size (oB HB))); (case aL => have := LMc18.out; omega); intro eS fZ ho hb hg hat; rw [← cR.out] at ho; have n_ := o2_ (Kd.R_after (ok := (fun _ => True)) (by (with_reducible repeat (first | apply Kd.R_alloc | apply Kd.R_drewN | apply Kd.R_drew)); exact Kd.R_mono aD.out (fun _ hk => ⟨trivial, hk⟩)) hg hat) (o2_ (hb) (o1_ (ho))); clear aD HB aE; obtain ⟨aD, HB, cP⟩ := n_; clear ho hb hg hat)); try go_wp2_with (first | (go_at_call 12; (with_reducible refine (spec_OpOk.calls ((rd_T25 aC aA).f0) ((rd_T25 aC aA).f1) ((rd_T25 aC aA).f2) ((rd_T25 aC aA).f3) ((rd_T25 aC aA).f4) true _ cM.out).mono ?_); rintro e fY ⟨rfl, hb⟩; have n_ := o2_ (Kd.R_below (oR aD) hb) (o2_ (Kd.R_below (oR aE) hb) (o1_ (below_step (oB HB) hb))); clear aD aE HB; obtain ⟨aD, aE, HB⟩ := n_; (try clear hb); (try clear hb2); (try clear hk); (try clear hi); obtain ⟨cN, cT, cY⟩ := Kd.R_slice aE.out; subst cY; have bK : 0 ≤ (aA : Int) := of_decide_eq_true oM; have bM : aA < (aC.length : Int) := of_decide_eq_true oM; obtain ⟨bV, cV, cC, cD, cE, cF, cG⟩ := at_T25 (Kd.R_reads' aD.out).2.2 aA bK bM; obtain rfl : aK = bV := (by injection cV); replace bK := eq_true bK; replace bM := eq_true bM) | ((with_reducible refine gate_builtin (b := .append) (xs := #[.tmp 47, .tmp 52]) rfl ?_); (try (refine gate_guard (by rfl) ?_; dsimp only)); at_builtin; refine Kd.R_append k25 (w0 := w) w.heap.size rfl (.tmp 47) (.tmp 52) 23 25 (.agg #[(.int .i64 0), (.int .i64 0), (.int .i64 0), (.int .i64 0), (.int .i64 0)]) 40 rfl Try.underlying23 info25 rfl oD (by omega) (.slice cN aH.length cT) aH (⟨(rd_T25 aC aA).f0, (rd_T25 aC aA).f1, (rd_T25 aC aA).f2, (rd_T25 aC aA).f3, (rd_T25 aC aA).f4⟩ : S25) [.int .i64 ((rd_T25 aC aA).f0), .int .i64 ((rd_T25 aC aA).f1), .int .i64 ((rd_T25 aC aA).f2), .int .i64 ((rd_T25 aC aA).f3), .int .i64 ((rd_T25 aC aA).f4)] (fun k_ => some k_ ≠ (.slice (some aK) aC.length bO : Value).ownBlock) (fun _ => False) rfl rfl ?aP (fun _ hk => hk.elim) ?aF ?aO ?aB ?aS ?aL ?_; (case aP => exact k25_mkM _ _ _ (⟨(rd_T25 aC aA).f0, (rd_T25 aC aA).f1, (rd_T25 aC aA).f2, (rd_T25 aC aA).f3, (rd_T25 aC aA).f4⟩ : S25)); (case aB => exact (oB HB)); (case aF => exact (fun k_ hk => Kd.fresh' (Kd.R_lt (oR aD)) k_ hk)); (case aO => exact (oR aE)); (case aS => exact (below_size (oB HB))); (case aL => have := LMc18.out; omega); intro eS fZ ho hb hg hat; rw [← cR.out] at ho; have n_ := o2_ (Kd.R_after (ok := (fun _ => True)) (by (with_reducible repeat (first | apply Kd.R_alloc | apply Kd.R_drewN | apply Kd.R_drew)); exact Kd.R_mono aD.out (fun _ hk => ⟨trivial, hk⟩)) hg hat) (o2_ (hb) (o1_ (ho))); clear aD HB aE; obtain ⟨aD, HB, cP⟩ := n_; clear ho hb hg hat)))
          go_roundg k1
          case measure => have := HK1.out; omega
          case rel => exact ⟨(y386), (wrap64 (aA + 1)), oU, H', ⟨(by have := HK1.out; omega)⟩, ⟨(by (with_reducible repeat (first | apply Kd.R_alloc | apply Kd.R_drewN | apply Kd.R_drew)); exact Kd.R_mono aD.out (fun _ hk => hk.2))⟩, ⟨(oR cP)⟩, ⟨(oB HB)⟩⟩
         ·rw [if_neg eZ] at H
          exact absurd H (by simp)
        ·rw [if_neg dI] at H
         have eE : ((aH.length : Int) == 0) = false := beq_eq_false_iff_ne.mpr dI
         have eF : ((aH.length : Int) != 0) = true := bne_iff_ne.mpr dI
         have fT : ¬ (aH = []) := fun h_ => dI (by rw [h_]; rfl)
         obtain ⟨ji22, hji22⟩ : ∃ j_ : Int, (wrap64 ((aH.length : Int) - 1)) = j_ := ⟨_, rfl⟩
         replace H : (if 0 ≤ (ji22) then (if (ji22) < (aH.length : Int) then (if ((rd_T25 aH (ji22)).f0) = ((rd_T25 aC aA).f0) then (laws_FnFoldKeep.l0 k1 aC aH (wrap64 (aA + 1))) else (if aH.length < 3518437208883 then (laws_FnFoldKeep.l0 k1 aC (aH ++ [(⟨(rd_T25 aC aA).f0, (rd_T25 aC aA).f1, (rd_T25 aC aA).f2, (rd_T25 aC aA).f3, (rd_T25 aC aA).f4⟩ : S25)]) (wrap64 (aA + 1))) else (none))) else (none)) else (none)) = some r := by first | (rw [hji22] at H; exact H) | (simp only [hji22] at H ⊢; exact H)
         (try rw [hji22] at cM)
         have fO : (IntKind.i64.wrap ((aH.length : Int) - 1)) = ji22 := (i64_w _).trans hji22
         by_cases fA : 0 ≤ (ji22)
         ·rw [if_pos fA] at H
          have fU : decide (0 ≤ (ji22)) = true := decide_eq_true fA
          clear fA
          by_cases fB : (ji22) < (aH.length : Int)
          ·rw [if_pos fB] at H
           have fV : decide ((ji22) < (aH.length : Int)) = true := decide_eq_true fB
           clear fB
           by_cases dJ : ((rd_T25 aH (ji22)).f0) = ((rd_T25 aC aA).f0)
           ·rw [if_pos dJ] at H
            have eG : (((rd_T25 aH (ji22)).f0) == ((rd_T25 aC aA).f0)) = true := beq_iff_eq.mpr dJ
            have eH : (((rd_T25 aH (ji22)).f0) != ((rd_T25 aC aA).f0)) = false := bne_eq_false_iff_eq.mpr dJ
            clear dJ
            have H' := Aside0.mk H
            clear H
            have aV : 0 ≤ (aA : Int) := of_decide_eq_true oM
            have aW : aA < (aC.length : Int) := of_decide_eq_true oM
            obtain ⟨aK, cA, bQ, bR, bS, bT, bU⟩ := at_T25 (Kd.R_reads' aD.out).2.2 aA aV aW
            cases cA
            replace aV := eq_true aV
            replace aW := eq_true aW
            go_wp2_with (first | (go_at_call 12; (with_reducible refine (spec_OpOk.calls ((rd_T25 aC aA).f0) ((rd_T25 aC aA).f1) ((rd_T25 aC aA).f2) ((rd_T25 aC aA).f3) ((rd_T25 aC aA).f4) true _ cM.out).mono ?_); rintro e gA ⟨rfl, hb⟩; have n_ := o2_ (Kd.R_below (oR aD) hb) (o2_ (Kd.R_below (oR aE) hb) (o1_ (below_step (oB HB) hb))); clear aD aE HB; obtain ⟨aD, aE, HB⟩ := n_; (try clear hb); (try clear hb2); (try clear hk); (try clear hi); obtain ⟨dY, eM, cZ⟩ := Kd.R_slice aE.out; subst cZ; have aN : 0 ≤ ((ji22) : Int) := of_decide_eq_true oM; have aR : (ji22) < (aH.length : Int) := of_decide_eq_true oM; obtain ⟨bH, bI, aX, aY, aZ, bA, bB⟩ := at_T25 (Kd.R_reads' aE.out).2.2 (ji22) aN aR; cases bI; replace aN := eq_true aN; replace aR := eq_true aR; have aQ : 0 ≤ (aA : Int) := of_decide_eq_true oM; have aT : aA < (aC.length : Int) := of_decide_eq_true oM; obtain ⟨aU, bJ, bC, bD, bE, bF, bG⟩ := at_T25 (Kd.R_reads' aD.out).2.2 aA aQ aT; obtain rfl : aK = aU := (by injection bJ); replace aQ := eq_true aQ; replace aT := eq_true aT))
            repeat (go_quiet (first | (go_at_call 12; (with_reducible refine (spec_OpOk.calls ((rd_T25 aC aA).f0) ((rd_T25 aC aA).f1) ((rd_T25 aC aA).f2) ((rd_T25 aC aA).f3) ((rd_T25 aC aA).f4) true _ cM.out).mono ?_); rintro e gA ⟨rfl, hb⟩; have n_ := o2_ (Kd.R_below (oR aD) hb) (o2_ (Kd.R_below (oR aE) hb) (o1_ (below_step (oB HB) hb))); clear aD aE HB; obtain ⟨aD, aE, HB⟩ := n_; (try clear hb); (try clear hb2); (try clear hk); (try clear hi); obtain ⟨dY, eM, cZ⟩ := Kd.R_slice aE.out; subst cZ; have aN : 0 ≤ ((ji22) : Int) := of_decide_eq_true oM; have aR : (ji22) < (aH.length : Int) := of_decide_eq_true oM; obtain ⟨bH, bI, aX, aY, aZ, bA, bB⟩ := at_T25 (Kd.R_reads' aE.out).2.2 (ji22) aN aR; cases bI; replace aN := eq_true aN; replace aR := eq_true aR; have aQ : 0 ≤ (aA : Int) := of_decide_eq_true oM; have aT : aA < (aC.length : Int) := of_decide_eq_true oM; obtain ⟨aU, bJ, bC, bD, bE, bF, bG⟩ := at_T25 (Kd.R_reads' aD.out).2.2 aA aQ aT; obtain rfl : aK = aU := (by injection bJ); replace aQ := eq_true aQ; replace aT := eq_true aT)); try go_wp2_with (first | (go_at_call 12; (with_reducible refine (spec_OpOk.calls ((rd_T25 aC aA).f0) ((rd_T25 aC aA).f1) ((rd_T25 aC aA).f2) ((rd_T25 aC aA).f3) ((rd_T25 aC aA).f4) true _ cM.out).mono ?_); rintro e gA ⟨rfl, hb⟩; have n_ := o2_ (Kd.R_below (oR aD) hb) (o2_ (Kd.R_below (oR aE) hb) (o1_ (below_step (oB HB) hb))); clear aD aE HB; obtain ⟨aD, aE, HB⟩ := n_; (try clear hb); (try clear hb2); (try clear hk); (try clear hi); obtain ⟨dY, eM, cZ⟩ := Kd.R_slice aE.out; subst cZ; have aN : 0 ≤ ((ji22) : Int) := of_decide_eq_true oM; have aR : (ji22) < (aH.length : Int) := of_decide_eq_true oM; obtain ⟨bH, bI, aX, aY, aZ, bA, bB⟩ := at_T25 (Kd.R_reads' aE.out).2.2 (ji22) aN aR; cases bI; replace aN := eq_true aN; replace aR := eq_true aR; have aQ : 0 ≤ (aA : Int) := of_decide_eq_true oM; have aT : aA < (aC.length : Int) := of_decide_eq_true oM; obtain ⟨aU, bJ, bC, bD, bE, bF, bG⟩ := at_T25 (Kd.R_reads' aD.out).2.2 aA aQ aT; obtain rfl : aK = aU := (by injection bJ); replace aQ := eq_true aQ; replace aT := eq_true aT)))
            go_roundg k1
            case measure => have := HK1.out; omega
            case rel => exact ⟨(aH), (wrap64 (aA + 1)), oU, H', ⟨(by have := HK1.out; omega)⟩, ⟨(oR aD)⟩, ⟨(oR aE)⟩, ⟨(oB HB)⟩⟩
           ·rw [if_neg dJ] at H
            have eG : (((rd_T25 aH (ji22)).f0) == ((rd_T25 aC aA).f0)) = false := beq_eq_false_iff_ne.mpr dJ
            have eH : (((rd_T25 aH (ji22)).f0) != ((rd_T25 aC aA).f0)) = true := bne_iff_ne.mpr dJ
            by_cases fC : aH.length < 3518437208883
            ·rw [if_pos fC] at H
             have LMc28 := Aside0.mk fC
             clear fC
             obtain ⟨y392, hy392⟩ : ∃ y_ : List (S25), y_ = (aH ++ [(⟨(rd_T25 aC aA).f0, (rd_T25 aC aA).f1, (rd_T25 aC aA).f2, (rd_T25 aC aA).f3, (rd_T25 aC aA).f4⟩ : S25)]) := ⟨_, rfl⟩
             replace H : (laws_FnFoldKeep.l0 k1 aC y392 (wrap64 (aA + 1))) = some r := by first | (rw [hy392]; with_reducible exact H) | (have H2_ := (Option.bind_some _ _).symm.trans H; rw [hy392]; with_reducible exact H2_) | (have H2_ := (Option.bind_some _ _).symm.trans H; with_reducible exact H2_) | with_reducible exact H | (rw [hy392]; exact H) | exact H
             have cS := Aside0.mk hy392
             clear hy392
             have H' := Aside0.mk H
             clear H
             have aV : 0 ≤ (aA : Int) := of_decide_eq_true oM
             have aW : aA < (aC.length : Int) := of_decide_eq_true oM
             obtain ⟨aK, cA, bQ, bR, bS, bT, bU⟩ := at_T25 (Kd.R_reads' aD.out).2.2 aA aV aW
             cases cA
             replace aV := eq_true aV
             replace aW := eq_true aW
             go_wp2_with (first | (go_at_call 12; (with_reducible refine (spec_OpOk.calls ((rd_T25 aC aA).f0) ((rd_T25 aC aA).f1) ((rd_T25 aC aA).f2) ((rd_T25 aC aA).f3) ((rd_T25 aC aA).f4) true _ cM.out).mono ?_); rintro e gB ⟨rfl, hb⟩; have n_ := o2_ (Kd.R_below (oR aD) hb) (o2_ (Kd.R_below (oR aE) hb) (o1_ (below_step (oB HB) hb))); clear aD aE HB; obtain ⟨aD, aE, HB⟩ := n_; (try clear hb); (try clear hb2); (try clear hk); (try clear hi); obtain ⟨dZ, cU, dA⟩ := Kd.R_slice aE.out; subst dA; have aN : 0 ≤ ((ji22) : Int) := of_decide_eq_true oM; have aR : (ji22) < (aH.length : Int) := of_decide_eq_true oM; obtain ⟨bH, bI, aX, aY, aZ, bA, bB⟩ := at_T25 (Kd.R_reads' aE.out).2.2 (ji22) aN aR; cases bI; replace aN := eq_true aN; replace aR := eq_true aR; have aQ : 0 ≤ (aA : Int) := of_decide_eq_true oM; have aT : aA < (aC.length : Int) := of_decide_eq_true oM; obtain ⟨aU, bJ, bC, bD, bE, bF, bG⟩ := at_T25 (Kd.R_reads' aD.out).2.2 aA aQ aT; obtain rfl : aK = aU := (by injection bJ); replace aQ := eq_true aQ; replace aT := eq_true aT; have bL : 0 ≤ (aA : Int) := of_decide_eq_true oM; have bN : aA < (aC.length : Int) := of_decide_eq_true oM; obtain ⟨bW, cW, cH, cI, cJ, cK, cL⟩ := at_T25 (Kd.R_reads' aD.out).2.2 aA bL bN; obtain rfl : aK = bW := (by injection cW); replace bL := eq_true bL; replace bN := eq_true bN) | ((with_reducible refine gate_builtin (b := .append) (xs := #[.tmp 47, .tmp 52]) rfl ?_); (try (refine gate_guard (by rfl) ?_; dsimp only)); at_builtin; refine Kd.R_append k25 (w0 := w) w.heap.size rfl (.tmp 47) (.tmp 52) 23 25 (.agg #[(.int .i64 0), (.int .i64 0), (.int .i64 0), (.int .i64 0), (.int .i64 0)]) 40 rfl Try.underlying23 info25 rfl oD (by omega) (.slice (some bH) aH.length cU) aH (⟨(rd_T25 aC aA).f0, (rd_T25 aC aA).f1, (rd_T25 aC aA).f2, (rd_T25 aC aA).f3, (rd_T25 aC aA).f4⟩ : S25) [.int .i64 ((rd_T25 aC aA).f0), .int .i64 ((rd_T25 aC aA).f1), .int .i64 ((rd_T25 aC aA).f2), .int .i64 ((rd_T25 aC aA).f3), .int .i64 ((rd_T25 aC aA).f4)] (fun k_ => some k_ ≠ (.slice (some aK) aC.length bO : Value).ownBlock) (fun _ => False) rfl rfl ?aP (fun _ hk => hk.elim) ?aF ?aO ?aB ?aS ?aL ?_; (case aP => exact k25_mkM _ _ _ (⟨(rd_T25 aC aA).f0, (rd_T25 aC aA).f1, (rd_T25 aC aA).f2, (rd_T25 aC aA).f3, (rd_T25 aC aA).f4⟩ : S25)); (case aB => exact (oB HB)); (case aF => exact (fun k_ hk => Kd.fresh' (Kd.R_lt (oR aD)) k_ hk)); (case aO => exact (oR aE)); (case aS => exact (below_size (oB HB))); (case aL => have := LMc28.out; omega); intro eT gC ho hb hg hat; rw [← cS.out] at ho; have n_ := o2_ (Kd.R_after (ok := (fun _ => True)) (by (with_reducible repeat (first | apply Kd.R_alloc | apply Kd.R_drewN | apply Kd.R_drew)); exact Kd.R_mono aD.out (fun _ hk => ⟨trivial, hk⟩)) hg hat) (o2_ (hb) (o1_ (ho))); clear aD HB aE; obtain ⟨aD, HB, cQ⟩ := n_; clear ho hb hg hat))
             repeat (go_quiet (first | (go_at_call 12; (with_reducible refine (spec_OpOk.calls ((rd_T25 aC aA).f0) ((rd_T25 aC aA).f1) ((rd_T25 aC aA).f2) ((rd_T25 aC aA).f3) ((rd_T25 aC aA).f4) true _ cM.out).mono ?_); rintro e gB ⟨rfl, hb⟩; have n_ := o2_ (Kd.R_below (oR aD) hb) (o2_ (Kd.R_below (oR aE) hb) (o1_ (below_step (oB HB) hb))); clear aD aE HB; obtain ⟨aD, aE, HB⟩ := n_; (try clear hb); (try clear hb2); (try clear hk); (try clear hi); obtain ⟨dZ, cU, dA⟩ := Kd.R_slice aE.out; subst dA; have aN : 0 ≤ ((ji22) : Int) := of_decide_eq_true oM; have aR : (ji22) < (aH.length : Int) := of_decide_eq_true oM; obtain ⟨bH, bI, aX, aY, aZ, bA, bB⟩ := at_T25 (Kd.R_reads' aE.out).2.2 (ji22) aN aR; cases bI; replace aN := eq_true aN; replace aR := eq_true aR; have aQ : 0 ≤ (aA : Int) := of_decide_eq_true oM; have aT : aA < (aC.length : Int) := of_decide_eq_true oM; obtain ⟨aU, bJ, bC, bD, bE, bF, bG⟩ := at_T25 (Kd.R_reads' aD.out).2.2 aA aQ aT; obtain rfl : aK = aU := (by injection bJ); replace aQ := eq_true aQ; replace aT := eq_true aT; have bL : 0 ≤ (aA : Int) := of_decide_eq_true oM; have bN : aA < (aC.length : Int) := of_decide_eq_true oM; obtain ⟨bW, cW, cH, cI, cJ, cK, cL⟩ := at_T25 (Kd.R_reads' aD.out).2.2 aA bL bN; obtain rfl : aK = bW := (by injection cW); replace bL := eq_true bL; replace bN := eq_true bN) | ((with_reducible refine gate_builtin (b := .append) (xs := #[.tmp 47, .tmp 52]) rfl ?_); (try (refine gate_guard (by rfl) ?_; dsimp only)); at_builtin; refine Kd.R_append k25 (w0 := w) w.heap.size rfl (.tmp 47) (.tmp 52) 23 25 (.agg #[(.int .i64 0), (.int .i64 0), (.int .i64 0), (.int .i64 0), (.int .i64 0)]) 40 rfl Try.underlying23 info25 rfl oD (by omega) (.slice (some bH) aH.length cU) aH (⟨(rd_T25 aC aA).f0, (rd_T25 aC aA).f1, (rd_T25 aC aA).f2, (rd_T25 aC aA).f3, (rd_T25 aC aA).f4⟩ : S25) [.int .i64 ((rd_T25 aC aA).f0), .int .i64 ((rd_T25 aC aA).f1), .int .i64 ((rd_T25 aC aA).f2), .int .i64 ((rd_T25 aC aA).f3), .int .i64 ((rd_T25 aC aA).f4)] (fun k_ => some k_ ≠ (.slice (some aK) aC.length bO : Value).ownBlock) (fun _ => False) rfl rfl ?aP (fun _ hk => hk.elim) ?aF ?aO ?aB ?aS ?aL ?_; (case aP => exact k25_mkM _ _ _ (⟨(rd_T25 aC aA).f0, (rd_T25 aC aA).f1, (rd_T25 aC aA).f2, (rd_T25 aC aA).f3, (rd_T25 aC aA).f4⟩ : S25)); (case aB => exact (oB HB)); (case aF => exact (fun k_ hk => Kd.fresh' (Kd.R_lt (oR aD)) k_ hk)); (case aO => exact (oR aE)); (case aS => exact (below_size (oB HB))); (case aL => have := LMc28.out; omega); intro eT gC ho hb hg hat; rw [← cS.out] at ho; have n_ := o2_ (Kd.R_after (ok := (fun _ => True)) (by (with_reducible repeat (first | apply Kd.R_alloc | apply Kd.R_drewN | apply Kd.R_drew)); exact Kd.R_mono aD.out (fun _ hk => ⟨trivial, hk⟩)) hg hat) (o2_ (hb) (o1_ (ho))); clear aD HB aE; obtain ⟨aD, HB, cQ⟩ := n_; clear ho hb hg hat)); try go_wp2_with (first | (go_at_call 12; (with_reducible refine (spec_OpOk.calls ((rd_T25 aC aA).f0) ((rd_T25 aC aA).f1) ((rd_T25 aC aA).f2) ((rd_T25 aC aA).f3) ((rd_T25 aC aA).f4) true _ cM.out).mono ?_); rintro e gB ⟨rfl, hb⟩; have n_ := o2_ (Kd.R_below (oR aD) hb) (o2_ (Kd.R_below (oR aE) hb) (o1_ (below_step (oB HB) hb))); clear aD aE HB; obtain ⟨aD, aE, HB⟩ := n_; (try clear hb); (try clear hb2); (try clear hk); (try clear hi); obtain ⟨dZ, cU, dA⟩ := Kd.R_slice aE.out; subst dA; have aN : 0 ≤ ((ji22) : Int) := of_decide_eq_true oM; have aR : (ji22) < (aH.length : Int) := of_decide_eq_true oM; obtain ⟨bH, bI, aX, aY, aZ, bA, bB⟩ := at_T25 (Kd.R_reads' aE.out).2.2 (ji22) aN aR; cases bI; replace aN := eq_true aN; replace aR := eq_true aR; have aQ : 0 ≤ (aA : Int) := of_decide_eq_true oM; have aT : aA < (aC.length : Int) := of_decide_eq_true oM; obtain ⟨aU, bJ, bC, bD, bE, bF, bG⟩ := at_T25 (Kd.R_reads' aD.out).2.2 aA aQ aT; obtain rfl : aK = aU := (by injection bJ); replace aQ := eq_true aQ; replace aT := eq_true aT; have bL : 0 ≤ (aA : Int) := of_decide_eq_true oM; have bN : aA < (aC.length : Int) := of_decide_eq_true oM; obtain ⟨bW, cW, cH, cI, cJ, cK, cL⟩ := at_T25 (Kd.R_reads' aD.out).2.2 aA bL bN; obtain rfl : aK = bW := (by injection cW); replace bL := eq_true bL; replace bN := eq_true bN) | ((with_reducible refine gate_builtin (b := .append) (xs := #[.tmp 47, .tmp 52]) rfl ?_); (try (refine gate_guard (by rfl) ?_; dsimp only)); at_builtin; refine Kd.R_append k25 (w0 := w) w.heap.size rfl (.tmp 47) (.tmp 52) 23 25 (.agg #[(.int .i64 0), (.int .i64 0), (.int .i64 0), (.int .i64 0), (.int .i64 0)]) 40 rfl Try.underlying23 info25 rfl oD (by omega) (.slice (some bH) aH.length cU) aH (⟨(rd_T25 aC aA).f0, (rd_T25 aC aA).f1, (rd_T25 aC aA).f2, (rd_T25 aC aA).f3, (rd_T25 aC aA).f4⟩ : S25) [.int .i64 ((rd_T25 aC aA).f0), .int .i64 ((rd_T25 aC aA).f1), .int .i64 ((rd_T25 aC aA).f2), .int .i64 ((rd_T25 aC aA).f3), .int .i64 ((rd_T25 aC aA).f4)] (fun k_ => some k_ ≠ (.slice (some aK) aC.length bO : Value).ownBlock) (fun _ => False) rfl rfl ?aP (fun _ hk => hk.elim) ?aF ?aO ?aB ?aS ?aL ?_; (case aP => exact k25_mkM _ _ _ (⟨(rd_T25 aC aA).f0, (rd_T25 aC aA).f1, (rd_T25 aC aA).f2, (rd_T25 aC aA).f3, (rd_T25 aC aA).f4⟩ : S25)); (case aB => exact (oB HB)); (case aF => exact (fun k_ hk => Kd.fresh' (Kd.R_lt (oR aD)) k_ hk)); (case aO => exact (oR aE)); (case aS => exact (below_size (oB HB))); (case aL => have := LMc28.out; omega); intro eT gC ho hb hg hat; rw [← cS.out] at ho; have n_ := o2_ (Kd.R_after (ok := (fun _ => True)) (by (with_reducible repeat (first | apply Kd.R_alloc | apply Kd.R_drewN | apply Kd.R_drew)); exact Kd.R_mono aD.out (fun _ hk => ⟨trivial, hk⟩)) hg hat) (o2_ (hb) (o1_ (ho))); clear aD HB aE; obtain ⟨aD, HB, cQ⟩ := n_; clear ho hb hg hat)))
             go_roundg k1
             case measure => have := HK1.out; omega
             case rel => exact ⟨(y392), (wrap64 (aA + 1)), oU, H', ⟨(by have := HK1.out; omega)⟩, ⟨(by (with_reducible repeat (first | apply Kd.R_alloc | apply Kd.R_drewN | apply Kd.R_drew)); exact Kd.R_mono aD.out (fun _ hk => hk.2))⟩, ⟨(oR cQ)⟩, ⟨(oB HB)⟩⟩
            ·rw [if_neg fC] at H
             exact absurd H (by simp)
          ·rw [if_neg fB] at H
           exact absurd H (by simp)
         ·rw [if_neg fA] at H
          exact absurd H (by simp)
       ·replace eY := Bool.eq_false_iff.mpr eY
        subst eY
        rw [if_neg (show ¬ (false = true) by decide)] at H
        replace H := Option.bind_eq_some_iff.mp H
        obtain ⟨dE, dR, H⟩ := H
        (try dsimp only at H)
        have fG := Aside0.mk dR
        clear dR
        obtain rfl := Option.some.inj H
        have aV : 0 ≤ (aA : Int) := of_decide_eq_true oM
        have aW : aA < (aC.length : Int) := of_decide_eq_true oM
        obtain ⟨aK, cA, bQ, bR, bS, bT, bU⟩ := at_T25 (Kd.R_reads' aD.out).2.2 aA aV aW
        cases cA
        replace aV := eq_true aV
        replace aW := eq_true aW
        go_wp2_with (first | (go_at_call 12; (with_reducible refine (spec_OpOk.calls ((rd_T25 aC aA).f0) ((rd_T25 aC aA).f1) ((rd_T25 aC aA).f2) ((rd_T25 aC aA).f3) ((rd_T25 aC aA).f4) false _ cM.out).mono ?_); rintro e gD ⟨rfl, hb⟩; have n_ := o2_ (Kd.R_below (oR aD) hb) (o2_ (Kd.R_below (oR aE) hb) (o1_ (below_step (oB HB) hb))); clear aD aE HB; obtain ⟨aD, aE, HB⟩ := n_; (try clear hb); (try clear hb2); (try clear hk); (try clear hi)) | (go_at_call 11; (with_reducible refine (laws_eaOk.calls  dE _ fG.out).mono ?_); rintro e gE ⟨rfl, hb⟩; have n_ := o2_ (Kd.R_below (oR aD) hb) (o2_ (Kd.R_below (oR aE) hb) (o1_ (below_step (oB HB) hb))); clear aD aE HB; obtain ⟨aD, aE, HB⟩ := n_; (try clear hb); (try clear hb2); (try clear hk); (try clear hi)))
        repeat (go_quiet (first | (go_at_call 12; (with_reducible refine (spec_OpOk.calls ((rd_T25 aC aA).f0) ((rd_T25 aC aA).f1) ((rd_T25 aC aA).f2) ((rd_T25 aC aA).f3) ((rd_T25 aC aA).f4) false _ cM.out).mono ?_); rintro e gD ⟨rfl, hb⟩; have n_ := o2_ (Kd.R_below (oR aD) hb) (o2_ (Kd.R_below (oR aE) hb) (o1_ (below_step (oB HB) hb))); clear aD aE HB; obtain ⟨aD, aE, HB⟩ := n_; (try clear hb); (try clear hb2); (try clear hk); (try clear hi)) | (go_at_call 11; (with_reducible refine (laws_eaOk.calls  dE _ fG.out).mono ?_); rintro e gE ⟨rfl, hb⟩; have n_ := o2_ (Kd.R_below (oR aD) hb) (o2_ (Kd.R_below (oR aE) hb) (o1_ (below_step (oB HB) hb))); clear aD aE HB; obtain ⟨aD, aE, HB⟩ := n_; (try clear hb); (try clear hb2); (try clear hk); (try clear hi))); try go_wp2_with (first | (go_at_call 12; (with_reducible refine (spec_OpOk.calls ((rd_T25 aC aA).f0) ((rd_T25 aC aA).f1) ((rd_T25 aC aA).f2) ((rd_T25 aC aA).f3) ((rd_T25 aC aA).f4) false _ cM.out).mono ?_); rintro e gD ⟨rfl, hb⟩; have n_ := o2_ (Kd.R_below (oR aD) hb) (o2_ (Kd.R_below (oR aE) hb) (o1_ (below_step (oB HB) hb))); clear aD aE HB; obtain ⟨aD, aE, HB⟩ := n_; (try clear hb); (try clear hb2); (try clear hk); (try clear hi)) | (go_at_call 11; (with_reducible refine (laws_eaOk.calls  dE _ fG.out).mono ?_); rintro e gE ⟨rfl, hb⟩; have n_ := o2_ (Kd.R_below (oR aD) hb) (o2_ (Kd.R_below (oR aE) hb) (o1_ (below_step (oB HB) hb))); clear aD aE HB; obtain ⟨aD, aE, HB⟩ := n_; (try clear hb); (try clear hb2); (try clear hk); (try clear hi))))
        go_ret
        exact ⟨by first | rfl | (simp [errW_none, errW_some] <;> rfl) | (simp [*, errW_none, errW_some] <;> rfl), oB HB⟩
      ·rw [if_neg eX] at H
       exact absurd H (by simp)
     ·rw [if_neg dP] at H
      have eD : decide (aA < (aC.length : Int)) = false := decide_eq_false dP
      clear dP
      replace H := Option.bind_eq_some_iff.mp H
      obtain ⟨bX, dS, H⟩ := H
      (try dsimp only at H)
      have fH := Aside0.mk dS
      clear dS
      replace H := Option.bind_eq_some_iff.mp H
      obtain ⟨dL, dT, H⟩ := H
      (try dsimp only at H)
      have fI := Aside0.mk dT
      clear dT
      by_cases fD : dL = true
      ·subst fD
       rw [if_pos rfl] at H
       replace H := Option.bind_eq_some_iff.mp H
       obtain ⟨bY, dU, H⟩ := H
       (try dsimp only at H)
       have fJ := Aside0.mk dU
       clear dU
       replace H := Option.bind_eq_some_iff.mp H
       obtain ⟨bZ, dV, H⟩ := H
       (try dsimp only at H)
       have fK := Aside0.mk dV
       clear dV
       replace H := Option.bind_eq_some_iff.mp H
       obtain ⟨dM, dW, H⟩ := H
       (try dsimp only at H)
       have fL := Aside0.mk dW
       clear dW
       by_cases fE : dM = true
       ·subst fE
        rw [if_pos rfl] at H
        replace H := Option.bind_eq_some_iff.mp H
        obtain ⟨dF, dX, H⟩ := H
        (try dsimp only at H)
        have fM := Aside0.mk dX
        clear dX
        obtain rfl := Option.some.inj H
        obtain ⟨gJ, gK, fN⟩ := Kd.R_slice aE.out
        subst fN
        go_wp2_with (first | (go_at_call 8; (with_reducible refine (impl_OpsFold.calls k1 _ _ aH bX _ ?side1 ?side2 fH.out).mono ?_); (case side1 => repeat (first | exact (Kd.R_reads' aE.out).2.2 | (with_reducible refine Kd.C_alloc ?_ _) | (with_reducible refine Kd.C_drewN ?_ _) | (with_reducible refine Kd.C_drew ?_))); (case side2 => exact (Kd.R_reads' aE.out).2.1); rintro e gF ⟨eU, rfl, ho0, hb⟩; have n_ := o2_ (Kd.R_elder' (oR aD) (Kd.R_base ho0) hb) (o2_ (Kd.R_elder' (oR aE) (Kd.R_base ho0) hb) (o2_ (Kd.R_lower (Kd.R_new' (Kd.R_new' ho0 (Kd.R_lt (oR aD))) (Kd.R_lt (oR aE))) (below_size (oB HB))) (o1_ (below_step (oB HB) hb)))); clear aD aE HB; obtain ⟨aD, aE, aG, HB⟩ := n_; (try clear hb); (try clear hb2); (try clear hk); (try clear hi); (try clear ho0); obtain ⟨eA, eN, dB⟩ := Kd.R_slice aG.out; subst dB) | (go_at_call 9; (with_reducible refine (laws_eaOps.calls k1 _ _ bX _ _ aH true _ ?side1 ?side2 ?side3 ?side4 fI.out).mono ?_); (case side1 => repeat (first | exact (Kd.R_reads' aG.out).2.2 | (with_reducible refine Kd.C_alloc ?_ _) | (with_reducible refine Kd.C_drewN ?_ _) | (with_reducible refine Kd.C_drew ?_))); (case side2 => exact (Kd.R_reads' aG.out).2.1); (case side3 => repeat (first | exact (Kd.R_reads' aE.out).2.2 | (with_reducible refine Kd.C_alloc ?_ _) | (with_reducible refine Kd.C_drewN ?_ _) | (with_reducible refine Kd.C_drew ?_))); (case side4 => exact (Kd.R_reads' aE.out).2.1); rintro e w' ⟨rfl, ⟨nd, rfl⟩⟩; (try first | exact ⟨rfl, _, World.drewN_drewN _ _ _⟩ | exact ⟨rfl, _, Eq.trans (World.drewN_drewN _ _ _) (congrArg (World.drewN _) (Nat.add_assoc _ _ _))⟩)) | (go_at_call 8; (with_reducible refine (impl_OpsFold.calls k1 _ _ aC bY _ ?side1 ?side2 fJ.out).mono ?_); (case side1 => repeat (first | exact (Kd.R_reads' aD.out).2.2 | (with_reducible refine Kd.C_alloc ?_ _) | (with_reducible refine Kd.C_drewN ?_ _) | (with_reducible refine Kd.C_drew ?_))); (case side2 => exact (Kd.R_reads' aD.out).2.1); rintro e gG ⟨eV, rfl, ho0, hb⟩; have n_ := o2_ (Kd.R_elder' (oR aD) (Kd.R_base ho0) hb) (o2_ (Kd.R_elder' (oR aE) (Kd.R_base ho0) hb) (o2_ (Kd.R_elder' (oR aG) (Kd.R_base ho0) hb) (o2_ (Kd.R_lower (Kd.R_new' (Kd.R_new' (Kd.R_new' ho0 (Kd.R_lt (oR aD))) (Kd.R_lt (oR aE))) (Kd.R_lt (oR aG))) (below_size (oB HB))) (o1_ (below_step (oB HB) hb))))); clear aD aE aG HB; obtain ⟨aD, aE, aG, aJ, HB⟩ := n_; (try clear hb); (try clear hb2); (try clear hk); (try clear hi); (try clear ho0)) | (go_at_call 13; (with_reducible refine (spec_OpsFold.calls k1 _ _ aC bZ _ ?side1 ?side2 fK.out).mono ?_); (case side1 => repeat (first | exact (Kd.R_reads' aD.out).2.2 | (with_reducible refine Kd.C_alloc ?_ _) | (with_reducible refine Kd.C_drewN ?_ _) | (with_reducible refine Kd.C_drew ?_))); (case side2 => exact (Kd.R_reads' aD.out).2.1); rintro e gH ⟨eW, rfl, ho0, hb⟩; have n_ := o2_ (Kd.R_elder' (oR aD) (Kd.R_base ho0) hb) (o2_ (Kd.R_elder' (oR aE) (Kd.R_base ho0) hb) (o2_ (Kd.R_elder' (oR aG) (Kd.R_base ho0) hb) (o2_ (Kd.R_elder' (oR aJ) (Kd.R_base ho0) hb) (o2_ (Kd.R_lower (Kd.R_new' (Kd.R_new' (Kd.R_new' (Kd.R_new' ho0 (Kd.R_lt (oR aD))) (Kd.R_lt (oR aE))) (Kd.R_lt (oR aG))) (Kd.R_lt (oR aJ))) (below_size (oB HB))) (o1_ (below_step (oB HB) hb)))))); clear aD aE aG aJ HB; obtain ⟨aD, aE, aG, aJ, aM, HB⟩ := n_; (try clear hb); (try clear hb2); (try clear hk); (try clear hi); (try clear ho0); obtain ⟨eB, eO, dC⟩ := Kd.R_slice aJ.out; subst dC; obtain ⟨eC, eP, dD⟩ := Kd.R_slice aM.out; subst dD) | (go_at_call 9; (with_reducible refine (laws_eaOps.calls k1 _ _ bY _ _ bZ true _ ?side1 ?side2 ?side3 ?side4 fL.out).mono ?_); (case side1 => repeat (first | exact (Kd.R_reads' aJ.out).2.2 | (with_reducible refine Kd.C_alloc ?_ _) | (with_reducible refine Kd.C_drewN ?_ _) | (with_reducible refine Kd.C_drew ?_))); (case side2 => exact (Kd.R_reads' aJ.out).2.1); (case side3 => repeat (first | exact (Kd.R_reads' aM.out).2.2 | (with_reducible refine Kd.C_alloc ?_ _) | (with_reducible refine Kd.C_drewN ?_ _) | (with_reducible refine Kd.C_drew ?_))); (case side4 => exact (Kd.R_reads' aM.out).2.1); rintro e w' ⟨rfl, ⟨nd, rfl⟩⟩; (try first | exact ⟨rfl, _, World.drewN_drewN _ _ _⟩ | exact ⟨rfl, _, Eq.trans (World.drewN_drewN _ _ _) (congrArg (World.drewN _) (Nat.add_assoc _ _ _))⟩)) | (go_at_call 11; (with_reducible refine (laws_eaOk.calls  dF _ fM.out).mono ?_); rintro e gI ⟨rfl, hb⟩; have n_ := o2_ (Kd.R_below (oR aD) hb) (o2_ (Kd.R_below (oR aE) hb) (o2_ (Kd.R_below (oR aG) hb) (o2_ (Kd.R_below (oR aJ) hb) (o2_ (Kd.R_below (oR aM) hb) (o1_ (below_step (oB HB) hb)))))); clear aD aE aG aJ aM HB; obtain ⟨aD, aE, aG, aJ, aM, HB⟩ := n_; (try clear hb); (try clear hb2); (try clear hk); (try clear hi)))
        repeat (go_quiet (first | (go_at_call 8; (with_reducible refine (impl_OpsFold.calls k1 _ _ aH bX _ ?side1 ?side2 fH.out).mono ?_); (case side1 => repeat (first | exact (Kd.R_reads' aE.out).2.2 | (with_reducible refine Kd.C_alloc ?_ _) | (with_reducible refine Kd.C_drewN ?_ _) | (with_reducible refine Kd.C_drew ?_))); (case side2 => exact (Kd.R_reads' aE.out).2.1); rintro e gF ⟨eU, rfl, ho0, hb⟩; have n_ := o2_ (Kd.R_elder' (oR aD) (Kd.R_base ho0) hb) (o2_ (Kd.R_elder' (oR aE) (Kd.R_base ho0) hb) (o2_ (Kd.R_lower (Kd.R_new' (Kd.R_new' ho0 (Kd.R_lt (oR aD))) (Kd.R_lt (oR aE))) (below_size (oB HB))) (o1_ (below_step (oB HB) hb)))); clear aD aE HB; obtain ⟨aD, aE, aG, HB⟩ := n_; (try clear hb); (try clear hb2); (try clear hk); (try clear hi); (try clear ho0); obtain ⟨eA, eN, dB⟩ := Kd.R_slice aG.out; subst dB) | (go_at_call 9; (with_reducible refine (laws_eaOps.calls k1 _ _ bX _ _ aH true _ ?side1 ?side2 ?side3 ?side4 fI.out).mono ?_); (case side1 => repeat (first | exact (Kd.R_reads' aG.out).2.2 | (with_reducible refine Kd.C_alloc ?_ _) | (with_reducible refine Kd.C_drewN ?_ _) | (with_reducible refine Kd.C_drew ?_))); (case side2 => exact (Kd.R_reads' aG.out).2.1); (case side3 => repeat (first | exact (Kd.R_reads' aE.out).2.2 | (with_reducible refine Kd.C_alloc ?_ _) | (with_reducible refine Kd.C_drewN ?_ _) | (with_reducible refine Kd.C_drew ?_))); (case side4 => exact (Kd.R_reads' aE.out).2.1); rintro e w' ⟨rfl, ⟨nd, rfl⟩⟩; (try first | exact ⟨rfl, _, World.drewN_drewN _ _ _⟩ | exact ⟨rfl, _, Eq.trans (World.drewN_drewN _ _ _) (congrArg (World.drewN _) (Nat.add_assoc _ _ _))⟩)) | (go_at_call 8; (with_reducible refine (impl_OpsFold.calls k1 _ _ aC bY _ ?side1 ?side2 fJ.out).mono ?_); (case side1 => repeat (first | exact (Kd.R_reads' aD.out).2.2 | (with_reducible refine Kd.C_alloc ?_ _) | (with_reducible refine Kd.C_drewN ?_ _) | (with_reducible refine Kd.C_drew ?_))); (case side2 => exact (Kd.R_reads' aD.out).2.1); rintro e gG ⟨eV, rfl, ho0, hb⟩; have n_ := o2_ (Kd.R_elder' (oR aD) (Kd.R_base ho0) hb) (o2_ (Kd.R_elder' (oR aE) (Kd.R_base ho0) hb) (o2_ (Kd.R_elder' (oR aG) (Kd.R_base ho0) hb) (o2_ (Kd.R_lower (Kd.R_new' (Kd.R_new' (Kd.R_new' ho0 (Kd.R_lt (oR aD))) (Kd.R_lt (oR aE))) (Kd.R_lt (oR aG))) (below_size (oB HB))) (o1_ (below_step (oB HB) hb))))); clear aD aE aG HB; obtain ⟨aD, aE, aG, aJ, HB⟩ := n_; (try clear hb); (try clear hb2); (try clear hk); (try clear hi); (try clear ho0)) | (go_at_call 13; (with_reducible refine (spec_OpsFold.calls k1 _ _ aC bZ _ ?side1 ?side2 fK.out).mono ?_); (case side1 => repeat (first | exact (Kd.R_reads' aD.out).2.2 | (with_reducible refine Kd.C_alloc ?_ _) | (with_reducible refine Kd.C_drewN ?_ _) | (with_reducible refine Kd.C_drew ?_))); (case side2 => exact (Kd.R_reads' aD.out).2.1); rintro e gH ⟨eW, rfl, ho0, hb⟩; have n_ := o2_ (Kd.R_elder' (oR aD) (Kd.R_base ho0) hb) (o2_ (Kd.R_elder' (oR aE) (Kd.R_base ho0) hb) (o2_ (Kd.R_elder' (oR aG) (Kd.R_base ho0) hb) (o2_ (Kd.R_elder' (oR aJ) (Kd.R_base ho0) hb) (o2_ (Kd.R_lower (Kd.R_new' (Kd.R_new' (Kd.R_new' (Kd.R_new' ho0 (Kd.R_lt (oR aD))) (Kd.R_lt (oR aE))) (Kd.R_lt (oR aG))) (Kd.R_lt (oR aJ))) (below_size (oB HB))) (o1_ (below_step (oB HB) hb)))))); clear aD aE aG aJ HB; obtain ⟨aD, aE, aG, aJ, aM, HB⟩ := n_; (try clear hb); (try clear hb2); (try clear hk); (try clear hi); (try clear ho0); obtain ⟨eB, eO, dC⟩ := Kd.R_slice aJ.out; subst dC; obtain ⟨eC, eP, dD⟩ := Kd.R_slice aM.out; subst dD) | (go_at_call 9; (with_reducible refine (laws_eaOps.calls k1 _ _ bY _ _ bZ true _ ?side1 ?side2 ?side3 ?side4 fL.out).mono ?_); (case side1 => repeat (first | exact (Kd.R_reads' aJ.out).2.2 | (with_reducible refine Kd.C_alloc ?_ _) | (with_reducible refine Kd.C_drewN ?_ _) | (with_reducible refine Kd.C_drew ?_))); (case side2 => exact (Kd.R_reads' aJ.out).2.1); (case side3 => repeat (first | exact (Kd.R_reads' aM.out).2.2 | (with_reducible refine Kd.C_alloc ?_ _) | (with_reducible refine Kd.C_drewN ?_ _) | (with_reducible refine Kd.C_drew ?_))); (case side4 => exact (Kd.R_reads' aM.out).2.1); rintro e w' ⟨rfl, ⟨nd, rfl⟩⟩; (try first | exact ⟨rfl, _, World.drewN_drewN _ _ _⟩ | exact ⟨rfl, _, Eq.trans (World.drewN_drewN _ _ _) (congrArg (World.drewN _) (Nat.add_assoc _ _ _))⟩)) | (go_at_call 11; (with_reducible refine (laws_eaOk.calls  dF _ fM.out).mono ?_); rintro e gI ⟨rfl, hb⟩; have n_ := o2_ (Kd.R_below (oR aD) hb) (o2_ (Kd.R_below (oR aE) hb) (o2_ (Kd.R_below (oR aG) hb) (o2_ (Kd.R_below (oR aJ) hb) (o2_ (Kd.R_below (oR aM) hb) (o1_ (below_step (oB HB) hb)))))); clear aD aE aG aJ aM HB; obtain ⟨aD, aE, aG, aJ, aM, HB⟩ := n_; (try clear hb); (try clear hb2); (try clear hk); (try clear hi))); try go_wp2_with (first | (go_at_call 8; (with_reducible refine (impl_OpsFold.calls k1 _ _ aH bX _ ?side1 ?side2 fH.out).mono ?_); (case side1 => repeat (first | exact (Kd.R_reads' aE.out).2.2 | (with_reducible refine Kd.C_alloc ?_ _) | (with_reducible refine Kd.C_drewN ?_ _) | (with_reducible refine Kd.C_drew ?_))); (case side2 => exact (Kd.R_reads' aE.out).2.1); rintro e gF ⟨eU, rfl, ho0, hb⟩; have n_ := o2_ (Kd.R_elder' (oR aD) (Kd.R_base ho0) hb) (o2_ (Kd.R_elder' (oR aE) (Kd.R_base ho0) hb) (o2_ (Kd.R_lower (Kd.R_new' (Kd.R_new' ho0 (Kd.R_lt (oR aD))) (Kd.R_lt (oR aE))) (below_size (oB HB))) (o1_ (below_step (oB HB) hb)))); clear aD aE HB; obtain ⟨aD, aE, aG, HB⟩ := n_; (try clear hb); (try clear hb2); (try clear hk); (try clear hi); (try clear ho0); obtain ⟨eA, eN, dB⟩ := Kd.R_slice aG.out; subst dB) | (go_at_call 9; (with_reducible refine (laws_eaOps.calls k1 _ _ bX _ _ aH true _ ?side1 ?side2 ?side3 ?side4 fI.out).mono ?_); (case side1 => repeat (first | exact (Kd.R_reads' aG.out).2.2 | (with_reducible refine Kd.C_alloc ?_ _) | (with_reducible refine Kd.C_drewN ?_ _) | (with_reducible refine Kd.C_drew ?_))); (case side2 => exact (Kd.R_reads' aG.out).2.1); (case side3 => repeat (first | exact (Kd.R_reads' aE.out).2.2 | (with_reducible refine Kd.C_alloc ?_ _) | (with_reducible refine Kd.C_drewN ?_ _) | (with_reducible refine Kd.C_drew ?_))); (case side4 => exact (Kd.R_reads' aE.out).2.1); rintro e w' ⟨rfl, ⟨nd, rfl⟩⟩; (try first | exact ⟨rfl, _, World.drewN_drewN _ _ _⟩ | exact ⟨rfl, _, Eq.trans (World.drewN_drewN _ _ _) (congrArg (World.drewN _) (Nat.add_assoc _ _ _))⟩)) | (go_at_call 8; (with_reducible refine (impl_OpsFold.calls k1 _ _ aC bY _ ?side1 ?side2 fJ.out).mono ?_); (case side1 => repeat (first | exact (Kd.R_reads' aD.out).2.2 | (with_reducible refine Kd.C_alloc ?_ _) | (with_reducible refine Kd.C_drewN ?_ _) | (with_reducible refine Kd.C_drew ?_))); (case side2 => exact (Kd.R_reads' aD.out).2.1); rintro e gG ⟨eV, rfl, ho0, hb⟩; have n_ := o2_ (Kd.R_elder' (oR aD) (Kd.R_base ho0) hb) (o2_ (Kd.R_elder' (oR aE) (Kd.R_base ho0) hb) (o2_ (Kd.R_elder' (oR aG) (Kd.R_base ho0) hb) (o2_ (Kd.R_lower (Kd.R_new' (Kd.R_new' (Kd.R_new' ho0 (Kd.R_lt (oR aD))) (Kd.R_lt (oR aE))) (Kd.R_lt (oR aG))) (below_size (oB HB))) (o1_ (below_step (oB HB) hb))))); clear aD aE aG HB; obtain ⟨aD, aE, aG, aJ, HB⟩ := n_; (try clear hb); (try clear hb2); (try clear hk); (try clear hi); (try clear ho0)) | (go_at_call 13; (with_reducible refine (spec_OpsFold.calls k1 _ _ aC bZ _ ?side1 ?side2 fK.out).mono ?_); (case side1 => repeat (first | exact (Kd.R_reads' aD.out).2.2 | (with_reducible refine Kd.C_alloc ?_ _) | (with_reducible refine Kd.C_drewN ?_ _) | (with_reducible refine Kd.C_drew ?_))); (case side2 => exact (Kd.R_reads' aD.out).2.1); rintro e gH ⟨eW, rfl, ho0, hb⟩; have n_ := o2_ (Kd.R_elder' (oR aJ) (Kd.R_base ho0) hb) (o2_ (Kd.R_lower (Kd.R_new' (Kd.R_new' (Kd.R_new' (Kd.R_new' ho0 (Kd.R_lt (oR aD))) (Kd.R_lt (oR aE))) (Kd.R_lt (oR aG))) (Kd.R_lt (oR aJ))) (below_size (oB HB))) (o1_ (below_step (oB HB) hb))); clear aJ HB; obtain ⟨aJ, aM, HB⟩ := n_; (try clear hb); (try clear hb2); (try clear hk); (try clear hi); (try clear ho0); obtain ⟨eB, eO, dC⟩ := Kd.R_slice aJ.out; subst dC; obtain ⟨eC, eP, dD⟩ := Kd.R_slice aM.out; subst dD) | (go_at_call 9; (with_reducible refine (laws_eaOps.calls k1 _ _ bY _ _ bZ true _ ?side1 ?side2 ?side3 ?side4 fL.out).mono ?_); (case side1 => repeat (first | exact (Kd.R_reads' aJ.out).2.2 | (with_reducible refine Kd.C_alloc ?_ _) | (with_reducible refine Kd.C_drewN ?_ _) | (with_reducible refine Kd.C_drew ?_))); (case side2 => exact (Kd.R_reads' aJ.out).2.1); (case side3 => repeat (first | exact (Kd.R_reads' aM.out).2.2 | (with_reducible refine Kd.C_alloc ?_ _) | (with_reducible refine Kd.C_drewN ?_ _) | (with_reducible refine Kd.C_drew ?_))); (case side4 => exact (Kd.R_reads' aM.out).2.1); rintro e w' ⟨rfl, ⟨nd, rfl⟩⟩; (try first | exact ⟨rfl, _, World.drewN_drewN _ _ _⟩ | exact ⟨rfl, _, Eq.trans (World.drewN_drewN _ _ _) (congrArg (World.drewN _) (Nat.add_assoc _ _ _))⟩)) | (go_at_call 11; (with_reducible refine (laws_eaOk.calls  dF _ fM.out).mono ?_); rintro e gI ⟨rfl, hb⟩; replace HB := o1_ (below_step (oB HB) hb); (try clear hb); (try clear hb2); (try clear hk); (try clear hi))))
        go_ret
        exact ⟨by first | rfl | (simp [errW_none, errW_some] <;> rfl) | (simp [*, errW_none, errW_some] <;> rfl), oB HB⟩
       ·replace fE := Bool.eq_false_iff.mpr fE
        subst fE
        rw [if_neg (show ¬ (false = true) by decide)] at H
        exact absurd H (by simp)
      ·replace fD := Bool.eq_false_iff.mpr fD
       subst fD
       rw [if_neg (show ¬ (false = true) by decide)] at H
       exact absurd H (by simp)

/-- THE ONE PURE STATEMENT of laws_FnFoldKeep: yours. -/
def laws_FnFoldKeep.Pure : Prop := ∀ (l0 : List Int), l0.length ≤ maxLen → l0.length * 1 ≤ 140737488351232 → (∀ x ∈ l0, (Lit.int .u8 x).wf = true) → ∃ k, laws_FnFoldKeep.f k l0 = some true
theorem laws_FnFoldKeep.walk (P : laws_FnFoldKeep.Pure) (a0 : Option Addr) (len0 cap0 : Nat) (z0 : List Int) (w : World) (w0 : (a0 = none ∧ len0 = 0 ∧ cap0 = 0 ∧ z0 = []) ∨ ∃ x, a0 = some x ∧ len0 ≤ cap0 ∧ cap0 ≤ maxLen ∧ z0.length = cap0 ∧ (∀ i, i < z0.length → w.cell? (x.add i) = some (.int .u8 (z0.getD i 0))) ∧ ∀ n ∈ z0, (Lit.int .u8 n).wf = true) (y0 : len0 * 1 ≤ 140737488351232) :
  Calls Try.prog 5 #[.slice a0 len0 cap0] w fun e w' => e = .returned (.bool true) ∧ Below w.heap.size w w' := by
 obtain ⟨l0, rfl, hr0, hm0, hw0, fF⟩ := ReadsInt.ofRowC w0
 obtain ⟨k, h⟩ := P l0 hm0 y0 hw0
 refine (laws_FnFoldKeep.calls k _ _ l0 true w (Kd.C_of_reads (d := (0 : Int)) (h1 := fun _ => rfl) hr0) fF h).mono ?_
 rintro e w' ⟨rfl, hd⟩
 exact ⟨rfl, hd⟩

end Go.Proofs.Ytjkaalcocgioaaa.X
