/- What functions of the program come to, each with its proof. No condition but what each theorem states. -/
import Derived.Test.YthnmeogafklhnaaX0
import Derived.Test.YthnmeogafklhnaaX15
import Derived.Test.YthnmeogafklhnaaX32
import Derived.Test.YthnmeogafklhnaaX44
import Derived.Test.YthnmeogafklhnaaX45
import Derived.Test.YthnmeogafklhnaaX63
import Derived.Test.YthnmeogafklhnaaX65
import Derived.Test.YthnmeogafklhnaaX76
import Derived.Test.YthnmeogafklhnaaX78
import Derived.Test.YthnmeogafklhnaaX80
import Derived.Test.YthnmeogafklhnaaX82
import Derived.Test.YthnmeogafklhnaaX83
namespace Go.Proofs.Ythnmeogafklhnaa.X
open Go.RowKit Go.Proofs.YthnmeogafklhnaaW.PrintWords Go.Proofs.YthnmeogafklhnaaW.PrintLast Go.Proofs.YthnmeogafklhnaaW.PrintMore Go.Proofs.Ythnmeogafklhnaa.Hyb
attribute [local go_sem] max2_int min2_int max_two min_two max_three min_three max_four min_four
set_option linter.unusedVariables false
set_option linter.unusedSimpArgs false

/-! ### laws_FnRasBytes: function 17 -/
mutual
def laws_FnRasBytes.j0 : Nat → List Int → List Int → Bool → Option (Bool)
 | 0, _, _, _ => none
 | k + 1, x0, x1, x25 => if x25 = true then (some true) else ((spec_DrawRasBytes.f k x0).bind fun bV => ((spec_DrawRasRead.f k x1).bind fun cD => ((impl_RasBytes.f k bV.1 bV.2.1 bV.2.2).bind fun aV => ((impl_RasRead.f cD).bind fun bS => ((spec_RasRead.f k cD).bind fun dD => ((spec_RasBytes.f k bV.1 bV.2.1 bV.2.2).bind fun cP => ((laws_eaBytes.f aV cP).bind fun hN => (if hN = true then ((laws_eaRas.f k bS.1 bS.2.1 bS.2.2.1 dD.1 dD.2.1 dD.2.2.1).bind fun hO => (if hO = true then (laws_FnRasBytes.j1 k cD aV bS.2.2.2 (bS.2.2.2 != dD.2.2.2) bV.1 bV.2.1 bV.2.2 bS.1 bS.2.1 bS.2.2.1) else (laws_FnRasBytes.j1 k cD aV bS.2.2.2 true bV.1 bV.2.1 bV.2.2 bS.1 bS.2.1 bS.2.2.1))) else (laws_FnRasBytes.j1 k cD aV bS.2.2.2 true bV.1 bV.2.1 bV.2.2 bS.1 bS.2.1 bS.2.2.1)))))))))
def laws_FnRasBytes.j1 : Nat → List Int → List Int → Bool → Bool → Int → Int → List (S38) → Int → Int → List (S38) → Option (Bool)
 | 0, _, _, _, _, _, _, _, _, _, _ => none
 | k + 1, x6, x7, x9, x57, x1407000, x1407001, x1407002, x1420000, x1420001, x1420002 => if x57 = true then (none) else (if x9 = true then ((impl_RasOk.f k x1420000 x1420001 x1420002).bind fun hP => (if hP = true then ((impl_RasBytes.f k x1420000 x1420001 x1420002).bind fun hC => ((laws_eaBytes.f hC x6).bind fun hD => (laws_FnRasBytes.j2 k x7 (!hD) x1407000 x1407001 x1407002))) else (laws_FnRasBytes.j2 k x7 true x1407000 x1407001 x1407002))) else (laws_FnRasBytes.j2 k x7 false x1407000 x1407001 x1407002))
def laws_FnRasBytes.j2 : Nat → List Int → Bool → Int → Int → List (S38) → Option (Bool)
 | 0, _, _, _, _, _ => none
 | k + 1, x7, x70, x1407000, x1407001, x1407002 => if x70 = true then (none) else ((spec_RasOk.f k x1407000 x1407001 x1407002).bind fun hQ => (if hQ = true then ((impl_RasRead.f x7).bind fun dE => (if 0 ≤ (wrap64 ((x7.length : Int) - 1)) then (if (wrap64 ((x7.length : Int) - 1)) ≤ (x7.length : Int) then ((impl_RasRead.f (x7.take ((wrap64 ((x7.length : Int) - 1)) : Int).toNat)).bind fun cV => ((some (([] : List Int) : List Int)).bind fun cL => (if cL.length + x7.length < 140737488355328 then ((some (cL ++ x7 : List Int)).bind fun cE => (if cE.length < 140737488355328 then ((impl_RasRead.f (cE ++ [0])).bind fun cH => (if dE.2.2.2 = true then ((laws_eaRas.f k dE.1 dE.2.1 dE.2.2.1 x1407000 x1407001 x1407002).bind fun cO => (if cO = true then (if cV.2.2.2 = true then (none) else (some (!cH.2.2.2))) else (none))) else (none))) else (none))) else (none)))) else (none)) else (none))) else (if (x7.length : Int) = 0 then ((laws_eaOk.f).bind fun hR => (some hR)) else (none))))
end
def laws_FnRasBytes.f (k : Nat) (l0 : List Int) (l1 : List Int) : Option (Bool) := if (l0.length : Int) > 1048576 then (laws_FnRasBytes.j0 k l0 l1 true) else (laws_FnRasBytes.j0 k l0 l1 (decide ((l1.length : Int) > 1048576)))
theorem laws_FnRasBytes.mono_l : ∀ k, (∀ y0 y1 y2, LeO (laws_FnRasBytes.j0 k y0 y1 y2) (laws_FnRasBytes.j0 (k + 1) y0 y1 y2)) ∧ (∀ y0 y1 y2 y3 y4 y5 y6 y7 y8 y9, LeO (laws_FnRasBytes.j1 k y0 y1 y2 y3 y4 y5 y6 y7 y8 y9) (laws_FnRasBytes.j1 (k + 1) y0 y1 y2 y3 y4 y5 y6 y7 y8 y9)) ∧ (∀ y0 y1 y2 y3 y4, LeO (laws_FnRasBytes.j2 k y0 y1 y2 y3 y4) (laws_FnRasBytes.j2 (k + 1) y0 y1 y2 y3 y4))
 | 0 => ⟨(fun _ _ _ r h => nomatch (show none = some r from h)), (fun _ _ _ _ _ _ _ _ _ _ r h => nomatch (show none = some r from h)), (fun _ _ _ _ _ r h => nomatch (show none = some r from h))⟩
 | k + 1 => by
  obtain ⟨ih0, ih1, ih2⟩ := laws_FnRasBytes.mono_l k
  refine ⟨?_, ?_, ?_⟩
  ·intro y0 y1 y2
   unfold laws_FnRasBytes.j0
   repeat' first
   | (with_reducible exact ih0 _ _ _)
   | (with_reducible exact ih1 _ _ _ _ _ _ _ _ _ _)
   | (with_reducible exact ih2 _ _ _ _ _)
   | (with_reducible exact impl_RasBytes.mono _ _ _ _)
   | (with_reducible exact impl_RasOk.mono _ _ _ _)
   | (with_reducible exact laws_eaRas.mono _ _ _ _ _ _ _)
   | (with_reducible exact spec_DrawRasBytes.mono _ _)
   | (with_reducible exact spec_DrawRasRead.mono _ _)
   | (with_reducible exact spec_RasBytes.mono _ _ _ _)
   | (with_reducible exact spec_RasOk.mono _ _ _ _)
   | (with_reducible exact spec_RasRead.mono _ _)
   | (with_reducible exact LeO.refl _)
   | (with_reducible exact LeO.none _)
   | (with_reducible refine LeO.ite ?_ ?_)
   | (with_reducible refine LeO.bind ?_ (fun _ => ?_))
   | exact ih0 _ _ _
   | exact ih1 _ _ _ _ _ _ _ _ _ _
   | exact ih2 _ _ _ _ _
   | exact impl_RasBytes.mono _ _ _ _
   | exact impl_RasOk.mono _ _ _ _
   | exact laws_eaRas.mono _ _ _ _ _ _ _
   | exact spec_DrawRasBytes.mono _ _
   | exact spec_DrawRasRead.mono _ _
   | exact spec_RasBytes.mono _ _ _ _
   | exact spec_RasOk.mono _ _ _ _
   | exact spec_RasRead.mono _ _
   | exact LeO.none _
   | refine LeO.ite ?_ ?_
   | refine LeO.bind ?_ (fun _ => ?_)
  ·intro y0 y1 y2 y3 y4 y5 y6 y7 y8 y9
   unfold laws_FnRasBytes.j1
   repeat' first
   | (with_reducible exact ih0 _ _ _)
   | (with_reducible exact ih1 _ _ _ _ _ _ _ _ _ _)
   | (with_reducible exact ih2 _ _ _ _ _)
   | (with_reducible exact impl_RasBytes.mono _ _ _ _)
   | (with_reducible exact impl_RasOk.mono _ _ _ _)
   | (with_reducible exact laws_eaRas.mono _ _ _ _ _ _ _)
   | (with_reducible exact spec_DrawRasBytes.mono _ _)
   | (with_reducible exact spec_DrawRasRead.mono _ _)
   | (with_reducible exact spec_RasBytes.mono _ _ _ _)
   | (with_reducible exact spec_RasOk.mono _ _ _ _)
   | (with_reducible exact spec_RasRead.mono _ _)
   | (with_reducible exact LeO.refl _)
   | (with_reducible exact LeO.none _)
   | (with_reducible refine LeO.ite ?_ ?_)
   | (with_reducible refine LeO.bind ?_ (fun _ => ?_))
   | exact ih0 _ _ _
   | exact ih1 _ _ _ _ _ _ _ _ _ _
   | exact ih2 _ _ _ _ _
   | exact impl_RasBytes.mono _ _ _ _
   | exact impl_RasOk.mono _ _ _ _
   | exact laws_eaRas.mono _ _ _ _ _ _ _
   | exact spec_DrawRasBytes.mono _ _
   | exact spec_DrawRasRead.mono _ _
   | exact spec_RasBytes.mono _ _ _ _
   | exact spec_RasOk.mono _ _ _ _
   | exact spec_RasRead.mono _ _
   | exact LeO.none _
   | refine LeO.ite ?_ ?_
   | refine LeO.bind ?_ (fun _ => ?_)
  ·intro y0 y1 y2 y3 y4
   unfold laws_FnRasBytes.j2
   repeat' first
   | (with_reducible exact ih0 _ _ _)
   | (with_reducible exact ih1 _ _ _ _ _ _ _ _ _ _)
   | (with_reducible exact ih2 _ _ _ _ _)
   | (with_reducible exact impl_RasBytes.mono _ _ _ _)
   | (with_reducible exact impl_RasOk.mono _ _ _ _)
   | (with_reducible exact laws_eaRas.mono _ _ _ _ _ _ _)
   | (with_reducible exact spec_DrawRasBytes.mono _ _)
   | (with_reducible exact spec_DrawRasRead.mono _ _)
   | (with_reducible exact spec_RasBytes.mono _ _ _ _)
   | (with_reducible exact spec_RasOk.mono _ _ _ _)
   | (with_reducible exact spec_RasRead.mono _ _)
   | (with_reducible exact LeO.refl _)
   | (with_reducible exact LeO.none _)
   | (with_reducible refine LeO.ite ?_ ?_)
   | (with_reducible refine LeO.bind ?_ (fun _ => ?_))
   | exact ih0 _ _ _
   | exact ih1 _ _ _ _ _ _ _ _ _ _
   | exact ih2 _ _ _ _ _
   | exact impl_RasBytes.mono _ _ _ _
   | exact impl_RasOk.mono _ _ _ _
   | exact laws_eaRas.mono _ _ _ _ _ _ _
   | exact spec_DrawRasBytes.mono _ _
   | exact spec_DrawRasRead.mono _ _
   | exact spec_RasBytes.mono _ _ _ _
   | exact spec_RasOk.mono _ _ _ _
   | exact spec_RasRead.mono _ _
   | exact LeO.none _
   | refine LeO.ite ?_ ?_
   | refine LeO.bind ?_ (fun _ => ?_)
theorem laws_FnRasBytes.mono : ∀ a0 a1 k, LeO (laws_FnRasBytes.f k a0 a1) (laws_FnRasBytes.f (k + 1) a0 a1) := by
 intro a0 a1 k
 obtain ⟨ih0, ih1, ih2⟩ := laws_FnRasBytes.mono_l k
 unfold laws_FnRasBytes.f
 repeat' first
   | (with_reducible exact ih0 _ _ _)
   | (with_reducible exact ih1 _ _ _ _ _ _ _ _ _ _)
   | (with_reducible exact ih2 _ _ _ _ _)
   | (with_reducible exact impl_RasBytes.mono _ _ _ _)
   | (with_reducible exact impl_RasOk.mono _ _ _ _)
   | (with_reducible exact laws_eaRas.mono _ _ _ _ _ _ _)
   | (with_reducible exact spec_DrawRasBytes.mono _ _)
   | (with_reducible exact spec_DrawRasRead.mono _ _)
   | (with_reducible exact spec_RasBytes.mono _ _ _ _)
   | (with_reducible exact spec_RasOk.mono _ _ _ _)
   | (with_reducible exact spec_RasRead.mono _ _)
   | (with_reducible exact LeO.refl _)
   | (with_reducible exact LeO.none _)
   | (with_reducible refine LeO.ite ?_ ?_)
   | (with_reducible refine LeO.bind ?_ (fun _ => ?_))
   | exact ih0 _ _ _
   | exact ih1 _ _ _ _ _ _ _ _ _ _
   | exact ih2 _ _ _ _ _
   | exact impl_RasBytes.mono _ _ _ _
   | exact impl_RasOk.mono _ _ _ _
   | exact laws_eaRas.mono _ _ _ _ _ _ _
   | exact spec_DrawRasBytes.mono _ _
   | exact spec_DrawRasRead.mono _ _
   | exact spec_RasBytes.mono _ _ _ _
   | exact spec_RasOk.mono _ _ _ _
   | exact spec_RasRead.mono _ _
   | exact LeO.none _
   | refine LeO.ite ?_ ?_
   | refine LeO.bind ?_ (fun _ => ?_)
set_option maxHeartbeats 8000000 in
set_option maxRecDepth 100000 in
theorem laws_FnRasBytes.calls (k : Nat) (A0 : Option Addr) (c0 : Nat) (l0 : List Int) (A1 : Option Addr) (c1 : Nat) (l1 : List Int) (r : Bool) (w : World) (hr0 : Kd.C (Kd.int .u8) w A0 l0.length l0) (lW : l0.length ≤ c0) (hr1 : Kd.C (Kd.int .u8) w A1 l1.length l1) (lX : l1.length ≤ c1) (h : laws_FnRasBytes.f k l0 l1 = some r) :
  Calls Try.prog 17 #[.slice A0 l0.length c0, .slice A1 l1.length c1] w fun e w' => e = .returned (.bool r) ∧ Below w.heap.size w w' := by
 have hu25 := Try.underlying25
 have sX := Aside0.mk hr0
 have sU := Aside0.mk lW
 clear hr0 lW
 have sY := Aside0.mk hr1
 have sV := Aside0.mk lX
 clear hr1 lX
 have HB := Aside0.mk (Below.refl w.heap.size w)
 have H : (if (l0.length : Int) > 1048576 then (laws_FnRasBytes.j0 k l0 l1 true) else (laws_FnRasBytes.j0 k l0 l1 (decide ((l1.length : Int) > 1048576)))) = some r := h
 clear h
 have nA := Aside0.mk H
 clear H
 go_enter Try.func17, Try.ntmps17
 go_upto_region 1 with (fail)
 go_cut [25] (fun tA wc => ∃ (kq : Nat) (hG : Bool), tA = .bool hG ∧ Aside0 (laws_FnRasBytes.j0 kq l0 l1 hG = some r) ∧ Aside0 (kq ≤ k) ∧ Aside0 (Below w.heap.size w wc))
 case first =>
  have H := nA.out
  clear nA
  by_cases c4 : (l0.length : Int) > 1048576
  ·rw [if_pos c4] at H
   have eG : decide (1048576 < (l0.length : Int)) = true := decide_eq_true c4
   have hT : decide (1048576 < l0.length) = true := decide_eq_true (by omega)
   clear c4
   (first | rw [eG] | (simp only [i64_w, i32_w]; rw [eG]) | skip)
   have H' := Aside0.mk H
   clear H
   go_wp2
   go_meet
   case rel => exact ⟨_, (true), oU, H', ⟨(by first | omega | exact Nat.le_refl _)⟩, ⟨(oB HB)⟩⟩
  ·rw [if_neg c4] at H
   have eG : decide (1048576 < (l0.length : Int)) = false := decide_eq_false c4
   have hT : decide (1048576 < l0.length) = false := decide_eq_false (by omega)
   clear c4
   (first | rw [eG] | (simp only [i64_w, i32_w]; rw [eG]) | skip)
   have H' := Aside0.mk H
   clear H
   go_wp2
   go_meet
   case rel => exact ⟨_, (decide ((l1.length : Int) > 1048576)), oU, H', ⟨(by first | omega | exact Nat.le_refl _)⟩, ⟨(oB HB)⟩⟩
 case rest =>
  clear nA
  try clear c1
  try clear p2
  try clear c4
  try clear eG
  try clear hT
  obtain ⟨kq, hG, rfl, HA, iY, HB⟩ := hcut
  cases kq with
  | zero => exact nomatch (show none = some _ from HA.out)
  | succ kj2 =>
   have H := HA.out
   clear HA
   simp only [laws_FnRasBytes.j0] at H
   by_cases c5 : hG = true
   ·subst c5
    rw [if_pos rfl] at H
    obtain rfl := Option.some.inj H
    go_wp2
    go_ret
    exact ⟨by first | rfl | (simp [errW_none, errW_some] <;> rfl) | (simp [*, errW_none, errW_some] <;> rfl), oB HB⟩
   ·replace c5 := Bool.eq_false_iff.mpr c5
    subst c5
    rw [if_neg (show ¬ (false = true) by decide)] at H
    replace H := Option.bind_eq_some_iff.mp H
    obtain ⟨⟨bH, bI, aU⟩, qC, H⟩ := H
    (try dsimp only at H)
    have A6 := Aside0.mk qC
    clear qC
    replace H := Option.bind_eq_some_iff.mp H
    obtain ⟨cD, qE, H⟩ := H
    (try dsimp only at H)
    have A7 := Aside0.mk qE
    clear qE
    replace H := Option.bind_eq_some_iff.mp H
    obtain ⟨aV, qF, H⟩ := H
    (try dsimp only at H)
    have A8 := Aside0.mk qF
    clear qF
    replace H := Option.bind_eq_some_iff.mp H
    obtain ⟨⟨bP, bQ, bA, hB⟩, lO, H⟩ := H
    (try dsimp only at H)
    have A9 := Aside0.mk lO
    clear lO
    replace H := Option.bind_eq_some_iff.mp H
    obtain ⟨⟨bF, bG, aT, iO⟩, jD, H⟩ := H
    (try dsimp only at H)
    have sO := Aside0.mk jD
    clear jD
    have iQ := Aside0.mk H
    clear H
    go_upto_region 8 with (first | ((with_reducible refine gate_callee (f := 39) rfl ?_); refine goesL_ (some 27) rfl rfl Try.func39 oK rfl #[.slice A0 l0.length c0] rfl oA ?_; (with_reducible refine (spec_DrawRasBytes.calls kj2 _ _ l0 bH bI aU _ ?side1 ?side2 A6.out).mono ?_); (case side1 => repeat (first | exact (Kd.C_below sX.out HB.out) | (with_reducible refine Kd.C_alloc ?_ _) | (with_reducible refine Kd.C_drewN ?_ _) | (with_reducible refine Kd.C_drew ?_))); (case side2 => exact sU.out); rintro e tM ⟨sF, rfl, ho0, hb⟩; refine ⟨_, rfl, ?_⟩; have n_ := o2_ (Kd.Q_lower ho0 (below_size (oB HB))) (o1_ (below_step (oB HB) hb)); clear HB; obtain ⟨aJ, HB⟩ := n_; (try clear hb); (try clear hb2); (try clear hk); (try clear hi); (try clear ho0)) | ((with_reducible refine gate_dst (N := 5) rfl ?_); (try (refine gate_guard (by rfl) ?_; dsimp only)); refine box_event rfl (N := 5) rfl (cs := #[.int .i64 0, .int .i64 0, .slice none 0 0]) (t := 25) oS ?_; intro aX hg pX hbox hb; have n_ := o2_ (Kd.Q_below (oQ aJ) hb) (o2_ (below_step (oB HB) hb) (o2_ (hbox) (o2_ ((oG hg (below_size (oB HB)) : w.heap.size ≤ aX)) (o1_ ((oG hg (below_size (oB HB)) : w.heap.size ≤ aX)))))); clear aJ HB; obtain ⟨aJ, HB, aA, mU, mO⟩ := n_; clear hb hbox hg; have eN : pX.cell? ⟨aX, 0, none⟩ = some (.int .i64 0) := (blk_cell aA.out 0).trans rfl; have eO : pX.cell? ⟨aX, 1, none⟩ = some (.int .i64 0) := (blk_cell aA.out 1).trans rfl; have eP : pX.cell? ⟨aX, 2, none⟩ = some (.slice none 0 0) := (blk_cell aA.out 2).trans rfl; have fU := blk_frozen aA.out 0; have fV := blk_frozen aA.out 1; have fW := blk_frozen aA.out 2; obtain ⟨bZ, bT, nJ, _⟩ := Kd.Q_slice aJ.out; subst nJ) | ((with_reducible refine gate_callee (f := 40) rfl ?_); refine goesL_ (some 29) rfl rfl Try.func40 oK rfl #[.slice A1 l1.length c1] rfl oA ?_; (with_reducible refine (spec_DrawRasRead.calls kj2 _ _ l1 cD _ ?side1 ?side2 A7.out).mono ?_); (case side1 => exact Kd.C_below sY.out (oB HB)); (case side2 => exact sV.out); rintro e pY ⟨sG, rfl, ho0, hb⟩; refine ⟨_, rfl, ?_⟩; have n_ := o2_ (Kd.Q_below (by (with_reducible repeat (first | apply Kd.Q_alloc | apply Kd.Q_drewN | apply Kd.Q_drew)); exact (Kd.Q_mono (Kd.Q_far (p := ⟨aX, 2, none⟩) (Kd.Q_far (p := ⟨aX, 1, none⟩) (Kd.Q_far (p := ⟨aX, 0, none⟩) (Kd.Q_types aJ.out aA.out oD) (fun _ hk => hk.2) (.int .i64 bH)) (fun _ hk => hk.2) (.int .i64 bI)) (fun _ hk => hk.2) (.slice bZ aU.length bT)) (fun _ h_ => h_.1))) hb) (o2_ (Kd.R_lower ho0 (below_size (oB HB))) (o2_ (blk_below (g := aX) (o := .cells #[.int .i64 bH, .int .i64 bI, .slice bZ aU.length bT] 25 (0, 0)) (blk_put (blk_put (blk_put aA.out 0 _ rfl) 1 _ rfl) 2 _ rfl) hb) (o1_ (below_step (oB HB) hb)))); clear aJ aA HB; obtain ⟨aJ, aN, aA, HB⟩ := n_; (try clear hb); (try clear hb2); (try clear hk); (try clear hi); (try clear ho0); have eQ : pY.cell? ⟨aX, 0, none⟩ = some (.int .i64 bH) := (blk_cell aA.out 0).trans rfl; have eR : pY.cell? ⟨aX, 1, none⟩ = some (.int .i64 bI) := (blk_cell aA.out 1).trans rfl; have eS : pY.cell? ⟨aX, 2, none⟩ = some (.slice bZ aU.length bT) := (blk_cell aA.out 2).trans rfl; have fX := blk_frozen aA.out 0; have fY := blk_frozen aA.out 1; have fZ := blk_frozen aA.out 2) | ((with_reducible refine gate_callee (f := 41) rfl ?_); refine goesL_ (some 31) rfl rfl Try.func41 oK rfl #[.agg #[.int .i64 bH, .int .i64 bI, .slice bZ aU.length bT]] rfl oA ?_; (with_reducible refine (impl_RasBytes.calls kj2 bH bI _ _ aU aV _ ?side1 ?side2 A8.out).mono ?_); (case side1 => repeat (first | exact (Kd.Q_reads' aJ.out).2.2 | (with_reducible refine Kd.C_alloc ?_ _) | (with_reducible refine Kd.C_drewN ?_ _) | (with_reducible refine Kd.C_drew ?_))); (case side2 => exact (Kd.Q_reads' aJ.out).2.1); rintro e tN ⟨hF, rfl, ho0, hb⟩; refine ⟨_, rfl, ?_⟩; have n_ := o2_ (Kd.Q_below (oQ aJ) hb) (o2_ (Kd.R_elder' (oR aN) (Kd.R_base ho0) hb) (o2_ (Kd.R_lower (Kd.R_new' ho0 (Kd.R_lt (oR aN))) (below_size (oB HB))) (o2_ (blk_below (oP aA) hb) (o1_ (below_step (oB HB) hb))))); clear aJ aN aA HB; obtain ⟨aJ, aN, aQ, aA, HB⟩ := n_; (try clear hb); (try clear hb2); (try clear hk); (try clear hi); (try clear ho0); obtain ⟨hS, hM, nK⟩ := Kd.R_slice aN.out; subst nK) | ((with_reducible refine gate_callee (f := 33) rfl ?_); refine goesL_ (some 34) rfl rfl Try.func33 oK rfl #[.slice hS cD.length hM] rfl oA ?_; (with_reducible refine (impl_RasRead.calls _ _ cD bP bQ bA hB _ ?side1 ?side2 A9.out).mono ?_); (case side1 => repeat (first | exact (Kd.R_reads' aN.out).2.2 | (with_reducible refine Kd.C_alloc ?_ _) | (with_reducible refine Kd.C_drewN ?_ _) | (with_reducible refine Kd.C_drew ?_))); (case side2 => exact (Kd.R_reads' aN.out).2.1); rintro e tO ⟨sH, rfl, ho0, hb⟩; refine ⟨_, rfl, ?_⟩; have n_ := o2_ (Kd.Q_elder' (oQ aJ) (Kd.R_base ho0) hb) (o2_ (Kd.R_below (oR aN) hb) (o2_ (Kd.R_below (oR aQ) hb) (o2_ (Kd.R_lower (Kd.R_new' ho0 (Kd.Q_lt (oQ aJ))) (below_size (oB HB))) (o2_ (blk_below (oP aA) hb) (o1_ (below_step (oB HB) hb)))))); clear aJ aN aQ aA HB; obtain ⟨aJ, aN, aQ, aW, aA, HB⟩ := n_; (try clear hb); (try clear hb2); (try clear hk); (try clear hi); (try clear ho0)) | ((with_reducible refine gate_dst (N := 8) rfl ?_); (try (refine gate_guard (by rfl) ?_; dsimp only)); refine box_event rfl (N := 8) rfl (cs := #[.int .i64 0, .int .i64 0, .slice none 0 0]) (t := 25) oS ?_; intro aM hg pZ hbox hb; have n_ := o2_ (Kd.Q_below (oQ aJ) hb) (o2_ (Kd.R_below (oR aN) hb) (o2_ (Kd.R_below (oR aQ) hb) (o2_ (Kd.R_below (oR aW) hb) (o2_ (blk_below (oP aA) hb) (o2_ (below_step (oB HB) hb) (o2_ (hbox) (o2_ ((oG hg (below_size (oB HB)) : w.heap.size ≤ aM)) (o2_ ((oG hg (below_size (oB HB)) : w.heap.size ≤ aM)) (o2_ ((oL hg (blk_lt (oP aA)))) (o1_ ((oN hg (blk_lt (oP aA)))))))))))))); clear aJ aN aQ aW aA HB; obtain ⟨aJ, aN, aQ, aW, aA, HB, aC, mV, mP, bL, bM⟩ := n_; clear hb hbox hg; have qN := bM.out; have rE := bL.out; have eT : pZ.cell? ⟨aM, 0, none⟩ = some (.int .i64 0) := (blk_cell aC.out 0).trans rfl; have eU : pZ.cell? ⟨aM, 1, none⟩ = some (.int .i64 0) := (blk_cell aC.out 1).trans rfl; have eV : pZ.cell? ⟨aM, 2, none⟩ = some (.slice none 0 0) := (blk_cell aC.out 2).trans rfl; have gA := blk_frozen aC.out 0; have gB := blk_frozen aC.out 1; have gC := blk_frozen aC.out 2; obtain ⟨bU, bW, nL⟩ := Kd.R_slice aW.out; subst nL) | ((with_reducible refine gate_callee (f := 31) rfl ?_); refine goesL_ (some 39) rfl rfl Try.func31 oK rfl #[.slice hS cD.length hM] rfl oA ?_; (with_reducible refine (spec_RasRead.calls kj2 _ _ cD bF bG aT iO _ ?side1 ?side2 sO.out).mono ?_); (case side1 => refine (Kd.R_reads' (e := 5) (base := w.heap.size) (ok := fun k_ => (True ∧ some k_ ≠ (hF : Value).ownBlock)) (n := cD.length) (c := hM) ?_).2.2; exact (by (with_reducible repeat (first | apply Kd.R_alloc | apply Kd.R_drewN | apply Kd.R_drew)); exact (Kd.R_mono (Kd.R_far (p := ⟨aM, 2, none⟩) (Kd.R_far (p := ⟨aM, 1, none⟩) (Kd.R_far (p := ⟨aM, 0, none⟩) (Kd.R_types aN.out aC.out oD) (fun _ hk => hk.2) (.int .i64 bP)) (fun _ hk => hk.2) (.int .i64 bQ)) (fun _ hk => hk.2) (.slice bU bA.length bW)) (fun _ h_ => h_.1)))); (case side2 => exact (Kd.R_reads' aN.out).2.1); rintro e tP ⟨sI, rfl, ho0, hb⟩; refine ⟨_, rfl, ?_⟩; have n_ := o2_ (Kd.Q_elder' (by (with_reducible repeat (first | apply Kd.Q_alloc | apply Kd.Q_drewN | apply Kd.Q_drew)); exact (Kd.Q_mono (Kd.Q_far (p := ⟨aM, 2, none⟩) (Kd.Q_far (p := ⟨aM, 1, none⟩) (Kd.Q_far (p := ⟨aM, 0, none⟩) (Kd.Q_types aJ.out aC.out oD) (fun _ hk => hk.2) (.int .i64 bP)) (fun _ hk => hk.2) (.int .i64 bQ)) (fun _ hk => hk.2) (.slice bU bA.length bW)) (fun _ h_ => h_.1))) (Kd.R_base ho0) hb) (o2_ (Kd.R_below (by (with_reducible repeat (first | apply Kd.R_alloc | apply Kd.R_drewN | apply Kd.R_drew)); exact (Kd.R_mono (Kd.R_far (p := ⟨aM, 2, none⟩) (Kd.R_far (p := ⟨aM, 1, none⟩) (Kd.R_far (p := ⟨aM, 0, none⟩) (Kd.R_types aN.out aC.out oD) (fun _ hk => hk.2) (.int .i64 bP)) (fun _ hk => hk.2) (.int .i64 bQ)) (fun _ hk => hk.2) (.slice bU bA.length bW)) (fun _ h_ => h_.1))) hb) (o2_ (Kd.R_below (by (with_reducible repeat (first | apply Kd.R_alloc | apply Kd.R_drewN | apply Kd.R_drew)); exact (Kd.R_mono (Kd.R_far (p := ⟨aM, 2, none⟩) (Kd.R_far (p := ⟨aM, 1, none⟩) (Kd.R_far (p := ⟨aM, 0, none⟩) (Kd.R_types aQ.out aC.out oD) (fun _ hk => hk.2) (.int .i64 bP)) (fun _ hk => hk.2) (.int .i64 bQ)) (fun _ hk => hk.2) (.slice bU bA.length bW)) (fun _ h_ => h_.1))) hb) (o2_ (Kd.R_elder' (by (with_reducible repeat (first | apply Kd.R_alloc | apply Kd.R_drewN | apply Kd.R_drew)); exact (Kd.R_mono (Kd.R_far (p := ⟨aM, 2, none⟩) (Kd.R_far (p := ⟨aM, 1, none⟩) (Kd.R_far (p := ⟨aM, 0, none⟩) (Kd.R_types aW.out aC.out oD) (fun _ hk => hk.2) (.int .i64 bP)) (fun _ hk => hk.2) (.int .i64 bQ)) (fun _ hk => hk.2) (.slice bU bA.length bW)) (fun _ h_ => h_.1))) (Kd.R_base ho0) hb) (o2_ (Kd.R_lower (Kd.R_new' (Kd.R_new' ho0 (Kd.Q_lt (by (with_reducible repeat (first | apply Kd.Q_alloc | apply Kd.Q_drewN | apply Kd.Q_drew)); exact (Kd.Q_mono (Kd.Q_far (p := ⟨aM, 2, none⟩) (Kd.Q_far (p := ⟨aM, 1, none⟩) (Kd.Q_far (p := ⟨aM, 0, none⟩) (Kd.Q_types aJ.out aC.out oD) (fun _ hk => hk.2) (.int .i64 bP)) (fun _ hk => hk.2) (.int .i64 bQ)) (fun _ hk => hk.2) (.slice bU bA.length bW)) (fun _ h_ => h_.1))))) (Kd.R_lt (by (with_reducible repeat (first | apply Kd.R_alloc | apply Kd.R_drewN | apply Kd.R_drew)); exact (Kd.R_mono (Kd.R_far (p := ⟨aM, 2, none⟩) (Kd.R_far (p := ⟨aM, 1, none⟩) (Kd.R_far (p := ⟨aM, 0, none⟩) (Kd.R_types aW.out aC.out oD) (fun _ hk => hk.2) (.int .i64 bP)) (fun _ hk => hk.2) (.int .i64 bQ)) (fun _ hk => hk.2) (.slice bU bA.length bW)) (fun _ h_ => h_.1))))) (below_size (oB HB))) (o2_ (blk_below (oP aA) hb) (o2_ (blk_below (g := aM) (o := .cells #[.int .i64 bP, .int .i64 bQ, .slice bU bA.length bW] 25 (0, 0)) (blk_put (blk_put (blk_put aC.out 0 _ rfl) 1 _ rfl) 2 _ rfl) hb) (o1_ (below_step (oB HB) hb)))))))); clear aJ aN aQ aW aA aC HB; obtain ⟨aJ, aN, aQ, aW, bE, aA, aC, HB⟩ := n_; (try clear hb); (try clear hb2); (try clear hk); (try clear hi); (try clear ho0)) | ((with_reducible refine gate_dst (N := 10) rfl ?_); (try (refine gate_guard (by rfl) ?_; dsimp only)); refine box_event rfl (N := 10) rfl (cs := #[.int .i64 0, .int .i64 0, .slice none 0 0]) (t := 25) oS ?_; intro aH hg hH hbox hb; have n_ := o2_ (Kd.Q_below (oQ aJ) hb) (o2_ (Kd.R_below (oR aN) hb) (o2_ (Kd.R_below (oR aQ) hb) (o2_ (Kd.R_below (oR aW) hb) (o2_ (Kd.R_below (oR bE) hb) (o2_ (blk_below (oP aA) hb) (o2_ (blk_below (oP aC) hb) (o2_ (below_step (oB HB) hb) (o2_ (hbox) (o2_ ((oG hg (below_size (oB HB)) : w.heap.size ≤ aH)) (o2_ ((oG hg (below_size (oB HB)) : w.heap.size ≤ aH)) (o2_ ((oL hg (blk_lt (oP aA)))) (o2_ ((oN hg (blk_lt (oP aA)))) (o2_ ((oL hg (blk_lt (oP aC)))) (o1_ ((oN hg (blk_lt (oP aC)))))))))))))))))); clear aJ aN aQ aW bE aA aC HB; obtain ⟨aJ, aN, aQ, aW, bE, aA, aC, HB, aE, mW, mQ, bX, bY, cB, cC⟩ := n_; clear hb hbox hg; have qO := bY.out; have rF := bX.out; have qP := cC.out; have rG := cB.out; have eW : hH.cell? ⟨aH, 0, none⟩ = some (.int .i64 0) := (blk_cell aE.out 0).trans rfl; have eX : hH.cell? ⟨aH, 1, none⟩ = some (.int .i64 0) := (blk_cell aE.out 1).trans rfl; have eY : hH.cell? ⟨aH, 2, none⟩ = some (.slice none 0 0) := (blk_cell aE.out 2).trans rfl; have gD := blk_frozen aE.out 0; have gE := blk_frozen aE.out 1; have gF := blk_frozen aE.out 2; obtain ⟨bJ, bK, nM⟩ := Kd.R_slice bE.out; subst nM))
    (try simp only [Act.put, List.setIfInBounds_toArray, List.set_cons_zero, List.set_cons_succ])
    go_cut [57] (fun tB wc => ∃ (kq : Nat) (dG : Bool), tB = .bool dG ∧ Aside0 (laws_FnRasBytes.j1 kq cD aV hB dG bH bI aU bP bQ bA = some r) ∧ Aside0 (kq ≤ kj2) ∧ Aside0 (Kd.R (Kd.int .u8) 5 wc w.heap.size (fun k_ => some k_ ≠ (hF : Value).ownBlock) (.slice hS cD.length hM) cD) ∧ Aside0 (Kd.R (Kd.int .u8) 5 wc w.heap.size (fun k_ => some k_ ≠ ((.slice hS cD.length hM) : Value).ownBlock) hF aV) ∧ Aside0 (Kd.Q k38 38 wc w.heap.size (fun k_ => some k_ ≠ ((.slice bU bA.length bW) : Value).ownBlock ∧ some k_ ≠ ((.slice bJ aT.length bK) : Value).ownBlock) (.slice bZ aU.length bT) aU) ∧ Aside0 (Kd.Q k38 38 wc w.heap.size (fun k_ => some k_ ≠ ((.slice bZ aU.length bT) : Value).ownBlock ∧ some k_ ≠ ((.slice bJ aT.length bK) : Value).ownBlock) (.slice bU bA.length bW) bA) ∧ Aside0 (Kd.Q k38 38 wc w.heap.size (fun k_ => some k_ ≠ ((.slice bZ aU.length bT) : Value).ownBlock ∧ some k_ ≠ ((.slice bU bA.length bW) : Value).ownBlock) (.slice bJ aT.length bK) aT) ∧ Aside0 (wc.heap[aX]? = some (.cells #[.int .i64 bH, .int .i64 bI, (.slice bZ aU.length bT)] 25 (0, 0))) ∧ Aside0 (wc.heap[aM]? = some (.cells #[.int .i64 bP, .int .i64 bQ, (.slice bU bA.length bW)] 25 (0, 0))) ∧ Aside0 (wc.heap[aH]? = some (.cells #[.int .i64 bF, .int .i64 bG, (.slice bJ aT.length bK)] 25 (0, 0))) ∧ Aside0 (Below w.heap.size w wc))
    case first =>
     have H := iQ.out
     clear iQ
     replace H := Option.bind_eq_some_iff.mp H
     obtain ⟨cP, jE, H⟩ := H
     (try dsimp only at H)
     have mF := Aside0.mk jE
     clear jE
     replace H := Option.bind_eq_some_iff.mp H
     obtain ⟨hN, jF, H⟩ := H
     (try dsimp only at H)
     have mG := Aside0.mk jF
     clear jF
     by_cases iZ : hN = true
     ·subst iZ
      rw [if_pos rfl] at H
      replace H := Option.bind_eq_some_iff.mp H
      obtain ⟨hO, jG, H⟩ := H
      (try dsimp only at H)
      have qB := Aside0.mk jG
      clear jG
      by_cases jA : hO = true
      ·subst jA
       rw [if_pos rfl] at H
       have H' := Aside0.mk H
       clear H
       have qQ := bL.out
       have rH := bM.out
       have qR := bX.out
       have rI := bY.out
       have eZ : hH.cell? ⟨aX, 0, none⟩ = some (.int .i64 bH) := (blk_cell aA.out 0).trans rfl
       have fA : hH.cell? ⟨aX, 1, none⟩ = some (.int .i64 bI) := (blk_cell aA.out 1).trans rfl
       have fB : hH.cell? ⟨aX, 2, none⟩ = some (.slice bZ aU.length bT) := (blk_cell aA.out 2).trans rfl
       have gG := blk_frozen aA.out 0
       have gH := blk_frozen aA.out 1
       have gI := blk_frozen aA.out 2
       go_wp2_with (first | ((with_reducible refine gate_callee (f := 43) rfl ?_); refine goesL_ (some 44) rfl rfl Try.func43 oK rfl #[.agg #[.int .i64 bH, .int .i64 bI, .slice bZ aU.length bT]] rfl oA ?_; (with_reducible refine (spec_RasBytes.calls kj2 bH bI _ _ aU cP _ ?side1 ?side2 mF.out).mono ?_); (case side1 => refine (Kd.Q_reads' (e := 38) (base := w.heap.size) (ok := fun k_ => ((True ∧ some k_ ≠ (.slice bU bA.length bW : Value).ownBlock) ∧ some k_ ≠ (.slice bJ aT.length bK : Value).ownBlock)) (n := aU.length) (c := bT) ?_).2.2; exact (by (with_reducible repeat (first | apply Kd.Q_alloc | apply Kd.Q_drewN | apply Kd.Q_drew)); exact (Kd.Q_mono (Kd.Q_far (p := ⟨aH, 2, none⟩) (Kd.Q_far (p := ⟨aH, 1, none⟩) (Kd.Q_far (p := ⟨aH, 0, none⟩) (Kd.Q_types aJ.out aE.out oD) (fun _ hk => hk.2) (.int .i64 bF)) (fun _ hk => hk.2) (.int .i64 bG)) (fun _ hk => hk.2) (.slice bJ aT.length bK)) (fun _ h_ => h_.1)))); (case side2 => exact (Kd.Q_reads' aJ.out).2.1); rintro e jB ⟨iP, rfl, ho0, hb⟩; refine ⟨_, rfl, ?_⟩; have n_ := o2_ (Kd.Q_below (by (with_reducible repeat (first | apply Kd.Q_alloc | apply Kd.Q_drewN | apply Kd.Q_drew)); exact (Kd.Q_mono (Kd.Q_far (p := ⟨aH, 2, none⟩) (Kd.Q_far (p := ⟨aH, 1, none⟩) (Kd.Q_far (p := ⟨aH, 0, none⟩) (Kd.Q_types aJ.out aE.out oD) (fun _ hk => hk.2) (.int .i64 bF)) (fun _ hk => hk.2) (.int .i64 bG)) (fun _ hk => hk.2) (.slice bJ aT.length bK)) (fun _ h_ => h_.1))) hb) (o2_ (Kd.R_elder' (by (with_reducible repeat (first | apply Kd.R_alloc | apply Kd.R_drewN | apply Kd.R_drew)); exact (Kd.R_mono (Kd.R_far (p := ⟨aH, 2, none⟩) (Kd.R_far (p := ⟨aH, 1, none⟩) (Kd.R_far (p := ⟨aH, 0, none⟩) (Kd.R_types aN.out aE.out oD) (fun _ hk => hk.2) (.int .i64 bF)) (fun _ hk => hk.2) (.int .i64 bG)) (fun _ hk => hk.2) (.slice bJ aT.length bK)) (fun _ h_ => h_.1))) (Kd.R_base ho0) hb) (o2_ (Kd.R_elder' (by (with_reducible repeat (first | apply Kd.R_alloc | apply Kd.R_drewN | apply Kd.R_drew)); exact (Kd.R_mono (Kd.R_far (p := ⟨aH, 2, none⟩) (Kd.R_far (p := ⟨aH, 1, none⟩) (Kd.R_far (p := ⟨aH, 0, none⟩) (Kd.R_types aQ.out aE.out oD) (fun _ hk => hk.2) (.int .i64 bF)) (fun _ hk => hk.2) (.int .i64 bG)) (fun _ hk => hk.2) (.slice bJ aT.length bK)) (fun _ h_ => h_.1))) (Kd.R_base ho0) hb) (o2_ (Kd.R_below (by (with_reducible repeat (first | apply Kd.R_alloc | apply Kd.R_drewN | apply Kd.R_drew)); exact (Kd.R_mono (Kd.R_far (p := ⟨aH, 2, none⟩) (Kd.R_far (p := ⟨aH, 1, none⟩) (Kd.R_far (p := ⟨aH, 0, none⟩) (Kd.R_types aW.out aE.out oD) (fun _ hk => hk.2) (.int .i64 bF)) (fun _ hk => hk.2) (.int .i64 bG)) (fun _ hk => hk.2) (.slice bJ aT.length bK)) (fun _ h_ => h_.1))) hb) (o2_ (Kd.R_below (by (with_reducible repeat (first | apply Kd.R_alloc | apply Kd.R_drewN | apply Kd.R_drew)); exact (Kd.R_mono (Kd.R_far (p := ⟨aH, 2, none⟩) (Kd.R_far (p := ⟨aH, 1, none⟩) (Kd.R_far (p := ⟨aH, 0, none⟩) (Kd.R_types bE.out aE.out oD) (fun _ hk => hk.2) (.int .i64 bF)) (fun _ hk => hk.2) (.int .i64 bG)) (fun _ hk => hk.2) (.slice bJ aT.length bK)) (fun _ h_ => h_.1))) hb) (o2_ (Kd.R_lower (Kd.R_new' (Kd.R_new' ho0 (Kd.R_lt (by (with_reducible repeat (first | apply Kd.R_alloc | apply Kd.R_drewN | apply Kd.R_drew)); exact (Kd.R_mono (Kd.R_far (p := ⟨aH, 2, none⟩) (Kd.R_far (p := ⟨aH, 1, none⟩) (Kd.R_far (p := ⟨aH, 0, none⟩) (Kd.R_types aN.out aE.out oD) (fun _ hk => hk.2) (.int .i64 bF)) (fun _ hk => hk.2) (.int .i64 bG)) (fun _ hk => hk.2) (.slice bJ aT.length bK)) (fun _ h_ => h_.1))))) (Kd.R_lt (by (with_reducible repeat (first | apply Kd.R_alloc | apply Kd.R_drewN | apply Kd.R_drew)); exact (Kd.R_mono (Kd.R_far (p := ⟨aH, 2, none⟩) (Kd.R_far (p := ⟨aH, 1, none⟩) (Kd.R_far (p := ⟨aH, 0, none⟩) (Kd.R_types aQ.out aE.out oD) (fun _ hk => hk.2) (.int .i64 bF)) (fun _ hk => hk.2) (.int .i64 bG)) (fun _ hk => hk.2) (.slice bJ aT.length bK)) (fun _ h_ => h_.1))))) (below_size (oB HB))) (o2_ (blk_below (oP aA) hb) (o2_ (blk_below (oP aC) hb) (o2_ (blk_below (g := aH) (o := .cells #[.int .i64 bF, .int .i64 bG, .slice bJ aT.length bK] 25 (0, 0)) (blk_put (blk_put (blk_put aE.out 0 _ rfl) 1 _ rfl) 2 _ rfl) hb) (o1_ (below_step (oB HB) hb)))))))))); clear aJ aN aQ aW bE aA aC aE HB; obtain ⟨aJ, aN, aQ, aW, bE, bN, aA, aC, aE, HB⟩ := n_; (try clear hb); (try clear hb2); (try clear hk); (try clear hi); (try clear ho0); obtain ⟨mI, nD, nN⟩ := Kd.R_slice aQ.out; subst nN; obtain ⟨mJ, nE, nO⟩ := Kd.R_slice bN.out; subst nO) | ((with_reducible refine gate_callee (f := 42) rfl ?_); refine goesL_ (some 45) rfl rfl Try.func42 oK rfl #[.slice mI aV.length nD, .slice mJ cP.length nE] rfl oA ?_; (with_reducible refine (laws_eaBytes.calls _ _ aV _ _ cP true _ ?side1 ?side2 ?side3 ?side4 mG.out).mono ?_); (case side1 => repeat (first | exact (Kd.R_reads' aQ.out).2.2 | (with_reducible refine Kd.C_alloc ?_ _) | (with_reducible refine Kd.C_drewN ?_ _) | (with_reducible refine Kd.C_drew ?_))); (case side2 => exact (Kd.R_reads' aQ.out).2.1); (case side3 => repeat (first | exact (Kd.R_reads' bN.out).2.2 | (with_reducible refine Kd.C_alloc ?_ _) | (with_reducible refine Kd.C_drewN ?_ _) | (with_reducible refine Kd.C_drew ?_))); (case side4 => exact (Kd.R_reads' bN.out).2.1); rintro e w' ⟨rfl, ⟨nd, rfl⟩⟩; refine ⟨_, rfl, ?_⟩; have qS := cB.out; have rJ := cC.out; have fC : jB.cell? ⟨aM, 0, none⟩ = some (.int .i64 bP) := (blk_cell aC.out 0).trans rfl; have fD : jB.cell? ⟨aM, 1, none⟩ = some (.int .i64 bQ) := (blk_cell aC.out 1).trans rfl; have fE : jB.cell? ⟨aM, 2, none⟩ = some (.slice bU bA.length bW) := (blk_cell aC.out 2).trans rfl; have gJ := blk_frozen aC.out 0; have gK := blk_frozen aC.out 1; have gL := blk_frozen aC.out 2; have fF : jB.cell? ⟨aH, 0, none⟩ = some (.int .i64 bF) := (blk_cell aE.out 0).trans rfl; have fG : jB.cell? ⟨aH, 1, none⟩ = some (.int .i64 bG) := (blk_cell aE.out 1).trans rfl; have fH : jB.cell? ⟨aH, 2, none⟩ = some (.slice bJ aT.length bK) := (blk_cell aE.out 2).trans rfl; have gM := blk_frozen aE.out 0; have gN := blk_frozen aE.out 1; have gO := blk_frozen aE.out 2) | (go_at_call 21; (with_reducible refine (laws_eaRas.calls kj2 bP bQ _ _ bA bF bG _ _ aT true _ ?side1 ?side2 ?side3 ?side4 qB.out).mono ?_); (case side1 => repeat (first | exact (Kd.R_reads' aW.out).2.2 | (with_reducible refine Kd.C_alloc ?_ _) | (with_reducible refine Kd.C_drewN ?_ _) | (with_reducible refine Kd.C_drew ?_))); (case side2 => exact (Kd.R_reads' aW.out).2.1); (case side3 => repeat (first | exact (Kd.R_reads' bE.out).2.2 | (with_reducible refine Kd.C_alloc ?_ _) | (with_reducible refine Kd.C_drewN ?_ _) | (with_reducible refine Kd.C_drew ?_))); (case side4 => exact (Kd.R_reads' bE.out).2.1); rintro e tQ ⟨rfl, hb⟩; have n_ := o2_ (Kd.Q_below (oQ aJ) hb) (o2_ (Kd.R_below (oR aN) hb) (o2_ (Kd.R_below (oR aQ) hb) (o2_ (Kd.R_below (oR aW) hb) (o2_ (Kd.R_below (oR bE) hb) (o2_ (Kd.R_below (oR bN) hb) (o2_ (blk_below (oP aA) hb) (o2_ (blk_below (oP aC) hb) (o2_ (blk_below (oP aE) hb) (o1_ (below_step (oB HB) hb)))))))))); clear aJ aN aQ aW bE bN aA aC aE HB; obtain ⟨aJ, aN, aQ, aW, bE, bN, aA, aC, aE, HB⟩ := n_; (try clear hb); (try clear hb2); (try clear hk); (try clear hi)))
       go_meet
       case rel => exact ⟨_, ((hB != iO)), oU, H', ⟨(by have := iY.out; first | omega | exact Nat.le_refl _)⟩, ⟨(by (with_reducible repeat (first | apply Kd.R_alloc | apply Kd.R_drewN | apply Kd.R_drew)); exact Kd.R_mono aN.out (fun _ hk => hk.1.2))⟩, ⟨(by (with_reducible repeat (first | apply Kd.R_alloc | apply Kd.R_drewN | apply Kd.R_drew)); exact Kd.R_mono aQ.out (fun _ hk => hk.1.2))⟩, ⟨(by (with_reducible repeat (first | apply Kd.Q_alloc | apply Kd.Q_drewN | apply Kd.Q_drew)); exact Kd.Q_mono aJ.out (fun _ hk => ⟨hk.1.2, hk.2⟩))⟩, ⟨Kd.Q_of_R (by (with_reducible repeat (first | apply Kd.R_alloc | apply Kd.R_drewN | apply Kd.R_drew)); exact Kd.R_mono aW.out (fun _ hk => ⟨hk.1.2, hk.2⟩))⟩, ⟨Kd.Q_of_R (by (with_reducible repeat (first | apply Kd.R_alloc | apply Kd.R_drewN | apply Kd.R_drew)); exact Kd.R_mono bE.out (fun _ hk => ⟨hk.1.2, hk.2⟩))⟩, ⟨(oP aA)⟩, ⟨(oP aC)⟩, ⟨(oP aE)⟩, ⟨(oB HB)⟩⟩
      ·replace jA := Bool.eq_false_iff.mpr jA
       subst jA
       rw [if_neg (show ¬ (false = true) by decide)] at H
       have H' := Aside0.mk H
       clear H
       have qT := bL.out
       have rK := bM.out
       have qU := bX.out
       have rL := bY.out
       have fI : hH.cell? ⟨aX, 0, none⟩ = some (.int .i64 bH) := (blk_cell aA.out 0).trans rfl
       have fJ : hH.cell? ⟨aX, 1, none⟩ = some (.int .i64 bI) := (blk_cell aA.out 1).trans rfl
       have fK : hH.cell? ⟨aX, 2, none⟩ = some (.slice bZ aU.length bT) := (blk_cell aA.out 2).trans rfl
       have gP := blk_frozen aA.out 0
       have gQ := blk_frozen aA.out 1
       have gR := blk_frozen aA.out 2
       go_wp2_with (first | ((with_reducible refine gate_callee (f := 43) rfl ?_); refine goesL_ (some 44) rfl rfl Try.func43 oK rfl #[.agg #[.int .i64 bH, .int .i64 bI, .slice bZ aU.length bT]] rfl oA ?_; (with_reducible refine (spec_RasBytes.calls kj2 bH bI _ _ aU cP _ ?side1 ?side2 mF.out).mono ?_); (case side1 => refine (Kd.Q_reads' (e := 38) (base := w.heap.size) (ok := fun k_ => ((True ∧ some k_ ≠ (.slice bU bA.length bW : Value).ownBlock) ∧ some k_ ≠ (.slice bJ aT.length bK : Value).ownBlock)) (n := aU.length) (c := bT) ?_).2.2; exact (by (with_reducible repeat (first | apply Kd.Q_alloc | apply Kd.Q_drewN | apply Kd.Q_drew)); exact (Kd.Q_mono (Kd.Q_far (p := ⟨aH, 2, none⟩) (Kd.Q_far (p := ⟨aH, 1, none⟩) (Kd.Q_far (p := ⟨aH, 0, none⟩) (Kd.Q_types aJ.out aE.out oD) (fun _ hk => hk.2) (.int .i64 bF)) (fun _ hk => hk.2) (.int .i64 bG)) (fun _ hk => hk.2) (.slice bJ aT.length bK)) (fun _ h_ => h_.1)))); (case side2 => exact (Kd.Q_reads' aJ.out).2.1); rintro e jC ⟨iP, rfl, ho0, hb⟩; refine ⟨_, rfl, ?_⟩; have n_ := o2_ (Kd.Q_below (by (with_reducible repeat (first | apply Kd.Q_alloc | apply Kd.Q_drewN | apply Kd.Q_drew)); exact (Kd.Q_mono (Kd.Q_far (p := ⟨aH, 2, none⟩) (Kd.Q_far (p := ⟨aH, 1, none⟩) (Kd.Q_far (p := ⟨aH, 0, none⟩) (Kd.Q_types aJ.out aE.out oD) (fun _ hk => hk.2) (.int .i64 bF)) (fun _ hk => hk.2) (.int .i64 bG)) (fun _ hk => hk.2) (.slice bJ aT.length bK)) (fun _ h_ => h_.1))) hb) (o2_ (Kd.R_elder' (by (with_reducible repeat (first | apply Kd.R_alloc | apply Kd.R_drewN | apply Kd.R_drew)); exact (Kd.R_mono (Kd.R_far (p := ⟨aH, 2, none⟩) (Kd.R_far (p := ⟨aH, 1, none⟩) (Kd.R_far (p := ⟨aH, 0, none⟩) (Kd.R_types aN.out aE.out oD) (fun _ hk => hk.2) (.int .i64 bF)) (fun _ hk => hk.2) (.int .i64 bG)) (fun _ hk => hk.2) (.slice bJ aT.length bK)) (fun _ h_ => h_.1))) (Kd.R_base ho0) hb) (o2_ (Kd.R_elder' (by (with_reducible repeat (first | apply Kd.R_alloc | apply Kd.R_drewN | apply Kd.R_drew)); exact (Kd.R_mono (Kd.R_far (p := ⟨aH, 2, none⟩) (Kd.R_far (p := ⟨aH, 1, none⟩) (Kd.R_far (p := ⟨aH, 0, none⟩) (Kd.R_types aQ.out aE.out oD) (fun _ hk => hk.2) (.int .i64 bF)) (fun _ hk => hk.2) (.int .i64 bG)) (fun _ hk => hk.2) (.slice bJ aT.length bK)) (fun _ h_ => h_.1))) (Kd.R_base ho0) hb) (o2_ (Kd.R_below (by (with_reducible repeat (first | apply Kd.R_alloc | apply Kd.R_drewN | apply Kd.R_drew)); exact (Kd.R_mono (Kd.R_far (p := ⟨aH, 2, none⟩) (Kd.R_far (p := ⟨aH, 1, none⟩) (Kd.R_far (p := ⟨aH, 0, none⟩) (Kd.R_types aW.out aE.out oD) (fun _ hk => hk.2) (.int .i64 bF)) (fun _ hk => hk.2) (.int .i64 bG)) (fun _ hk => hk.2) (.slice bJ aT.length bK)) (fun _ h_ => h_.1))) hb) (o2_ (Kd.R_below (by (with_reducible repeat (first | apply Kd.R_alloc | apply Kd.R_drewN | apply Kd.R_drew)); exact (Kd.R_mono (Kd.R_far (p := ⟨aH, 2, none⟩) (Kd.R_far (p := ⟨aH, 1, none⟩) (Kd.R_far (p := ⟨aH, 0, none⟩) (Kd.R_types bE.out aE.out oD) (fun _ hk => hk.2) (.int .i64 bF)) (fun _ hk => hk.2) (.int .i64 bG)) (fun _ hk => hk.2) (.slice bJ aT.length bK)) (fun _ h_ => h_.1))) hb) (o2_ (Kd.R_lower (Kd.R_new' (Kd.R_new' ho0 (Kd.R_lt (by (with_reducible repeat (first | apply Kd.R_alloc | apply Kd.R_drewN | apply Kd.R_drew)); exact (Kd.R_mono (Kd.R_far (p := ⟨aH, 2, none⟩) (Kd.R_far (p := ⟨aH, 1, none⟩) (Kd.R_far (p := ⟨aH, 0, none⟩) (Kd.R_types aN.out aE.out oD) (fun _ hk => hk.2) (.int .i64 bF)) (fun _ hk => hk.2) (.int .i64 bG)) (fun _ hk => hk.2) (.slice bJ aT.length bK)) (fun _ h_ => h_.1))))) (Kd.R_lt (by (with_reducible repeat (first | apply Kd.R_alloc | apply Kd.R_drewN | apply Kd.R_drew)); exact (Kd.R_mono (Kd.R_far (p := ⟨aH, 2, none⟩) (Kd.R_far (p := ⟨aH, 1, none⟩) (Kd.R_far (p := ⟨aH, 0, none⟩) (Kd.R_types aQ.out aE.out oD) (fun _ hk => hk.2) (.int .i64 bF)) (fun _ hk => hk.2) (.int .i64 bG)) (fun _ hk => hk.2) (.slice bJ aT.length bK)) (fun _ h_ => h_.1))))) (below_size (oB HB))) (o2_ (blk_below (oP aA) hb) (o2_ (blk_below (oP aC) hb) (o2_ (blk_below (g := aH) (o := .cells #[.int .i64 bF, .int .i64 bG, .slice bJ aT.length bK] 25 (0, 0)) (blk_put (blk_put (blk_put aE.out 0 _ rfl) 1 _ rfl) 2 _ rfl) hb) (o1_ (below_step (oB HB) hb)))))))))); clear aJ aN aQ aW bE aA aC aE HB; obtain ⟨aJ, aN, aQ, aW, bE, bN, aA, aC, aE, HB⟩ := n_; (try clear hb); (try clear hb2); (try clear hk); (try clear hi); (try clear ho0); obtain ⟨mK, nF, nP⟩ := Kd.R_slice aQ.out; subst nP; obtain ⟨mL, nG, nQ⟩ := Kd.R_slice bN.out; subst nQ) | ((with_reducible refine gate_callee (f := 42) rfl ?_); refine goesL_ (some 45) rfl rfl Try.func42 oK rfl #[.slice mK aV.length nF, .slice mL cP.length nG] rfl oA ?_; (with_reducible refine (laws_eaBytes.calls _ _ aV _ _ cP true _ ?side1 ?side2 ?side3 ?side4 mG.out).mono ?_); (case side1 => repeat (first | exact (Kd.R_reads' aQ.out).2.2 | (with_reducible refine Kd.C_alloc ?_ _) | (with_reducible refine Kd.C_drewN ?_ _) | (with_reducible refine Kd.C_drew ?_))); (case side2 => exact (Kd.R_reads' aQ.out).2.1); (case side3 => repeat (first | exact (Kd.R_reads' bN.out).2.2 | (with_reducible refine Kd.C_alloc ?_ _) | (with_reducible refine Kd.C_drewN ?_ _) | (with_reducible refine Kd.C_drew ?_))); (case side4 => exact (Kd.R_reads' bN.out).2.1); rintro e w' ⟨rfl, ⟨nd, rfl⟩⟩; refine ⟨_, rfl, ?_⟩; have qV := cB.out; have rM := cC.out; have fL : jC.cell? ⟨aM, 0, none⟩ = some (.int .i64 bP) := (blk_cell aC.out 0).trans rfl; have fM : jC.cell? ⟨aM, 1, none⟩ = some (.int .i64 bQ) := (blk_cell aC.out 1).trans rfl; have fN : jC.cell? ⟨aM, 2, none⟩ = some (.slice bU bA.length bW) := (blk_cell aC.out 2).trans rfl; have gS := blk_frozen aC.out 0; have gT := blk_frozen aC.out 1; have gU := blk_frozen aC.out 2; have fO : jC.cell? ⟨aH, 0, none⟩ = some (.int .i64 bF) := (blk_cell aE.out 0).trans rfl; have fP : jC.cell? ⟨aH, 1, none⟩ = some (.int .i64 bG) := (blk_cell aE.out 1).trans rfl; have fQ : jC.cell? ⟨aH, 2, none⟩ = some (.slice bJ aT.length bK) := (blk_cell aE.out 2).trans rfl; have gV := blk_frozen aE.out 0; have gW := blk_frozen aE.out 1; have gX := blk_frozen aE.out 2) | (go_at_call 21; (with_reducible refine (laws_eaRas.calls kj2 bP bQ _ _ bA bF bG _ _ aT false _ ?side1 ?side2 ?side3 ?side4 qB.out).mono ?_); (case side1 => repeat (first | exact (Kd.R_reads' aW.out).2.2 | (with_reducible refine Kd.C_alloc ?_ _) | (with_reducible refine Kd.C_drewN ?_ _) | (with_reducible refine Kd.C_drew ?_))); (case side2 => exact (Kd.R_reads' aW.out).2.1); (case side3 => repeat (first | exact (Kd.R_reads' bE.out).2.2 | (with_reducible refine Kd.C_alloc ?_ _) | (with_reducible refine Kd.C_drewN ?_ _) | (with_reducible refine Kd.C_drew ?_))); (case side4 => exact (Kd.R_reads' bE.out).2.1); rintro e tR ⟨rfl, hb⟩; have n_ := o2_ (Kd.Q_below (oQ aJ) hb) (o2_ (Kd.R_below (oR aN) hb) (o2_ (Kd.R_below (oR aQ) hb) (o2_ (Kd.R_below (oR aW) hb) (o2_ (Kd.R_below (oR bE) hb) (o2_ (Kd.R_below (oR bN) hb) (o2_ (blk_below (oP aA) hb) (o2_ (blk_below (oP aC) hb) (o2_ (blk_below (oP aE) hb) (o1_ (below_step (oB HB) hb)))))))))); clear aJ aN aQ aW bE bN aA aC aE HB; obtain ⟨aJ, aN, aQ, aW, bE, bN, aA, aC, aE, HB⟩ := n_; (try clear hb); (try clear hb2); (try clear hk); (try clear hi)))
       go_meet
       case rel => exact ⟨_, (true), oU, H', ⟨(by have := iY.out; first | omega | exact Nat.le_refl _)⟩, ⟨(by (with_reducible repeat (first | apply Kd.R_alloc | apply Kd.R_drewN | apply Kd.R_drew)); exact Kd.R_mono aN.out (fun _ hk => hk.1.2))⟩, ⟨(by (with_reducible repeat (first | apply Kd.R_alloc | apply Kd.R_drewN | apply Kd.R_drew)); exact Kd.R_mono aQ.out (fun _ hk => hk.1.2))⟩, ⟨(by (with_reducible repeat (first | apply Kd.Q_alloc | apply Kd.Q_drewN | apply Kd.Q_drew)); exact Kd.Q_mono aJ.out (fun _ hk => ⟨hk.1.2, hk.2⟩))⟩, ⟨Kd.Q_of_R (by (with_reducible repeat (first | apply Kd.R_alloc | apply Kd.R_drewN | apply Kd.R_drew)); exact Kd.R_mono aW.out (fun _ hk => ⟨hk.1.2, hk.2⟩))⟩, ⟨Kd.Q_of_R (by (with_reducible repeat (first | apply Kd.R_alloc | apply Kd.R_drewN | apply Kd.R_drew)); exact Kd.R_mono bE.out (fun _ hk => ⟨hk.1.2, hk.2⟩))⟩, ⟨(oP aA)⟩, ⟨(oP aC)⟩, ⟨(oP aE)⟩, ⟨(oB HB)⟩⟩
     ·replace iZ := Bool.eq_false_iff.mpr iZ
      subst iZ
      rw [if_neg (show ¬ (false = true) by decide)] at H
      have H' := Aside0.mk H
      clear H
      have qW := bL.out
      have rN := bM.out
      have qX := bX.out
      have rO := bY.out
      have fR : hH.cell? ⟨aX, 0, none⟩ = some (.int .i64 bH) := (blk_cell aA.out 0).trans rfl
      have fS : hH.cell? ⟨aX, 1, none⟩ = some (.int .i64 bI) := (blk_cell aA.out 1).trans rfl
      have fT : hH.cell? ⟨aX, 2, none⟩ = some (.slice bZ aU.length bT) := (blk_cell aA.out 2).trans rfl
      have gY := blk_frozen aA.out 0
      have gZ := blk_frozen aA.out 1
      have hA := blk_frozen aA.out 2
      go_wp2_with (first | ((with_reducible refine gate_callee (f := 43) rfl ?_); refine goesL_ (some 44) rfl rfl Try.func43 oK rfl #[.agg #[.int .i64 bH, .int .i64 bI, .slice bZ aU.length bT]] rfl oA ?_; (with_reducible refine (spec_RasBytes.calls kj2 bH bI _ _ aU cP _ ?side1 ?side2 mF.out).mono ?_); (case side1 => refine (Kd.Q_reads' (e := 38) (base := w.heap.size) (ok := fun k_ => ((True ∧ some k_ ≠ (.slice bU bA.length bW : Value).ownBlock) ∧ some k_ ≠ (.slice bJ aT.length bK : Value).ownBlock)) (n := aU.length) (c := bT) ?_).2.2; exact (by (with_reducible repeat (first | apply Kd.Q_alloc | apply Kd.Q_drewN | apply Kd.Q_drew)); exact (Kd.Q_mono (Kd.Q_far (p := ⟨aH, 2, none⟩) (Kd.Q_far (p := ⟨aH, 1, none⟩) (Kd.Q_far (p := ⟨aH, 0, none⟩) (Kd.Q_types aJ.out aE.out oD) (fun _ hk => hk.2) (.int .i64 bF)) (fun _ hk => hk.2) (.int .i64 bG)) (fun _ hk => hk.2) (.slice bJ aT.length bK)) (fun _ h_ => h_.1)))); (case side2 => exact (Kd.Q_reads' aJ.out).2.1); rintro e tS ⟨iP, rfl, ho0, hb⟩; refine ⟨_, rfl, ?_⟩; have n_ := o2_ (Kd.Q_below (by (with_reducible repeat (first | apply Kd.Q_alloc | apply Kd.Q_drewN | apply Kd.Q_drew)); exact (Kd.Q_mono (Kd.Q_far (p := ⟨aH, 2, none⟩) (Kd.Q_far (p := ⟨aH, 1, none⟩) (Kd.Q_far (p := ⟨aH, 0, none⟩) (Kd.Q_types aJ.out aE.out oD) (fun _ hk => hk.2) (.int .i64 bF)) (fun _ hk => hk.2) (.int .i64 bG)) (fun _ hk => hk.2) (.slice bJ aT.length bK)) (fun _ h_ => h_.1))) hb) (o2_ (Kd.R_elder' (by (with_reducible repeat (first | apply Kd.R_alloc | apply Kd.R_drewN | apply Kd.R_drew)); exact (Kd.R_mono (Kd.R_far (p := ⟨aH, 2, none⟩) (Kd.R_far (p := ⟨aH, 1, none⟩) (Kd.R_far (p := ⟨aH, 0, none⟩) (Kd.R_types aN.out aE.out oD) (fun _ hk => hk.2) (.int .i64 bF)) (fun _ hk => hk.2) (.int .i64 bG)) (fun _ hk => hk.2) (.slice bJ aT.length bK)) (fun _ h_ => h_.1))) (Kd.R_base ho0) hb) (o2_ (Kd.R_elder' (by (with_reducible repeat (first | apply Kd.R_alloc | apply Kd.R_drewN | apply Kd.R_drew)); exact (Kd.R_mono (Kd.R_far (p := ⟨aH, 2, none⟩) (Kd.R_far (p := ⟨aH, 1, none⟩) (Kd.R_far (p := ⟨aH, 0, none⟩) (Kd.R_types aQ.out aE.out oD) (fun _ hk => hk.2) (.int .i64 bF)) (fun _ hk => hk.2) (.int .i64 bG)) (fun _ hk => hk.2) (.slice bJ aT.length bK)) (fun _ h_ => h_.1))) (Kd.R_base ho0) hb) (o2_ (Kd.R_below (by (with_reducible repeat (first | apply Kd.R_alloc | apply Kd.R_drewN | apply Kd.R_drew)); exact (Kd.R_mono (Kd.R_far (p := ⟨aH, 2, none⟩) (Kd.R_far (p := ⟨aH, 1, none⟩) (Kd.R_far (p := ⟨aH, 0, none⟩) (Kd.R_types aW.out aE.out oD) (fun _ hk => hk.2) (.int .i64 bF)) (fun _ hk => hk.2) (.int .i64 bG)) (fun _ hk => hk.2) (.slice bJ aT.length bK)) (fun _ h_ => h_.1))) hb) (o2_ (Kd.R_below (by (with_reducible repeat (first | apply Kd.R_alloc | apply Kd.R_drewN | apply Kd.R_drew)); exact (Kd.R_mono (Kd.R_far (p := ⟨aH, 2, none⟩) (Kd.R_far (p := ⟨aH, 1, none⟩) (Kd.R_far (p := ⟨aH, 0, none⟩) (Kd.R_types bE.out aE.out oD) (fun _ hk => hk.2) (.int .i64 bF)) (fun _ hk => hk.2) (.int .i64 bG)) (fun _ hk => hk.2) (.slice bJ aT.length bK)) (fun _ h_ => h_.1))) hb) (o2_ (Kd.R_lower (Kd.R_new' (Kd.R_new' ho0 (Kd.R_lt (by (with_reducible repeat (first | apply Kd.R_alloc | apply Kd.R_drewN | apply Kd.R_drew)); exact (Kd.R_mono (Kd.R_far (p := ⟨aH, 2, none⟩) (Kd.R_far (p := ⟨aH, 1, none⟩) (Kd.R_far (p := ⟨aH, 0, none⟩) (Kd.R_types aN.out aE.out oD) (fun _ hk => hk.2) (.int .i64 bF)) (fun _ hk => hk.2) (.int .i64 bG)) (fun _ hk => hk.2) (.slice bJ aT.length bK)) (fun _ h_ => h_.1))))) (Kd.R_lt (by (with_reducible repeat (first | apply Kd.R_alloc | apply Kd.R_drewN | apply Kd.R_drew)); exact (Kd.R_mono (Kd.R_far (p := ⟨aH, 2, none⟩) (Kd.R_far (p := ⟨aH, 1, none⟩) (Kd.R_far (p := ⟨aH, 0, none⟩) (Kd.R_types aQ.out aE.out oD) (fun _ hk => hk.2) (.int .i64 bF)) (fun _ hk => hk.2) (.int .i64 bG)) (fun _ hk => hk.2) (.slice bJ aT.length bK)) (fun _ h_ => h_.1))))) (below_size (oB HB))) (o2_ (blk_below (oP aA) hb) (o2_ (blk_below (oP aC) hb) (o2_ (blk_below (g := aH) (o := .cells #[.int .i64 bF, .int .i64 bG, .slice bJ aT.length bK] 25 (0, 0)) (blk_put (blk_put (blk_put aE.out 0 _ rfl) 1 _ rfl) 2 _ rfl) hb) (o1_ (below_step (oB HB) hb)))))))))); clear aJ aN aQ aW bE aA aC aE HB; obtain ⟨aJ, aN, aQ, aW, bE, bN, aA, aC, aE, HB⟩ := n_; (try clear hb); (try clear hb2); (try clear hk); (try clear hi); (try clear ho0); obtain ⟨mM, nH, nR⟩ := Kd.R_slice aQ.out; subst nR; obtain ⟨mN, nI, nS⟩ := Kd.R_slice bN.out; subst nS) | ((with_reducible refine gate_callee (f := 42) rfl ?_); refine goesL_ (some 45) rfl rfl Try.func42 oK rfl #[.slice mM aV.length nH, .slice mN cP.length nI] rfl oA ?_; (with_reducible refine (laws_eaBytes.calls _ _ aV _ _ cP false _ ?side1 ?side2 ?side3 ?side4 mG.out).mono ?_); (case side1 => repeat (first | exact (Kd.R_reads' aQ.out).2.2 | (with_reducible refine Kd.C_alloc ?_ _) | (with_reducible refine Kd.C_drewN ?_ _) | (with_reducible refine Kd.C_drew ?_))); (case side2 => exact (Kd.R_reads' aQ.out).2.1); (case side3 => repeat (first | exact (Kd.R_reads' bN.out).2.2 | (with_reducible refine Kd.C_alloc ?_ _) | (with_reducible refine Kd.C_drewN ?_ _) | (with_reducible refine Kd.C_drew ?_))); (case side4 => exact (Kd.R_reads' bN.out).2.1); rintro e w' ⟨rfl, ⟨nd, rfl⟩⟩; refine ⟨_, rfl, ?_⟩))
      go_meet
      case rel => exact ⟨_, (true), oU, H', ⟨(by have := iY.out; first | omega | exact Nat.le_refl _)⟩, ⟨(by (with_reducible repeat (first | apply Kd.R_alloc | apply Kd.R_drewN | apply Kd.R_drew)); exact Kd.R_mono aN.out (fun _ hk => hk.1.2))⟩, ⟨(by (with_reducible repeat (first | apply Kd.R_alloc | apply Kd.R_drewN | apply Kd.R_drew)); exact Kd.R_mono aQ.out (fun _ hk => hk.1.2))⟩, ⟨(by (with_reducible repeat (first | apply Kd.Q_alloc | apply Kd.Q_drewN | apply Kd.Q_drew)); exact Kd.Q_mono aJ.out (fun _ hk => ⟨hk.1.2, hk.2⟩))⟩, ⟨Kd.Q_of_R (by (with_reducible repeat (first | apply Kd.R_alloc | apply Kd.R_drewN | apply Kd.R_drew)); exact Kd.R_mono aW.out (fun _ hk => ⟨hk.1.2, hk.2⟩))⟩, ⟨Kd.Q_of_R (by (with_reducible repeat (first | apply Kd.R_alloc | apply Kd.R_drewN | apply Kd.R_drew)); exact Kd.R_mono bE.out (fun _ hk => ⟨hk.1.2, hk.2⟩))⟩, ⟨(oP aA)⟩, ⟨(oP aC)⟩, ⟨(oP aE)⟩, ⟨(oB HB)⟩⟩
    case rest =>
     clear iQ
     try clear c1
     try clear c2
     try clear p2
     try clear c3
     try clear c4
     try clear eG
     try clear hT
     try clear c5
     try clear c17
     try clear c22
     try clear c27
     try clear c28
     try clear c31
     try clear iZ
     try clear jA
     try clear c36
     try clear c37
     try clear c39
     try clear c40
     try clear c41
     try clear c42
     try clear c43
     try clear c46
     try clear c47
     try clear c52
     try clear c56
     try clear c57
     try clear eN
     try clear eO
     try clear eP
     try clear eQ
     try clear eR
     try clear eS
     try clear eT
     try clear eU
     try clear eV
     try clear eW
     try clear eX
     try clear eY
     try clear eZ
     try clear fA
     try clear fB
     try clear fC
     try clear fD
     try clear fE
     try clear fF
     try clear fG
     try clear fH
     try clear fI
     try clear fJ
     try clear fK
     try clear fL
     try clear fM
     try clear fN
     try clear fO
     try clear fP
     try clear fQ
     try clear fR
     try clear fS
     try clear fT
     try clear fU
     try clear fV
     try clear fW
     try clear fX
     try clear fY
     try clear fZ
     try clear gA
     try clear gB
     try clear gC
     try clear gD
     try clear gE
     try clear gF
     try clear gG
     try clear gH
     try clear gI
     try clear gJ
     try clear gK
     try clear gL
     try clear gM
     try clear gN
     try clear gO
     try clear gP
     try clear gQ
     try clear gR
     try clear gS
     try clear gT
     try clear gU
     try clear gV
     try clear gW
     try clear gX
     try clear gY
     try clear gZ
     try clear hA
     try clear p2
     obtain ⟨kq, dG, rfl, HA, iT, dC, aZ, aD, aG, aI, aA, aC, aE, HB⟩ := hcut
     cases kq with
     | zero => exact nomatch (show none = some _ from HA.out)
     | succ kj10 =>
      have H := HA.out
      clear HA
      simp only [laws_FnRasBytes.j1] at H
      by_cases jQ : dG = true
      ·subst jQ
       rw [if_pos rfl] at H
       exact absurd H (by simp)
      ·replace jQ := Bool.eq_false_iff.mpr jQ
       subst jQ
       rw [if_neg (show ¬ (false = true) by decide)] at H
       have iS := Aside0.mk H
       clear H
       go_upto_region 10 with (fail)
       go_cut [70] (fun tC wc => ∃ (kq : Nat) (dH : Bool), tC = .bool dH ∧ Aside0 (laws_FnRasBytes.j2 kq aV dH bH bI aU = some r) ∧ Aside0 (kq ≤ kj10) ∧ Aside0 (Kd.R (Kd.int .u8) 5 wc w.heap.size (fun _ => True) hF aV) ∧ Aside0 (Kd.Q k38 38 wc w.heap.size (fun k_ => some k_ ≠ ((.slice bU bA.length bW) : Value).ownBlock ∧ some k_ ≠ ((.slice bJ aT.length bK) : Value).ownBlock) (.slice bZ aU.length bT) aU) ∧ Aside0 (Kd.Q k38 38 wc w.heap.size (fun k_ => some k_ ≠ ((.slice bZ aU.length bT) : Value).ownBlock ∧ some k_ ≠ ((.slice bJ aT.length bK) : Value).ownBlock) (.slice bU bA.length bW) bA) ∧ Aside0 (Kd.Q k38 38 wc w.heap.size (fun k_ => some k_ ≠ ((.slice bZ aU.length bT) : Value).ownBlock ∧ some k_ ≠ ((.slice bU bA.length bW) : Value).ownBlock) (.slice bJ aT.length bK) aT) ∧ Aside0 (wc.heap[aX]? = some (.cells #[.int .i64 bH, .int .i64 bI, (.slice bZ aU.length bT)] 25 (0, 0))) ∧ Aside0 (wc.heap[aM]? = some (.cells #[.int .i64 bP, .int .i64 bQ, (.slice bU bA.length bW)] 25 (0, 0))) ∧ Aside0 (wc.heap[aH]? = some (.cells #[.int .i64 bF, .int .i64 bG, (.slice bJ aT.length bK)] 25 (0, 0))) ∧ Aside0 (Below w.heap.size w wc))
       case first =>
        have H := iS.out
        clear iS
        by_cases jR : hB = true
        ·subst jR
         rw [if_pos rfl] at H
         replace H := Option.bind_eq_some_iff.mp H
         obtain ⟨hP, jH, H⟩ := H
         (try dsimp only at H)
         have qD := Aside0.mk jH
         clear jH
         by_cases jS : hP = true
         ·subst jS
          rw [if_pos rfl] at H
          replace H := Option.bind_eq_some_iff.mp H
          obtain ⟨hC, jI, H⟩ := H
          (try dsimp only at H)
          have sP := Aside0.mk jI
          clear jI
          replace H := Option.bind_eq_some_iff.mp H
          obtain ⟨hD, jJ, H⟩ := H
          (try dsimp only at H)
          have sQ := Aside0.mk jJ
          clear jJ
          have H' := Aside0.mk H
          clear H
          have qY := bM.out
          have rP := bL.out
          have qZ := cB.out
          have rQ := cC.out
          have hU : wc.cell? ⟨aM, 0, none⟩ = some (.int .i64 bP) := (blk_cell aC.out 0).trans rfl
          have hV : wc.cell? ⟨aM, 1, none⟩ = some (.int .i64 bQ) := (blk_cell aC.out 1).trans rfl
          have hW : wc.cell? ⟨aM, 2, none⟩ = some (.slice bU bA.length bW) := (blk_cell aC.out 2).trans rfl
          have iD := blk_frozen aC.out 0
          have iE := blk_frozen aC.out 1
          have iF := blk_frozen aC.out 2
          go_wp2_with (first | (go_at_call 26; (with_reducible refine (impl_RasOk.calls kj10 bP bQ _ _ bA true _ ?side1 ?side2 qD.out).mono ?_); (case side1 => repeat (first | exact (Kd.Q_reads' aG.out).2.2 | (with_reducible refine Kd.C_alloc ?_ _) | (with_reducible refine Kd.C_drewN ?_ _) | (with_reducible refine Kd.C_drew ?_))); (case side2 => exact (Kd.Q_reads' aG.out).2.1); rintro e qA ⟨rfl, hb⟩; have n_ := o2_ (Kd.R_below (oR dC) hb) (o2_ (Kd.R_below (oR aZ) hb) (o2_ (Kd.Q_below (oQ aD) hb) (o2_ (Kd.Q_below (oQ aG) hb) (o2_ (Kd.Q_below (oQ aI) hb) (o2_ (blk_below (oP aA) hb) (o2_ (blk_below (oP aC) hb) (o2_ (blk_below (oP aE) hb) (o1_ (below_step (oB HB) hb))))))))); clear dC aZ aD aG aI aA aC aE HB; obtain ⟨dC, aZ, aD, aG, aI, aA, aC, aE, HB⟩ := n_; (try clear hb); (try clear hb2); (try clear hk); (try clear hi); have hX : qA.cell? ⟨aM, 0, none⟩ = some (.int .i64 bP) := (blk_cell aC.out 0).trans rfl; have hY : qA.cell? ⟨aM, 1, none⟩ = some (.int .i64 bQ) := (blk_cell aC.out 1).trans rfl; have hZ : qA.cell? ⟨aM, 2, none⟩ = some (.slice bU bA.length bW) := (blk_cell aC.out 2).trans rfl; have iG := blk_frozen aC.out 0; have iH := blk_frozen aC.out 1; have iI := blk_frozen aC.out 2) | (go_at_call 41; (with_reducible refine (impl_RasBytes.calls kj10 bP bQ _ _ bA hC _ ?side1 ?side2 sP.out).mono ?_); (case side1 => repeat (first | exact (Kd.Q_reads' aG.out).2.2 | (with_reducible refine Kd.C_alloc ?_ _) | (with_reducible refine Kd.C_drewN ?_ _) | (with_reducible refine Kd.C_drew ?_))); (case side2 => exact (Kd.Q_reads' aG.out).2.1); rintro e tT ⟨sJ, rfl, ho0, hb⟩; have n_ := o2_ (Kd.R_elder' (oR dC) (Kd.R_base ho0) hb) (o2_ (Kd.R_elder' (oR aZ) (Kd.R_base ho0) hb) (o2_ (Kd.Q_below (oQ aD) hb) (o2_ (Kd.Q_below (oQ aG) hb) (o2_ (Kd.Q_below (oQ aI) hb) (o2_ (Kd.R_lower (Kd.R_new' (Kd.R_new' ho0 (Kd.R_lt (oR dC))) (Kd.R_lt (oR aZ))) (below_size (oB HB))) (o2_ (blk_below (oP aA) hb) (o2_ (blk_below (oP aC) hb) (o2_ (blk_below (oP aE) hb) (o1_ (below_step (oB HB) hb)))))))))); clear dC aZ aD aG aI aA aC aE HB; obtain ⟨dC, aZ, aD, aG, aI, eL, aA, aC, aE, HB⟩ := n_; (try clear hb); (try clear hb2); (try clear hk); (try clear hi); (try clear ho0); obtain ⟨sT, sZ, nT⟩ := Kd.R_slice eL.out; subst nT) | (go_at_call 42; (with_reducible refine (laws_eaBytes.calls _ _ hC _ _ cD hD _ ?side1 ?side2 ?side3 ?side4 sQ.out).mono ?_); (case side1 => repeat (first | exact (Kd.R_reads' eL.out).2.2 | (with_reducible refine Kd.C_alloc ?_ _) | (with_reducible refine Kd.C_drewN ?_ _) | (with_reducible refine Kd.C_drew ?_))); (case side2 => exact (Kd.R_reads' eL.out).2.1); (case side3 => repeat (first | exact (Kd.R_reads' dC.out).2.2 | (with_reducible refine Kd.C_alloc ?_ _) | (with_reducible refine Kd.C_drewN ?_ _) | (with_reducible refine Kd.C_drew ?_))); (case side4 => exact (Kd.R_reads' dC.out).2.1); rintro e w' ⟨rfl, ⟨nd, rfl⟩⟩))
          go_meet
          case rel => exact ⟨_, (!hD), oU, H', ⟨(by have := iY.out; have := iT.out; first | omega | exact Nat.le_refl _)⟩, ⟨(by (with_reducible repeat (first | apply Kd.R_alloc | apply Kd.R_drewN | apply Kd.R_drew)); exact Kd.R_mono aZ.out (fun _ hk => trivial))⟩, ⟨(oQ aD)⟩, ⟨(oQ aG)⟩, ⟨(oQ aI)⟩, ⟨(oP aA)⟩, ⟨(oP aC)⟩, ⟨(oP aE)⟩, ⟨(oB HB)⟩⟩
         ·replace jS := Bool.eq_false_iff.mpr jS
          subst jS
          rw [if_neg (show ¬ (false = true) by decide)] at H
          have H' := Aside0.mk H
          clear H
          have rA := bM.out
          have rR := bL.out
          have rB := cB.out
          have rS := cC.out
          have iA : wc.cell? ⟨aM, 0, none⟩ = some (.int .i64 bP) := (blk_cell aC.out 0).trans rfl
          have iB : wc.cell? ⟨aM, 1, none⟩ = some (.int .i64 bQ) := (blk_cell aC.out 1).trans rfl
          have iC : wc.cell? ⟨aM, 2, none⟩ = some (.slice bU bA.length bW) := (blk_cell aC.out 2).trans rfl
          have iJ := blk_frozen aC.out 0
          have iK := blk_frozen aC.out 1
          have iL := blk_frozen aC.out 2
          go_wp2_with (first | (go_at_call 26; (with_reducible refine (impl_RasOk.calls kj10 bP bQ _ _ bA false _ ?side1 ?side2 qD.out).mono ?_); (case side1 => repeat (first | exact (Kd.Q_reads' aG.out).2.2 | (with_reducible refine Kd.C_alloc ?_ _) | (with_reducible refine Kd.C_drewN ?_ _) | (with_reducible refine Kd.C_drew ?_))); (case side2 => exact (Kd.Q_reads' aG.out).2.1); rintro e tU ⟨rfl, hb⟩; have n_ := o2_ (Kd.R_below (oR aZ) hb) (o2_ (Kd.Q_below (oQ aD) hb) (o2_ (Kd.Q_below (oQ aG) hb) (o2_ (Kd.Q_below (oQ aI) hb) (o2_ (blk_below (oP aA) hb) (o2_ (blk_below (oP aC) hb) (o2_ (blk_below (oP aE) hb) (o1_ (below_step (oB HB) hb)))))))); clear aZ aD aG aI aA aC aE HB; obtain ⟨aZ, aD, aG, aI, aA, aC, aE, HB⟩ := n_; (try clear hb); (try clear hb2); (try clear hk); (try clear hi)))
          go_meet
          case rel => exact ⟨_, (true), oU, H', ⟨(by have := iY.out; have := iT.out; first | omega | exact Nat.le_refl _)⟩, ⟨(by (with_reducible repeat (first | apply Kd.R_alloc | apply Kd.R_drewN | apply Kd.R_drew)); exact Kd.R_mono aZ.out (fun _ hk => trivial))⟩, ⟨(oQ aD)⟩, ⟨(oQ aG)⟩, ⟨(oQ aI)⟩, ⟨(oP aA)⟩, ⟨(oP aC)⟩, ⟨(oP aE)⟩, ⟨(oB HB)⟩⟩
        ·replace jR := Bool.eq_false_iff.mpr jR
         subst jR
         rw [if_neg (show ¬ (false = true) by decide)] at H
         have H' := Aside0.mk H
         clear H
         go_wp2
         go_meet
         case rel => exact ⟨_, (false), oU, H', ⟨(by have := iY.out; have := iT.out; first | omega | exact Nat.le_refl _)⟩, ⟨(by (with_reducible repeat (first | apply Kd.R_alloc | apply Kd.R_drewN | apply Kd.R_drew)); exact Kd.R_mono aZ.out (fun _ hk => trivial))⟩, ⟨(oQ aD)⟩, ⟨(oQ aG)⟩, ⟨(oQ aI)⟩, ⟨(oP aA)⟩, ⟨(oP aC)⟩, ⟨(oP aE)⟩, ⟨(oB HB)⟩⟩
       case rest =>
        clear iS
        try clear c1
        try clear c2
        try clear p2
        try clear c3
        try clear c4
        try clear eG
        try clear hT
        try clear c5
        try clear c6
        try clear c7
        try clear c17
        try clear c22
        try clear c27
        try clear c28
        try clear c31
        try clear iZ
        try clear jA
        try clear c36
        try clear c37
        try clear c39
        try clear c40
        try clear c41
        try clear c42
        try clear c43
        try clear c46
        try clear c47
        try clear c52
        try clear c56
        try clear c57
        try clear jQ
        try clear jR
        try clear jS
        try clear c69
        try clear c70
        try clear c76
        try clear c77
        try clear eN
        try clear eO
        try clear eP
        try clear eQ
        try clear eR
        try clear eS
        try clear eT
        try clear eU
        try clear eV
        try clear eW
        try clear eX
        try clear eY
        try clear eZ
        try clear fA
        try clear fB
        try clear fC
        try clear fD
        try clear fE
        try clear fF
        try clear fG
        try clear fH
        try clear fI
        try clear fJ
        try clear fK
        try clear fL
        try clear fM
        try clear fN
        try clear fO
        try clear fP
        try clear fQ
        try clear fR
        try clear fS
        try clear fT
        try clear hU
        try clear hV
        try clear hW
        try clear hX
        try clear hY
        try clear hZ
        try clear iA
        try clear iB
        try clear iC
        try clear fU
        try clear fV
        try clear fW
        try clear fX
        try clear fY
        try clear fZ
        try clear gA
        try clear gB
        try clear gC
        try clear gD
        try clear gE
        try clear gF
        try clear gG
        try clear gH
        try clear gI
        try clear gJ
        try clear gK
        try clear gL
        try clear gM
        try clear gN
        try clear gO
        try clear gP
        try clear gQ
        try clear gR
        try clear gS
        try clear gT
        try clear gU
        try clear gV
        try clear gW
        try clear gX
        try clear gY
        try clear gZ
        try clear hA
        try clear iD
        try clear iE
        try clear iF
        try clear iG
        try clear iH
        try clear iI
        try clear iJ
        try clear iK
        try clear iL
        try clear p2
        obtain ⟨kq, dH, rfl, HA, sW, aZ, aD, aG, aI, aA, aC, aE, HB⟩ := hcut
        cases kq with
        | zero => exact nomatch (show none = some _ from HA.out)
        | succ kj62 =>
         have H := HA.out
         clear HA
         simp only [laws_FnRasBytes.j2] at H
         by_cases lP : dH = true
         ·subst lP
          rw [if_pos rfl] at H
          exact absurd H (by simp)
         ·replace lP := Bool.eq_false_iff.mpr lP
          subst lP
          rw [if_neg (show ¬ (false = true) by decide)] at H
          replace H := Option.bind_eq_some_iff.mp H
          obtain ⟨hQ, jK, H⟩ := H
          (try dsimp only at H)
          have mH := Aside0.mk jK
          clear jK
          by_cases lQ : hQ = true
          ·subst lQ
           rw [if_pos rfl] at H
           replace H := Option.bind_eq_some_iff.mp H
           obtain ⟨⟨cI, cJ, bR, dA⟩, jL, H⟩ := H
           (try dsimp only at H)
           have qG := Aside0.mk jL
           clear jL
           obtain ⟨ji84, hji84⟩ : ∃ j_ : Int, (wrap64 ((aV.length : Int) - 1)) = j_ := ⟨_, rfl⟩
           replace H : (if 0 ≤ (ji84) then (if (ji84) ≤ (aV.length : Int) then ((impl_RasRead.f (aV.take ((ji84) : Int).toNat)).bind fun cV => ((some (([] : List Int) : List Int)).bind fun cL => (if cL.length + aV.length < 140737488355328 then ((some (cL ++ aV : List Int)).bind fun cE => (if cE.length < 140737488355328 then ((impl_RasRead.f (cE ++ [0])).bind fun cH => (if dA = true then ((laws_eaRas.f kj62 cI cJ bR bH bI aU).bind fun cO => (if cO = true then (if cV.2.2.2 = true then (none) else (some (!cH.2.2.2))) else (none))) else (none))) else (none))) else (none)))) else (none)) else (none)) = some r := by first | (rw [hji84] at H; exact H) | (simp only [hji84] at H ⊢; exact H)
           (try rw [hji84] at mH)
           (try rw [hji84] at qG)
           have nV : (IntKind.i64.wrap ((aV.length : Int) - 1)) = ji84 := (i64_w _).trans hji84
           by_cases jT : 0 ≤ (ji84)
           ·rw [if_pos jT] at H
            have qI := eq_true jT
            have qJ : decide (0 ≤ (ji84)) = true := decide_eq_true jT
            clear jT
            by_cases jU : (ji84) ≤ (aV.length : Int)
            ·rw [if_pos jU] at H
             have qK := eq_true jU
             have qL : decide ((ji84) ≤ (aV.length : Int)) = true := decide_eq_true jU
             clear jU
             obtain ⟨y1446, hy1446⟩ : ∃ y_ : List Int, y_ = (aV.take ((ji84) : Int).toNat) := ⟨_, rfl⟩
             replace H : ((impl_RasRead.f y1446).bind fun cV => ((some (([] : List Int) : List Int)).bind fun cL => (if cL.length + aV.length < 140737488355328 then ((some (cL ++ aV : List Int)).bind fun cE => (if cE.length < 140737488355328 then ((impl_RasRead.f (cE ++ [0])).bind fun cH => (if dA = true then ((laws_eaRas.f kj62 cI cJ bR bH bI aU).bind fun cO => (if cO = true then (if cV.2.2.2 = true then (none) else (some (!cH.2.2.2))) else (none))) else (none))) else (none))) else (none)))) = some r := by first | (rw [hy1446]; with_reducible exact H) | (have H2_ := (Option.bind_some _ _).symm.trans H; rw [hy1446]; with_reducible exact H2_) | (have H2_ := (Option.bind_some _ _).symm.trans H; with_reducible exact H2_) | with_reducible exact H | (rw [hy1446]; exact H) | exact H
             have hJ := Aside0.mk hy1446
             clear hy1446
             replace H := Option.bind_eq_some_iff.mp H
             obtain ⟨⟨cT, cU, cQ, hE⟩, jM, H⟩ := H
             (try dsimp only at H)
             have sR := Aside0.mk jM
             clear jM
             obtain ⟨cL, hy1457⟩ : ∃ y_ : List Int, y_ = (([] : List Int)) := ⟨_, rfl⟩
             replace H : (if cL.length + aV.length < 140737488355328 then ((some (cL ++ aV : List Int)).bind fun cE => (if cE.length < 140737488355328 then ((impl_RasRead.f (cE ++ [0])).bind fun cH => (if dA = true then ((laws_eaRas.f kj62 cI cJ bR bH bI aU).bind fun cO => (if cO = true then (if hE = true then (none) else (some (!cH.2.2.2))) else (none))) else (none))) else (none))) else (none)) = some r := by first | (rw [hy1457]; with_reducible exact H) | (have H2_ := (Option.bind_some _ _).symm.trans H; rw [hy1457]; with_reducible exact H2_) | (have H2_ := (Option.bind_some _ _).symm.trans H; with_reducible exact H2_) | with_reducible exact H | (rw [hy1457]; exact H) | exact H
             have hK := Aside0.mk hy1457
             clear hy1457
             by_cases lR : cL.length + aV.length < 140737488355328
             ·rw [if_pos lR] at H
              have LMc88 := Aside0.mk lR
              clear lR
              obtain ⟨cE, hy1460⟩ : ∃ y_ : List Int, y_ = (cL ++ aV) := ⟨_, rfl⟩
              replace H : (if cE.length < 140737488355328 then ((impl_RasRead.f (cE ++ [0])).bind fun cH => (if dA = true then ((laws_eaRas.f kj62 cI cJ bR bH bI aU).bind fun cO => (if cO = true then (if hE = true then (none) else (some (!cH.2.2.2))) else (none))) else (none))) else (none)) = some r := by first | (rw [hy1460]; with_reducible exact H) | (have H2_ := (Option.bind_some _ _).symm.trans H; rw [hy1460]; with_reducible exact H2_) | (have H2_ := (Option.bind_some _ _).symm.trans H; with_reducible exact H2_) | with_reducible exact H | (rw [hy1460]; exact H) | exact H
              have iU := Aside0.mk hy1460
              clear hy1460
              by_cases lS : cE.length < 140737488355328
              ·rw [if_pos lS] at H
               have LMc89 := Aside0.mk lS
               clear lS
               obtain ⟨y1463, hy1463⟩ : ∃ y_ : List Int, y_ = (cE ++ [0]) := ⟨_, rfl⟩
               replace H : ((impl_RasRead.f y1463).bind fun cH => (if dA = true then ((laws_eaRas.f kj62 cI cJ bR bH bI aU).bind fun cO => (if cO = true then (if hE = true then (none) else (some (!cH.2.2.2))) else (none))) else (none))) = some r := by first | (rw [hy1463]; with_reducible exact H) | (have H2_ := (Option.bind_some _ _).symm.trans H; rw [hy1463]; with_reducible exact H2_) | (have H2_ := (Option.bind_some _ _).symm.trans H; with_reducible exact H2_) | with_reducible exact H | (rw [hy1463]; exact H) | exact H
               have iV := Aside0.mk hy1463
               clear hy1463
               replace H := Option.bind_eq_some_iff.mp H
               obtain ⟨⟨eI, eJ, cW, lL⟩, jN, H⟩ := H
               (try dsimp only at H)
               have lO := Aside0.mk jN
               clear jN
               by_cases lT : dA = true
               ·subst lT
                rw [if_pos rfl] at H
                replace H := Option.bind_eq_some_iff.mp H
                obtain ⟨cO, jO, H⟩ := H
                (try dsimp only at H)
                have sS := Aside0.mk jO
                clear jO
                by_cases lU : cO = true
                ·subst lU
                 rw [if_pos rfl] at H
                 by_cases lV : hE = true
                 ·subst lV
                  rw [if_pos rfl] at H
                  exact absurd H (by simp)
                 ·replace lV := Bool.eq_false_iff.mpr lV
                  subst lV
                  rw [if_neg (show ¬ (false = true) by decide)] at H
                  obtain rfl := Option.some.inj H
                  have rC := bL.out
                  have rT := bM.out
                  have rD := bX.out
                  have rU := bY.out
                  have lY : wc.cell? ⟨aX, 0, none⟩ = some (.int .i64 bH) := (blk_cell aA.out 0).trans rfl
                  have lZ : wc.cell? ⟨aX, 1, none⟩ = some (.int .i64 bI) := (blk_cell aA.out 1).trans rfl
                  have mA : wc.cell? ⟨aX, 2, none⟩ = some (.slice bZ aU.length bT) := (blk_cell aA.out 2).trans rfl
                  have mB := blk_frozen aA.out 0
                  have mC := blk_frozen aA.out 1
                  have mD := blk_frozen aA.out 2
                  go_wp2_with (first | ((with_reducible refine gate_callee (f := 24) rfl ?_); refine goesL_ (some 72) rfl rfl Try.func24 oK rfl #[.agg #[.int .i64 bH, .int .i64 bI, .slice bZ aU.length bT]] rfl oA ?_; (with_reducible refine (spec_RasOk.calls kj62 bH bI _ _ aU true _ ?side1 ?side2 mH.out).mono ?_); (case side1 => repeat (first | exact (Kd.Q_reads' aD.out).2.2 | (with_reducible refine Kd.C_alloc ?_ _) | (with_reducible refine Kd.C_drewN ?_ _) | (with_reducible refine Kd.C_drew ?_))); (case side2 => exact (Kd.Q_reads' aD.out).2.1); rintro e tV ⟨rfl, hb⟩; refine ⟨_, rfl, ?_⟩; have n_ := o2_ (Kd.R_below (oR aZ) hb) (o2_ (Kd.Q_below (oQ aD) hb) (o2_ (Kd.Q_below (oQ aG) hb) (o2_ (Kd.Q_below (oQ aI) hb) (o2_ (blk_below (oP aA) hb) (o2_ (blk_below (oP aC) hb) (o2_ (blk_below (oP aE) hb) (o1_ (below_step (oB HB) hb)))))))); clear aZ aD aG aI aA aC aE HB; obtain ⟨aZ, aD, aG, aI, aA, aC, aE, HB⟩ := n_; (try clear hb); (try clear hb2); (try clear hk); (try clear hi); obtain ⟨eK, eH, nU⟩ := Kd.R_slice aZ.out; subst nU) | ((with_reducible refine gate_callee (f := 33) rfl ?_); refine goesL_ (some 82) rfl rfl Try.func33 oK rfl #[.slice eK aV.length eH] rfl oA ?_; (with_reducible refine (impl_RasRead.calls _ _ aV cI cJ bR true _ ?side1 ?side2 qG.out).mono ?_); (case side1 => repeat (first | exact (Kd.R_reads' aZ.out).2.2 | (with_reducible refine Kd.C_alloc ?_ _) | (with_reducible refine Kd.C_drewN ?_ _) | (with_reducible refine Kd.C_drew ?_))); (case side2 => exact (Kd.R_reads' aZ.out).2.1); rintro e tD ⟨sK, rfl, ho0, hb⟩; refine ⟨_, rfl, ?_⟩; have n_ := o2_ (Kd.R_below (oR aZ) hb) (o2_ (Kd.Q_elder' (oQ aD) (Kd.R_base ho0) hb) (o2_ (Kd.Q_elder' (oQ aG) (Kd.R_base ho0) hb) (o2_ (Kd.Q_elder' (oQ aI) (Kd.R_base ho0) hb) (o2_ (Kd.R_lower (Kd.R_new' (Kd.R_new' (Kd.R_new' ho0 (Kd.Q_lt (oQ aD))) (Kd.Q_lt (oQ aG))) (Kd.Q_lt (oQ aI))) (below_size (oB HB))) (o2_ (blk_below (oP aA) hb) (o2_ (blk_below (oP aC) hb) (o2_ (blk_below (oP aE) hb) (o1_ (below_step (oB HB) hb))))))))); clear aZ aD aG aI aA aC aE HB; obtain ⟨aZ, aD, aG, aI, aY, aA, aC, aE, HB⟩ := n_; (try clear hb); (try clear hb2); (try clear hk); (try clear hi); (try clear ho0)) | ((with_reducible refine gate_dst (N := 12) rfl ?_); (try (refine gate_guard (by rfl) ?_; dsimp only)); refine box_event rfl (N := 12) rfl (cs := #[.int .i64 0, .int .i64 0, .slice none 0 0]) (t := 25) oS ?_; intro bC hg iM hbox hb; have n_ := o2_ (Kd.R_below (oR aZ) hb) (o2_ (Kd.Q_below (oQ aD) hb) (o2_ (Kd.Q_below (oQ aG) hb) (o2_ (Kd.Q_below (oQ aI) hb) (o2_ (Kd.R_below (oR aY) hb) (o2_ (blk_below (oP aA) hb) (o2_ (blk_below (oP aC) hb) (o2_ (blk_below (oP aE) hb) (o2_ (below_step (oB HB) hb) (o2_ (hbox) (o2_ ((oG hg (below_size (oB HB)) : w.heap.size ≤ bC)) (o2_ ((oG hg (below_size (oB HB)) : w.heap.size ≤ bC)) (o2_ ((oL hg (blk_lt (oP aA)))) (o2_ ((oN hg (blk_lt (oP aA)))) (o2_ ((oL hg (blk_lt (oP aC)))) (o2_ ((oN hg (blk_lt (oP aC)))) (o2_ ((oL hg (blk_lt (oP aE)))) (o1_ ((oN hg (blk_lt (oP aE))))))))))))))))))))); clear aZ aD aG aI aY aA aC aE HB; obtain ⟨aZ, aD, aG, aI, aY, aA, aC, aE, HB, aK, mX, mR, dI, dR, dL, dS, dO, dT⟩ := n_; clear hb hbox hg; have nW := dR.out; have pJ := dI.out; have nX := dS.out; have pK := dL.out; have nY := dT.out; have pL := dO.out; have kB : iM.cell? ⟨bC, 0, none⟩ = some (.int .i64 0) := (blk_cell aK.out 0).trans rfl; have kC : iM.cell? ⟨bC, 1, none⟩ = some (.int .i64 0) := (blk_cell aK.out 1).trans rfl; have kD : iM.cell? ⟨bC, 2, none⟩ = some (.slice none 0 0) := (blk_cell aK.out 2).trans rfl; have kT := blk_frozen aK.out 0; have kU := blk_frozen aK.out 1; have kV := blk_frozen aK.out 2; obtain ⟨cN, cK, jW⟩ := Kd.R_slice aY.out; subst jW) | ((with_reducible refine gate_store (t := 25) (p := 12) rfl ?_); refine store_event (t := 25) (p := 12) (v := ?vo_w107) (w1 := (((iM.setCell ⟨bC, 0, none⟩ (.int .i64 cI)).setCell ⟨bC, 1, none⟩ (.int .i64 cJ)).setCell ⟨bC, 2, none⟩ (.slice cN bR.length cK))) ?hg ?ho ?hn ?hr ?_; (case ho => rfl); (case hg => rfl); (case hn => rfl); (case hr => first | (go_simp; done) | (go_simp; rfl)); intro cX hw; have rV : Aside0 (Kd.R (Kd.int .u8) 5 cX w.heap.size (fun _ => True) (.slice eK aV.length eH) aV) := ⟨(by rw [hw]; exact (by (with_reducible repeat (first | apply Kd.R_alloc | apply Kd.R_drewN | apply Kd.R_drew)); exact Kd.R_mono (Kd.R_far (p := ⟨bC, 2, none⟩) (Kd.R_far (p := ⟨bC, 1, none⟩) (Kd.R_far (p := ⟨bC, 0, none⟩) (Kd.R_types aZ.out aK.out oD) (fun _ hk => hk.2) (.int .i64 cI)) (fun _ hk => hk.2) (.int .i64 cJ)) (fun _ hk => hk.2) (.slice cN bR.length cK)) (fun _ hk => trivial)))⟩; have rW : Aside0 (Kd.Q k38 38 cX w.heap.size (fun k_ => some k_ ≠ (.slice bU bA.length bW : Value).ownBlock ∧ some k_ ≠ (.slice bJ aT.length bK : Value).ownBlock ∧ some k_ ≠ (.slice cN bR.length cK : Value).ownBlock) (.slice bZ aU.length bT) aU) := ⟨(by rw [hw]; exact (by (with_reducible repeat (first | apply Kd.Q_alloc | apply Kd.Q_drewN | apply Kd.Q_drew)); exact Kd.Q_mono (Kd.Q_far (p := ⟨bC, 2, none⟩) (Kd.Q_far (p := ⟨bC, 1, none⟩) (Kd.Q_far (p := ⟨bC, 0, none⟩) (Kd.Q_types aD.out aK.out oD) (fun _ hk => hk.2) (.int .i64 cI)) (fun _ hk => hk.2) (.int .i64 cJ)) (fun _ hk => hk.2) (.slice cN bR.length cK)) (fun _ hk => ⟨hk.1.1.1, ⟨hk.1.1.2, hk.1.2⟩⟩)))⟩; have rX : Aside0 (Kd.Q k38 38 cX w.heap.size (fun k_ => some k_ ≠ (.slice bZ aU.length bT : Value).ownBlock ∧ some k_ ≠ (.slice bJ aT.length bK : Value).ownBlock ∧ some k_ ≠ (.slice cN bR.length cK : Value).ownBlock) (.slice bU bA.length bW) bA) := ⟨(by rw [hw]; exact (by (with_reducible repeat (first | apply Kd.Q_alloc | apply Kd.Q_drewN | apply Kd.Q_drew)); exact Kd.Q_mono (Kd.Q_far (p := ⟨bC, 2, none⟩) (Kd.Q_far (p := ⟨bC, 1, none⟩) (Kd.Q_far (p := ⟨bC, 0, none⟩) (Kd.Q_types aG.out aK.out oD) (fun _ hk => hk.2) (.int .i64 cI)) (fun _ hk => hk.2) (.int .i64 cJ)) (fun _ hk => hk.2) (.slice cN bR.length cK)) (fun _ hk => ⟨hk.1.1.1, ⟨hk.1.1.2, hk.1.2⟩⟩)))⟩; have rY : Aside0 (Kd.Q k38 38 cX w.heap.size (fun k_ => some k_ ≠ (.slice bZ aU.length bT : Value).ownBlock ∧ some k_ ≠ (.slice bU bA.length bW : Value).ownBlock ∧ some k_ ≠ (.slice cN bR.length cK : Value).ownBlock) (.slice bJ aT.length bK) aT) := ⟨(by rw [hw]; exact (by (with_reducible repeat (first | apply Kd.Q_alloc | apply Kd.Q_drewN | apply Kd.Q_drew)); exact Kd.Q_mono (Kd.Q_far (p := ⟨bC, 2, none⟩) (Kd.Q_far (p := ⟨bC, 1, none⟩) (Kd.Q_far (p := ⟨bC, 0, none⟩) (Kd.Q_types aI.out aK.out oD) (fun _ hk => hk.2) (.int .i64 cI)) (fun _ hk => hk.2) (.int .i64 cJ)) (fun _ hk => hk.2) (.slice cN bR.length cK)) (fun _ hk => ⟨hk.1.1.1, ⟨hk.1.1.2, hk.1.2⟩⟩)))⟩; have rZ : Aside0 (Kd.R k38 38 cX w.heap.size (fun k_ => some k_ ≠ (.slice bZ aU.length bT : Value).ownBlock ∧ some k_ ≠ (.slice bU bA.length bW : Value).ownBlock ∧ some k_ ≠ (.slice bJ aT.length bK : Value).ownBlock) (.slice cN bR.length cK) bR) := ⟨(by rw [hw]; exact (by (with_reducible repeat (first | apply Kd.R_alloc | apply Kd.R_drewN | apply Kd.R_drew)); exact Kd.R_mono (Kd.R_far (p := ⟨bC, 2, none⟩) (Kd.R_far (p := ⟨bC, 1, none⟩) (Kd.R_far (p := ⟨bC, 0, none⟩) (Kd.R_types aY.out aK.out oD) (fun _ hk => hk.2) (.int .i64 cI)) (fun _ hk => hk.2) (.int .i64 cJ)) (fun _ hk => hk.2) (.slice cN bR.length cK)) (fun _ hk => ⟨hk.1.1.1.2, ⟨hk.1.1.2, hk.1.2⟩⟩)))⟩; have sA : Aside0 (cX.heap[aX]? = some (.cells #[.int .i64 bH, .int .i64 bI, .slice bZ aU.length bT] 25 (0, 0))) := ⟨(by rw [hw]; exact (oP aA))⟩; have sB : Aside0 (cX.heap[aM]? = some (.cells #[.int .i64 bP, .int .i64 bQ, .slice bU bA.length bW] 25 (0, 0))) := ⟨(by rw [hw]; exact (oP aC))⟩; have sC : Aside0 (cX.heap[aH]? = some (.cells #[.int .i64 bF, .int .i64 bG, .slice bJ aT.length bK] 25 (0, 0))) := ⟨(by rw [hw]; exact (oP aE))⟩; have sD : Aside0 (cX.heap[bC]? = some (.cells #[.int .i64 cI, .int .i64 cJ, .slice cN bR.length cK] 25 (0, 0))) := ⟨(by rw [hw]; exact (blk_put (blk_put (blk_put aK.out 0 _ rfl) 1 _ rfl) 2 _ rfl))⟩; have sE : Aside0 (Below w.heap.size w cX) := ⟨(by rw [hw]; exact (oB HB))⟩; clear hw; clear aZ; clear aD; clear aG; clear aI; clear aY; clear aA; clear aC; clear aE; clear aK; clear HB; have aZ := rV; have aD := rW; have aG := rX; have aI := rY; have aY := rZ; have aA := sA; have aC := sB; have aE := sC; have aK := sD; have HB := sE; clear rV rW rX rY rZ sA sB sC sD sE; have iW : ((ji84) : Int) ≤ ((aV.length : Int) : Int) := of_decide_eq_true oM; obtain ⟨i0108, hi0108, _, hsz108, _⟩ := info_parts info5; have hroom108 : aV.length ≤ eH := (Kd.R_reads' aZ.out).2.1; have hC108 : Kd.C (Kd.int .u8) _ eK aV.length aV := (Kd.R_reads' aZ.out).2.2; have hcut108 := cut_to (P := Try.prog) 22 5 .i64 Try.underlying22 hi0108 eK aV.length eH (ji84) (of_decide_eq_true oM) iW hroom108; have hr108 := Kd.C_take (m := ((ji84) : Int).toNat) hC108 (by omega); have hy108 : y1446.length = ((ji84) : Int).toNat := (by rw [hJ.out, List.length_take]; omega); rw [← hJ.out] at hr108; rw [← hy108] at hcut108; have hI := Aside0.mk hr108; have iR := Aside0.mk (show y1446.length ≤ eH from by omega); clear hr108 hC108 hroom108 hi0108 hsz108; have KY108 := Aside0.mk hy108; clear hy108; have KL108 := Aside0.mk (show ((ji84) : Int).toNat ≤ aV.length from by omega); replace iW := eq_true iW) | ((with_reducible refine gate_callee (f := 33) rfl ?_); refine goesL_ (some 91) rfl rfl Try.func33 oK rfl #[.slice eK y1446.length eH] rfl oA ?_; (with_reducible refine (impl_RasRead.calls _ _ y1446 cT cU cQ false _ ?side1 ?side2 sR.out).mono ?_); (case side1 => repeat (first | exact (by repeat (first | (with_reducible exact hI.out) | (with_reducible refine Kd.C_alloc ?_ _) | (with_reducible refine Kd.C_drewN ?_ _) | (with_reducible refine Kd.C_drew ?_) | exact hI.out)) | (with_reducible refine Kd.C_alloc ?_ _) | (with_reducible refine Kd.C_drewN ?_ _) | (with_reducible refine Kd.C_drew ?_))); (case side2 => exact iR.out); rintro e tE ⟨sL, rfl, ho0, hb⟩; refine ⟨_, rfl, ?_⟩; have n_ := o2_ (Kd.R_below (oR aZ) hb) (o2_ (Kd.Q_elder' (oQ aD) (Kd.R_base ho0) hb) (o2_ (Kd.Q_elder' (oQ aG) (Kd.R_base ho0) hb) (o2_ (Kd.Q_elder' (oQ aI) (Kd.R_base ho0) hb) (o2_ (Kd.R_elder' (oR aY) (Kd.R_base ho0) hb) (o2_ (Kd.R_lower (Kd.R_new' (Kd.R_new' (Kd.R_new' (Kd.R_new' ho0 (Kd.Q_lt (oQ aD))) (Kd.Q_lt (oQ aG))) (Kd.Q_lt (oQ aI))) (Kd.R_lt (oR aY))) (below_size (oB HB))) (o2_ (blk_below (oP aA) hb) (o2_ (blk_below (oP aC) hb) (o2_ (blk_below (oP aE) hb) (o2_ (blk_below (oP aK) hb) (o1_ (below_step (oB HB) hb))))))))))); clear aZ aD aG aI aY aA aC aE aK HB; obtain ⟨aZ, aD, aG, aI, aY, cA, aA, aC, aE, aK, HB⟩ := n_; (try clear hb); (try clear hb2); (try clear hk); (try clear hi); (try clear ho0)) | ((with_reducible refine gate_dst (N := 14) rfl ?_); (try (refine gate_guard (by rfl) ?_; dsimp only)); refine box_event rfl (N := 14) rfl (cs := #[.int .i64 0, .int .i64 0, .slice none 0 0]) (t := 25) oS ?_; intro bD hg iX hbox hb; have n_ := o2_ (Kd.R_below (oR aZ) hb) (o2_ (Kd.Q_below (oQ aD) hb) (o2_ (Kd.Q_below (oQ aG) hb) (o2_ (Kd.Q_below (oQ aI) hb) (o2_ (Kd.R_below (oR aY) hb) (o2_ (Kd.R_below (oR cA) hb) (o2_ (blk_below (oP aA) hb) (o2_ (blk_below (oP aC) hb) (o2_ (blk_below (oP aE) hb) (o2_ (blk_below (oP aK) hb) (o2_ (below_step (oB HB) hb) (o2_ (hbox) (o2_ ((oG hg (below_size (oB HB)) : w.heap.size ≤ bD)) (o2_ ((oG hg (below_size (oB HB)) : w.heap.size ≤ bD)) (o2_ ((oL hg (blk_lt (oP aA)))) (o2_ ((oN hg (blk_lt (oP aA)))) (o2_ ((oL hg (blk_lt (oP aC)))) (o2_ ((oN hg (blk_lt (oP aC)))) (o2_ ((oL hg (blk_lt (oP aE)))) (o2_ ((oN hg (blk_lt (oP aE)))) (o2_ ((oL hg (blk_lt (oP aK)))) (o1_ ((oN hg (blk_lt (oP aK))))))))))))))))))))))))); clear aZ aD aG aI aY cA aA aC aE aK HB; obtain ⟨aZ, aD, aG, aI, aY, cA, aA, aC, aE, aK, HB, bB, mY, mS, dJ, dW, dM, dX, dP, dY, dU, dZ⟩ := n_; clear hb hbox hg; have nZ := dW.out; have pM := dJ.out; have oO := dX.out; have pN := dM.out; have pA := dY.out; have pO := dP.out; have pB := dZ.out; have pP := dU.out; have kE : iX.cell? ⟨bD, 0, none⟩ = some (.int .i64 0) := (blk_cell bB.out 0).trans rfl; have kF : iX.cell? ⟨bD, 1, none⟩ = some (.int .i64 0) := (blk_cell bB.out 1).trans rfl; have kG : iX.cell? ⟨bD, 2, none⟩ = some (.slice none 0 0) := (blk_cell bB.out 2).trans rfl; have kW := blk_frozen bB.out 0; have kX := blk_frozen bB.out 1; have kY := blk_frozen bB.out 2; obtain ⟨cR, cS, jX⟩ := Kd.R_slice cA.out; subst jX) | ((with_reducible refine gate_dst (N := 95) rfl ?_); (try (refine gate_guard (by rfl) ?_; dsimp only)); refine Kd.R_lit (Kd.int .u8) _ 5 ?hg (N := 95) ?hd (xs := ([] : List Int)) (inner := []) (ok := fun _ => True) (okp := fun _ => True) ?hr ?hp (fun _ hk => hk) trivial (Below.refl _ _) (Nat.le_refl _) (by simp) ?_; (case hd => rfl); (case hg => rfl); (case hr => first | (go_simp; done) | (go_simp; rfl)); (case hp => exact (Reps.none _ _)); intro lM tF ho118 hb hg_ hnew_; clear hg_ hnew_; (first | rw [← hK.out] at ho118 | (simp only [Int.reduceToNat] at ho118; rw [← hK.out] at ho118)); have n_ := o2_ (Kd.R_elder' (by (with_reducible repeat (first | apply Kd.R_alloc | apply Kd.R_drewN | apply Kd.R_drew)); exact (Kd.R_mono (Kd.R_far (p := ⟨bD, 2, none⟩) (Kd.R_far (p := ⟨bD, 1, none⟩) (Kd.R_far (p := ⟨bD, 0, none⟩) (Kd.R_types aZ.out bB.out oD) (fun _ hk => hk.2) (.int .i64 cT)) (fun _ hk => hk.2) (.int .i64 cU)) (fun _ hk => hk.2) (.slice cR cQ.length cS)) (fun _ h_ => h_.1))) (Kd.R_base ho118) hb) (o2_ (Kd.Q_below (by (with_reducible repeat (first | apply Kd.Q_alloc | apply Kd.Q_drewN | apply Kd.Q_drew)); exact (Kd.Q_mono (Kd.Q_far (p := ⟨bD, 2, none⟩) (Kd.Q_far (p := ⟨bD, 1, none⟩) (Kd.Q_far (p := ⟨bD, 0, none⟩) (Kd.Q_types aD.out bB.out oD) (fun _ hk => hk.2) (.int .i64 cT)) (fun _ hk => hk.2) (.int .i64 cU)) (fun _ hk => hk.2) (.slice cR cQ.length cS)) (fun _ h_ => h_.1))) hb) (o2_ (Kd.Q_below (by (with_reducible repeat (first | apply Kd.Q_alloc | apply Kd.Q_drewN | apply Kd.Q_drew)); exact (Kd.Q_mono (Kd.Q_far (p := ⟨bD, 2, none⟩) (Kd.Q_far (p := ⟨bD, 1, none⟩) (Kd.Q_far (p := ⟨bD, 0, none⟩) (Kd.Q_types aG.out bB.out oD) (fun _ hk => hk.2) (.int .i64 cT)) (fun _ hk => hk.2) (.int .i64 cU)) (fun _ hk => hk.2) (.slice cR cQ.length cS)) (fun _ h_ => h_.1))) hb) (o2_ (Kd.Q_below (by (with_reducible repeat (first | apply Kd.Q_alloc | apply Kd.Q_drewN | apply Kd.Q_drew)); exact (Kd.Q_mono (Kd.Q_far (p := ⟨bD, 2, none⟩) (Kd.Q_far (p := ⟨bD, 1, none⟩) (Kd.Q_far (p := ⟨bD, 0, none⟩) (Kd.Q_types aI.out bB.out oD) (fun _ hk => hk.2) (.int .i64 cT)) (fun _ hk => hk.2) (.int .i64 cU)) (fun _ hk => hk.2) (.slice cR cQ.length cS)) (fun _ h_ => h_.1))) hb) (o2_ (Kd.R_below (by (with_reducible repeat (first | apply Kd.R_alloc | apply Kd.R_drewN | apply Kd.R_drew)); exact (Kd.R_mono (Kd.R_far (p := ⟨bD, 2, none⟩) (Kd.R_far (p := ⟨bD, 1, none⟩) (Kd.R_far (p := ⟨bD, 0, none⟩) (Kd.R_types aY.out bB.out oD) (fun _ hk => hk.2) (.int .i64 cT)) (fun _ hk => hk.2) (.int .i64 cU)) (fun _ hk => hk.2) (.slice cR cQ.length cS)) (fun _ h_ => h_.1))) hb) (o2_ (Kd.R_below (by (with_reducible repeat (first | apply Kd.R_alloc | apply Kd.R_drewN | apply Kd.R_drew)); exact (Kd.R_mono (Kd.R_far (p := ⟨bD, 2, none⟩) (Kd.R_far (p := ⟨bD, 1, none⟩) (Kd.R_far (p := ⟨bD, 0, none⟩) (Kd.R_types cA.out bB.out oD) (fun _ hk => hk.2) (.int .i64 cT)) (fun _ hk => hk.2) (.int .i64 cU)) (fun _ hk => hk.2) (.slice cR cQ.length cS)) (fun _ h_ => h_.1))) hb) (o2_ (Kd.R_lower (Kd.R_new' ho118 (Kd.R_lt (by (with_reducible repeat (first | apply Kd.R_alloc | apply Kd.R_drewN | apply Kd.R_drew)); exact (Kd.R_mono (Kd.R_far (p := ⟨bD, 2, none⟩) (Kd.R_far (p := ⟨bD, 1, none⟩) (Kd.R_far (p := ⟨bD, 0, none⟩) (Kd.R_types aZ.out bB.out oD) (fun _ hk => hk.2) (.int .i64 cT)) (fun _ hk => hk.2) (.int .i64 cU)) (fun _ hk => hk.2) (.slice cR cQ.length cS)) (fun _ h_ => h_.1))))) (below_size (oB HB))) (o2_ (blk_below (oP aA) hb) (o2_ (blk_below (oP aC) hb) (o2_ (blk_below (oP aE) hb) (o2_ (blk_below (oP aK) hb) (o2_ (blk_below (g := bD) (o := .cells #[.int .i64 cT, .int .i64 cU, .slice cR cQ.length cS] 25 (0, 0)) (blk_put (blk_put (blk_put bB.out 0 _ rfl) 1 _ rfl) 2 _ rfl) hb) (o1_ (below_step (oB HB) hb))))))))))))); clear aZ aD aG aI aY cA aA aC aE aK bB HB; obtain ⟨aZ, aD, aG, aI, aY, cA, cF, aA, aC, aE, aK, bB, HB⟩ := n_; clear hb ho118) | ((with_reducible refine gate_builtin (b := .append) (xs := #[.tmp 95, .tmp 96]) rfl ?_); (try (refine gate_guard (by rfl) ?_; dsimp only)); at_builtin; refine Kd.R_append_rows (Kd.int .u8) (w0 := w) w.heap.size rfl (.tmp 95) (.tmp 96) 22 5 (.int .u8 0) 1 rfl Try.underlying22 info5 rfl oD (by omega) lM cL aV _ _ _ (fun k_ => some k_ ≠ (.slice eK aV.length eH : Value).ownBlock) (fun _ => False) rfl rfl ?aO ?aR (fun _ _ h => h) (fun _ h => h.elim) ?aF ?aB ?aS ?aL ?_; (case aR => repeat (first | exact (Kd.R_reads' aZ.out).2.2 | (with_reducible refine Kd.C_alloc ?_ _) | (with_reducible refine Kd.C_drewN ?_ _) | (with_reducible refine Kd.C_drew ?_))); (case aB => exact (oB HB)); (case aF => exact (fun k_ hk => Kd.fresh' (Kd.R_lt (oR aZ)) k_ hk)); (case aO => exact (by (with_reducible repeat (first | apply Kd.R_alloc | apply Kd.R_drewN | apply Kd.R_drew)); exact Kd.R_mono cF.out (fun _ hk => hk.2))); (case aS => exact (below_size (oB HB))); (case aL => have := LMc88.out; omega); intro lN tG ho hb hg hat; rw [← iU.out] at ho; have n_ := o2_ (Kd.R_after (ok := (fun _ => True)) (oR aZ) hg hat) (o2_ (Kd.Q_over' (oQ aD) (Kd.R_typed (oR cF)) oD hg) (o2_ (Kd.Q_over' (oQ aG) (Kd.R_typed (oR cF)) oD hg) (o2_ (Kd.Q_over' (oQ aI) (Kd.R_typed (oR cF)) oD hg) (o2_ (blk_grown (oP aA) hg (Kd.R_ne cF.out aA.out oD)) (o2_ (blk_grown (oP aC) hg (Kd.R_ne cF.out aC.out oD)) (o2_ (blk_grown (oP aE) hg (Kd.R_ne cF.out aE.out oD)) (o2_ (Kd.R_over' (oR aY) (Kd.R_typed (oR cF)) oD hg) (o2_ (blk_grown (oP aK) hg (Kd.R_ne cF.out aK.out oD)) (o2_ (Kd.R_over' (oR cA) (Kd.R_typed (oR cF)) oD hg) (o2_ (blk_grown (oP bB) hg (Kd.R_ne cF.out bB.out oD)) (o2_ (hb) (o1_ (ho))))))))))))); clear aZ aD aG aI aA aC aE aY aK cA bB HB cF; obtain ⟨aZ, aD, aG, aI, aA, aC, aE, aY, aK, cA, bB, HB, cG⟩ := n_; clear ho hb hg hat) | ((with_reducible refine gate_builtin (b := .append) (xs := #[.tmp 97, .tmp 98]) rfl ?_); (try (refine gate_guard (by rfl) ?_; dsimp only)); at_builtin; refine Kd.R_append (Kd.int .u8) (w0 := w) w.heap.size rfl (.tmp 97) (.tmp 98) 22 5 (.int .u8 0) 1 rfl Try.underlying22 info5 rfl oD (by omega) lN cE 0 [.int .u8 0] (fun k_ => some k_ ≠ (.slice eK aV.length eH : Value).ownBlock) (fun _ => False) rfl rfl ?aP (fun _ hk => hk.elim) ?aF ?aO ?aB ?aS ?aL ?_; (case aP => exact rfl); (case aB => exact (oB HB)); (case aF => exact (fun k_ hk => Kd.fresh' (Kd.R_lt (oR aZ)) k_ hk)); (case aO => exact (oR cG)); (case aS => exact (below_size (oB HB))); (case aL => have := LMc89.out; omega); intro sM tH ho hb hg hat; rw [← iV.out] at ho; have n_ := o2_ (Kd.R_after (ok := (fun _ => True)) (oR aZ) hg hat) (o2_ (Kd.Q_over' (oQ aD) (Kd.R_typed (oR cG)) oD hg) (o2_ (Kd.Q_over' (oQ aG) (Kd.R_typed (oR cG)) oD hg) (o2_ (Kd.Q_over' (oQ aI) (Kd.R_typed (oR cG)) oD hg) (o2_ (blk_grown (oP aA) hg (Kd.R_ne cG.out aA.out oD)) (o2_ (blk_grown (oP aC) hg (Kd.R_ne cG.out aC.out oD)) (o2_ (blk_grown (oP aE) hg (Kd.R_ne cG.out aE.out oD)) (o2_ (Kd.R_over' (oR aY) (Kd.R_typed (oR cG)) oD hg) (o2_ (blk_grown (oP aK) hg (Kd.R_ne cG.out aK.out oD)) (o2_ (Kd.R_over' (oR cA) (Kd.R_typed (oR cG)) oD hg) (o2_ (blk_grown (oP bB) hg (Kd.R_ne cG.out bB.out oD)) (o2_ (hb) (o1_ (ho))))))))))))); clear aZ aD aG aI aA aC aE aY aK cA bB HB cG; obtain ⟨aZ, aD, aG, aI, aA, aC, aE, aY, aK, cA, bB, HB, eM⟩ := n_; clear ho hb hg hat; obtain ⟨jP, jV, jY⟩ := Kd.R_slice eM.out; subst jY) | ((with_reducible refine gate_callee (f := 33) rfl ?_); refine goesL_ (some 100) rfl rfl Try.func33 oK rfl #[.slice jP y1463.length jV] rfl oA ?_; (with_reducible refine (impl_RasRead.calls _ _ y1463 eI eJ cW lL _ ?side1 ?side2 lO.out).mono ?_); (case side1 => repeat (first | exact (Kd.R_reads' eM.out).2.2 | (with_reducible refine Kd.C_alloc ?_ _) | (with_reducible refine Kd.C_drewN ?_ _) | (with_reducible refine Kd.C_drew ?_))); (case side2 => exact (Kd.R_reads' eM.out).2.1); rintro e tI ⟨sN, rfl, ho0, hb⟩; refine ⟨_, rfl, ?_⟩; have n_ := o2_ (Kd.R_below (oR aZ) hb) (o2_ (Kd.Q_elder' (oQ aD) (Kd.R_base ho0) hb) (o2_ (Kd.R_elder' (oR aY) (Kd.R_base ho0) hb) (o2_ (Kd.R_lower (Kd.R_new' (Kd.R_new' (Kd.R_new' (Kd.R_new' (Kd.R_new' ho0 (Kd.Q_lt (oQ aD))) (Kd.Q_lt (oQ aG))) (Kd.Q_lt (oQ aI))) (Kd.R_lt (oR aY))) (Kd.R_lt (oR cA))) (below_size (oB HB))) (o2_ (blk_below (oP aA) hb) (o2_ (blk_below (oP aC) hb) (o2_ (blk_below (oP aE) hb) (o2_ (blk_below (oP aK) hb) (o2_ (blk_below (oP bB) hb) (o1_ (below_step (oB HB) hb)))))))))); clear aZ aD aY aA aC aE aK bB HB; obtain ⟨aZ, aD, aY, dB, aA, aC, aE, aK, bB, HB⟩ := n_; (try clear hb); (try clear hb2); (try clear hk); (try clear hi); (try clear ho0)) | ((with_reducible refine gate_dst (N := 16) rfl ?_); (try (refine gate_guard (by rfl) ?_; dsimp only)); refine box_event rfl (N := 16) rfl (cs := #[.int .i64 0, .int .i64 0, .slice none 0 0]) (t := 25) oS ?_; intro bO hg dF hbox hb; have n_ := o2_ (Kd.R_below (oR aZ) hb) (o2_ (Kd.Q_below (oQ aD) hb) (o2_ (Kd.R_below (oR aY) hb) (o2_ (Kd.R_below (oR dB) hb) (o2_ (blk_below (oP aA) hb) (o2_ (blk_below (oP aK) hb) (o2_ (below_step (oB HB) hb) (o2_ (hbox) (o2_ ((oG hg (below_size (oB HB)) : w.heap.size ≤ bO)) (o2_ ((oG hg (below_size (oB HB)) : w.heap.size ≤ bO)) (o2_ ((oL hg (blk_lt (oP aA)))) (o2_ ((oN hg (blk_lt (oP aA)))) (o2_ ((oL hg (blk_lt (oP aC)))) (o2_ ((oN hg (blk_lt (oP aC)))) (o2_ ((oL hg (blk_lt (oP aE)))) (o2_ ((oN hg (blk_lt (oP aE)))) (o2_ ((oL hg (blk_lt (oP aK)))) (o2_ ((oN hg (blk_lt (oP aK)))) (o2_ ((oL hg (blk_lt (oP bB)))) (o1_ ((oN hg (blk_lt (oP bB))))))))))))))))))))))); clear aZ aD aY dB aA aK HB; obtain ⟨aZ, aD, aY, dB, aA, aK, HB, cM, mZ, mT, dK, eB, dN, eC, dQ, eD, dV, eE, eA, eF⟩ := n_; clear hb hbox hg; have pC := eB.out; have pQ := dK.out; have pD := eC.out; have pR := dN.out; have pE := eD.out; have pS := dQ.out; have pF := eE.out; have pT := dV.out; have pG := eF.out; have pU := eA.out; have kH : dF.cell? ⟨bO, 0, none⟩ = some (.int .i64 0) := (blk_cell cM.out 0).trans rfl; have kI : dF.cell? ⟨bO, 1, none⟩ = some (.int .i64 0) := (blk_cell cM.out 1).trans rfl; have kJ : dF.cell? ⟨bO, 2, none⟩ = some (.slice none 0 0) := (blk_cell cM.out 2).trans rfl; have kZ := blk_frozen cM.out 0; have lA := blk_frozen cM.out 1; have lB := blk_frozen cM.out 2; obtain ⟨cY, cZ, jZ⟩ := Kd.R_slice dB.out; subst jZ; have kK : dF.cell? ⟨bC, 0, none⟩ = some (.int .i64 cI) := (blk_cell aK.out 0).trans rfl; have kL : dF.cell? ⟨bC, 1, none⟩ = some (.int .i64 cJ) := (blk_cell aK.out 1).trans rfl; have kM : dF.cell? ⟨bC, 2, none⟩ = some (.slice cN bR.length cK) := (blk_cell aK.out 2).trans rfl; have lC := blk_frozen aK.out 0; have lD := blk_frozen aK.out 1; have lE := blk_frozen aK.out 2; have kN : dF.cell? ⟨aX, 0, none⟩ = some (.int .i64 bH) := (blk_cell aA.out 0).trans rfl; have kO : dF.cell? ⟨aX, 1, none⟩ = some (.int .i64 bI) := (blk_cell aA.out 1).trans rfl; have kP : dF.cell? ⟨aX, 2, none⟩ = some (.slice bZ aU.length bT) := (blk_cell aA.out 2).trans rfl; have lF := blk_frozen aA.out 0; have lG := blk_frozen aA.out 1; have lH := blk_frozen aA.out 2) | (go_at_call 21; (with_reducible refine (laws_eaRas.calls kj62 cI cJ _ _ bR bH bI _ _ aU true _ ?side1 ?side2 ?side3 ?side4 sS.out).mono ?_); (case side1 => refine (Kd.R_reads' (e := 38) (base := w.heap.size) (ok := fun k_ => (((some k_ ≠ (.slice bZ aU.length bT : Value).ownBlock ∧ (some k_ ≠ (.slice bU bA.length bW : Value).ownBlock ∧ some k_ ≠ (.slice bJ aT.length bK : Value).ownBlock)) ∧ some k_ ≠ (.slice cR cQ.length cS : Value).ownBlock) ∧ some k_ ≠ (.slice cY cW.length cZ : Value).ownBlock)) (n := bR.length) (c := cK) ?_).2.2; exact (by (with_reducible repeat (first | apply Kd.R_alloc | apply Kd.R_drewN | apply Kd.R_drew)); exact (Kd.R_mono (Kd.R_far (p := ⟨bO, 2, none⟩) (Kd.R_far (p := ⟨bO, 1, none⟩) (Kd.R_far (p := ⟨bO, 0, none⟩) (Kd.R_types aY.out cM.out oD) (fun _ hk => hk.2) (.int .i64 eI)) (fun _ hk => hk.2) (.int .i64 eJ)) (fun _ hk => hk.2) (.slice cY cW.length cZ)) (fun _ h_ => h_.1)))); (case side2 => exact (Kd.R_reads' aY.out).2.1); (case side3 => refine (Kd.Q_reads' (e := 38) (base := w.heap.size) (ok := fun k_ => (((some k_ ≠ (.slice bU bA.length bW : Value).ownBlock ∧ (some k_ ≠ (.slice bJ aT.length bK : Value).ownBlock ∧ some k_ ≠ (.slice cN bR.length cK : Value).ownBlock)) ∧ some k_ ≠ (.slice cR cQ.length cS : Value).ownBlock) ∧ some k_ ≠ (.slice cY cW.length cZ : Value).ownBlock)) (n := aU.length) (c := bT) ?_).2.2; exact (by (with_reducible repeat (first | apply Kd.Q_alloc | apply Kd.Q_drewN | apply Kd.Q_drew)); exact (Kd.Q_mono (Kd.Q_far (p := ⟨bO, 2, none⟩) (Kd.Q_far (p := ⟨bO, 1, none⟩) (Kd.Q_far (p := ⟨bO, 0, none⟩) (Kd.Q_types aD.out cM.out oD) (fun _ hk => hk.2) (.int .i64 eI)) (fun _ hk => hk.2) (.int .i64 eJ)) (fun _ hk => hk.2) (.slice cY cW.length cZ)) (fun _ h_ => h_.1)))); (case side4 => exact (Kd.Q_reads' aD.out).2.1); rintro e tJ ⟨rfl, hb⟩; have n_ := o2_ (Kd.R_below (by (with_reducible repeat (first | apply Kd.R_alloc | apply Kd.R_drewN | apply Kd.R_drew)); exact (Kd.R_mono (Kd.R_far (p := ⟨bO, 2, none⟩) (Kd.R_far (p := ⟨bO, 1, none⟩) (Kd.R_far (p := ⟨bO, 0, none⟩) (Kd.R_types aZ.out cM.out oD) (fun _ hk => hk.2) (.int .i64 eI)) (fun _ hk => hk.2) (.int .i64 eJ)) (fun _ hk => hk.2) (.slice cY cW.length cZ)) (fun _ h_ => h_.1))) hb) (o2_ (Kd.Q_below (by (with_reducible repeat (first | apply Kd.Q_alloc | apply Kd.Q_drewN | apply Kd.Q_drew)); exact (Kd.Q_mono (Kd.Q_far (p := ⟨bO, 2, none⟩) (Kd.Q_far (p := ⟨bO, 1, none⟩) (Kd.Q_far (p := ⟨bO, 0, none⟩) (Kd.Q_types aD.out cM.out oD) (fun _ hk => hk.2) (.int .i64 eI)) (fun _ hk => hk.2) (.int .i64 eJ)) (fun _ hk => hk.2) (.slice cY cW.length cZ)) (fun _ h_ => h_.1))) hb) (o2_ (blk_below (oP aA) hb) (o1_ (below_step (oB HB) hb)))); clear aZ aD aA HB; obtain ⟨aZ, aD, aA, HB⟩ := n_; (try clear hb); (try clear hb2); (try clear hk); (try clear hi)))
                  go_ret
                  exact ⟨by first | rfl | (simp [errW_none, errW_some] <;> rfl) | (simp only [← hji84]; first | rfl | (simp [errW_none, errW_some] <;> rfl)) | (simp [*, errW_none, errW_some] <;> rfl), oB HB⟩
                ·replace lU := Bool.eq_false_iff.mpr lU
                 subst lU
                 rw [if_neg (show ¬ (false = true) by decide)] at H
                 exact absurd H (by simp)
               ·replace lT := Bool.eq_false_iff.mpr lT
                subst lT
                rw [if_neg (show ¬ (false = true) by decide)] at H
                exact absurd H (by simp)
              ·rw [if_neg lS] at H
               exact absurd H (by simp)
             ·rw [if_neg lR] at H
              exact absurd H (by simp)
            ·rw [if_neg jU] at H
             exact absurd H (by simp)
           ·rw [if_neg jT] at H
            exact absurd H (by simp)
          ·replace lQ := Bool.eq_false_iff.mpr lQ
           subst lQ
           rw [if_neg (show ¬ (false = true) by decide)] at H
           by_cases hL : (aV.length : Int) = 0
           ·rw [if_pos hL] at H
            have nB : ((aV.length : Int) == 0) = true := beq_iff_eq.mpr hL
            have nC : ((aV.length : Int) != 0) = false := bne_eq_false_iff_eq.mpr hL
            clear hL
            replace H := Option.bind_eq_some_iff.mp H
            obtain ⟨hR, iN, H⟩ := H
            (try dsimp only at H)
            have mE := Aside0.mk iN
            clear iN
            obtain rfl := Option.some.inj H
            have pH := bL.out
            have pV := bM.out
            have pI := bX.out
            have pW := bY.out
            have kQ : wc.cell? ⟨aX, 0, none⟩ = some (.int .i64 bH) := (blk_cell aA.out 0).trans rfl
            have kR : wc.cell? ⟨aX, 1, none⟩ = some (.int .i64 bI) := (blk_cell aA.out 1).trans rfl
            have kS : wc.cell? ⟨aX, 2, none⟩ = some (.slice bZ aU.length bT) := (blk_cell aA.out 2).trans rfl
            have lI := blk_frozen aA.out 0
            have lJ := blk_frozen aA.out 1
            have lK := blk_frozen aA.out 2
            go_wp2_with (first | ((with_reducible refine gate_callee (f := 24) rfl ?_); refine goesL_ (some 72) rfl rfl Try.func24 oK rfl #[.agg #[.int .i64 bH, .int .i64 bI, .slice bZ aU.length bT]] rfl oA ?_; (with_reducible refine (spec_RasOk.calls kj62 bH bI _ _ aU false _ ?side1 ?side2 mH.out).mono ?_); (case side1 => repeat (first | exact (Kd.Q_reads' aD.out).2.2 | (with_reducible refine Kd.C_alloc ?_ _) | (with_reducible refine Kd.C_drewN ?_ _) | (with_reducible refine Kd.C_drew ?_))); (case side2 => exact (Kd.Q_reads' aD.out).2.1); rintro e tK ⟨rfl, hb⟩; refine ⟨_, rfl, ?_⟩; have n_ := o2_ (Kd.R_below (oR aZ) hb) (o1_ (below_step (oB HB) hb)); clear aZ HB; obtain ⟨aZ, HB⟩ := n_; (try clear hb); (try clear hb2); (try clear hk); (try clear hi); obtain ⟨qH, qM, kA⟩ := Kd.R_slice aZ.out; subst kA) | (go_at_call 25; (with_reducible refine (laws_eaOk.calls  hR _ mE.out).mono ?_); rintro e tL ⟨rfl, hb⟩; replace HB := o1_ (below_step (oB HB) hb); (try clear hb); (try clear hb2); (try clear hk); (try clear hi)))
            go_ret
            exact ⟨by first | rfl | (simp [errW_none, errW_some] <;> rfl) | (simp [*, errW_none, errW_some] <;> rfl), oB HB⟩
           ·rw [if_neg hL] at H
            exact absurd H (by simp)

/-- THE ONE PURE STATEMENT of laws_FnRasBytes: yours. -/
def laws_FnRasBytes.Pure : Prop := ∀ (l0 : List Int) (l1 : List Int), l0.length ≤ maxLen → l0.length * 1 ≤ 140737488351232 → (∀ x ∈ l0, (Lit.int .u8 x).wf = true) → l1.length ≤ maxLen → l1.length * 1 ≤ 140737488351232 → (∀ x ∈ l1, (Lit.int .u8 x).wf = true) → ∃ k, laws_FnRasBytes.f k l0 l1 = some true
theorem laws_FnRasBytes.walk (P : laws_FnRasBytes.Pure) (a0 : Option Addr) (len0 cap0 : Nat) (z0 : List Int) (a1 : Option Addr) (len1 cap1 : Nat) (z1 : List Int) (w : World) (w0 : (a0 = none ∧ len0 = 0 ∧ cap0 = 0 ∧ z0 = []) ∨ ∃ x, a0 = some x ∧ len0 ≤ cap0 ∧ cap0 ≤ maxLen ∧ z0.length = cap0 ∧ (∀ i, i < z0.length → w.cell? (x.add i) = some (.int .u8 (z0.getD i 0))) ∧ ∀ n ∈ z0, (Lit.int .u8 n).wf = true) (y0 : len0 * 1 ≤ 140737488351232) (w1 : (a1 = none ∧ len1 = 0 ∧ cap1 = 0 ∧ z1 = []) ∨ ∃ x, a1 = some x ∧ len1 ≤ cap1 ∧ cap1 ≤ maxLen ∧ z1.length = cap1 ∧ (∀ i, i < z1.length → w.cell? (x.add i) = some (.int .u8 (z1.getD i 0))) ∧ ∀ n ∈ z1, (Lit.int .u8 n).wf = true) (y1 : len1 * 1 ≤ 140737488351232) :
  Calls Try.prog 17 #[.slice a0 len0 cap0, .slice a1 len1 cap1] w fun e w' => e = .returned (.bool true) ∧ Below w.heap.size w w' := by
 obtain ⟨l0, rfl, hr0, hm0, hw0, lW⟩ := ReadsInt.ofRowC w0
 obtain ⟨l1, rfl, hr1, hm1, hw1, lX⟩ := ReadsInt.ofRowC w1
 obtain ⟨k, h⟩ := P l0 l1 hm0 y0 hw0 hm1 y1 hw1
 refine (laws_FnRasBytes.calls k _ _ l0 _ _ l1 true w (Kd.C_of_reads (d := (0 : Int)) (h1 := fun _ => rfl) hr0) lW (Kd.C_of_reads (d := (0 : Int)) (h1 := fun _ => rfl) hr1) lX h).mono ?_
 rintro e w' ⟨rfl, hd⟩
 exact ⟨rfl, hd⟩

end Go.Proofs.Ythnmeogafklhnaa.X
