/- What functions of the program come to, each with its proof. No condition but what each theorem states. -/
import Derived.Test.YtfnkaccncmjnaaaX0
import Derived.Test.YtfnkaccncmjnaaaX23
import Derived.Test.YtfnkaccncmjnaaaX26
import Derived.Test.YtfnkaccncmjnaaaX41
import Derived.Test.YtfnkaccncmjnaaaX45
import Derived.Test.YtfnkaccncmjnaaaX49
import Derived.Test.YtfnkaccncmjnaaaX57
namespace Go.Proofs.Ytfnkaccncmjnaaa.X
open Go.RowKit Go.Proofs.YtfnkaccncmjnaaaW.PrintWords Go.Proofs.YtfnkaccncmjnaaaW.PrintLast Go.Proofs.YtfnkaccncmjnaaaW.PrintMore Go.Proofs.Ytfnkaccncmjnaaa.Hyb
attribute [local go_sem] max2_int min2_int max_two min_two max_three min_three max_four min_four
set_option linter.unusedVariables false
set_option linter.unusedSimpArgs false

/-! ### laws_FnPakApart: function 9 -/
mutual
def laws_FnPakApart.j0 : Nat → List Int → List Int → Bool → Option (Bool)
 | 0, _, _, _ => none
 | k + 1, x0, x1, x17 => if x17 = true then (some true) else ((spec_DrawPakPut.f k x0).bind fun aB => ((spec_DrawPakPut.f k x1).bind fun aJ => ((impl_PakPut.f k aB).bind fun aF => ((spec_PakPut.f k aB).bind fun aX => ((laws_eaBytes.f aF aX).bind fun bF => (if bF = true then (if (aB.length : Int) > 200 then (laws_FnPakApart.j1 k aB aJ aF true) else (laws_FnPakApart.j1 k aB aJ aF (decide ((aJ.length : Int) > 200)))) else (none)))))))
def laws_FnPakApart.j1 : Nat → List Int → List Int → List Int → Bool → Option (Bool)
 | 0, _, _, _, _ => none
 | k + 1, x5, x6, x7, x36 => if x36 = true then ((laws_eaOk.f).bind fun bG => (some bG)) else ((impl_PakGet.f k x7).bind fun bA => ((impl_PakPut.f k x6).bind fun aY => ((laws_eaBytes.f x7 aY).bind fun aN => ((laws_eaBytes.f x5 x6).bind fun aO => (if (aN == aO) = true then (if bA.2 = true then ((impl_PakPut.f k bA.1).bind fun aZ => ((laws_eaBytes.f aZ x7).bind fun bH => (some bH))) else (none)) else (none))))))
end
def laws_FnPakApart.f (k : Nat) (l0 : List Int) (l1 : List Int) : Option (Bool) := if (l0.length : Int) > 1048576 then (laws_FnPakApart.j0 k l0 l1 true) else (laws_FnPakApart.j0 k l0 l1 (decide ((l1.length : Int) > 1048576)))
theorem laws_FnPakApart.mono_l : ∀ k, (∀ y0 y1 y2, LeO (laws_FnPakApart.j0 k y0 y1 y2) (laws_FnPakApart.j0 (k + 1) y0 y1 y2)) ∧ (∀ y0 y1 y2 y3, LeO (laws_FnPakApart.j1 k y0 y1 y2 y3) (laws_FnPakApart.j1 (k + 1) y0 y1 y2 y3))
 | 0 => ⟨(fun _ _ _ r h => nomatch (show none = some r from h)), (fun _ _ _ _ r h => nomatch (show none = some r from h))⟩
 | k + 1 => by
  obtain ⟨ih0, ih1⟩ := laws_FnPakApart.mono_l k
  refine ⟨?_, ?_⟩
  ·intro y0 y1 y2
   unfold laws_FnPakApart.j0
   repeat' first
   | (with_reducible exact ih0 _ _ _)
   | (with_reducible exact ih1 _ _ _ _)
   | (with_reducible exact impl_PakGet.mono _ _)
   | (with_reducible exact impl_PakPut.mono _ _)
   | (with_reducible exact spec_DrawPakPut.mono _ _)
   | (with_reducible exact spec_PakPut.mono _ _)
   | (with_reducible exact LeO.refl _)
   | (with_reducible exact LeO.none _)
   | (with_reducible refine LeO.ite ?_ ?_)
   | (with_reducible refine LeO.bind ?_ (fun _ => ?_))
   | exact ih0 _ _ _
   | exact ih1 _ _ _ _
   | exact impl_PakGet.mono _ _
   | exact impl_PakPut.mono _ _
   | exact spec_DrawPakPut.mono _ _
   | exact spec_PakPut.mono _ _
   | exact LeO.none _
   | refine LeO.ite ?_ ?_
   | refine LeO.bind ?_ (fun _ => ?_)
  ·intro y0 y1 y2 y3
   unfold laws_FnPakApart.j1
   repeat' first
   | (with_reducible exact ih0 _ _ _)
   | (with_reducible exact ih1 _ _ _ _)
   | (with_reducible exact impl_PakGet.mono _ _)
   | (with_reducible exact impl_PakPut.mono _ _)
   | (with_reducible exact spec_DrawPakPut.mono _ _)
   | (with_reducible exact spec_PakPut.mono _ _)
   | (with_reducible exact LeO.refl _)
   | (with_reducible exact LeO.none _)
   | (with_reducible refine LeO.ite ?_ ?_)
   | (with_reducible refine LeO.bind ?_ (fun _ => ?_))
   | exact ih0 _ _ _
   | exact ih1 _ _ _ _
   | exact impl_PakGet.mono _ _
   | exact impl_PakPut.mono _ _
   | exact spec_DrawPakPut.mono _ _
   | exact spec_PakPut.mono _ _
   | exact LeO.none _
   | refine LeO.ite ?_ ?_
   | refine LeO.bind ?_ (fun _ => ?_)
theorem laws_FnPakApart.mono : ∀ a0 a1 k, LeO (laws_FnPakApart.f k a0 a1) (laws_FnPakApart.f (k + 1) a0 a1) := by
 intro a0 a1 k
 obtain ⟨ih0, ih1⟩ := laws_FnPakApart.mono_l k
 unfold laws_FnPakApart.f
 repeat' first
   | (with_reducible exact ih0 _ _ _)
   | (with_reducible exact ih1 _ _ _ _)
   | (with_reducible exact impl_PakGet.mono _ _)
   | (with_reducible exact impl_PakPut.mono _ _)
   | (with_reducible exact spec_DrawPakPut.mono _ _)
   | (with_reducible exact spec_PakPut.mono _ _)
   | (with_reducible exact LeO.refl _)
   | (with_reducible exact LeO.none _)
   | (with_reducible refine LeO.ite ?_ ?_)
   | (with_reducible refine LeO.bind ?_ (fun _ => ?_))
   | exact ih0 _ _ _
   | exact ih1 _ _ _ _
   | exact impl_PakGet.mono _ _
   | exact impl_PakPut.mono _ _
   | exact spec_DrawPakPut.mono _ _
   | exact spec_PakPut.mono _ _
   | exact LeO.none _
   | refine LeO.ite ?_ ?_
   | refine LeO.bind ?_ (fun _ => ?_)
set_option maxHeartbeats 8000000 in
set_option maxRecDepth 100000 in
theorem laws_FnPakApart.calls (k : Nat) (A0 : Option Addr) (c0 : Nat) (l0 : List Int) (A1 : Option Addr) (c1 : Nat) (l1 : List Int) (r : Bool) (w : World) (hr0 : Kd.C (Kd.int .u8) w A0 l0.length l0) (bY : l0.length ≤ c0) (hr1 : Kd.C (Kd.int .u8) w A1 l1.length l1) (bZ : l1.length ≤ c1) (h : laws_FnPakApart.f k l0 l1 = some r) :
  Calls Try.prog 9 #[.slice A0 l0.length c0, .slice A1 l1.length c1] w fun e w' => e = .returned (.bool r) ∧ Below w.heap.size w w' := by
 have dK := Aside0.mk hr0
 have dH := Aside0.mk bY
 clear hr0 bY
 have dL := Aside0.mk hr1
 have dI := Aside0.mk bZ
 clear hr1 bZ
 have HB := Aside0.mk (Below.refl w.heap.size w)
 have H : (if (l0.length : Int) > 1048576 then (laws_FnPakApart.j0 k l0 l1 true) else (laws_FnPakApart.j0 k l0 l1 (decide ((l1.length : Int) > 1048576)))) = some r := h
 clear h
 have cC := Aside0.mk H
 clear H
 go_enter Try.func9, Try.ntmps9
 go_upto_region 1 with (fail)
 go_cut [17] (fun dP wc => ∃ (kq : Nat) (aQ : Bool), dP = .bool aQ ∧ Aside0 (laws_FnPakApart.j0 kq l0 l1 aQ = some r) ∧ Aside0 (kq ≤ k) ∧ Aside0 (Below w.heap.size w wc))
 case first =>
  have H := cC.out
  clear cC
  by_cases c4 : (l0.length : Int) > 1048576
  ·rw [if_pos c4] at H
   have aM : decide (1048576 < (l0.length : Int)) = true := decide_eq_true c4
   have bE : decide (1048576 < l0.length) = true := decide_eq_true (by omega)
   clear c4
   (first | rw [aM] | (simp only [i64_w, i32_w]; rw [aM]) | skip)
   have H' := Aside0.mk H
   clear H
   go_wp2
   go_meet
   case rel => exact ⟨_, (true), oU, H', ⟨(by first | omega | exact Nat.le_refl _)⟩, ⟨(oB HB)⟩⟩
  ·rw [if_neg c4] at H
   have aM : decide (1048576 < (l0.length : Int)) = false := decide_eq_false c4
   have bE : decide (1048576 < l0.length) = false := decide_eq_false (by omega)
   clear c4
   (first | rw [aM] | (simp only [i64_w, i32_w]; rw [aM]) | skip)
   have H' := Aside0.mk H
   clear H
   go_wp2
   go_meet
   case rel => exact ⟨_, (decide ((l1.length : Int) > 1048576)), oU, H', ⟨(by first | omega | exact Nat.le_refl _)⟩, ⟨(oB HB)⟩⟩
 case rest =>
  clear cC
  try clear c1
  try clear p2
  try clear c4
  try clear aM
  try clear bE
  obtain ⟨kq, aQ, rfl, HA, cS, HB⟩ := hcut
  cases kq with
  | zero => exact nomatch (show none = some _ from HA.out)
  | succ kj2 =>
   have H := HA.out
   clear HA
   simp only [laws_FnPakApart.j0] at H
   by_cases c5 : aQ = true
   ·subst c5
    rw [if_pos rfl] at H
    obtain rfl := Option.some.inj H
    go_wp2
    go_ret
    exact ⟨by first | rfl | (simp [errW_none, errW_some] <;> rfl) | (simp [*, errW_none, errW_some] <;> rfl), oB HB⟩
   ·replace c5 := Bool.eq_false_iff.mpr c5
    subst c5
    rw [if_neg (show ¬ (false = true) by decide)] at H
    replace H := Option.bind_eq_some_iff.mp H
    obtain ⟨aB, cO, H⟩ := H
    (try dsimp only at H)
    have A6 := Aside0.mk cO
    clear cO
    replace H := Option.bind_eq_some_iff.mp H
    obtain ⟨aJ, cP, H⟩ := H
    (try dsimp only at H)
    have A7 := Aside0.mk cP
    clear cP
    replace H := Option.bind_eq_some_iff.mp H
    obtain ⟨aF, cQ, H⟩ := H
    (try dsimp only at H)
    have A8 := Aside0.mk cQ
    clear cQ
    replace H := Option.bind_eq_some_iff.mp H
    obtain ⟨aX, cR, H⟩ := H
    (try dsimp only at H)
    have A9 := Aside0.mk cR
    clear cR
    replace H := Option.bind_eq_some_iff.mp H
    obtain ⟨bF, bK, H⟩ := H
    (try dsimp only at H)
    have cW := Aside0.mk bK
    clear bK
    by_cases bT : bF = true
    ·subst bT
     rw [if_pos rfl] at H
     have bC := Aside0.mk H
     clear H
     go_upto_region 8 with (first | ((with_reducible refine gate_callee (f := 33) rfl ?_); refine goesL_ (some 19) rfl rfl Try.func33 oK rfl #[.slice A0 l0.length c0] rfl oA ?_; (with_reducible refine (spec_DrawPakPut.calls kj2 _ _ l0 aB _ ?side1 ?side2 A6.out).mono ?_); (case side1 => repeat (first | exact (Kd.C_below dK.out HB.out) | (with_reducible refine Kd.C_alloc ?_ _) | (with_reducible refine Kd.C_drewN ?_ _) | (with_reducible refine Kd.C_drew ?_))); (case side2 => exact dH.out); rintro e dX ⟨dR, rfl, ho0, hb⟩; refine ⟨_, rfl, ?_⟩; have n_ := o2_ (Kd.R_lower ho0 (below_size (oB HB))) (o1_ (below_step (oB HB) hb)); clear HB; obtain ⟨aA, HB⟩ := n_; (try clear hb); (try clear hb2); (try clear hk); (try clear hi); (try clear ho0)) | ((with_reducible refine gate_callee (f := 33) rfl ?_); refine goesL_ (some 21) rfl rfl Try.func33 oK rfl #[.slice A1 l1.length c1] rfl oA ?_; (with_reducible refine (spec_DrawPakPut.calls kj2 _ _ l1 aJ _ ?side1 ?side2 A7.out).mono ?_); (case side1 => repeat (first | exact (Kd.C_below dL.out HB.out) | (with_reducible refine Kd.C_alloc ?_ _) | (with_reducible refine Kd.C_drewN ?_ _) | (with_reducible refine Kd.C_drew ?_))); (case side2 => exact dI.out); rintro e dY ⟨bI, rfl, ho0, hb⟩; refine ⟨_, rfl, ?_⟩; have n_ := o2_ (Kd.R_elder' (oR aA) (Kd.R_base ho0) hb) (o2_ (Kd.R_lower (Kd.R_new' ho0 (Kd.R_lt (oR aA))) (below_size (oB HB))) (o1_ (below_step (oB HB) hb))); clear aA HB; obtain ⟨aA, aD, HB⟩ := n_; (try clear hb); (try clear hb2); (try clear hk); (try clear hi); (try clear ho0); obtain ⟨aR, aT, cF⟩ := Kd.R_slice aA.out; subst cF) | ((with_reducible refine gate_callee (f := 32) rfl ?_); refine goesL_ (some 23) rfl rfl Try.func32 oK rfl #[.slice aR aB.length aT] rfl oA ?_; (with_reducible refine (impl_PakPut.calls kj2 _ _ aB aF _ ?side1 ?side2 A8.out).mono ?_); (case side1 => repeat (first | exact (Kd.R_reads' aA.out).2.2 | (with_reducible refine Kd.C_alloc ?_ _) | (with_reducible refine Kd.C_drewN ?_ _) | (with_reducible refine Kd.C_drew ?_))); (case side2 => exact (Kd.R_reads' aA.out).2.1); rintro e dZ ⟨dS, rfl, ho0, hb⟩; refine ⟨_, rfl, ?_⟩; have n_ := o2_ (Kd.R_elder' (oR aA) (Kd.R_base ho0) hb) (o2_ (Kd.R_elder' (oR aD) (Kd.R_base ho0) hb) (o2_ (Kd.R_lower (Kd.R_new' (Kd.R_new' ho0 (Kd.R_lt (oR aA))) (Kd.R_lt (oR aD))) (below_size (oB HB))) (o1_ (below_step (oB HB) hb)))); clear aA aD HB; obtain ⟨aA, aD, aG, HB⟩ := n_; (try clear hb); (try clear hb2); (try clear hk); (try clear hi); (try clear ho0)) | ((with_reducible refine gate_callee (f := 31) rfl ?_); refine goesL_ (some 26) rfl rfl Try.func31 oK rfl #[.slice aR aB.length aT] rfl oA ?_; (with_reducible refine (spec_PakPut.calls kj2 _ _ aB aX _ ?side1 ?side2 A9.out).mono ?_); (case side1 => repeat (first | exact (Kd.R_reads' aA.out).2.2 | (with_reducible refine Kd.C_alloc ?_ _) | (with_reducible refine Kd.C_drewN ?_ _) | (with_reducible refine Kd.C_drew ?_))); (case side2 => exact (Kd.R_reads' aA.out).2.1); rintro e eA ⟨dT, rfl, ho0, hb⟩; refine ⟨_, rfl, ?_⟩; have n_ := o2_ (Kd.R_elder' (oR aA) (Kd.R_base ho0) hb) (o2_ (Kd.R_elder' (oR aD) (Kd.R_base ho0) hb) (o2_ (Kd.R_elder' (oR aG) (Kd.R_base ho0) hb) (o2_ (Kd.R_lower (Kd.R_new' (Kd.R_new' (Kd.R_new' ho0 (Kd.R_lt (oR aA))) (Kd.R_lt (oR aD))) (Kd.R_lt (oR aG))) (below_size (oB HB))) (o1_ (below_step (oB HB) hb))))); clear aA aD aG HB; obtain ⟨aA, aD, aG, aV, HB⟩ := n_; (try clear hb); (try clear hb2); (try clear hk); (try clear hi); (try clear ho0); obtain ⟨aS, aU, cG⟩ := Kd.R_slice aG.out; subst cG; obtain ⟨cA, cD, cH⟩ := Kd.R_slice aV.out; subst cH) | ((with_reducible refine gate_callee (f := 23) rfl ?_); refine goesL_ (some 27) rfl rfl Try.func23 oK rfl #[.slice aS aF.length aU, .slice cA aX.length cD] rfl oA ?_; (with_reducible refine (laws_eaBytes.calls _ _ aF _ _ aX true _ ?side1 ?side2 ?side3 ?side4 cW.out).mono ?_); (case side1 => repeat (first | exact (Kd.R_reads' aG.out).2.2 | (with_reducible refine Kd.C_alloc ?_ _) | (with_reducible refine Kd.C_drewN ?_ _) | (with_reducible refine Kd.C_drew ?_))); (case side2 => exact (Kd.R_reads' aG.out).2.1); (case side3 => repeat (first | exact (Kd.R_reads' aV.out).2.2 | (with_reducible refine Kd.C_alloc ?_ _) | (with_reducible refine Kd.C_drewN ?_ _) | (with_reducible refine Kd.C_drew ?_))); (case side4 => exact (Kd.R_reads' aV.out).2.1); rintro e w' ⟨rfl, ⟨nd, rfl⟩⟩; refine ⟨_, rfl, ?_⟩))
     (try simp only [Act.put, List.setIfInBounds_toArray, List.set_cons_zero, List.set_cons_succ])
     go_cut [36] (fun dQ wc => ∃ (kq : Nat) (aL : Bool), dQ = .bool aL ∧ Aside0 (laws_FnPakApart.j1 kq aB aJ aF aL = some r) ∧ Aside0 (kq ≤ kj2) ∧ Aside0 (Kd.R (Kd.int .u8) 5 wc w.heap.size (fun k_ => some k_ ≠ (bI : Value).ownBlock ∧ some k_ ≠ ((.slice aS aF.length aU) : Value).ownBlock) (.slice aR aB.length aT) aB) ∧ Aside0 (Kd.R (Kd.int .u8) 5 wc w.heap.size (fun k_ => some k_ ≠ ((.slice aR aB.length aT) : Value).ownBlock ∧ some k_ ≠ ((.slice aS aF.length aU) : Value).ownBlock) bI aJ) ∧ Aside0 (Kd.R (Kd.int .u8) 5 wc w.heap.size (fun k_ => some k_ ≠ ((.slice aR aB.length aT) : Value).ownBlock ∧ some k_ ≠ (bI : Value).ownBlock) (.slice aS aF.length aU) aF) ∧ Aside0 (Below w.heap.size w wc))
     case first =>
      have H := bC.out
      clear bC
      by_cases bD : (aB.length : Int) > 200
      ·rw [if_pos bD] at H
       have aK : decide (200 < (aB.length : Int)) = true := decide_eq_true bD
       have bB : decide (200 < aB.length) = true := decide_eq_true (by omega)
       clear bD
       (first | rw [aK] | (simp only [i64_w, i32_w]; rw [aK]) | skip)
       have H' := Aside0.mk H
       clear H
       go_wp2
       go_meet
       case rel => exact ⟨_, (true), oU, H', ⟨(by have := cS.out; first | omega | exact Nat.le_refl _)⟩, ⟨(by (with_reducible repeat (first | apply Kd.R_alloc | apply Kd.R_drewN | apply Kd.R_drew)); exact Kd.R_mono aA.out (fun _ hk => ⟨hk.1.1.2, hk.1.2⟩))⟩, ⟨(by (with_reducible repeat (first | apply Kd.R_alloc | apply Kd.R_drewN | apply Kd.R_drew)); exact Kd.R_mono aD.out (fun _ hk => ⟨hk.1.1.2, hk.1.2⟩))⟩, ⟨(by (with_reducible repeat (first | apply Kd.R_alloc | apply Kd.R_drewN | apply Kd.R_drew)); exact Kd.R_mono aG.out (fun _ hk => ⟨hk.1.1.2, hk.1.2⟩))⟩, ⟨(oB HB)⟩⟩
      ·rw [if_neg bD] at H
       have aK : decide (200 < (aB.length : Int)) = false := decide_eq_false bD
       have bB : decide (200 < aB.length) = false := decide_eq_false (by omega)
       clear bD
       (first | rw [aK] | (simp only [i64_w, i32_w]; rw [aK]) | skip)
       have H' := Aside0.mk H
       clear H
       obtain ⟨dE, dM, cI⟩ := Kd.R_slice aD.out
       subst cI
       go_wp2
       go_meet
       case rel => exact ⟨_, (decide ((aJ.length : Int) > 200)), oU, H', ⟨(by have := cS.out; first | omega | exact Nat.le_refl _)⟩, ⟨(by (with_reducible repeat (first | apply Kd.R_alloc | apply Kd.R_drewN | apply Kd.R_drew)); exact Kd.R_mono aA.out (fun _ hk => ⟨hk.1.1.2, hk.1.2⟩))⟩, ⟨(by (with_reducible repeat (first | apply Kd.R_alloc | apply Kd.R_drewN | apply Kd.R_drew)); exact Kd.R_mono aD.out (fun _ hk => ⟨hk.1.1.2, hk.1.2⟩))⟩, ⟨(by (with_reducible repeat (first | apply Kd.R_alloc | apply Kd.R_drewN | apply Kd.R_drew)); exact Kd.R_mono aG.out (fun _ hk => ⟨hk.1.1.2, hk.1.2⟩))⟩, ⟨(oB HB)⟩⟩
     case rest =>
      clear bC
      try clear c1
      try clear c2
      try clear p2
      try clear c3
      try clear c4
      try clear aM
      try clear bE
      try clear c5
      try clear c9
      try clear bT
      try clear bD
      try clear aK
      try clear bB
      try clear p2
      obtain ⟨kq, aL, rfl, HA, dJ, aH, aE, aC, HB⟩ := hcut
      cases kq with
      | zero => exact nomatch (show none = some _ from HA.out)
      | succ kj11 =>
       have H := HA.out
       clear HA
       simp only [laws_FnPakApart.j1] at H
       by_cases bW : aL = true
       ·subst bW
        rw [if_pos rfl] at H
        replace H := Option.bind_eq_some_iff.mp H
        obtain ⟨bG, bL, H⟩ := H
        (try dsimp only at H)
        have cX := Aside0.mk bL
        clear bL
        obtain rfl := Option.some.inj H
        go_wp2_with (first | ((with_reducible refine gate_callee (f := 25) rfl ?_); refine goesL_ (some 37) rfl rfl Try.func25 oK rfl #[] rfl oA ?_; (with_reducible refine (laws_eaOk.calls  bG _ cX.out).mono ?_); rintro e eB ⟨rfl, hb⟩; refine ⟨_, rfl, ?_⟩; have n_ := o2_ (Kd.R_below (oR aH) hb) (o2_ (Kd.R_below (oR aE) hb) (o2_ (Kd.R_below (oR aC) hb) (o1_ (below_step (oB HB) hb)))); clear aH aE aC HB; obtain ⟨aH, aE, aC, HB⟩ := n_; (try clear hb); (try clear hb2); (try clear hk); (try clear hi)))
        go_ret
        exact ⟨by first | rfl | (simp [errW_none, errW_some] <;> rfl) | (simp [*, errW_none, errW_some] <;> rfl), oB HB⟩
       ·replace bW := Bool.eq_false_iff.mpr bW
        subst bW
        rw [if_neg (show ¬ (false = true) by decide)] at H
        replace H := Option.bind_eq_some_iff.mp H
        obtain ⟨⟨bV, cN⟩, bM, H⟩ := H
        (try dsimp only at H)
        have cY := Aside0.mk bM
        clear bM
        replace H := Option.bind_eq_some_iff.mp H
        obtain ⟨aY, bN, H⟩ := H
        (try dsimp only at H)
        have cZ := Aside0.mk bN
        clear bN
        replace H := Option.bind_eq_some_iff.mp H
        obtain ⟨aN, bO, H⟩ := H
        (try dsimp only at H)
        have dA := Aside0.mk bO
        clear bO
        replace H := Option.bind_eq_some_iff.mp H
        obtain ⟨aO, bP, H⟩ := H
        (try dsimp only at H)
        have dB := Aside0.mk bP
        clear bP
        by_cases bJ : (aN == aO) = true
        ·rw [if_pos bJ] at H
         have cT : (aN == aO) = true := bJ
         (try (have cU : decide (aN = aO) = true := by simpa using bJ))
         (try (have cV : (aN == aO) = true := by simpa using bJ))
         clear bJ
         by_cases bX : cN = true
         ·subst bX
          rw [if_pos rfl] at H
          replace H := Option.bind_eq_some_iff.mp H
          obtain ⟨aZ, bQ, H⟩ := H
          (try dsimp only at H)
          have dC := Aside0.mk bQ
          clear bQ
          replace H := Option.bind_eq_some_iff.mp H
          obtain ⟨bH, bR, H⟩ := H
          (try dsimp only at H)
          have dD := Aside0.mk bR
          clear bR
          obtain rfl := Option.some.inj H
          go_wp2_with (first | ((with_reducible refine gate_callee (f := 30) rfl ?_); refine goesL_ (some 40) rfl rfl Try.func30 oK rfl #[.slice aS aF.length aU] rfl oA ?_; (with_reducible refine (impl_PakGet.calls kj11 _ _ aF bV true _ ?side1 ?side2 cY.out).mono ?_); (case side1 => repeat (first | exact (Kd.R_reads' aC.out).2.2 | (with_reducible refine Kd.C_alloc ?_ _) | (with_reducible refine Kd.C_drewN ?_ _) | (with_reducible refine Kd.C_drew ?_))); (case side2 => exact (Kd.R_reads' aC.out).2.1); rintro e eC ⟨dU, rfl, ho0, hb⟩; refine ⟨_, rfl, ?_⟩; have n_ := o2_ (Kd.R_elder' (oR aH) (Kd.R_base ho0) hb) (o2_ (Kd.R_elder' (oR aE) (Kd.R_base ho0) hb) (o2_ (Kd.R_elder' (oR aC) (Kd.R_base ho0) hb) (o2_ (Kd.R_lower (Kd.R_new' (Kd.R_new' (Kd.R_new' ho0 (Kd.R_lt (oR aH))) (Kd.R_lt (oR aE))) (Kd.R_lt (oR aC))) (below_size (oB HB))) (o1_ (below_step (oB HB) hb))))); clear aH aE aC HB; obtain ⟨aH, aE, aC, aI, HB⟩ := n_; (try clear hb); (try clear hb2); (try clear hk); (try clear hi); (try clear ho0); obtain ⟨bS, bU, cJ⟩ := Kd.R_slice aE.out; subst cJ) | ((with_reducible refine gate_callee (f := 32) rfl ?_); refine goesL_ (some 45) rfl rfl Try.func32 oK rfl #[.slice bS aJ.length bU] rfl oA ?_; (with_reducible refine (impl_PakPut.calls kj11 _ _ aJ aY _ ?side1 ?side2 cZ.out).mono ?_); (case side1 => repeat (first | exact (Kd.R_reads' aE.out).2.2 | (with_reducible refine Kd.C_alloc ?_ _) | (with_reducible refine Kd.C_drewN ?_ _) | (with_reducible refine Kd.C_drew ?_))); (case side2 => exact (Kd.R_reads' aE.out).2.1); rintro e eD ⟨dV, rfl, ho0, hb⟩; refine ⟨_, rfl, ?_⟩; have n_ := o2_ (Kd.R_elder' (oR aH) (Kd.R_base ho0) hb) (o2_ (Kd.R_elder' (oR aE) (Kd.R_base ho0) hb) (o2_ (Kd.R_elder' (oR aC) (Kd.R_base ho0) hb) (o2_ (Kd.R_elder' (oR aI) (Kd.R_base ho0) hb) (o2_ (Kd.R_lower (Kd.R_new' (Kd.R_new' (Kd.R_new' (Kd.R_new' ho0 (Kd.R_lt (oR aH))) (Kd.R_lt (oR aE))) (Kd.R_lt (oR aC))) (Kd.R_lt (oR aI))) (below_size (oB HB))) (o1_ (below_step (oB HB) hb)))))); clear aH aE aC aI HB; obtain ⟨aH, aE, aC, aI, aP, HB⟩ := n_; (try clear hb); (try clear hb2); (try clear hk); (try clear hi); (try clear ho0); obtain ⟨cB, cE, cK⟩ := Kd.R_slice aP.out; subst cK) | ((with_reducible refine gate_callee (f := 23) rfl ?_); refine goesL_ (some 46) rfl rfl Try.func23 oK rfl #[.slice aS aF.length aU, .slice cB aY.length cE] rfl oA ?_; (with_reducible refine (laws_eaBytes.calls _ _ aF _ _ aY aN _ ?side1 ?side2 ?side3 ?side4 dA.out).mono ?_); (case side1 => repeat (first | exact (Kd.R_reads' aC.out).2.2 | (with_reducible refine Kd.C_alloc ?_ _) | (with_reducible refine Kd.C_drewN ?_ _) | (with_reducible refine Kd.C_drew ?_))); (case side2 => exact (Kd.R_reads' aC.out).2.1); (case side3 => repeat (first | exact (Kd.R_reads' aP.out).2.2 | (with_reducible refine Kd.C_alloc ?_ _) | (with_reducible refine Kd.C_drewN ?_ _) | (with_reducible refine Kd.C_drew ?_))); (case side4 => exact (Kd.R_reads' aP.out).2.1); rintro e w' ⟨rfl, ⟨nd, rfl⟩⟩; refine ⟨_, rfl, ?_⟩) | ((with_reducible refine gate_callee (f := 23) rfl ?_); refine goesL_ (some 49) rfl rfl Try.func23 oK rfl #[.slice aR aB.length aT, .slice bS aJ.length bU] rfl oA ?_; (with_reducible refine (laws_eaBytes.calls _ _ aB _ _ aJ aO _ ?side1 ?side2 ?side3 ?side4 dB.out).mono ?_); (case side1 => repeat (first | exact (Kd.R_reads' aH.out).2.2 | (with_reducible refine Kd.C_alloc ?_ _) | (with_reducible refine Kd.C_drewN ?_ _) | (with_reducible refine Kd.C_drew ?_))); (case side2 => exact (Kd.R_reads' aH.out).2.1); (case side3 => repeat (first | exact (Kd.R_reads' aE.out).2.2 | (with_reducible refine Kd.C_alloc ?_ _) | (with_reducible refine Kd.C_drewN ?_ _) | (with_reducible refine Kd.C_drew ?_))); (case side4 => exact (Kd.R_reads' aE.out).2.1); rintro e w' ⟨rfl, ⟨nd, rfl⟩⟩; refine ⟨_, rfl, ?_⟩; obtain ⟨dF, dN, cL⟩ := Kd.R_slice aI.out; subst cL) | (go_at_call 32; (with_reducible refine (impl_PakPut.calls kj11 _ _ bV aZ _ ?side1 ?side2 dC.out).mono ?_); (case side1 => repeat (first | exact (Kd.R_reads' aI.out).2.2 | (with_reducible refine Kd.C_alloc ?_ _) | (with_reducible refine Kd.C_drewN ?_ _) | (with_reducible refine Kd.C_drew ?_))); (case side2 => exact (Kd.R_reads' aI.out).2.1); rintro e eE ⟨dW, rfl, ho0, hb⟩; have n_ := o2_ (Kd.R_elder' (oR aC) (Kd.R_base ho0) hb) (o2_ (Kd.R_lower (Kd.R_new' (Kd.R_new' (Kd.R_new' (Kd.R_new' (Kd.R_new' ho0 (Kd.R_lt (oR aH))) (Kd.R_lt (oR aE))) (Kd.R_lt (oR aC))) (Kd.R_lt (oR aI))) (Kd.R_lt (oR aP))) (below_size (oB HB))) (o1_ (below_step (oB HB) hb))); clear aC HB; obtain ⟨aC, aW, HB⟩ := n_; (try clear hb); (try clear hb2); (try clear hk); (try clear hi); (try clear ho0); obtain ⟨dG, dO, cM⟩ := Kd.R_slice aW.out; subst cM) | (go_at_call 23; (with_reducible refine (laws_eaBytes.calls _ _ aZ _ _ aF bH _ ?side1 ?side2 ?side3 ?side4 dD.out).mono ?_); (case side1 => repeat (first | exact (Kd.R_reads' aW.out).2.2 | (with_reducible refine Kd.C_alloc ?_ _) | (with_reducible refine Kd.C_drewN ?_ _) | (with_reducible refine Kd.C_drew ?_))); (case side2 => exact (Kd.R_reads' aW.out).2.1); (case side3 => repeat (first | exact (Kd.R_reads' aC.out).2.2 | (with_reducible refine Kd.C_alloc ?_ _) | (with_reducible refine Kd.C_drewN ?_ _) | (with_reducible refine Kd.C_drew ?_))); (case side4 => exact (Kd.R_reads' aC.out).2.1); rintro e w' ⟨rfl, ⟨nd, rfl⟩⟩))
          go_ret
          exact ⟨by first | rfl | (simp [errW_none, errW_some] <;> rfl) | (simp [*, errW_none, errW_some] <;> rfl), oB HB⟩
         ·replace bX := Bool.eq_false_iff.mpr bX
          subst bX
          rw [if_neg (show ¬ (false = true) by decide)] at H
          exact absurd H (by simp)
        ·rw [if_neg bJ] at H
         exact absurd H (by simp)
    ·replace bT := Bool.eq_false_iff.mpr bT
     subst bT
     rw [if_neg (show ¬ (false = true) by decide)] at H
     exact absurd H (by simp)

/-- THE ONE PURE STATEMENT of laws_FnPakApart: yours. -/
def laws_FnPakApart.Pure : Prop := ∀ (l0 : List Int) (l1 : List Int), l0.length ≤ maxLen → l0.length * 1 ≤ 140737488351232 → (∀ x ∈ l0, (Lit.int .u8 x).wf = true) → l1.length ≤ maxLen → l1.length * 1 ≤ 140737488351232 → (∀ x ∈ l1, (Lit.int .u8 x).wf = true) → ∃ k, laws_FnPakApart.f k l0 l1 = some true
theorem laws_FnPakApart.walk (P : laws_FnPakApart.Pure) (a0 : Option Addr) (len0 cap0 : Nat) (z0 : List Int) (a1 : Option Addr) (len1 cap1 : Nat) (z1 : List Int) (w : World) (w0 : (a0 = none ∧ len0 = 0 ∧ cap0 = 0 ∧ z0 = []) ∨ ∃ x, a0 = some x ∧ len0 ≤ cap0 ∧ cap0 ≤ maxLen ∧ z0.length = cap0 ∧ (∀ i, i < z0.length → w.cell? (x.add i) = some (.int .u8 (z0.getD i 0))) ∧ ∀ n ∈ z0, (Lit.int .u8 n).wf = true) (y0 : len0 * 1 ≤ 140737488351232) (w1 : (a1 = none ∧ len1 = 0 ∧ cap1 = 0 ∧ z1 = []) ∨ ∃ x, a1 = some x ∧ len1 ≤ cap1 ∧ cap1 ≤ maxLen ∧ z1.length = cap1 ∧ (∀ i, i < z1.length → w.cell? (x.add i) = some (.int .u8 (z1.getD i 0))) ∧ ∀ n ∈ z1, (Lit.int .u8 n).wf = true) (y1 : len1 * 1 ≤ 140737488351232) :
  Calls Try.prog 9 #[.slice a0 len0 cap0, .slice a1 len1 cap1] w fun e w' => e = .returned (.bool true) ∧ Below w.heap.size w w' := by
 obtain ⟨l0, rfl, hr0, hm0, hw0, bY⟩ := ReadsInt.ofRowC w0
 obtain ⟨l1, rfl, hr1, hm1, hw1, bZ⟩ := ReadsInt.ofRowC w1
 obtain ⟨k, h⟩ := P l0 l1 hm0 y0 hw0 hm1 y1 hw1
 refine (laws_FnPakApart.calls k _ _ l0 _ _ l1 true w (Kd.C_of_reads (d := (0 : Int)) (h1 := fun _ => rfl) hr0) bY (Kd.C_of_reads (d := (0 : Int)) (h1 := fun _ => rfl) hr1) bZ h).mono ?_
 rintro e w' ⟨rfl, hd⟩
 exact ⟨rfl, hd⟩

end Go.Proofs.Ytfnkaccncmjnaaa.X
