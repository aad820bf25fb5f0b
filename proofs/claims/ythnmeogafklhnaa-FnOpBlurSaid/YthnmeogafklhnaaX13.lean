/- What functions of the program come to, each with its proof. No condition but what each theorem states. -/
import Derived.Test.YthnmeogafklhnaaX0
import Derived.Test.YthnmeogafklhnaaX1
import Derived.Test.YthnmeogafklhnaaX10
import Derived.Test.YthnmeogafklhnaaX11
import Derived.Test.YthnmeogafklhnaaX12
namespace Go.Proofs.Ythnmeogafklhnaa.X
open Go.RowKit Go.Proofs.YthnmeogafklhnaaW.PrintWords Go.Proofs.YthnmeogafklhnaaW.PrintLast Go.Proofs.YthnmeogafklhnaaW.PrintMore Go.Proofs.Ythnmeogafklhnaa.Hyb
attribute [local go_sem] max2_int min2_int max_two min_two max_three min_three max_four min_four
set_option linter.unusedVariables false
set_option linter.unusedSimpArgs false

attribute [local go_sem high] eqA27
/-! ### impl_OpOk: function 22 -/
def impl_OpOk.j0 : Nat → Int → Bool → Int → Int → Int → Int → Int → Option (Bool)
 | 0, _, _, _, _, _, _, _ => none
 | k + 1, x4, x25, x263000, x263001, x263002, x263003, x263004 => if x25 = true then (some (x263001 == 0 && (x263002 == 0 && (x263003 == 0 && (x263004 == 0))))) else (if x4 = 7 then ((impl_sizeOk.f x263001).bind fun cX => (if cX = true then ((impl_sizeOk.f x263002).bind fun cY => (if cY = true then (if x263003 = 0 then (some (x263004 == 0)) else (some false)) else (some false))) else (some false))) else (if x4 = 8 then ((impl_partOk.f x263001).bind fun cZ => (if cZ = true then ((impl_partOk.f x263002).bind fun dA => (if dA = true then ((impl_partOk.f x263003).bind fun dB => (if dB = true then (some (x263004 == 0)) else (some false))) else (some false))) else (some false))) else (some false)))
def impl_OpOk.f (k : Nat) (a0_0 : Int) (a0_1 : Int) (a0_2 : Int) (a0_3 : Int) (a0_4 : Int) : Option (Bool) := if a0_0 = 1 then ((impl_within.f a0_1 0 5).bind fun aG => (if aG = true then ((impl_within.f a0_2 0 5).bind fun aH => (if aH = true then ((impl_sizeOk.f a0_3).bind fun aI => (if aI = true then ((impl_sizeOk.f a0_4).bind fun aJ => (some aJ)) else (some false))) else (some false))) else (some false))) else (if a0_0 = 2 then (impl_OpOk.j0 k a0_0 (a0_0 == 2) a0_0 a0_1 a0_2 a0_3 a0_4) else (if a0_0 = 3 then (impl_OpOk.j0 k a0_0 (a0_0 == 3) a0_0 a0_1 a0_2 a0_3 a0_4) else (if a0_0 = 4 then (impl_OpOk.j0 k a0_0 (a0_0 == 4) a0_0 a0_1 a0_2 a0_3 a0_4) else (if a0_0 = 5 then (impl_OpOk.j0 k a0_0 (a0_0 == 5) a0_0 a0_1 a0_2 a0_3 a0_4) else (impl_OpOk.j0 k a0_0 (a0_0 == 6) a0_0 a0_1 a0_2 a0_3 a0_4)))))
theorem impl_OpOk.mono_l : ∀ k, (∀ y0 y1 y2 y3 y4 y5 y6, LeO (impl_OpOk.j0 k y0 y1 y2 y3 y4 y5 y6) (impl_OpOk.j0 (k + 1) y0 y1 y2 y3 y4 y5 y6))
 | 0 => (fun _ _ _ _ _ _ _ r h => nomatch (show none = some r from h))
 | k + 1 => by
  have ih0 := impl_OpOk.mono_l k
  ·intro y0 y1 y2 y3 y4 y5 y6
   unfold impl_OpOk.j0
   repeat' first
   | (with_reducible exact ih0 _ _ _ _ _ _ _)
   | (with_reducible exact LeO.refl _)
   | (with_reducible exact LeO.none _)
   | (with_reducible refine LeO.ite ?_ ?_)
   | (with_reducible refine LeO.bind ?_ (fun _ => ?_))
   | exact ih0 _ _ _ _ _ _ _
   | exact LeO.none _
   | refine LeO.ite ?_ ?_
   | refine LeO.bind ?_ (fun _ => ?_)
theorem impl_OpOk.mono : ∀ a0 a1 a2 a3 a4 k, LeO (impl_OpOk.f k a0 a1 a2 a3 a4) (impl_OpOk.f (k + 1) a0 a1 a2 a3 a4) := by
 intro a0 a1 a2 a3 a4 k
 have ih0 := impl_OpOk.mono_l k
 unfold impl_OpOk.f
 repeat' first
   | (with_reducible exact ih0 _ _ _ _ _ _ _)
   | (with_reducible exact LeO.refl _)
   | (with_reducible exact LeO.none _)
   | (with_reducible refine LeO.ite ?_ ?_)
   | (with_reducible refine LeO.bind ?_ (fun _ => ?_))
   | exact ih0 _ _ _ _ _ _ _
   | exact LeO.none _
   | refine LeO.ite ?_ ?_
   | refine LeO.bind ?_ (fun _ => ?_)
set_option maxHeartbeats 8000000 in
set_option maxRecDepth 100000 in
theorem impl_OpOk.calls (k : Nat) (a0_0 : Int) (a0_1 : Int) (a0_2 : Int) (a0_3 : Int) (a0_4 : Int) (r : Bool) (w : World) (h : impl_OpOk.f k a0_0 a0_1 a0_2 a0_3 a0_4 = some r) :
  Calls Try.prog 22 #[.agg #[.int .i64 a0_0, .int .i64 a0_1, .int .i64 a0_2, .int .i64 a0_3, .int .i64 a0_4]] w fun e w' => e = .returned (.bool r) ∧ Below w.heap.size w w' := by
 have hu27 := Try.underlying27
 have HB := Aside0.mk (Below.refl w.heap.size w)
 have H : (if a0_0 = 1 then ((impl_within.f a0_1 0 5).bind fun aG => (if aG = true then ((impl_within.f a0_2 0 5).bind fun aH => (if aH = true then ((impl_sizeOk.f a0_3).bind fun aI => (if aI = true then ((impl_sizeOk.f a0_4).bind fun aJ => (some aJ)) else (some false))) else (some false))) else (some false))) else (if a0_0 = 2 then (impl_OpOk.j0 k a0_0 (a0_0 == 2) a0_0 a0_1 a0_2 a0_3 a0_4) else (if a0_0 = 3 then (impl_OpOk.j0 k a0_0 (a0_0 == 3) a0_0 a0_1 a0_2 a0_3 a0_4) else (if a0_0 = 4 then (impl_OpOk.j0 k a0_0 (a0_0 == 4) a0_0 a0_1 a0_2 a0_3 a0_4) else (if a0_0 = 5 then (impl_OpOk.j0 k a0_0 (a0_0 == 5) a0_0 a0_1 a0_2 a0_3 a0_4) else (impl_OpOk.j0 k a0_0 (a0_0 == 6) a0_0 a0_1 a0_2 a0_3 a0_4)))))) = some r := h
 clear h
 by_cases c2 : a0_0 = 1
 ·rw [if_pos c2] at H
  have dK : (a0_0 == 1) = true := beq_iff_eq.mpr c2
  have dL : (a0_0 != 1) = false := bne_eq_false_iff_eq.mpr c2
  clear c2
  replace H := Option.bind_eq_some_iff.mp H
  obtain ⟨aG, dC, H⟩ := H
  (try dsimp only at H)
  have A3 := Aside0.mk dC
  clear dC
  by_cases c4 : aG = true
  ·subst c4
   rw [if_pos rfl] at H
   replace H := Option.bind_eq_some_iff.mp H
   obtain ⟨aH, hR, H⟩ := H
   (try dsimp only at H)
   have A5 := Aside0.mk hR
   clear hR
   by_cases c6 : aH = true
   ·subst c6
    rw [if_pos rfl] at H
    replace H := Option.bind_eq_some_iff.mp H
    obtain ⟨aI, hS, H⟩ := H
    (try dsimp only at H)
    have A7 := Aside0.mk hS
    clear hS
    by_cases c8 : aI = true
    ·subst c8
     rw [if_pos rfl] at H
     replace H := Option.bind_eq_some_iff.mp H
     obtain ⟨aJ, hT, H⟩ := H
     (try dsimp only at H)
     have A9 := Aside0.mk hT
     clear hT
     obtain rfl := Option.some.inj H
     go_enter Try.func22, Try.ntmps22
     go_wp2_with (first | ((with_reducible refine gate_dst (N := 1) rfl ?_); refine box_event rfl (N := 1) rfl (cs := #[.int .i64 a0_0, .int .i64 a0_1, .int .i64 a0_2, .int .i64 a0_3, .int .i64 a0_4]) (t := 27) oS ?_; intro aB hg dQ hbox hb; have n_ := o2_ (below_step (oB HB) hb) (o2_ (hbox) (o2_ ((oG hg (below_size (oB HB)) : w.heap.size ≤ aB)) (o1_ ((oG hg (below_size (oB HB)) : w.heap.size ≤ aB))))); clear HB; obtain ⟨HB, aA, aF, aE⟩ := n_; clear hb hbox hg; have aK : dQ.cell? ⟨aB, 0, none⟩ = some (.int .i64 a0_0) := (blk_cell aA.out 0).trans rfl; have aL : dQ.cell? ⟨aB, 1, none⟩ = some (.int .i64 a0_1) := (blk_cell aA.out 1).trans rfl; have aM : dQ.cell? ⟨aB, 2, none⟩ = some (.int .i64 a0_2) := (blk_cell aA.out 2).trans rfl; have aN : dQ.cell? ⟨aB, 3, none⟩ = some (.int .i64 a0_3) := (blk_cell aA.out 3).trans rfl; have aO : dQ.cell? ⟨aB, 4, none⟩ = some (.int .i64 a0_4) := (blk_cell aA.out 4).trans rfl; have bJ := blk_frozen aA.out 0; have bK := blk_frozen aA.out 1; have bL := blk_frozen aA.out 2; have bM := blk_frozen aA.out 3; have bN := blk_frozen aA.out 4) | ((with_reducible refine gate_callee (f := 49) rfl ?_); refine goesL_ (some 9) rfl rfl Try.func49 oK rfl #[.int .i64 a0_1, .int .i64 0, .int .i64 5] rfl oA ?_; (with_reducible refine (impl_within.calls a0_1 0 5 true _ A3.out).mono ?_); rintro e w' ⟨rfl, ⟨nd, rfl⟩⟩; refine ⟨_, rfl, ?_⟩) | (go_at_call 49; (with_reducible refine (impl_within.calls a0_2 0 5 true _ A5.out).mono ?_); rintro e w' ⟨rfl, ⟨nd, rfl⟩⟩) | (go_at_call 50; (with_reducible refine (impl_sizeOk.calls a0_3 true _ A7.out).mono ?_); rintro e w' ⟨rfl, ⟨nd, rfl⟩⟩) | (go_at_call 50; (with_reducible refine (impl_sizeOk.calls a0_4 aJ _ A9.out).mono ?_); rintro e w' ⟨rfl, ⟨nd, rfl⟩⟩))
     go_ret
     exact ⟨by first | rfl | (simp [errW_none, errW_some] <;> rfl) | (simp [*, errW_none, errW_some] <;> rfl), oB HB⟩
    ·replace c8 := Bool.eq_false_iff.mpr c8
     subst c8
     rw [if_neg (show ¬ (false = true) by decide)] at H
     obtain rfl := Option.some.inj H
     go_enter Try.func22, Try.ntmps22
     go_wp2_with (first | ((with_reducible refine gate_dst (N := 1) rfl ?_); refine box_event rfl (N := 1) rfl (cs := #[.int .i64 a0_0, .int .i64 a0_1, .int .i64 a0_2, .int .i64 a0_3, .int .i64 a0_4]) (t := 27) oS ?_; intro aB hg dR hbox hb; have n_ := o2_ (below_step (oB HB) hb) (o2_ (hbox) (o2_ ((oG hg (below_size (oB HB)) : w.heap.size ≤ aB)) (o1_ ((oG hg (below_size (oB HB)) : w.heap.size ≤ aB))))); clear HB; obtain ⟨HB, aA, aF, aE⟩ := n_; clear hb hbox hg; have aP : dR.cell? ⟨aB, 0, none⟩ = some (.int .i64 a0_0) := (blk_cell aA.out 0).trans rfl; have aQ : dR.cell? ⟨aB, 1, none⟩ = some (.int .i64 a0_1) := (blk_cell aA.out 1).trans rfl; have aR : dR.cell? ⟨aB, 2, none⟩ = some (.int .i64 a0_2) := (blk_cell aA.out 2).trans rfl; have aS : dR.cell? ⟨aB, 3, none⟩ = some (.int .i64 a0_3) := (blk_cell aA.out 3).trans rfl; have aT : dR.cell? ⟨aB, 4, none⟩ = some (.int .i64 a0_4) := (blk_cell aA.out 4).trans rfl; have bO := blk_frozen aA.out 0; have bP := blk_frozen aA.out 1; have bQ := blk_frozen aA.out 2; have bR := blk_frozen aA.out 3; have bS := blk_frozen aA.out 4) | ((with_reducible refine gate_callee (f := 49) rfl ?_); refine goesL_ (some 9) rfl rfl Try.func49 oK rfl #[.int .i64 a0_1, .int .i64 0, .int .i64 5] rfl oA ?_; (with_reducible refine (impl_within.calls a0_1 0 5 true _ A3.out).mono ?_); rintro e w' ⟨rfl, ⟨nd, rfl⟩⟩; refine ⟨_, rfl, ?_⟩) | (go_at_call 49; (with_reducible refine (impl_within.calls a0_2 0 5 true _ A5.out).mono ?_); rintro e w' ⟨rfl, ⟨nd, rfl⟩⟩) | (go_at_call 50; (with_reducible refine (impl_sizeOk.calls a0_3 false _ A7.out).mono ?_); rintro e w' ⟨rfl, ⟨nd, rfl⟩⟩))
     go_ret
     exact ⟨by first | rfl | (simp [errW_none, errW_some] <;> rfl) | (simp [*, errW_none, errW_some] <;> rfl), oB HB⟩
   ·replace c6 := Bool.eq_false_iff.mpr c6
    subst c6
    rw [if_neg (show ¬ (false = true) by decide)] at H
    obtain rfl := Option.some.inj H
    go_enter Try.func22, Try.ntmps22
    go_wp2_with (first | ((with_reducible refine gate_dst (N := 1) rfl ?_); refine box_event rfl (N := 1) rfl (cs := #[.int .i64 a0_0, .int .i64 a0_1, .int .i64 a0_2, .int .i64 a0_3, .int .i64 a0_4]) (t := 27) oS ?_; intro aB hg dS hbox hb; have n_ := o2_ (below_step (oB HB) hb) (o2_ (hbox) (o2_ ((oG hg (below_size (oB HB)) : w.heap.size ≤ aB)) (o1_ ((oG hg (below_size (oB HB)) : w.heap.size ≤ aB))))); clear HB; obtain ⟨HB, aA, aF, aE⟩ := n_; clear hb hbox hg; have aU : dS.cell? ⟨aB, 0, none⟩ = some (.int .i64 a0_0) := (blk_cell aA.out 0).trans rfl; have aV : dS.cell? ⟨aB, 1, none⟩ = some (.int .i64 a0_1) := (blk_cell aA.out 1).trans rfl; have aW : dS.cell? ⟨aB, 2, none⟩ = some (.int .i64 a0_2) := (blk_cell aA.out 2).trans rfl; have aX : dS.cell? ⟨aB, 3, none⟩ = some (.int .i64 a0_3) := (blk_cell aA.out 3).trans rfl; have aY : dS.cell? ⟨aB, 4, none⟩ = some (.int .i64 a0_4) := (blk_cell aA.out 4).trans rfl; have bT := blk_frozen aA.out 0; have bU := blk_frozen aA.out 1; have bV := blk_frozen aA.out 2; have bW := blk_frozen aA.out 3; have bX := blk_frozen aA.out 4) | ((with_reducible refine gate_callee (f := 49) rfl ?_); refine goesL_ (some 9) rfl rfl Try.func49 oK rfl #[.int .i64 a0_1, .int .i64 0, .int .i64 5] rfl oA ?_; (with_reducible refine (impl_within.calls a0_1 0 5 true _ A3.out).mono ?_); rintro e w' ⟨rfl, ⟨nd, rfl⟩⟩; refine ⟨_, rfl, ?_⟩) | (go_at_call 49; (with_reducible refine (impl_within.calls a0_2 0 5 false _ A5.out).mono ?_); rintro e w' ⟨rfl, ⟨nd, rfl⟩⟩))
    go_ret
    exact ⟨by first | rfl | (simp [errW_none, errW_some] <;> rfl) | (simp [*, errW_none, errW_some] <;> rfl), oB HB⟩
  ·replace c4 := Bool.eq_false_iff.mpr c4
   subst c4
   rw [if_neg (show ¬ (false = true) by decide)] at H
   obtain rfl := Option.some.inj H
   go_enter Try.func22, Try.ntmps22
   go_wp2_with (first | ((with_reducible refine gate_dst (N := 1) rfl ?_); refine box_event rfl (N := 1) rfl (cs := #[.int .i64 a0_0, .int .i64 a0_1, .int .i64 a0_2, .int .i64 a0_3, .int .i64 a0_4]) (t := 27) oS ?_; intro aB hg dT hbox hb; have n_ := o2_ (below_step (oB HB) hb) (o2_ (hbox) (o2_ ((oG hg (below_size (oB HB)) : w.heap.size ≤ aB)) (o1_ ((oG hg (below_size (oB HB)) : w.heap.size ≤ aB))))); clear HB; obtain ⟨HB, aA, aF, aE⟩ := n_; clear hb hbox hg; have aZ : dT.cell? ⟨aB, 0, none⟩ = some (.int .i64 a0_0) := (blk_cell aA.out 0).trans rfl; have bA : dT.cell? ⟨aB, 1, none⟩ = some (.int .i64 a0_1) := (blk_cell aA.out 1).trans rfl; have bB : dT.cell? ⟨aB, 2, none⟩ = some (.int .i64 a0_2) := (blk_cell aA.out 2).trans rfl; have bC : dT.cell? ⟨aB, 3, none⟩ = some (.int .i64 a0_3) := (blk_cell aA.out 3).trans rfl; have bD : dT.cell? ⟨aB, 4, none⟩ = some (.int .i64 a0_4) := (blk_cell aA.out 4).trans rfl; have bY := blk_frozen aA.out 0; have bZ := blk_frozen aA.out 1; have cA := blk_frozen aA.out 2; have cB := blk_frozen aA.out 3; have cC := blk_frozen aA.out 4) | ((with_reducible refine gate_callee (f := 49) rfl ?_); refine goesL_ (some 9) rfl rfl Try.func49 oK rfl #[.int .i64 a0_1, .int .i64 0, .int .i64 5] rfl oA ?_; (with_reducible refine (impl_within.calls a0_1 0 5 false _ A3.out).mono ?_); rintro e w' ⟨rfl, ⟨nd, rfl⟩⟩; refine ⟨_, rfl, ?_⟩))
   go_ret
   exact ⟨by first | rfl | (simp [errW_none, errW_some] <;> rfl) | (simp [*, errW_none, errW_some] <;> rfl), oB HB⟩
 ·rw [if_neg c2] at H
  have dK : (a0_0 == 1) = false := beq_eq_false_iff_ne.mpr c2
  have dL : (a0_0 != 1) = true := bne_iff_ne.mpr c2
  have cT := Aside0.mk H
  clear H
  go_enter Try.func22, Try.ntmps22
  go_upto_if 25 with (first | ((with_reducible refine gate_dst (N := 1) rfl ?_); refine box_event rfl (N := 1) rfl (cs := #[.int .i64 a0_0, .int .i64 a0_1, .int .i64 a0_2, .int .i64 a0_3, .int .i64 a0_4]) (t := 27) oS ?_; intro aB hg dU hbox hb; have n_ := o2_ (below_step (oB HB) hb) (o2_ (hbox) (o2_ ((oG hg (below_size (oB HB)) : w.heap.size ≤ aB)) (o1_ ((oG hg (below_size (oB HB)) : w.heap.size ≤ aB))))); clear HB; obtain ⟨HB, aA, aF, aE⟩ := n_; clear hb hbox hg; have bE : dU.cell? ⟨aB, 0, none⟩ = some (.int .i64 a0_0) := (blk_cell aA.out 0).trans rfl; have bF : dU.cell? ⟨aB, 1, none⟩ = some (.int .i64 a0_1) := (blk_cell aA.out 1).trans rfl; have bG : dU.cell? ⟨aB, 2, none⟩ = some (.int .i64 a0_2) := (blk_cell aA.out 2).trans rfl; have bH : dU.cell? ⟨aB, 3, none⟩ = some (.int .i64 a0_3) := (blk_cell aA.out 3).trans rfl; have bI : dU.cell? ⟨aB, 4, none⟩ = some (.int .i64 a0_4) := (blk_cell aA.out 4).trans rfl; have cD := blk_frozen aA.out 0; have cE := blk_frozen aA.out 1; have cF := blk_frozen aA.out 2; have cG := blk_frozen aA.out 3; have cH := blk_frozen aA.out 4))
  (try simp only [Act.put, List.setIfInBounds_toArray, List.set_cons_zero, List.set_cons_succ])
  go_cut [25] (fun hV wc => ∃ (kq : Nat) (aD : Bool), hV = .bool aD ∧ Aside0 (impl_OpOk.j0 kq a0_0 aD a0_0 a0_1 a0_2 a0_3 a0_4 = some r) ∧ Aside0 (kq ≤ k) ∧ Aside0 (wc.heap[aB]? = some (.cells #[.int .i64 a0_0, .int .i64 a0_1, .int .i64 a0_2, .int .i64 a0_3, .int .i64 a0_4] 27 (0, 0))) ∧ Aside0 (Below w.heap.size w wc))
  case first =>
   have H := cT.out
   clear cT
   by_cases cI : a0_0 = 2
   ·rw [if_pos cI] at H
    have aC : (a0_0 == 2) = true := beq_iff_eq.mpr cI
    have cJ : (a0_0 != 2) = false := bne_eq_false_iff_eq.mpr cI
    clear cI
    (first | rw [aC] | (simp only [i64_w, i32_w]; rw [aC]) | skip)
    have H' := Aside0.mk H
    clear H
    go_wp2
    go_meet
    case rel => exact ⟨_, ((a0_0 == 2)), oU, H', ⟨(by first | omega | exact Nat.le_refl _)⟩, ⟨(oP aA)⟩, ⟨(oB HB)⟩⟩
   ·rw [if_neg cI] at H
    have aC : (a0_0 == 2) = false := beq_eq_false_iff_ne.mpr cI
    have cJ : (a0_0 != 2) = true := bne_iff_ne.mpr cI
    (first | rw [aC] | (simp only [i64_w, i32_w]; rw [aC]) | skip)
    by_cases cK : a0_0 = 3
    ·rw [if_pos cK] at H
     have cL : (a0_0 == 3) = true := beq_iff_eq.mpr cK
     have cM : (a0_0 != 3) = false := bne_eq_false_iff_eq.mpr cK
     clear cK
     have H' := Aside0.mk H
     clear H
     go_wp2
     go_meet
     case rel => exact ⟨_, ((a0_0 == 3)), oU, H', ⟨(by first | omega | exact Nat.le_refl _)⟩, ⟨(oP aA)⟩, ⟨(oB HB)⟩⟩
    ·rw [if_neg cK] at H
     have cL : (a0_0 == 3) = false := beq_eq_false_iff_ne.mpr cK
     have cM : (a0_0 != 3) = true := bne_iff_ne.mpr cK
     by_cases cN : a0_0 = 4
     ·rw [if_pos cN] at H
      have cO : (a0_0 == 4) = true := beq_iff_eq.mpr cN
      have cP : (a0_0 != 4) = false := bne_eq_false_iff_eq.mpr cN
      clear cN
      have H' := Aside0.mk H
      clear H
      go_wp2
      go_meet
      case rel => exact ⟨_, ((a0_0 == 4)), oU, H', ⟨(by first | omega | exact Nat.le_refl _)⟩, ⟨(oP aA)⟩, ⟨(oB HB)⟩⟩
     ·rw [if_neg cN] at H
      have cO : (a0_0 == 4) = false := beq_eq_false_iff_ne.mpr cN
      have cP : (a0_0 != 4) = true := bne_iff_ne.mpr cN
      by_cases cQ : a0_0 = 5
      ·rw [if_pos cQ] at H
       have cR : (a0_0 == 5) = true := beq_iff_eq.mpr cQ
       have cS : (a0_0 != 5) = false := bne_eq_false_iff_eq.mpr cQ
       clear cQ
       have H' := Aside0.mk H
       clear H
       go_wp2
       go_meet
       case rel => exact ⟨_, ((a0_0 == 5)), oU, H', ⟨(by first | omega | exact Nat.le_refl _)⟩, ⟨(oP aA)⟩, ⟨(oB HB)⟩⟩
      ·rw [if_neg cQ] at H
       have cR : (a0_0 == 5) = false := beq_eq_false_iff_ne.mpr cQ
       have cS : (a0_0 != 5) = true := bne_iff_ne.mpr cQ
       have H' := Aside0.mk H
       clear H
       go_wp2
       go_meet
       case rel => exact ⟨_, ((a0_0 == 6)), oU, H', ⟨(by first | omega | exact Nat.le_refl _)⟩, ⟨(oP aA)⟩, ⟨(oB HB)⟩⟩
  case rest =>
   clear cT
   try clear c2
   try clear dK
   try clear dL
   try clear p2
   try clear c4
   try clear c6
   try clear c8
   try clear cI
   try clear aC
   try clear cJ
   try clear cK
   try clear cL
   try clear cM
   try clear cN
   try clear cO
   try clear cP
   try clear cQ
   try clear cR
   try clear cS
   try clear aK
   try clear aL
   try clear aM
   try clear aN
   try clear aO
   try clear aP
   try clear aQ
   try clear aR
   try clear aS
   try clear aT
   try clear aU
   try clear aV
   try clear aW
   try clear aX
   try clear aY
   try clear aZ
   try clear bA
   try clear bB
   try clear bC
   try clear bD
   try clear bE
   try clear bF
   try clear bG
   try clear bH
   try clear bI
   try clear bJ
   try clear bK
   try clear bL
   try clear bM
   try clear bN
   try clear bO
   try clear bP
   try clear bQ
   try clear bR
   try clear bS
   try clear bT
   try clear bU
   try clear bV
   try clear bW
   try clear bX
   try clear bY
   try clear bZ
   try clear cA
   try clear cB
   try clear cC
   try clear cD
   try clear cE
   try clear cF
   try clear cG
   try clear cH
   obtain ⟨kq, aD, rfl, HA, hU, aA, HB⟩ := hcut
   cases kq with
   | zero => exact nomatch (show none = some _ from HA.out)
   | succ kj17 =>
    have H := HA.out
    clear HA
    simp only [impl_OpOk.j0] at H
    by_cases dX : aD = true
    ·subst dX
     rw [if_pos rfl] at H
     obtain rfl := Option.some.inj H
     have eD : wc.cell? ⟨aB, 0, none⟩ = some (.int .i64 a0_0) := (blk_cell aA.out 0).trans rfl
     have eE : wc.cell? ⟨aB, 1, none⟩ = some (.int .i64 a0_1) := (blk_cell aA.out 1).trans rfl
     have eF : wc.cell? ⟨aB, 2, none⟩ = some (.int .i64 a0_2) := (blk_cell aA.out 2).trans rfl
     have eG : wc.cell? ⟨aB, 3, none⟩ = some (.int .i64 a0_3) := (blk_cell aA.out 3).trans rfl
     have eH : wc.cell? ⟨aB, 4, none⟩ = some (.int .i64 a0_4) := (blk_cell aA.out 4).trans rfl
     have fW := blk_frozen aA.out 0
     have fX := blk_frozen aA.out 1
     have fY := blk_frozen aA.out 2
     have fZ := blk_frozen aA.out 3
     have gA := blk_frozen aA.out 4
     go_wp2
     go_ret
     exact ⟨by first | rfl | (simp [errW_none, errW_some] <;> rfl) | (simp [*, errW_none, errW_some] <;> rfl), oB HB⟩
    ·replace dX := Bool.eq_false_iff.mpr dX
     subst dX
     rw [if_neg (show ¬ (false = true) by decide)] at H
     by_cases cU : a0_0 = 7
     ·rw [if_pos cU] at H
      have dI : (a0_0 == 7) = true := beq_iff_eq.mpr cU
      have dJ : (a0_0 != 7) = false := bne_eq_false_iff_eq.mpr cU
      clear cU
      replace H := Option.bind_eq_some_iff.mp H
      obtain ⟨cX, dD, H⟩ := H
      (try dsimp only at H)
      have dV := Aside0.mk dD
      clear dD
      by_cases dY : cX = true
      ·subst dY
       rw [if_pos rfl] at H
       replace H := Option.bind_eq_some_iff.mp H
       obtain ⟨cY, dE, H⟩ := H
       (try dsimp only at H)
       have dC := Aside0.mk dE
       clear dE
       by_cases dZ : cY = true
       ·subst dZ
        rw [if_pos rfl] at H
        by_cases cV : a0_3 = 0
        ·rw [if_pos cV] at H
         have dM : (a0_3 == 0) = true := beq_iff_eq.mpr cV
         have dN : (a0_3 != 0) = false := bne_eq_false_iff_eq.mpr cV
         clear cV
         obtain rfl := Option.some.inj H
         have eI : wc.cell? ⟨aB, 0, none⟩ = some (.int .i64 a0_0) := (blk_cell aA.out 0).trans rfl
         have eJ : wc.cell? ⟨aB, 1, none⟩ = some (.int .i64 a0_1) := (blk_cell aA.out 1).trans rfl
         have eK : wc.cell? ⟨aB, 2, none⟩ = some (.int .i64 a0_2) := (blk_cell aA.out 2).trans rfl
         have eL : wc.cell? ⟨aB, 3, none⟩ = some (.int .i64 a0_3) := (blk_cell aA.out 3).trans rfl
         have eM : wc.cell? ⟨aB, 4, none⟩ = some (.int .i64 a0_4) := (blk_cell aA.out 4).trans rfl
         have gB := blk_frozen aA.out 0
         have gC := blk_frozen aA.out 1
         have gD := blk_frozen aA.out 2
         have gE := blk_frozen aA.out 3
         have gF := blk_frozen aA.out 4
         go_wp2_with (first | ((with_reducible refine gate_callee (f := 50) rfl ?_); refine goesL_ (some 40) rfl rfl Try.func50 oK rfl #[.int .i64 a0_1] rfl oA ?_; (with_reducible refine (impl_sizeOk.calls a0_1 true _ dV.out).mono ?_); rintro e w' ⟨rfl, ⟨nd, rfl⟩⟩; refine ⟨_, rfl, ?_⟩) | (go_at_call 50; (with_reducible refine (impl_sizeOk.calls a0_2 true _ dC.out).mono ?_); rintro e w' ⟨rfl, ⟨nd, rfl⟩⟩))
         go_ret
         exact ⟨by first | rfl | (simp [errW_none, errW_some] <;> rfl) | (simp [*, errW_none, errW_some] <;> rfl), oB HB⟩
        ·rw [if_neg cV] at H
         have dM : (a0_3 == 0) = false := beq_eq_false_iff_ne.mpr cV
         have dN : (a0_3 != 0) = true := bne_iff_ne.mpr cV
         obtain rfl := Option.some.inj H
         have eN : wc.cell? ⟨aB, 0, none⟩ = some (.int .i64 a0_0) := (blk_cell aA.out 0).trans rfl
         have eO : wc.cell? ⟨aB, 1, none⟩ = some (.int .i64 a0_1) := (blk_cell aA.out 1).trans rfl
         have eP : wc.cell? ⟨aB, 2, none⟩ = some (.int .i64 a0_2) := (blk_cell aA.out 2).trans rfl
         have eQ : wc.cell? ⟨aB, 3, none⟩ = some (.int .i64 a0_3) := (blk_cell aA.out 3).trans rfl
         have eR : wc.cell? ⟨aB, 4, none⟩ = some (.int .i64 a0_4) := (blk_cell aA.out 4).trans rfl
         have gG := blk_frozen aA.out 0
         have gH := blk_frozen aA.out 1
         have gI := blk_frozen aA.out 2
         have gJ := blk_frozen aA.out 3
         have gK := blk_frozen aA.out 4
         go_wp2_with (first | ((with_reducible refine gate_callee (f := 50) rfl ?_); refine goesL_ (some 40) rfl rfl Try.func50 oK rfl #[.int .i64 a0_1] rfl oA ?_; (with_reducible refine (impl_sizeOk.calls a0_1 true _ dV.out).mono ?_); rintro e w' ⟨rfl, ⟨nd, rfl⟩⟩; refine ⟨_, rfl, ?_⟩) | (go_at_call 50; (with_reducible refine (impl_sizeOk.calls a0_2 true _ dC.out).mono ?_); rintro e w' ⟨rfl, ⟨nd, rfl⟩⟩))
         go_ret
         exact ⟨by first | rfl | (simp [errW_none, errW_some] <;> rfl) | (simp [*, errW_none, errW_some] <;> rfl), oB HB⟩
       ·replace dZ := Bool.eq_false_iff.mpr dZ
        subst dZ
        rw [if_neg (show ¬ (false = true) by decide)] at H
        obtain rfl := Option.some.inj H
        have eS : wc.cell? ⟨aB, 0, none⟩ = some (.int .i64 a0_0) := (blk_cell aA.out 0).trans rfl
        have eT : wc.cell? ⟨aB, 1, none⟩ = some (.int .i64 a0_1) := (blk_cell aA.out 1).trans rfl
        have eU : wc.cell? ⟨aB, 2, none⟩ = some (.int .i64 a0_2) := (blk_cell aA.out 2).trans rfl
        have eV : wc.cell? ⟨aB, 3, none⟩ = some (.int .i64 a0_3) := (blk_cell aA.out 3).trans rfl
        have eW : wc.cell? ⟨aB, 4, none⟩ = some (.int .i64 a0_4) := (blk_cell aA.out 4).trans rfl
        have gL := blk_frozen aA.out 0
        have gM := blk_frozen aA.out 1
        have gN := blk_frozen aA.out 2
        have gO := blk_frozen aA.out 3
        have gP := blk_frozen aA.out 4
        go_wp2_with (first | ((with_reducible refine gate_callee (f := 50) rfl ?_); refine goesL_ (some 40) rfl rfl Try.func50 oK rfl #[.int .i64 a0_1] rfl oA ?_; (with_reducible refine (impl_sizeOk.calls a0_1 true _ dV.out).mono ?_); rintro e w' ⟨rfl, ⟨nd, rfl⟩⟩; refine ⟨_, rfl, ?_⟩) | (go_at_call 50; (with_reducible refine (impl_sizeOk.calls a0_2 false _ dC.out).mono ?_); rintro e w' ⟨rfl, ⟨nd, rfl⟩⟩))
        go_ret
        exact ⟨by first | rfl | (simp [errW_none, errW_some] <;> rfl) | (simp [*, errW_none, errW_some] <;> rfl), oB HB⟩
      ·replace dY := Bool.eq_false_iff.mpr dY
       subst dY
       rw [if_neg (show ¬ (false = true) by decide)] at H
       obtain rfl := Option.some.inj H
       have eX : wc.cell? ⟨aB, 0, none⟩ = some (.int .i64 a0_0) := (blk_cell aA.out 0).trans rfl
       have eY : wc.cell? ⟨aB, 1, none⟩ = some (.int .i64 a0_1) := (blk_cell aA.out 1).trans rfl
       have eZ : wc.cell? ⟨aB, 2, none⟩ = some (.int .i64 a0_2) := (blk_cell aA.out 2).trans rfl
       have fA : wc.cell? ⟨aB, 3, none⟩ = some (.int .i64 a0_3) := (blk_cell aA.out 3).trans rfl
       have fB : wc.cell? ⟨aB, 4, none⟩ = some (.int .i64 a0_4) := (blk_cell aA.out 4).trans rfl
       have gQ := blk_frozen aA.out 0
       have gR := blk_frozen aA.out 1
       have gS := blk_frozen aA.out 2
       have gT := blk_frozen aA.out 3
       have gU := blk_frozen aA.out 4
       go_wp2_with (first | ((with_reducible refine gate_callee (f := 50) rfl ?_); refine goesL_ (some 40) rfl rfl Try.func50 oK rfl #[.int .i64 a0_1] rfl oA ?_; (with_reducible refine (impl_sizeOk.calls a0_1 false _ dV.out).mono ?_); rintro e w' ⟨rfl, ⟨nd, rfl⟩⟩; refine ⟨_, rfl, ?_⟩))
       go_ret
       exact ⟨by first | rfl | (simp [errW_none, errW_some] <;> rfl) | (simp [*, errW_none, errW_some] <;> rfl), oB HB⟩
     ·rw [if_neg cU] at H
      have dI : (a0_0 == 7) = false := beq_eq_false_iff_ne.mpr cU
      have dJ : (a0_0 != 7) = true := bne_iff_ne.mpr cU
      by_cases cW : a0_0 = 8
      ·rw [if_pos cW] at H
       have dO : (a0_0 == 8) = true := beq_iff_eq.mpr cW
       have dP : (a0_0 != 8) = false := bne_eq_false_iff_eq.mpr cW
       clear cW
       replace H := Option.bind_eq_some_iff.mp H
       obtain ⟨cZ, dF, H⟩ := H
       (try dsimp only at H)
       have dW := Aside0.mk dF
       clear dF
       by_cases eA : cZ = true
       ·subst eA
        rw [if_pos rfl] at H
        replace H := Option.bind_eq_some_iff.mp H
        obtain ⟨dA, dG, H⟩ := H
        (try dsimp only at H)
        have hP := Aside0.mk dG
        clear dG
        by_cases eB : dA = true
        ·subst eB
         rw [if_pos rfl] at H
         replace H := Option.bind_eq_some_iff.mp H
         obtain ⟨dB, dH, H⟩ := H
         (try dsimp only at H)
         have hQ := Aside0.mk dH
         clear dH
         by_cases eC : dB = true
         ·subst eC
          rw [if_pos rfl] at H
          obtain rfl := Option.some.inj H
          have fC : wc.cell? ⟨aB, 0, none⟩ = some (.int .i64 a0_0) := (blk_cell aA.out 0).trans rfl
          have fD : wc.cell? ⟨aB, 1, none⟩ = some (.int .i64 a0_1) := (blk_cell aA.out 1).trans rfl
          have fE : wc.cell? ⟨aB, 2, none⟩ = some (.int .i64 a0_2) := (blk_cell aA.out 2).trans rfl
          have fF : wc.cell? ⟨aB, 3, none⟩ = some (.int .i64 a0_3) := (blk_cell aA.out 3).trans rfl
          have fG : wc.cell? ⟨aB, 4, none⟩ = some (.int .i64 a0_4) := (blk_cell aA.out 4).trans rfl
          have gV := blk_frozen aA.out 0
          have gW := blk_frozen aA.out 1
          have gX := blk_frozen aA.out 2
          have gY := blk_frozen aA.out 3
          have gZ := blk_frozen aA.out 4
          go_wp2_with (first | ((with_reducible refine gate_callee (f := 51) rfl ?_); refine goesL_ (some 60) rfl rfl Try.func51 oK rfl #[.int .i64 a0_1] rfl oA ?_; (with_reducible refine (impl_partOk.calls a0_1 true _ dW.out).mono ?_); rintro e w' ⟨rfl, ⟨nd, rfl⟩⟩; refine ⟨_, rfl, ?_⟩) | (go_at_call 51; (with_reducible refine (impl_partOk.calls a0_2 true _ hP.out).mono ?_); rintro e w' ⟨rfl, ⟨nd, rfl⟩⟩) | (go_at_call 51; (with_reducible refine (impl_partOk.calls a0_3 true _ hQ.out).mono ?_); rintro e w' ⟨rfl, ⟨nd, rfl⟩⟩))
          go_ret
          exact ⟨by first | rfl | (simp [errW_none, errW_some] <;> rfl) | (simp [*, errW_none, errW_some] <;> rfl), oB HB⟩
         ·replace eC := Bool.eq_false_iff.mpr eC
          subst eC
          rw [if_neg (show ¬ (false = true) by decide)] at H
          obtain rfl := Option.some.inj H
          have fH : wc.cell? ⟨aB, 0, none⟩ = some (.int .i64 a0_0) := (blk_cell aA.out 0).trans rfl
          have fI : wc.cell? ⟨aB, 1, none⟩ = some (.int .i64 a0_1) := (blk_cell aA.out 1).trans rfl
          have fJ : wc.cell? ⟨aB, 2, none⟩ = some (.int .i64 a0_2) := (blk_cell aA.out 2).trans rfl
          have fK : wc.cell? ⟨aB, 3, none⟩ = some (.int .i64 a0_3) := (blk_cell aA.out 3).trans rfl
          have fL : wc.cell? ⟨aB, 4, none⟩ = some (.int .i64 a0_4) := (blk_cell aA.out 4).trans rfl
          have hA := blk_frozen aA.out 0
          have hB := blk_frozen aA.out 1
          have hC := blk_frozen aA.out 2
          have hD := blk_frozen aA.out 3
          have hE := blk_frozen aA.out 4
          go_wp2_with (first | ((with_reducible refine gate_callee (f := 51) rfl ?_); refine goesL_ (some 60) rfl rfl Try.func51 oK rfl #[.int .i64 a0_1] rfl oA ?_; (with_reducible refine (impl_partOk.calls a0_1 true _ dW.out).mono ?_); rintro e w' ⟨rfl, ⟨nd, rfl⟩⟩; refine ⟨_, rfl, ?_⟩) | (go_at_call 51; (with_reducible refine (impl_partOk.calls a0_2 true _ hP.out).mono ?_); rintro e w' ⟨rfl, ⟨nd, rfl⟩⟩) | (go_at_call 51; (with_reducible refine (impl_partOk.calls a0_3 false _ hQ.out).mono ?_); rintro e w' ⟨rfl, ⟨nd, rfl⟩⟩))
          go_ret
          exact ⟨by first | rfl | (simp [errW_none, errW_some] <;> rfl) | (simp [*, errW_none, errW_some] <;> rfl), oB HB⟩
        ·replace eB := Bool.eq_false_iff.mpr eB
         subst eB
         rw [if_neg (show ¬ (false = true) by decide)] at H
         obtain rfl := Option.some.inj H
         have fM : wc.cell? ⟨aB, 0, none⟩ = some (.int .i64 a0_0) := (blk_cell aA.out 0).trans rfl
         have fN : wc.cell? ⟨aB, 1, none⟩ = some (.int .i64 a0_1) := (blk_cell aA.out 1).trans rfl
         have fO : wc.cell? ⟨aB, 2, none⟩ = some (.int .i64 a0_2) := (blk_cell aA.out 2).trans rfl
         have fP : wc.cell? ⟨aB, 3, none⟩ = some (.int .i64 a0_3) := (blk_cell aA.out 3).trans rfl
         have fQ : wc.cell? ⟨aB, 4, none⟩ = some (.int .i64 a0_4) := (blk_cell aA.out 4).trans rfl
         have hF := blk_frozen aA.out 0
         have hG := blk_frozen aA.out 1
         have hH := blk_frozen aA.out 2
         have hI := blk_frozen aA.out 3
         have hJ := blk_frozen aA.out 4
         go_wp2_with (first | ((with_reducible refine gate_callee (f := 51) rfl ?_); refine goesL_ (some 60) rfl rfl Try.func51 oK rfl #[.int .i64 a0_1] rfl oA ?_; (with_reducible refine (impl_partOk.calls a0_1 true _ dW.out).mono ?_); rintro e w' ⟨rfl, ⟨nd, rfl⟩⟩; refine ⟨_, rfl, ?_⟩) | (go_at_call 51; (with_reducible refine (impl_partOk.calls a0_2 false _ hP.out).mono ?_); rintro e w' ⟨rfl, ⟨nd, rfl⟩⟩))
         go_ret
         exact ⟨by first | rfl | (simp [errW_none, errW_some] <;> rfl) | (simp [*, errW_none, errW_some] <;> rfl), oB HB⟩
       ·replace eA := Bool.eq_false_iff.mpr eA
        subst eA
        rw [if_neg (show ¬ (false = true) by decide)] at H
        obtain rfl := Option.some.inj H
        have fR : wc.cell? ⟨aB, 0, none⟩ = some (.int .i64 a0_0) := (blk_cell aA.out 0).trans rfl
        have fS : wc.cell? ⟨aB, 1, none⟩ = some (.int .i64 a0_1) := (blk_cell aA.out 1).trans rfl
        have fT : wc.cell? ⟨aB, 2, none⟩ = some (.int .i64 a0_2) := (blk_cell aA.out 2).trans rfl
        have fU : wc.cell? ⟨aB, 3, none⟩ = some (.int .i64 a0_3) := (blk_cell aA.out 3).trans rfl
        have fV : wc.cell? ⟨aB, 4, none⟩ = some (.int .i64 a0_4) := (blk_cell aA.out 4).trans rfl
        have hK := blk_frozen aA.out 0
        have hL := blk_frozen aA.out 1
        have hM := blk_frozen aA.out 2
        have hN := blk_frozen aA.out 3
        have hO := blk_frozen aA.out 4
        go_wp2_with (first | ((with_reducible refine gate_callee (f := 51) rfl ?_); refine goesL_ (some 60) rfl rfl Try.func51 oK rfl #[.int .i64 a0_1] rfl oA ?_; (with_reducible refine (impl_partOk.calls a0_1 false _ dW.out).mono ?_); rintro e w' ⟨rfl, ⟨nd, rfl⟩⟩; refine ⟨_, rfl, ?_⟩))
        go_ret
        exact ⟨by first | rfl | (simp [errW_none, errW_some] <;> rfl) | (simp [*, errW_none, errW_some] <;> rfl), oB HB⟩
      ·rw [if_neg cW] at H
       have dO : (a0_0 == 8) = false := beq_eq_false_iff_ne.mpr cW
       have dP : (a0_0 != 8) = true := bne_iff_ne.mpr cW
       obtain rfl := Option.some.inj H
       go_wp2
       go_ret
       exact ⟨by first | rfl | (simp [errW_none, errW_some] <;> rfl) | (simp [*, errW_none, errW_some] <;> rfl), oB HB⟩

end Go.Proofs.Ythnmeogafklhnaa.X
