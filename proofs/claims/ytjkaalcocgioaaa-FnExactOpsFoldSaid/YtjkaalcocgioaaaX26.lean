/- What functions of the program come to, each with its proof. No condition but what each theorem states. -/
import Derived.Test.YtjkaalcocgioaaaX0
import Derived.Test.YtjkaalcocgioaaaX25
namespace Go.Proofs.Ytjkaalcocgioaaa.X
open Go.RowKit Go.Proofs.YtjkaalcocgioaaaW.PrintWords Go.Proofs.YtjkaalcocgioaaaW.PrintLast Go.Proofs.YtjkaalcocgioaaaW.PrintMore Go.Proofs.Ytjkaalcocgioaaa.Hyb
attribute [local go_sem] max2_int min2_int max_two min_two max_three min_three max_four min_four
set_option linter.unusedVariables false
set_option linter.unusedSimpArgs false

/-! ### spec_OpOk: function 12 -/
def spec_OpOk.f (a0_0 : Int) (a0_1 : Int) (a0_2 : Int) (a0_3 : Int) (a0_4 : Int) : Option (Bool) := if a0_0 = 1 then ((spec_l1In.f a0_1 0 5).bind fun aE => (if aE = true then ((spec_l1In.f a0_2 0 5).bind fun aF => (if aF = true then ((spec_l1In.f a0_3 1 6).bind fun aG => (if aG = true then ((spec_l1In.f a0_4 1 6).bind fun aH => (some aH)) else (some false))) else (some false))) else (some false))) else (if a0_0 = 7 then ((spec_l1In.f a0_1 1 6).bind fun aI => (if aI = true then ((spec_l1In.f a0_2 1 6).bind fun aJ => (if aJ = true then (if a0_3 = 0 then (some (a0_4 == 0)) else (some false)) else (some false))) else (some false))) else (if a0_0 = 8 then ((spec_l1In.f a0_1 0 255).bind fun aK => (if aK = true then ((spec_l1In.f a0_2 0 255).bind fun aL => (if aL = true then ((spec_l1In.f a0_3 0 255).bind fun aM => (if aM = true then (some (a0_4 == 0)) else (some false))) else (some false))) else (some false))) else ((spec_l1In.f a0_0 2 6).bind fun aN => (if aN = true then (if a0_1 = 0 then (if a0_2 = 0 then (if a0_3 = 0 then (some (a0_4 == 0)) else (some false)) else (some false)) else (some false)) else (some false)))))
set_option maxHeartbeats 8000000 in
set_option maxRecDepth 100000 in
theorem spec_OpOk.calls (a0_0 : Int) (a0_1 : Int) (a0_2 : Int) (a0_3 : Int) (a0_4 : Int) (r : Bool) (w : World) (h : spec_OpOk.f a0_0 a0_1 a0_2 a0_3 a0_4 = some r) :
  Calls Try.prog 12 #[.agg #[.int .i64 a0_0, .int .i64 a0_1, .int .i64 a0_2, .int .i64 a0_3, .int .i64 a0_4]] w fun e w' => e = .returned (.bool r) ∧ Below w.heap.size w w' := by
 have hu25 := Try.underlying25
 have HB := Aside0.mk (Below.refl w.heap.size w)
 have H : (if a0_0 = 1 then ((spec_l1In.f a0_1 0 5).bind fun aE => (if aE = true then ((spec_l1In.f a0_2 0 5).bind fun aF => (if aF = true then ((spec_l1In.f a0_3 1 6).bind fun aG => (if aG = true then ((spec_l1In.f a0_4 1 6).bind fun aH => (some aH)) else (some false))) else (some false))) else (some false))) else (if a0_0 = 7 then ((spec_l1In.f a0_1 1 6).bind fun aI => (if aI = true then ((spec_l1In.f a0_2 1 6).bind fun aJ => (if aJ = true then (if a0_3 = 0 then (some (a0_4 == 0)) else (some false)) else (some false))) else (some false))) else (if a0_0 = 8 then ((spec_l1In.f a0_1 0 255).bind fun aK => (if aK = true then ((spec_l1In.f a0_2 0 255).bind fun aL => (if aL = true then ((spec_l1In.f a0_3 0 255).bind fun aM => (if aM = true then (some (a0_4 == 0)) else (some false))) else (some false))) else (some false))) else ((spec_l1In.f a0_0 2 6).bind fun aN => (if aN = true then (if a0_1 = 0 then (if a0_2 = 0 then (if a0_3 = 0 then (some (a0_4 == 0)) else (some false)) else (some false)) else (some false)) else (some false)))))) = some r := h
 clear h
 by_cases c2 : a0_0 = 1
 ·rw [if_pos c2] at H
  have jC : (a0_0 == 1) = true := beq_iff_eq.mpr c2
  have jD : (a0_0 != 1) = false := bne_eq_false_iff_eq.mpr c2
  clear c2
  replace H := Option.bind_eq_some_iff.mp H
  obtain ⟨aE, jE, H⟩ := H
  (try dsimp only at H)
  have A3 := Aside0.mk jE
  clear jE
  by_cases c4 : aE = true
  ·subst c4
   rw [if_pos rfl] at H
   replace H := Option.bind_eq_some_iff.mp H
   obtain ⟨aF, jG, H⟩ := H
   (try dsimp only at H)
   have A5 := Aside0.mk jG
   clear jG
   by_cases c6 : aF = true
   ·subst c6
    rw [if_pos rfl] at H
    replace H := Option.bind_eq_some_iff.mp H
    obtain ⟨aG, jH, H⟩ := H
    (try dsimp only at H)
    have A7 := Aside0.mk jH
    clear jH
    by_cases c8 : aG = true
    ·subst c8
     rw [if_pos rfl] at H
     replace H := Option.bind_eq_some_iff.mp H
     obtain ⟨aH, jI, H⟩ := H
     (try dsimp only at H)
     have A9 := Aside0.mk jI
     clear jI
     obtain rfl := Option.some.inj H
     go_enter Try.func12, Try.ntmps12
     go_wp2_with (first | ((with_reducible refine gate_dst (N := 1) rfl ?_); refine box_event rfl (N := 1) rfl (cs := #[.int .i64 a0_0, .int .i64 a0_1, .int .i64 a0_2, .int .i64 a0_3, .int .i64 a0_4]) (t := 25) oS ?_; intro aB hg bN hbox hb; have n_ := o2_ (below_step (oB HB) hb) (o2_ (hbox) (o2_ ((oG hg (below_size (oB HB)) : w.heap.size ≤ aB)) (o1_ ((oG hg (below_size (oB HB)) : w.heap.size ≤ aB))))); clear HB; obtain ⟨HB, aA, aD, aC⟩ := n_; clear hb hbox hg; have cM : bN.cell? ⟨aB, 0, none⟩ = some (.int .i64 a0_0) := (blk_cell aA.out 0).trans rfl; have cN : bN.cell? ⟨aB, 1, none⟩ = some (.int .i64 a0_1) := (blk_cell aA.out 1).trans rfl; have cO : bN.cell? ⟨aB, 2, none⟩ = some (.int .i64 a0_2) := (blk_cell aA.out 2).trans rfl; have cP : bN.cell? ⟨aB, 3, none⟩ = some (.int .i64 a0_3) := (blk_cell aA.out 3).trans rfl; have cQ : bN.cell? ⟨aB, 4, none⟩ = some (.int .i64 a0_4) := (blk_cell aA.out 4).trans rfl; have fT := blk_frozen aA.out 0; have fU := blk_frozen aA.out 1; have fV := blk_frozen aA.out 2; have fW := blk_frozen aA.out 3; have fX := blk_frozen aA.out 4) | ((with_reducible refine gate_callee (f := 28) rfl ?_); refine goesL_ (some 9) rfl rfl Try.func28 oK rfl #[.int .i64 a0_1, .int .i64 0, .int .i64 5] rfl oA ?_; (with_reducible refine (spec_l1In.calls a0_1 0 5 true _ A3.out).mono ?_); rintro e w' ⟨rfl, ⟨nd, rfl⟩⟩; refine ⟨_, rfl, ?_⟩) | (go_at_call 28; (with_reducible refine (spec_l1In.calls a0_2 0 5 true _ A5.out).mono ?_); rintro e w' ⟨rfl, ⟨nd, rfl⟩⟩) | (go_at_call 28; (with_reducible refine (spec_l1In.calls a0_3 1 6 true _ A7.out).mono ?_); rintro e w' ⟨rfl, ⟨nd, rfl⟩⟩) | (go_at_call 28; (with_reducible refine (spec_l1In.calls a0_4 1 6 aH _ A9.out).mono ?_); rintro e w' ⟨rfl, ⟨nd, rfl⟩⟩))
     go_ret
     exact ⟨by first | rfl | (simp [errW_none, errW_some] <;> rfl) | (simp [*, errW_none, errW_some] <;> rfl), oB HB⟩
    ·replace c8 := Bool.eq_false_iff.mpr c8
     subst c8
     rw [if_neg (show ¬ (false = true) by decide)] at H
     obtain rfl := Option.some.inj H
     go_enter Try.func12, Try.ntmps12
     go_wp2_with (first | ((with_reducible refine gate_dst (N := 1) rfl ?_); refine box_event rfl (N := 1) rfl (cs := #[.int .i64 a0_0, .int .i64 a0_1, .int .i64 a0_2, .int .i64 a0_3, .int .i64 a0_4]) (t := 25) oS ?_; intro aB hg bO hbox hb; have n_ := o2_ (below_step (oB HB) hb) (o2_ (hbox) (o2_ ((oG hg (below_size (oB HB)) : w.heap.size ≤ aB)) (o1_ ((oG hg (below_size (oB HB)) : w.heap.size ≤ aB))))); clear HB; obtain ⟨HB, aA, aD, aC⟩ := n_; clear hb hbox hg; have cR : bO.cell? ⟨aB, 0, none⟩ = some (.int .i64 a0_0) := (blk_cell aA.out 0).trans rfl; have cS : bO.cell? ⟨aB, 1, none⟩ = some (.int .i64 a0_1) := (blk_cell aA.out 1).trans rfl; have cT : bO.cell? ⟨aB, 2, none⟩ = some (.int .i64 a0_2) := (blk_cell aA.out 2).trans rfl; have cU : bO.cell? ⟨aB, 3, none⟩ = some (.int .i64 a0_3) := (blk_cell aA.out 3).trans rfl; have cV : bO.cell? ⟨aB, 4, none⟩ = some (.int .i64 a0_4) := (blk_cell aA.out 4).trans rfl; have fY := blk_frozen aA.out 0; have fZ := blk_frozen aA.out 1; have gA := blk_frozen aA.out 2; have gB := blk_frozen aA.out 3; have gC := blk_frozen aA.out 4) | ((with_reducible refine gate_callee (f := 28) rfl ?_); refine goesL_ (some 9) rfl rfl Try.func28 oK rfl #[.int .i64 a0_1, .int .i64 0, .int .i64 5] rfl oA ?_; (with_reducible refine (spec_l1In.calls a0_1 0 5 true _ A3.out).mono ?_); rintro e w' ⟨rfl, ⟨nd, rfl⟩⟩; refine ⟨_, rfl, ?_⟩) | (go_at_call 28; (with_reducible refine (spec_l1In.calls a0_2 0 5 true _ A5.out).mono ?_); rintro e w' ⟨rfl, ⟨nd, rfl⟩⟩) | (go_at_call 28; (with_reducible refine (spec_l1In.calls a0_3 1 6 false _ A7.out).mono ?_); rintro e w' ⟨rfl, ⟨nd, rfl⟩⟩))
     go_ret
     exact ⟨by first | rfl | (simp [errW_none, errW_some] <;> rfl) | (simp [*, errW_none, errW_some] <;> rfl), oB HB⟩
   ·replace c6 := Bool.eq_false_iff.mpr c6
    subst c6
    rw [if_neg (show ¬ (false = true) by decide)] at H
    obtain rfl := Option.some.inj H
    go_enter Try.func12, Try.ntmps12
    go_wp2_with (first | ((with_reducible refine gate_dst (N := 1) rfl ?_); refine box_event rfl (N := 1) rfl (cs := #[.int .i64 a0_0, .int .i64 a0_1, .int .i64 a0_2, .int .i64 a0_3, .int .i64 a0_4]) (t := 25) oS ?_; intro aB hg bP hbox hb; have n_ := o2_ (below_step (oB HB) hb) (o2_ (hbox) (o2_ ((oG hg (below_size (oB HB)) : w.heap.size ≤ aB)) (o1_ ((oG hg (below_size (oB HB)) : w.heap.size ≤ aB))))); clear HB; obtain ⟨HB, aA, aD, aC⟩ := n_; clear hb hbox hg; have cW : bP.cell? ⟨aB, 0, none⟩ = some (.int .i64 a0_0) := (blk_cell aA.out 0).trans rfl; have cX : bP.cell? ⟨aB, 1, none⟩ = some (.int .i64 a0_1) := (blk_cell aA.out 1).trans rfl; have cY : bP.cell? ⟨aB, 2, none⟩ = some (.int .i64 a0_2) := (blk_cell aA.out 2).trans rfl; have cZ : bP.cell? ⟨aB, 3, none⟩ = some (.int .i64 a0_3) := (blk_cell aA.out 3).trans rfl; have dA : bP.cell? ⟨aB, 4, none⟩ = some (.int .i64 a0_4) := (blk_cell aA.out 4).trans rfl; have gD := blk_frozen aA.out 0; have gE := blk_frozen aA.out 1; have gF := blk_frozen aA.out 2; have gG := blk_frozen aA.out 3; have gH := blk_frozen aA.out 4) | ((with_reducible refine gate_callee (f := 28) rfl ?_); refine goesL_ (some 9) rfl rfl Try.func28 oK rfl #[.int .i64 a0_1, .int .i64 0, .int .i64 5] rfl oA ?_; (with_reducible refine (spec_l1In.calls a0_1 0 5 true _ A3.out).mono ?_); rintro e w' ⟨rfl, ⟨nd, rfl⟩⟩; refine ⟨_, rfl, ?_⟩) | (go_at_call 28; (with_reducible refine (spec_l1In.calls a0_2 0 5 false _ A5.out).mono ?_); rintro e w' ⟨rfl, ⟨nd, rfl⟩⟩))
    go_ret
    exact ⟨by first | rfl | (simp [errW_none, errW_some] <;> rfl) | (simp [*, errW_none, errW_some] <;> rfl), oB HB⟩
  ·replace c4 := Bool.eq_false_iff.mpr c4
   subst c4
   rw [if_neg (show ¬ (false = true) by decide)] at H
   obtain rfl := Option.some.inj H
   go_enter Try.func12, Try.ntmps12
   go_wp2_with (first | ((with_reducible refine gate_dst (N := 1) rfl ?_); refine box_event rfl (N := 1) rfl (cs := #[.int .i64 a0_0, .int .i64 a0_1, .int .i64 a0_2, .int .i64 a0_3, .int .i64 a0_4]) (t := 25) oS ?_; intro aB hg bQ hbox hb; have n_ := o2_ (below_step (oB HB) hb) (o2_ (hbox) (o2_ ((oG hg (below_size (oB HB)) : w.heap.size ≤ aB)) (o1_ ((oG hg (below_size (oB HB)) : w.heap.size ≤ aB))))); clear HB; obtain ⟨HB, aA, aD, aC⟩ := n_; clear hb hbox hg; have dB : bQ.cell? ⟨aB, 0, none⟩ = some (.int .i64 a0_0) := (blk_cell aA.out 0).trans rfl; have dC : bQ.cell? ⟨aB, 1, none⟩ = some (.int .i64 a0_1) := (blk_cell aA.out 1).trans rfl; have dD : bQ.cell? ⟨aB, 2, none⟩ = some (.int .i64 a0_2) := (blk_cell aA.out 2).trans rfl; have dE : bQ.cell? ⟨aB, 3, none⟩ = some (.int .i64 a0_3) := (blk_cell aA.out 3).trans rfl; have dF : bQ.cell? ⟨aB, 4, none⟩ = some (.int .i64 a0_4) := (blk_cell aA.out 4).trans rfl; have gI := blk_frozen aA.out 0; have gJ := blk_frozen aA.out 1; have gK := blk_frozen aA.out 2; have gL := blk_frozen aA.out 3; have gM := blk_frozen aA.out 4) | ((with_reducible refine gate_callee (f := 28) rfl ?_); refine goesL_ (some 9) rfl rfl Try.func28 oK rfl #[.int .i64 a0_1, .int .i64 0, .int .i64 5] rfl oA ?_; (with_reducible refine (spec_l1In.calls a0_1 0 5 false _ A3.out).mono ?_); rintro e w' ⟨rfl, ⟨nd, rfl⟩⟩; refine ⟨_, rfl, ?_⟩))
   go_ret
   exact ⟨by first | rfl | (simp [errW_none, errW_some] <;> rfl) | (simp [*, errW_none, errW_some] <;> rfl), oB HB⟩
 ·rw [if_neg c2] at H
  have jC : (a0_0 == 1) = false := beq_eq_false_iff_ne.mpr c2
  have jD : (a0_0 != 1) = true := bne_iff_ne.mpr c2
  by_cases aO : a0_0 = 7
  ·rw [if_pos aO] at H
   have bB : (a0_0 == 7) = true := beq_iff_eq.mpr aO
   have bC : (a0_0 != 7) = false := bne_eq_false_iff_eq.mpr aO
   clear aO
   replace H := Option.bind_eq_some_iff.mp H
   obtain ⟨aI, aU, H⟩ := H
   (try dsimp only at H)
   have cE := Aside0.mk aU
   clear aU
   by_cases cG : aI = true
   ·subst cG
    rw [if_pos rfl] at H
    replace H := Option.bind_eq_some_iff.mp H
    obtain ⟨aJ, aV, H⟩ := H
    (try dsimp only at H)
    have jA := Aside0.mk aV
    clear aV
    by_cases cH : aJ = true
    ·subst cH
     rw [if_pos rfl] at H
     by_cases aP : a0_3 = 0
     ·rw [if_pos aP] at H
      have bD : (a0_3 == 0) = true := beq_iff_eq.mpr aP
      have bE : (a0_3 != 0) = false := bne_eq_false_iff_eq.mpr aP
      clear aP
      obtain rfl := Option.some.inj H
      go_enter Try.func12, Try.ntmps12
      go_wp2_with (first | ((with_reducible refine gate_dst (N := 1) rfl ?_); refine box_event rfl (N := 1) rfl (cs := #[.int .i64 a0_0, .int .i64 a0_1, .int .i64 a0_2, .int .i64 a0_3, .int .i64 a0_4]) (t := 25) oS ?_; intro aB hg bR hbox hb; have n_ := o2_ (below_step (oB HB) hb) (o2_ (hbox) (o2_ ((oG hg (below_size (oB HB)) : w.heap.size ≤ aB)) (o1_ ((oG hg (below_size (oB HB)) : w.heap.size ≤ aB))))); clear HB; obtain ⟨HB, aA, aD, aC⟩ := n_; clear hb hbox hg; have dG : bR.cell? ⟨aB, 0, none⟩ = some (.int .i64 a0_0) := (blk_cell aA.out 0).trans rfl; have dH : bR.cell? ⟨aB, 1, none⟩ = some (.int .i64 a0_1) := (blk_cell aA.out 1).trans rfl; have dI : bR.cell? ⟨aB, 2, none⟩ = some (.int .i64 a0_2) := (blk_cell aA.out 2).trans rfl; have dJ : bR.cell? ⟨aB, 3, none⟩ = some (.int .i64 a0_3) := (blk_cell aA.out 3).trans rfl; have dK : bR.cell? ⟨aB, 4, none⟩ = some (.int .i64 a0_4) := (blk_cell aA.out 4).trans rfl; have gN := blk_frozen aA.out 0; have gO := blk_frozen aA.out 1; have gP := blk_frozen aA.out 2; have gQ := blk_frozen aA.out 3; have gR := blk_frozen aA.out 4) | ((with_reducible refine gate_callee (f := 28) rfl ?_); refine goesL_ (some 29) rfl rfl Try.func28 oK rfl #[.int .i64 a0_1, .int .i64 1, .int .i64 6] rfl oA ?_; (with_reducible refine (spec_l1In.calls a0_1 1 6 true _ cE.out).mono ?_); rintro e w' ⟨rfl, ⟨nd, rfl⟩⟩; refine ⟨_, rfl, ?_⟩) | (go_at_call 28; (with_reducible refine (spec_l1In.calls a0_2 1 6 true _ jA.out).mono ?_); rintro e w' ⟨rfl, ⟨nd, rfl⟩⟩))
      go_ret
      exact ⟨by first | rfl | (simp [errW_none, errW_some] <;> rfl) | (simp [*, errW_none, errW_some] <;> rfl), oB HB⟩
     ·rw [if_neg aP] at H
      have bD : (a0_3 == 0) = false := beq_eq_false_iff_ne.mpr aP
      have bE : (a0_3 != 0) = true := bne_iff_ne.mpr aP
      obtain rfl := Option.some.inj H
      go_enter Try.func12, Try.ntmps12
      go_wp2_with (first | ((with_reducible refine gate_dst (N := 1) rfl ?_); refine box_event rfl (N := 1) rfl (cs := #[.int .i64 a0_0, .int .i64 a0_1, .int .i64 a0_2, .int .i64 a0_3, .int .i64 a0_4]) (t := 25) oS ?_; intro aB hg bS hbox hb; have n_ := o2_ (below_step (oB HB) hb) (o2_ (hbox) (o2_ ((oG hg (below_size (oB HB)) : w.heap.size ≤ aB)) (o1_ ((oG hg (below_size (oB HB)) : w.heap.size ≤ aB))))); clear HB; obtain ⟨HB, aA, aD, aC⟩ := n_; clear hb hbox hg; have dL : bS.cell? ⟨aB, 0, none⟩ = some (.int .i64 a0_0) := (blk_cell aA.out 0).trans rfl; have dM : bS.cell? ⟨aB, 1, none⟩ = some (.int .i64 a0_1) := (blk_cell aA.out 1).trans rfl; have dN : bS.cell? ⟨aB, 2, none⟩ = some (.int .i64 a0_2) := (blk_cell aA.out 2).trans rfl; have dO : bS.cell? ⟨aB, 3, none⟩ = some (.int .i64 a0_3) := (blk_cell aA.out 3).trans rfl; have dP : bS.cell? ⟨aB, 4, none⟩ = some (.int .i64 a0_4) := (blk_cell aA.out 4).trans rfl; have gS := blk_frozen aA.out 0; have gT := blk_frozen aA.out 1; have gU := blk_frozen aA.out 2; have gV := blk_frozen aA.out 3; have gW := blk_frozen aA.out 4) | ((with_reducible refine gate_callee (f := 28) rfl ?_); refine goesL_ (some 29) rfl rfl Try.func28 oK rfl #[.int .i64 a0_1, .int .i64 1, .int .i64 6] rfl oA ?_; (with_reducible refine (spec_l1In.calls a0_1 1 6 true _ cE.out).mono ?_); rintro e w' ⟨rfl, ⟨nd, rfl⟩⟩; refine ⟨_, rfl, ?_⟩) | (go_at_call 28; (with_reducible refine (spec_l1In.calls a0_2 1 6 true _ jA.out).mono ?_); rintro e w' ⟨rfl, ⟨nd, rfl⟩⟩))
      go_ret
      exact ⟨by first | rfl | (simp [errW_none, errW_some] <;> rfl) | (simp [*, errW_none, errW_some] <;> rfl), oB HB⟩
    ·replace cH := Bool.eq_false_iff.mpr cH
     subst cH
     rw [if_neg (show ¬ (false = true) by decide)] at H
     obtain rfl := Option.some.inj H
     go_enter Try.func12, Try.ntmps12
     go_wp2_with (first | ((with_reducible refine gate_dst (N := 1) rfl ?_); refine box_event rfl (N := 1) rfl (cs := #[.int .i64 a0_0, .int .i64 a0_1, .int .i64 a0_2, .int .i64 a0_3, .int .i64 a0_4]) (t := 25) oS ?_; intro aB hg bT hbox hb; have n_ := o2_ (below_step (oB HB) hb) (o2_ (hbox) (o2_ ((oG hg (below_size (oB HB)) : w.heap.size ≤ aB)) (o1_ ((oG hg (below_size (oB HB)) : w.heap.size ≤ aB))))); clear HB; obtain ⟨HB, aA, aD, aC⟩ := n_; clear hb hbox hg; have dQ : bT.cell? ⟨aB, 0, none⟩ = some (.int .i64 a0_0) := (blk_cell aA.out 0).trans rfl; have dR : bT.cell? ⟨aB, 1, none⟩ = some (.int .i64 a0_1) := (blk_cell aA.out 1).trans rfl; have dS : bT.cell? ⟨aB, 2, none⟩ = some (.int .i64 a0_2) := (blk_cell aA.out 2).trans rfl; have dT : bT.cell? ⟨aB, 3, none⟩ = some (.int .i64 a0_3) := (blk_cell aA.out 3).trans rfl; have dU : bT.cell? ⟨aB, 4, none⟩ = some (.int .i64 a0_4) := (blk_cell aA.out 4).trans rfl; have gX := blk_frozen aA.out 0; have gY := blk_frozen aA.out 1; have gZ := blk_frozen aA.out 2; have hA := blk_frozen aA.out 3; have hB := blk_frozen aA.out 4) | ((with_reducible refine gate_callee (f := 28) rfl ?_); refine goesL_ (some 29) rfl rfl Try.func28 oK rfl #[.int .i64 a0_1, .int .i64 1, .int .i64 6] rfl oA ?_; (with_reducible refine (spec_l1In.calls a0_1 1 6 true _ cE.out).mono ?_); rintro e w' ⟨rfl, ⟨nd, rfl⟩⟩; refine ⟨_, rfl, ?_⟩) | (go_at_call 28; (with_reducible refine (spec_l1In.calls a0_2 1 6 false _ jA.out).mono ?_); rintro e w' ⟨rfl, ⟨nd, rfl⟩⟩))
     go_ret
     exact ⟨by first | rfl | (simp [errW_none, errW_some] <;> rfl) | (simp [*, errW_none, errW_some] <;> rfl), oB HB⟩
   ·replace cG := Bool.eq_false_iff.mpr cG
    subst cG
    rw [if_neg (show ¬ (false = true) by decide)] at H
    obtain rfl := Option.some.inj H
    go_enter Try.func12, Try.ntmps12
    go_wp2_with (first | ((with_reducible refine gate_dst (N := 1) rfl ?_); refine box_event rfl (N := 1) rfl (cs := #[.int .i64 a0_0, .int .i64 a0_1, .int .i64 a0_2, .int .i64 a0_3, .int .i64 a0_4]) (t := 25) oS ?_; intro aB hg bU hbox hb; have n_ := o2_ (below_step (oB HB) hb) (o2_ (hbox) (o2_ ((oG hg (below_size (oB HB)) : w.heap.size ≤ aB)) (o1_ ((oG hg (below_size (oB HB)) : w.heap.size ≤ aB))))); clear HB; obtain ⟨HB, aA, aD, aC⟩ := n_; clear hb hbox hg; have dV : bU.cell? ⟨aB, 0, none⟩ = some (.int .i64 a0_0) := (blk_cell aA.out 0).trans rfl; have dW : bU.cell? ⟨aB, 1, none⟩ = some (.int .i64 a0_1) := (blk_cell aA.out 1).trans rfl; have dX : bU.cell? ⟨aB, 2, none⟩ = some (.int .i64 a0_2) := (blk_cell aA.out 2).trans rfl; have dY : bU.cell? ⟨aB, 3, none⟩ = some (.int .i64 a0_3) := (blk_cell aA.out 3).trans rfl; have dZ : bU.cell? ⟨aB, 4, none⟩ = some (.int .i64 a0_4) := (blk_cell aA.out 4).trans rfl; have hC := blk_frozen aA.out 0; have hD := blk_frozen aA.out 1; have hE := blk_frozen aA.out 2; have hF := blk_frozen aA.out 3; have hG := blk_frozen aA.out 4) | ((with_reducible refine gate_callee (f := 28) rfl ?_); refine goesL_ (some 29) rfl rfl Try.func28 oK rfl #[.int .i64 a0_1, .int .i64 1, .int .i64 6] rfl oA ?_; (with_reducible refine (spec_l1In.calls a0_1 1 6 false _ cE.out).mono ?_); rintro e w' ⟨rfl, ⟨nd, rfl⟩⟩; refine ⟨_, rfl, ?_⟩))
    go_ret
    exact ⟨by first | rfl | (simp [errW_none, errW_some] <;> rfl) | (simp [*, errW_none, errW_some] <;> rfl), oB HB⟩
  ·rw [if_neg aO] at H
   have bB : (a0_0 == 7) = false := beq_eq_false_iff_ne.mpr aO
   have bC : (a0_0 != 7) = true := bne_iff_ne.mpr aO
   by_cases aQ : a0_0 = 8
   ·rw [if_pos aQ] at H
    have bF : (a0_0 == 8) = true := beq_iff_eq.mpr aQ
    have bG : (a0_0 != 8) = false := bne_eq_false_iff_eq.mpr aQ
    clear aQ
    replace H := Option.bind_eq_some_iff.mp H
    obtain ⟨aK, aW, H⟩ := H
    (try dsimp only at H)
    have cF := Aside0.mk aW
    clear aW
    by_cases cI : aK = true
    ·subst cI
     rw [if_pos rfl] at H
     replace H := Option.bind_eq_some_iff.mp H
     obtain ⟨aL, aX, H⟩ := H
     (try dsimp only at H)
     have jB := Aside0.mk aX
     clear aX
     by_cases cJ : aL = true
     ·subst cJ
      rw [if_pos rfl] at H
      replace H := Option.bind_eq_some_iff.mp H
      obtain ⟨aM, aY, H⟩ := H
      (try dsimp only at H)
      have jF := Aside0.mk aY
      clear aY
      by_cases cK : aM = true
      ·subst cK
       rw [if_pos rfl] at H
       obtain rfl := Option.some.inj H
       go_enter Try.func12, Try.ntmps12
       go_wp2_with (first | ((with_reducible refine gate_dst (N := 1) rfl ?_); refine box_event rfl (N := 1) rfl (cs := #[.int .i64 a0_0, .int .i64 a0_1, .int .i64 a0_2, .int .i64 a0_3, .int .i64 a0_4]) (t := 25) oS ?_; intro aB hg bV hbox hb; have n_ := o2_ (below_step (oB HB) hb) (o2_ (hbox) (o2_ ((oG hg (below_size (oB HB)) : w.heap.size ≤ aB)) (o1_ ((oG hg (below_size (oB HB)) : w.heap.size ≤ aB))))); clear HB; obtain ⟨HB, aA, aD, aC⟩ := n_; clear hb hbox hg; have eA : bV.cell? ⟨aB, 0, none⟩ = some (.int .i64 a0_0) := (blk_cell aA.out 0).trans rfl; have eB : bV.cell? ⟨aB, 1, none⟩ = some (.int .i64 a0_1) := (blk_cell aA.out 1).trans rfl; have eC : bV.cell? ⟨aB, 2, none⟩ = some (.int .i64 a0_2) := (blk_cell aA.out 2).trans rfl; have eD : bV.cell? ⟨aB, 3, none⟩ = some (.int .i64 a0_3) := (blk_cell aA.out 3).trans rfl; have eE : bV.cell? ⟨aB, 4, none⟩ = some (.int .i64 a0_4) := (blk_cell aA.out 4).trans rfl; have hH := blk_frozen aA.out 0; have hI := blk_frozen aA.out 1; have hJ := blk_frozen aA.out 2; have hK := blk_frozen aA.out 3; have hL := blk_frozen aA.out 4) | ((with_reducible refine gate_callee (f := 28) rfl ?_); refine goesL_ (some 49) rfl rfl Try.func28 oK rfl #[.int .i64 a0_1, .int .i64 0, .int .i64 255] rfl oA ?_; (with_reducible refine (spec_l1In.calls a0_1 0 255 true _ cF.out).mono ?_); rintro e w' ⟨rfl, ⟨nd, rfl⟩⟩; refine ⟨_, rfl, ?_⟩) | (go_at_call 28; (with_reducible refine (spec_l1In.calls a0_2 0 255 true _ jB.out).mono ?_); rintro e w' ⟨rfl, ⟨nd, rfl⟩⟩) | (go_at_call 28; (with_reducible refine (spec_l1In.calls a0_3 0 255 true _ jF.out).mono ?_); rintro e w' ⟨rfl, ⟨nd, rfl⟩⟩))
       go_ret
       exact ⟨by first | rfl | (simp [errW_none, errW_some] <;> rfl) | (simp [*, errW_none, errW_some] <;> rfl), oB HB⟩
      ·replace cK := Bool.eq_false_iff.mpr cK
       subst cK
       rw [if_neg (show ¬ (false = true) by decide)] at H
       obtain rfl := Option.some.inj H
       go_enter Try.func12, Try.ntmps12
       go_wp2_with (first | ((with_reducible refine gate_dst (N := 1) rfl ?_); refine box_event rfl (N := 1) rfl (cs := #[.int .i64 a0_0, .int .i64 a0_1, .int .i64 a0_2, .int .i64 a0_3, .int .i64 a0_4]) (t := 25) oS ?_; intro aB hg bW hbox hb; have n_ := o2_ (below_step (oB HB) hb) (o2_ (hbox) (o2_ ((oG hg (below_size (oB HB)) : w.heap.size ≤ aB)) (o1_ ((oG hg (below_size (oB HB)) : w.heap.size ≤ aB))))); clear HB; obtain ⟨HB, aA, aD, aC⟩ := n_; clear hb hbox hg; have eF : bW.cell? ⟨aB, 0, none⟩ = some (.int .i64 a0_0) := (blk_cell aA.out 0).trans rfl; have eG : bW.cell? ⟨aB, 1, none⟩ = some (.int .i64 a0_1) := (blk_cell aA.out 1).trans rfl; have eH : bW.cell? ⟨aB, 2, none⟩ = some (.int .i64 a0_2) := (blk_cell aA.out 2).trans rfl; have eI : bW.cell? ⟨aB, 3, none⟩ = some (.int .i64 a0_3) := (blk_cell aA.out 3).trans rfl; have eJ : bW.cell? ⟨aB, 4, none⟩ = some (.int .i64 a0_4) := (blk_cell aA.out 4).trans rfl; have hM := blk_frozen aA.out 0; have hN := blk_frozen aA.out 1; have hO := blk_frozen aA.out 2; have hP := blk_frozen aA.out 3; have hQ := blk_frozen aA.out 4) | ((with_reducible refine gate_callee (f := 28) rfl ?_); refine goesL_ (some 49) rfl rfl Try.func28 oK rfl #[.int .i64 a0_1, .int .i64 0, .int .i64 255] rfl oA ?_; (with_reducible refine (spec_l1In.calls a0_1 0 255 true _ cF.out).mono ?_); rintro e w' ⟨rfl, ⟨nd, rfl⟩⟩; refine ⟨_, rfl, ?_⟩) | (go_at_call 28; (with_reducible refine (spec_l1In.calls a0_2 0 255 true _ jB.out).mono ?_); rintro e w' ⟨rfl, ⟨nd, rfl⟩⟩) | (go_at_call 28; (with_reducible refine (spec_l1In.calls a0_3 0 255 false _ jF.out).mono ?_); rintro e w' ⟨rfl, ⟨nd, rfl⟩⟩))
       go_ret
       exact ⟨by first | rfl | (simp [errW_none, errW_some] <;> rfl) | (simp [*, errW_none, errW_some] <;> rfl), oB HB⟩
     ·replace cJ := Bool.eq_false_iff.mpr cJ
      subst cJ
      rw [if_neg (show ¬ (false = true) by decide)] at H
      obtain rfl := Option.some.inj H
      go_enter Try.func12, Try.ntmps12
      go_wp2_with (first | ((with_reducible refine gate_dst (N := 1) rfl ?_); refine box_event rfl (N := 1) rfl (cs := #[.int .i64 a0_0, .int .i64 a0_1, .int .i64 a0_2, .int .i64 a0_3, .int .i64 a0_4]) (t := 25) oS ?_; intro aB hg bX hbox hb; have n_ := o2_ (below_step (oB HB) hb) (o2_ (hbox) (o2_ ((oG hg (below_size (oB HB)) : w.heap.size ≤ aB)) (o1_ ((oG hg (below_size (oB HB)) : w.heap.size ≤ aB))))); clear HB; obtain ⟨HB, aA, aD, aC⟩ := n_; clear hb hbox hg; have eK : bX.cell? ⟨aB, 0, none⟩ = some (.int .i64 a0_0) := (blk_cell aA.out 0).trans rfl; have eL : bX.cell? ⟨aB, 1, none⟩ = some (.int .i64 a0_1) := (blk_cell aA.out 1).trans rfl; have eM : bX.cell? ⟨aB, 2, none⟩ = some (.int .i64 a0_2) := (blk_cell aA.out 2).trans rfl; have eN : bX.cell? ⟨aB, 3, none⟩ = some (.int .i64 a0_3) := (blk_cell aA.out 3).trans rfl; have eO : bX.cell? ⟨aB, 4, none⟩ = some (.int .i64 a0_4) := (blk_cell aA.out 4).trans rfl; have hR := blk_frozen aA.out 0; have hS := blk_frozen aA.out 1; have hT := blk_frozen aA.out 2; have hU := blk_frozen aA.out 3; have hV := blk_frozen aA.out 4) | ((with_reducible refine gate_callee (f := 28) rfl ?_); refine goesL_ (some 49) rfl rfl Try.func28 oK rfl #[.int .i64 a0_1, .int .i64 0, .int .i64 255] rfl oA ?_; (with_reducible refine (spec_l1In.calls a0_1 0 255 true _ cF.out).mono ?_); rintro e w' ⟨rfl, ⟨nd, rfl⟩⟩; refine ⟨_, rfl, ?_⟩) | (go_at_call 28; (with_reducible refine (spec_l1In.calls a0_2 0 255 false _ jB.out).mono ?_); rintro e w' ⟨rfl, ⟨nd, rfl⟩⟩))
      go_ret
      exact ⟨by first | rfl | (simp [errW_none, errW_some] <;> rfl) | (simp [*, errW_none, errW_some] <;> rfl), oB HB⟩
    ·replace cI := Bool.eq_false_iff.mpr cI
     subst cI
     rw [if_neg (show ¬ (false = true) by decide)] at H
     obtain rfl := Option.some.inj H
     go_enter Try.func12, Try.ntmps12
     go_wp2_with (first | ((with_reducible refine gate_dst (N := 1) rfl ?_); refine box_event rfl (N := 1) rfl (cs := #[.int .i64 a0_0, .int .i64 a0_1, .int .i64 a0_2, .int .i64 a0_3, .int .i64 a0_4]) (t := 25) oS ?_; intro aB hg bY hbox hb; have n_ := o2_ (below_step (oB HB) hb) (o2_ (hbox) (o2_ ((oG hg (below_size (oB HB)) : w.heap.size ≤ aB)) (o1_ ((oG hg (below_size (oB HB)) : w.heap.size ≤ aB))))); clear HB; obtain ⟨HB, aA, aD, aC⟩ := n_; clear hb hbox hg; have eP : bY.cell? ⟨aB, 0, none⟩ = some (.int .i64 a0_0) := (blk_cell aA.out 0).trans rfl; have eQ : bY.cell? ⟨aB, 1, none⟩ = some (.int .i64 a0_1) := (blk_cell aA.out 1).trans rfl; have eR : bY.cell? ⟨aB, 2, none⟩ = some (.int .i64 a0_2) := (blk_cell aA.out 2).trans rfl; have eS : bY.cell? ⟨aB, 3, none⟩ = some (.int .i64 a0_3) := (blk_cell aA.out 3).trans rfl; have eT : bY.cell? ⟨aB, 4, none⟩ = some (.int .i64 a0_4) := (blk_cell aA.out 4).trans rfl; have hW := blk_frozen aA.out 0; have hX := blk_frozen aA.out 1; have hY := blk_frozen aA.out 2; have hZ := blk_frozen aA.out 3; have iA := blk_frozen aA.out 4) | ((with_reducible refine gate_callee (f := 28) rfl ?_); refine goesL_ (some 49) rfl rfl Try.func28 oK rfl #[.int .i64 a0_1, .int .i64 0, .int .i64 255] rfl oA ?_; (with_reducible refine (spec_l1In.calls a0_1 0 255 false _ cF.out).mono ?_); rintro e w' ⟨rfl, ⟨nd, rfl⟩⟩; refine ⟨_, rfl, ?_⟩))
     go_ret
     exact ⟨by first | rfl | (simp [errW_none, errW_some] <;> rfl) | (simp [*, errW_none, errW_some] <;> rfl), oB HB⟩
   ·rw [if_neg aQ] at H
    have bF : (a0_0 == 8) = false := beq_eq_false_iff_ne.mpr aQ
    have bG : (a0_0 != 8) = true := bne_iff_ne.mpr aQ
    replace H := Option.bind_eq_some_iff.mp H
    obtain ⟨aN, bA, H⟩ := H
    (try dsimp only at H)
    have aZ := Aside0.mk bA
    clear bA
    by_cases cL : aN = true
    ·subst cL
     rw [if_pos rfl] at H
     by_cases aR : a0_1 = 0
     ·rw [if_pos aR] at H
      have bH : (a0_1 == 0) = true := beq_iff_eq.mpr aR
      have bI : (a0_1 != 0) = false := bne_eq_false_iff_eq.mpr aR
      clear aR
      by_cases aS : a0_2 = 0
      ·rw [if_pos aS] at H
       have bJ : (a0_2 == 0) = true := beq_iff_eq.mpr aS
       have bK : (a0_2 != 0) = false := bne_eq_false_iff_eq.mpr aS
       clear aS
       by_cases aT : a0_3 = 0
       ·rw [if_pos aT] at H
        have bL : (a0_3 == 0) = true := beq_iff_eq.mpr aT
        have bM : (a0_3 != 0) = false := bne_eq_false_iff_eq.mpr aT
        clear aT
        obtain rfl := Option.some.inj H
        go_enter Try.func12, Try.ntmps12
        go_wp2_with (first | ((with_reducible refine gate_dst (N := 1) rfl ?_); refine box_event rfl (N := 1) rfl (cs := #[.int .i64 a0_0, .int .i64 a0_1, .int .i64 a0_2, .int .i64 a0_3, .int .i64 a0_4]) (t := 25) oS ?_; intro aB hg bZ hbox hb; have n_ := o2_ (below_step (oB HB) hb) (o2_ (hbox) (o2_ ((oG hg (below_size (oB HB)) : w.heap.size ≤ aB)) (o1_ ((oG hg (below_size (oB HB)) : w.heap.size ≤ aB))))); clear HB; obtain ⟨HB, aA, aD, aC⟩ := n_; clear hb hbox hg; have eU : bZ.cell? ⟨aB, 0, none⟩ = some (.int .i64 a0_0) := (blk_cell aA.out 0).trans rfl; have eV : bZ.cell? ⟨aB, 1, none⟩ = some (.int .i64 a0_1) := (blk_cell aA.out 1).trans rfl; have eW : bZ.cell? ⟨aB, 2, none⟩ = some (.int .i64 a0_2) := (blk_cell aA.out 2).trans rfl; have eX : bZ.cell? ⟨aB, 3, none⟩ = some (.int .i64 a0_3) := (blk_cell aA.out 3).trans rfl; have eY : bZ.cell? ⟨aB, 4, none⟩ = some (.int .i64 a0_4) := (blk_cell aA.out 4).trans rfl; have iB := blk_frozen aA.out 0; have iC := blk_frozen aA.out 1; have iD := blk_frozen aA.out 2; have iE := blk_frozen aA.out 3; have iF := blk_frozen aA.out 4) | ((with_reducible refine gate_callee (f := 28) rfl ?_); refine goesL_ (some 67) rfl rfl Try.func28 oK rfl #[.int .i64 a0_0, .int .i64 2, .int .i64 6] rfl oA ?_; (with_reducible refine (spec_l1In.calls a0_0 2 6 true _ aZ.out).mono ?_); rintro e w' ⟨rfl, ⟨nd, rfl⟩⟩; refine ⟨_, rfl, ?_⟩))
        go_ret
        exact ⟨by first | rfl | (simp [errW_none, errW_some] <;> rfl) | (simp [*, errW_none, errW_some] <;> rfl), oB HB⟩
       ·rw [if_neg aT] at H
        have bL : (a0_3 == 0) = false := beq_eq_false_iff_ne.mpr aT
        have bM : (a0_3 != 0) = true := bne_iff_ne.mpr aT
        obtain rfl := Option.some.inj H
        go_enter Try.func12, Try.ntmps12
        go_wp2_with (first | ((with_reducible refine gate_dst (N := 1) rfl ?_); refine box_event rfl (N := 1) rfl (cs := #[.int .i64 a0_0, .int .i64 a0_1, .int .i64 a0_2, .int .i64 a0_3, .int .i64 a0_4]) (t := 25) oS ?_; intro aB hg cA hbox hb; have n_ := o2_ (below_step (oB HB) hb) (o2_ (hbox) (o2_ ((oG hg (below_size (oB HB)) : w.heap.size ≤ aB)) (o1_ ((oG hg (below_size (oB HB)) : w.heap.size ≤ aB))))); clear HB; obtain ⟨HB, aA, aD, aC⟩ := n_; clear hb hbox hg; have eZ : cA.cell? ⟨aB, 0, none⟩ = some (.int .i64 a0_0) := (blk_cell aA.out 0).trans rfl; have fA : cA.cell? ⟨aB, 1, none⟩ = some (.int .i64 a0_1) := (blk_cell aA.out 1).trans rfl; have fB : cA.cell? ⟨aB, 2, none⟩ = some (.int .i64 a0_2) := (blk_cell aA.out 2).trans rfl; have fC : cA.cell? ⟨aB, 3, none⟩ = some (.int .i64 a0_3) := (blk_cell aA.out 3).trans rfl; have fD : cA.cell? ⟨aB, 4, none⟩ = some (.int .i64 a0_4) := (blk_cell aA.out 4).trans rfl; have iG := blk_frozen aA.out 0; have iH := blk_frozen aA.out 1; have iI := blk_frozen aA.out 2; have iJ := blk_frozen aA.out 3; have iK := blk_frozen aA.out 4) | ((with_reducible refine gate_callee (f := 28) rfl ?_); refine goesL_ (some 67) rfl rfl Try.func28 oK rfl #[.int .i64 a0_0, .int .i64 2, .int .i64 6] rfl oA ?_; (with_reducible refine (spec_l1In.calls a0_0 2 6 true _ aZ.out).mono ?_); rintro e w' ⟨rfl, ⟨nd, rfl⟩⟩; refine ⟨_, rfl, ?_⟩))
        go_ret
        exact ⟨by first | rfl | (simp [errW_none, errW_some] <;> rfl) | (simp [*, errW_none, errW_some] <;> rfl), oB HB⟩
      ·rw [if_neg aS] at H
       have bJ : (a0_2 == 0) = false := beq_eq_false_iff_ne.mpr aS
       have bK : (a0_2 != 0) = true := bne_iff_ne.mpr aS
       obtain rfl := Option.some.inj H
       go_enter Try.func12, Try.ntmps12
       go_wp2_with (first | ((with_reducible refine gate_dst (N := 1) rfl ?_); refine box_event rfl (N := 1) rfl (cs := #[.int .i64 a0_0, .int .i64 a0_1, .int .i64 a0_2, .int .i64 a0_3, .int .i64 a0_4]) (t := 25) oS ?_; intro aB hg cB hbox hb; have n_ := o2_ (below_step (oB HB) hb) (o2_ (hbox) (o2_ ((oG hg (below_size (oB HB)) : w.heap.size ≤ aB)) (o1_ ((oG hg (below_size (oB HB)) : w.heap.size ≤ aB))))); clear HB; obtain ⟨HB, aA, aD, aC⟩ := n_; clear hb hbox hg; have fE : cB.cell? ⟨aB, 0, none⟩ = some (.int .i64 a0_0) := (blk_cell aA.out 0).trans rfl; have fF : cB.cell? ⟨aB, 1, none⟩ = some (.int .i64 a0_1) := (blk_cell aA.out 1).trans rfl; have fG : cB.cell? ⟨aB, 2, none⟩ = some (.int .i64 a0_2) := (blk_cell aA.out 2).trans rfl; have fH : cB.cell? ⟨aB, 3, none⟩ = some (.int .i64 a0_3) := (blk_cell aA.out 3).trans rfl; have fI : cB.cell? ⟨aB, 4, none⟩ = some (.int .i64 a0_4) := (blk_cell aA.out 4).trans rfl; have iL := blk_frozen aA.out 0; have iM := blk_frozen aA.out 1; have iN := blk_frozen aA.out 2; have iO := blk_frozen aA.out 3; have iP := blk_frozen aA.out 4) | ((with_reducible refine gate_callee (f := 28) rfl ?_); refine goesL_ (some 67) rfl rfl Try.func28 oK rfl #[.int .i64 a0_0, .int .i64 2, .int .i64 6] rfl oA ?_; (with_reducible refine (spec_l1In.calls a0_0 2 6 true _ aZ.out).mono ?_); rintro e w' ⟨rfl, ⟨nd, rfl⟩⟩; refine ⟨_, rfl, ?_⟩))
       go_ret
       exact ⟨by first | rfl | (simp [errW_none, errW_some] <;> rfl) | (simp [*, errW_none, errW_some] <;> rfl), oB HB⟩
     ·rw [if_neg aR] at H
      have bH : (a0_1 == 0) = false := beq_eq_false_iff_ne.mpr aR
      have bI : (a0_1 != 0) = true := bne_iff_ne.mpr aR
      obtain rfl := Option.some.inj H
      go_enter Try.func12, Try.ntmps12
      go_wp2_with (first | ((with_reducible refine gate_dst (N := 1) rfl ?_); refine box_event rfl (N := 1) rfl (cs := #[.int .i64 a0_0, .int .i64 a0_1, .int .i64 a0_2, .int .i64 a0_3, .int .i64 a0_4]) (t := 25) oS ?_; intro aB hg cC hbox hb; have n_ := o2_ (below_step (oB HB) hb) (o2_ (hbox) (o2_ ((oG hg (below_size (oB HB)) : w.heap.size ≤ aB)) (o1_ ((oG hg (below_size (oB HB)) : w.heap.size ≤ aB))))); clear HB; obtain ⟨HB, aA, aD, aC⟩ := n_; clear hb hbox hg; have fJ : cC.cell? ⟨aB, 0, none⟩ = some (.int .i64 a0_0) := (blk_cell aA.out 0).trans rfl; have fK : cC.cell? ⟨aB, 1, none⟩ = some (.int .i64 a0_1) := (blk_cell aA.out 1).trans rfl; have fL : cC.cell? ⟨aB, 2, none⟩ = some (.int .i64 a0_2) := (blk_cell aA.out 2).trans rfl; have fM : cC.cell? ⟨aB, 3, none⟩ = some (.int .i64 a0_3) := (blk_cell aA.out 3).trans rfl; have fN : cC.cell? ⟨aB, 4, none⟩ = some (.int .i64 a0_4) := (blk_cell aA.out 4).trans rfl; have iQ := blk_frozen aA.out 0; have iR := blk_frozen aA.out 1; have iS := blk_frozen aA.out 2; have iT := blk_frozen aA.out 3; have iU := blk_frozen aA.out 4) | ((with_reducible refine gate_callee (f := 28) rfl ?_); refine goesL_ (some 67) rfl rfl Try.func28 oK rfl #[.int .i64 a0_0, .int .i64 2, .int .i64 6] rfl oA ?_; (with_reducible refine (spec_l1In.calls a0_0 2 6 true _ aZ.out).mono ?_); rintro e w' ⟨rfl, ⟨nd, rfl⟩⟩; refine ⟨_, rfl, ?_⟩))
      go_ret
      exact ⟨by first | rfl | (simp [errW_none, errW_some] <;> rfl) | (simp [*, errW_none, errW_some] <;> rfl), oB HB⟩
    ·replace cL := Bool.eq_false_iff.mpr cL
     subst cL
     rw [if_neg (show ¬ (false = true) by decide)] at H
     obtain rfl := Option.some.inj H
     go_enter Try.func12, Try.ntmps12
     go_wp2_with (first | ((with_reducible refine gate_dst (N := 1) rfl ?_); refine box_event rfl (N := 1) rfl (cs := #[.int .i64 a0_0, .int .i64 a0_1, .int .i64 a0_2, .int .i64 a0_3, .int .i64 a0_4]) (t := 25) oS ?_; intro aB hg cD hbox hb; have n_ := o2_ (below_step (oB HB) hb) (o2_ (hbox) (o2_ ((oG hg (below_size (oB HB)) : w.heap.size ≤ aB)) (o1_ ((oG hg (below_size (oB HB)) : w.heap.size ≤ aB))))); clear HB; obtain ⟨HB, aA, aD, aC⟩ := n_; clear hb hbox hg; have fO : cD.cell? ⟨aB, 0, none⟩ = some (.int .i64 a0_0) := (blk_cell aA.out 0).trans rfl; have fP : cD.cell? ⟨aB, 1, none⟩ = some (.int .i64 a0_1) := (blk_cell aA.out 1).trans rfl; have fQ : cD.cell? ⟨aB, 2, none⟩ = some (.int .i64 a0_2) := (blk_cell aA.out 2).trans rfl; have fR : cD.cell? ⟨aB, 3, none⟩ = some (.int .i64 a0_3) := (blk_cell aA.out 3).trans rfl; have fS : cD.cell? ⟨aB, 4, none⟩ = some (.int .i64 a0_4) := (blk_cell aA.out 4).trans rfl; have iV := blk_frozen aA.out 0; have iW := blk_frozen aA.out 1; have iX := blk_frozen aA.out 2; have iY := blk_frozen aA.out 3; have iZ := blk_frozen aA.out 4) | ((with_reducible refine gate_callee (f := 28) rfl ?_); refine goesL_ (some 67) rfl rfl Try.func28 oK rfl #[.int .i64 a0_0, .int .i64 2, .int .i64 6] rfl oA ?_; (with_reducible refine (spec_l1In.calls a0_0 2 6 false _ aZ.out).mono ?_); rintro e w' ⟨rfl, ⟨nd, rfl⟩⟩; refine ⟨_, rfl, ?_⟩))
     go_ret
     exact ⟨by first | rfl | (simp [errW_none, errW_some] <;> rfl) | (simp [*, errW_none, errW_some] <;> rfl), oB HB⟩

end Go.Proofs.Ytjkaalcocgioaaa.X
