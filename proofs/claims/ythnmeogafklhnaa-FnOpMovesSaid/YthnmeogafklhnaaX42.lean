/- What functions of the program come to, each with its proof. No condition but what each theorem states. -/
import Derived.Test.YthnmeogafklhnaaX0
import Derived.Test.YthnmeogafklhnaaX33
import Derived.Test.YthnmeogafklhnaaX34
import Derived.Test.YthnmeogafklhnaaX35
import Derived.Test.YthnmeogafklhnaaX36
import Derived.Test.YthnmeogafklhnaaX37
import Derived.Test.YthnmeogafklhnaaX41
namespace Go.Proofs.Ythnmeogafklhnaa.X
open Go.RowKit Go.Proofs.YthnmeogafklhnaaW.PrintWords Go.Proofs.YthnmeogafklhnaaW.PrintLast Go.Proofs.YthnmeogafklhnaaW.PrintMore Go.Proofs.Ythnmeogafklhnaa.Hyb
attribute [local go_sem] max2_int min2_int max_two min_two max_three min_three max_four min_four
set_option linter.unusedVariables false
set_option linter.unusedSimpArgs false

/-! ### spec_l6Do: function 48 -/
def spec_l6Do.j0 : Nat → Bool → Int → Int → List (S38) → Int → Int → Int → Int → Int → Option (Int × Int × (List (S38)) × Bool)
 | 0, _, _, _, _, _, _, _, _, _ => none
 | k + 1, x27, x392000, x392001, x392002, x393000, x393001, x393002, x393003, x393004 => if x27 = true then (some (0, 0, ([] : List (S38)), false)) else ((spec_l6Crop.f k x392000 x392001 x392002 x393000 x393001 x393002 x393003 x393004).bind fun bD => (some (bD.1, bD.2.1, bD.2.2, true)))
def spec_l6Do.f (k : Nat) (a0_0 : Int) (a0_1 : Int) (l0_2 : List (S38)) (a1_0 : Int) (a1_1 : Int) (a1_2 : Int) (a1_3 : Int) (a1_4 : Int) : Option (Int × Int × (List (S38)) × Bool) := if a1_0 = 1 then (if (wrap64 (a1_1 + a1_3)) > a0_0 then (spec_l6Do.j0 k true a0_0 a0_1 l0_2 a1_0 a1_1 a1_2 a1_3 a1_4) else (spec_l6Do.j0 k (decide ((wrap64 (a1_2 + a1_4)) > a0_1)) a0_0 a0_1 l0_2 a1_0 a1_1 a1_2 a1_3 a1_4)) else (if a1_0 = 2 then ((spec_l6FlipX.f k a0_0 a0_1 l0_2).bind fun aO => (some (aO.1, aO.2.1, aO.2.2, true))) else (if a1_0 = 3 then ((spec_l5Flip.f k a0_0 a0_1 l0_2).bind fun aP => (some (aP.1, aP.2.1, aP.2.2, true))) else (if a1_0 = 4 then ((spec_l6Turn.f k a0_0 a0_1 l0_2).bind fun aQ => (some (aQ.1, aQ.2.1, aQ.2.2, true))) else (if a1_0 = 7 then ((spec_l6Size.f k a0_0 a0_1 l0_2 a1_0 a1_1 a1_2 a1_3 a1_4).bind fun aR => (some (aR.1, aR.2.1, aR.2.2, true))) else ((spec_l6Each.f k a0_0 a0_1 l0_2 a1_0 a1_1 a1_2 a1_3 a1_4).bind fun aS => (some (aS.1, aS.2.1, aS.2.2, true)))))))
theorem spec_l6Do.mono_l : ∀ k, (∀ y0 y1 y2 y3 y4 y5 y6 y7 y8, LeO (spec_l6Do.j0 k y0 y1 y2 y3 y4 y5 y6 y7 y8) (spec_l6Do.j0 (k + 1) y0 y1 y2 y3 y4 y5 y6 y7 y8))
 | 0 => (fun _ _ _ _ _ _ _ _ _ r h => nomatch (show none = some r from h))
 | k + 1 => by
  have ih0 := spec_l6Do.mono_l k
  ·intro y0 y1 y2 y3 y4 y5 y6 y7 y8
   unfold spec_l6Do.j0
   repeat' first
   | (with_reducible exact ih0 _ _ _ _ _ _ _ _ _)
   | (with_reducible exact spec_l5Flip.mono _ _ _ _)
   | (with_reducible exact spec_l6Crop.mono _ _ _ _ _ _ _ _ _)
   | (with_reducible exact spec_l6Each.mono _ _ _ _ _ _ _ _ _)
   | (with_reducible exact spec_l6FlipX.mono _ _ _ _)
   | (with_reducible exact spec_l6Size.mono _ _ _ _ _ _ _ _ _)
   | (with_reducible exact spec_l6Turn.mono _ _ _ _)
   | (with_reducible exact LeO.refl _)
   | (with_reducible exact LeO.none _)
   | (with_reducible refine LeO.ite ?_ ?_)
   | (with_reducible refine LeO.bind ?_ (fun _ => ?_))
   | exact ih0 _ _ _ _ _ _ _ _ _
   | exact spec_l5Flip.mono _ _ _ _
   | exact spec_l6Crop.mono _ _ _ _ _ _ _ _ _
   | exact spec_l6Each.mono _ _ _ _ _ _ _ _ _
   | exact spec_l6FlipX.mono _ _ _ _
   | exact spec_l6Size.mono _ _ _ _ _ _ _ _ _
   | exact spec_l6Turn.mono _ _ _ _
   | exact LeO.none _
   | refine LeO.ite ?_ ?_
   | refine LeO.bind ?_ (fun _ => ?_)
theorem spec_l6Do.mono : ∀ a0 a1 a2 a3 a4 a5 a6 a7 k, LeO (spec_l6Do.f k a0 a1 a2 a3 a4 a5 a6 a7) (spec_l6Do.f (k + 1) a0 a1 a2 a3 a4 a5 a6 a7) := by
 intro a0 a1 a2 a3 a4 a5 a6 a7 k
 have ih0 := spec_l6Do.mono_l k
 unfold spec_l6Do.f
 repeat' first
   | (with_reducible exact ih0 _ _ _ _ _ _ _ _ _)
   | (with_reducible exact spec_l5Flip.mono _ _ _ _)
   | (with_reducible exact spec_l6Crop.mono _ _ _ _ _ _ _ _ _)
   | (with_reducible exact spec_l6Each.mono _ _ _ _ _ _ _ _ _)
   | (with_reducible exact spec_l6FlipX.mono _ _ _ _)
   | (with_reducible exact spec_l6Size.mono _ _ _ _ _ _ _ _ _)
   | (with_reducible exact spec_l6Turn.mono _ _ _ _)
   | (with_reducible exact LeO.refl _)
   | (with_reducible exact LeO.none _)
   | (with_reducible refine LeO.ite ?_ ?_)
   | (with_reducible refine LeO.bind ?_ (fun _ => ?_))
   | exact ih0 _ _ _ _ _ _ _ _ _
   | exact spec_l5Flip.mono _ _ _ _
   | exact spec_l6Crop.mono _ _ _ _ _ _ _ _ _
   | exact spec_l6Each.mono _ _ _ _ _ _ _ _ _
   | exact spec_l6FlipX.mono _ _ _ _
   | exact spec_l6Size.mono _ _ _ _ _ _ _ _ _
   | exact spec_l6Turn.mono _ _ _ _
   | exact LeO.none _
   | refine LeO.ite ?_ ?_
   | refine LeO.bind ?_ (fun _ => ?_)
set_option maxHeartbeats 8000000 in
set_option maxRecDepth 100000 in
theorem spec_l6Do.calls (k : Nat) (a0_0 : Int) (a0_1 : Int) (aM : Option Addr) (aN : Nat) (l0_2 : List (S38)) (a1_0 : Int) (a1_1 : Int) (a1_2 : Int) (a1_3 : Int) (a1_4 : Int) (r1 : Int) (r2 : Int) (r3 : List (S38)) (r4 : Bool) (w : World) (hr0_2 : Kd.C k38 w aM l0_2.length l0_2) (dA : l0_2.length ≤ aN) (h : spec_l6Do.f k a0_0 a0_1 l0_2 a1_0 a1_1 a1_2 a1_3 a1_4 = some (r1, r2, r3, r4)) :
  Calls Try.prog 48 #[.agg #[.int .i64 a0_0, .int .i64 a0_1, .slice aM l0_2.length aN], .agg #[.int .i64 a1_0, .int .i64 a1_1, .int .i64 a1_2, .int .i64 a1_3, .int .i64 a1_4]] w fun e w' => ∃ nB : Value, e = .returned (.tuple #[.agg #[.int .i64 r1, .int .i64 r2, nB], .bool r4]) ∧ Kd.R k38 38 w' w.heap.size (fun _ => True) nB r3 ∧ Below w.heap.size w w' := by
 have hu25 := Try.underlying25
 have hu27 := Try.underlying27
 have aU := Aside0.mk hr0_2
 have aT := Aside0.mk dA
 clear hr0_2 dA
 have HB := Aside0.mk (Below.refl w.heap.size w)
 have H : (if a1_0 = 1 then (if (wrap64 (a1_1 + a1_3)) > a0_0 then (spec_l6Do.j0 k true a0_0 a0_1 l0_2 a1_0 a1_1 a1_2 a1_3 a1_4) else (spec_l6Do.j0 k (decide ((wrap64 (a1_2 + a1_4)) > a0_1)) a0_0 a0_1 l0_2 a1_0 a1_1 a1_2 a1_3 a1_4)) else (if a1_0 = 2 then ((spec_l6FlipX.f k a0_0 a0_1 l0_2).bind fun aO => (some (aO.1, aO.2.1, aO.2.2, true))) else (if a1_0 = 3 then ((spec_l5Flip.f k a0_0 a0_1 l0_2).bind fun aP => (some (aP.1, aP.2.1, aP.2.2, true))) else (if a1_0 = 4 then ((spec_l6Turn.f k a0_0 a0_1 l0_2).bind fun aQ => (some (aQ.1, aQ.2.1, aQ.2.2, true))) else (if a1_0 = 7 then ((spec_l6Size.f k a0_0 a0_1 l0_2 a1_0 a1_1 a1_2 a1_3 a1_4).bind fun aR => (some (aR.1, aR.2.1, aR.2.2, true))) else ((spec_l6Each.f k a0_0 a0_1 l0_2 a1_0 a1_1 a1_2 a1_3 a1_4).bind fun aS => (some (aS.1, aS.2.1, aS.2.2, true)))))))) = some (r1, r2, r3, r4) := h
 clear h
 by_cases c3 : a1_0 = 1
 ·rw [if_pos c3] at H
  have eR : (a1_0 == 1) = true := beq_iff_eq.mpr c3
  have eS : (a1_0 != 1) = false := bne_eq_false_iff_eq.mpr c3
  clear c3
  have kO := Aside0.mk H
  clear H
  go_enter Try.func48, Try.ntmps48
  go_upto_region 3 with (first | ((with_reducible refine gate_dst (N := 2) rfl ?_); refine box_event rfl (N := 2) rfl (cs := #[.int .i64 a0_0, .int .i64 a0_1, .slice aM l0_2.length aN]) (t := 25) oS ?_; intro aF hg w5 hbox hb; have n_ := o2_ (below_step (oB HB) hb) (o2_ (hbox) (o2_ ((oG hg (below_size (oB HB)) : w.heap.size ≤ aF)) (o1_ ((oG hg (below_size (oB HB)) : w.heap.size ≤ aF))))); clear HB; obtain ⟨HB, aB, aZ, aW⟩ := n_; clear hb hbox hg) | ((with_reducible refine gate_dst (N := 3) rfl ?_); refine box_event rfl (N := 3) rfl (cs := #[.int .i64 a1_0, .int .i64 a1_1, .int .i64 a1_2, .int .i64 a1_3, .int .i64 a1_4]) (t := 27) oS ?_; intro aE hg w6 hbox hb; have n_ := o2_ (blk_below (oP aB) hb) (o2_ (below_step (oB HB) hb) (o2_ (hbox) (o2_ ((oG hg (below_size (oB HB)) : w.heap.size ≤ aE)) (o2_ ((oG hg (below_size (oB HB)) : w.heap.size ≤ aE)) (o2_ ((oL hg (blk_lt (oP aB)))) (o1_ ((oN hg (blk_lt (oP aB)))))))))); clear aB HB; obtain ⟨aB, HB, aA, bA, aX, aI, aK⟩ := n_; clear hb hbox hg) | ((with_reducible refine gate_dst (N := 4) rfl ?_); refine box_event rfl (N := 4) rfl (cs := #[.int .i64 0, .int .i64 0, .slice none 0 0]) (t := 25) oS ?_; intro aD hg w7 hbox hb; have n_ := o2_ (blk_below (oP aB) hb) (o2_ (blk_below (oP aA) hb) (o2_ (below_step (oB HB) hb) (o2_ (hbox) (o2_ ((oG hg (below_size (oB HB)) : w.heap.size ≤ aD)) (o2_ ((oG hg (below_size (oB HB)) : w.heap.size ≤ aD)) (o2_ ((oL hg (blk_lt (oP aB)))) (o2_ ((oN hg (blk_lt (oP aB)))) (o2_ ((oL hg (blk_lt (oP aA)))) (o1_ ((oN hg (blk_lt (oP aA))))))))))))); clear aB aA HB; obtain ⟨aB, aA, HB, aC, bB, aY, aJ, aL, aG, aH⟩ := n_; clear hb hbox hg; have nI := aK.out; have nK := aI.out; have nJ := aG.out; have nL := aH.out; have bE : w7.cell? ⟨aE, 0, none⟩ = some (.int .i64 a1_0) := (blk_cell aA.out 0).trans rfl; have bF : w7.cell? ⟨aE, 1, none⟩ = some (.int .i64 a1_1) := (blk_cell aA.out 1).trans rfl; have bG : w7.cell? ⟨aE, 2, none⟩ = some (.int .i64 a1_2) := (blk_cell aA.out 2).trans rfl; have bH : w7.cell? ⟨aE, 3, none⟩ = some (.int .i64 a1_3) := (blk_cell aA.out 3).trans rfl; have bI : w7.cell? ⟨aE, 4, none⟩ = some (.int .i64 a1_4) := (blk_cell aA.out 4).trans rfl; have bZ := blk_frozen aA.out 0; have cA := blk_frozen aA.out 1; have cB := blk_frozen aA.out 2; have cC := blk_frozen aA.out 3; have cD := blk_frozen aA.out 4))
  (try simp only [Act.put, List.setIfInBounds_toArray, List.set_cons_zero, List.set_cons_succ])
  go_cut [27] (fun nM wc => ∃ (kq : Nat) (bC : Bool), nM = .bool bC ∧ Aside0 (spec_l6Do.j0 kq bC a0_0 a0_1 l0_2 a1_0 a1_1 a1_2 a1_3 a1_4 = some (r1, r2, r3, r4)) ∧ Aside0 (kq ≤ k) ∧ Aside0 (wc.heap[aF]? = some (.cells #[.int .i64 a0_0, .int .i64 a0_1, (.slice aM l0_2.length aN)] 25 (0, 0))) ∧ Aside0 (wc.heap[aE]? = some (.cells #[.int .i64 a1_0, .int .i64 a1_1, .int .i64 a1_2, .int .i64 a1_3, .int .i64 a1_4] 27 (0, 0))) ∧ Aside0 (wc.heap[aD]? = some (.cells #[.int .i64 0, .int .i64 0, (.slice none 0 0)] 25 (0, 0))) ∧ Aside0 (Below w.heap.size w wc))
  case first =>
   have H := kO.out
   clear kO
   by_cases dG : (wrap64 (a1_1 + a1_3)) > a0_0
   ·rw [if_pos dG] at H
    have aV : decide (a0_0 < (wrap64 (a1_1 + a1_3))) = true := decide_eq_true dG
    clear dG
    (first | rw [aV] | (simp only [i64_w, i32_w]; rw [aV]) | skip)
    have H' := Aside0.mk H
    clear H
    have lB := aK.out
    have mB := aI.out
    have lC := aG.out
    have mC := aH.out
    have bJ : w7.cell? ⟨aE, 0, none⟩ = some (.int .i64 a1_0) := (blk_cell aA.out 0).trans rfl
    have bK : w7.cell? ⟨aE, 1, none⟩ = some (.int .i64 a1_1) := (blk_cell aA.out 1).trans rfl
    have bL : w7.cell? ⟨aE, 2, none⟩ = some (.int .i64 a1_2) := (blk_cell aA.out 2).trans rfl
    have bM : w7.cell? ⟨aE, 3, none⟩ = some (.int .i64 a1_3) := (blk_cell aA.out 3).trans rfl
    have bN : w7.cell? ⟨aE, 4, none⟩ = some (.int .i64 a1_4) := (blk_cell aA.out 4).trans rfl
    have cE := blk_frozen aA.out 0
    have cF := blk_frozen aA.out 1
    have cG := blk_frozen aA.out 2
    have cH := blk_frozen aA.out 3
    have cI := blk_frozen aA.out 4
    have lD := aJ.out
    have mD := aL.out
    have bO : w7.cell? ⟨aF, 0, none⟩ = some (.int .i64 a0_0) := (blk_cell aB.out 0).trans rfl
    have bP : w7.cell? ⟨aF, 1, none⟩ = some (.int .i64 a0_1) := (blk_cell aB.out 1).trans rfl
    have bQ : w7.cell? ⟨aF, 2, none⟩ = some (.slice aM l0_2.length aN) := (blk_cell aB.out 2).trans rfl
    have cJ := blk_frozen aB.out 0
    have cK := blk_frozen aB.out 1
    have cL := blk_frozen aB.out 2
    go_wp2
    go_meet
    case rel => exact ⟨_, (true), oU, H', ⟨(by first | omega | exact Nat.le_refl _)⟩, ⟨(oP aB)⟩, ⟨(oP aA)⟩, ⟨(oP aC)⟩, ⟨(oB HB)⟩⟩
   ·rw [if_neg dG] at H
    have aV : decide (a0_0 < (wrap64 (a1_1 + a1_3))) = false := decide_eq_false dG
    clear dG
    (first | rw [aV] | (simp only [i64_w, i32_w]; rw [aV]) | skip)
    have H' := Aside0.mk H
    clear H
    have lE := aK.out
    have mE := aI.out
    have lF := aG.out
    have mF := aH.out
    have bR : w7.cell? ⟨aE, 0, none⟩ = some (.int .i64 a1_0) := (blk_cell aA.out 0).trans rfl
    have bS : w7.cell? ⟨aE, 1, none⟩ = some (.int .i64 a1_1) := (blk_cell aA.out 1).trans rfl
    have bT : w7.cell? ⟨aE, 2, none⟩ = some (.int .i64 a1_2) := (blk_cell aA.out 2).trans rfl
    have bU : w7.cell? ⟨aE, 3, none⟩ = some (.int .i64 a1_3) := (blk_cell aA.out 3).trans rfl
    have bV : w7.cell? ⟨aE, 4, none⟩ = some (.int .i64 a1_4) := (blk_cell aA.out 4).trans rfl
    have cM := blk_frozen aA.out 0
    have cN := blk_frozen aA.out 1
    have cO := blk_frozen aA.out 2
    have cP := blk_frozen aA.out 3
    have cQ := blk_frozen aA.out 4
    have lG := aJ.out
    have mG := aL.out
    have bW : w7.cell? ⟨aF, 0, none⟩ = some (.int .i64 a0_0) := (blk_cell aB.out 0).trans rfl
    have bX : w7.cell? ⟨aF, 1, none⟩ = some (.int .i64 a0_1) := (blk_cell aB.out 1).trans rfl
    have bY : w7.cell? ⟨aF, 2, none⟩ = some (.slice aM l0_2.length aN) := (blk_cell aB.out 2).trans rfl
    have cR := blk_frozen aB.out 0
    have cS := blk_frozen aB.out 1
    have cT := blk_frozen aB.out 2
    go_wp2
    go_meet
    case rel => exact ⟨_, (decide ((wrap64 (a1_2 + a1_4)) > a0_1)), oU, H', ⟨(by first | omega | exact Nat.le_refl _)⟩, ⟨(oP aB)⟩, ⟨(oP aA)⟩, ⟨(oP aC)⟩, ⟨(oB HB)⟩⟩
  case rest =>
   clear kO
   try clear c1
   try clear c2
   try clear p2
   try clear c3
   try clear eR
   try clear eS
   try clear c4
   try clear p6
   try clear c8
   try clear c9
   try clear dG
   try clear aV
   try clear c12
   try clear c13
   try clear c15
   try clear c17
   try clear c18
   try clear c20
   try clear bE
   try clear bF
   try clear bG
   try clear bH
   try clear bI
   try clear bJ
   try clear bK
   try clear bL
   try clear bM
   try clear bN
   try clear bO
   try clear bP
   try clear bQ
   try clear bR
   try clear bS
   try clear bT
   try clear bU
   try clear bV
   try clear bW
   try clear bX
   try clear bY
   try clear bZ
   try clear cA
   try clear cB
   try clear cC
   try clear cD
   try clear cE
   try clear cF
   try clear cG
   try clear cH
   try clear cI
   try clear cJ
   try clear cK
   try clear cL
   try clear cM
   try clear cN
   try clear cO
   try clear cP
   try clear cQ
   try clear cR
   try clear cS
   try clear cT
   obtain ⟨kq, bC, rfl, HA, nT, aB, aA, aC, HB⟩ := hcut
   cases kq with
   | zero => exact nomatch (show none = some _ from HA.out)
   | succ kj3 =>
    have H := HA.out
    clear HA
    simp only [spec_l6Do.j0] at H
    by_cases fF : bC = true
    ·subst fF
     rw [if_pos rfl] at H
     simp only [Option.some.injEq, Prod.mk.injEq] at H
     obtain ⟨rfl, rfl, rfl, rfl⟩ := H
     have lH := aL.out
     have mH := aJ.out
     have lI := aH.out
     have mI := aG.out
     have fG : wc.cell? ⟨aD, 0, none⟩ = some (.int .i64 0) := (blk_cell aC.out 0).trans rfl
     have fH : wc.cell? ⟨aD, 1, none⟩ = some (.int .i64 0) := (blk_cell aC.out 1).trans rfl
     have fI : wc.cell? ⟨aD, 2, none⟩ = some (.slice none 0 0) := (blk_cell aC.out 2).trans rfl
     have hX := blk_frozen aC.out 0
     have hY := blk_frozen aC.out 1
     have hZ := blk_frozen aC.out 2
     go_wp2
     refine bodyPost_ret (results_ct rfl _ _ aD 25 #[.int .i64 0, .int .i64 0, .slice none 0 0] (0, 0) _ rfl (blk_put (blk_put (blk_put aC.out 0 _ rfl) 1 _ rfl) 2 _ rfl) Try.underlying25 rfl oK) rfl ?_
     exact ⟨_, by first | rfl | (simp [errW_none, errW_some] <;> rfl) | (simp [*, errW_none, errW_some] <;> rfl), by first | exact Kd.R_nil _ _ _ _ _ | exact Kd.N_nil _ _ _ _ _ | exact Kd.V_nil _ _ _ _ _ | exact Kd.Q_nil _ _ _ _ _ | exact Kd.S_nil _ _ _ _ _, oB HB⟩
    ·replace fF := Bool.eq_false_iff.mpr fF
     subst fF
     rw [if_neg (show ¬ (false = true) by decide)] at H
     replace H := Option.bind_eq_some_iff.mp H
     obtain ⟨⟨dL, dM, dN⟩, eD, H⟩ := H
     (try dsimp only at H)
     have nC := Aside0.mk eD
     clear eD
     simp only [Option.some.injEq, Prod.mk.injEq] at H
     obtain ⟨rfl, rfl, rfl, rfl⟩ := H
     have lJ := aI.out
     have mJ := aK.out
     have lK := aJ.out
     have mK := aL.out
     have fJ : wc.cell? ⟨aF, 0, none⟩ = some (.int .i64 a0_0) := (blk_cell aB.out 0).trans rfl
     have fK : wc.cell? ⟨aF, 1, none⟩ = some (.int .i64 a0_1) := (blk_cell aB.out 1).trans rfl
     have fL : wc.cell? ⟨aF, 2, none⟩ = some (.slice aM l0_2.length aN) := (blk_cell aB.out 2).trans rfl
     have iA := blk_frozen aB.out 0
     have iB := blk_frozen aB.out 1
     have iC := blk_frozen aB.out 2
     have lL := aG.out
     have mL := aH.out
     have fM : wc.cell? ⟨aE, 0, none⟩ = some (.int .i64 a1_0) := (blk_cell aA.out 0).trans rfl
     have fN : wc.cell? ⟨aE, 1, none⟩ = some (.int .i64 a1_1) := (blk_cell aA.out 1).trans rfl
     have fO : wc.cell? ⟨aE, 2, none⟩ = some (.int .i64 a1_2) := (blk_cell aA.out 2).trans rfl
     have fP : wc.cell? ⟨aE, 3, none⟩ = some (.int .i64 a1_3) := (blk_cell aA.out 3).trans rfl
     have fQ : wc.cell? ⟨aE, 4, none⟩ = some (.int .i64 a1_4) := (blk_cell aA.out 4).trans rfl
     have iD := blk_frozen aA.out 0
     have iE := blk_frozen aA.out 1
     have iF := blk_frozen aA.out 2
     have iG := blk_frozen aA.out 3
     have iH := blk_frozen aA.out 4
     go_wp2_with (first | ((with_reducible refine gate_callee (f := 80) rfl ?_); refine goesL_ (some 31) rfl rfl Try.func80 oK rfl #[.agg #[.int .i64 a0_0, .int .i64 a0_1, .slice aM l0_2.length aN], .agg #[.int .i64 a1_0, .int .i64 a1_1, .int .i64 a1_2, .int .i64 a1_3, .int .i64 a1_4]] rfl oA ?_; (with_reducible refine (spec_l6Crop.calls kj3 a0_0 a0_1 _ _ l0_2 a1_0 a1_1 a1_2 a1_3 a1_4 dL dM dN _ ?side1 ?side2 nC.out).mono ?_); (case side1 => repeat (first | exact (Kd.C_below aU.out HB.out) | (with_reducible refine Kd.C_alloc ?_ _) | (with_reducible refine Kd.C_drewN ?_ _) | (with_reducible refine Kd.C_drew ?_))); (case side2 => exact aT.out); rintro e kV ⟨nN, rfl, ho0, hb⟩; refine ⟨_, rfl, ?_⟩; have n_ := o2_ (Kd.R_lower ho0 (below_size (oB HB))) (o2_ (blk_below (oP aB) hb) (o2_ (blk_below (oP aA) hb) (o2_ (blk_below (oP aC) hb) (o1_ (below_step (oB HB) hb))))); clear aB aA aC HB; obtain ⟨cU, aB, aA, aC, HB⟩ := n_; (try clear hb); (try clear hb2); (try clear hk); (try clear hi); (try clear ho0); have fR : kV.cell? ⟨aD, 0, none⟩ = some (.int .i64 0) := (blk_cell aC.out 0).trans rfl; have fS : kV.cell? ⟨aD, 1, none⟩ = some (.int .i64 0) := (blk_cell aC.out 1).trans rfl; have fT : kV.cell? ⟨aD, 2, none⟩ = some (.slice none 0 0) := (blk_cell aC.out 2).trans rfl; have iI := blk_frozen aC.out 0; have iJ := blk_frozen aC.out 1; have iK := blk_frozen aC.out 2; obtain ⟨eJ, eZ, kP⟩ := Kd.R_slice cU.out; subst kP))
     refine bodyPost_ret (results_ct rfl _ _ aD 25 #[.int .i64 dL, .int .i64 dM, .slice eJ dN.length eZ] (0, 0) _ rfl (blk_put (blk_put (blk_put aC.out 0 _ rfl) 1 _ rfl) 2 _ rfl) Try.underlying25 rfl oK) rfl ?_
     exact ⟨_, by first | rfl | (simp [errW_none, errW_some] <;> rfl) | (simp [*, errW_none, errW_some] <;> rfl), by (with_reducible repeat (first | apply Kd.R_alloc | apply Kd.R_drewN | apply Kd.R_drew)); exact Kd.R_mono (Kd.R_far (p := ⟨aD, 2, none⟩) (Kd.R_far (p := ⟨aD, 1, none⟩) (Kd.R_far (p := ⟨aD, 0, none⟩) (Kd.R_types cU.out aC.out oD) (fun _ hk => hk.2) (.int .i64 dL)) (fun _ hk => hk.2) (.int .i64 dM)) (fun _ hk => hk.2) (.slice eJ dN.length eZ)) (fun _ hk => trivial), oB HB⟩
 ·rw [if_neg c3] at H
  have eR : (a1_0 == 1) = false := beq_eq_false_iff_ne.mpr c3
  have eS : (a1_0 != 1) = true := bne_iff_ne.mpr c3
  by_cases dH : a1_0 = 2
  ·rw [if_pos dH] at H
   have eP : (a1_0 == 2) = true := beq_iff_eq.mpr dH
   have eQ : (a1_0 != 2) = false := bne_eq_false_iff_eq.mpr dH
   clear dH
   replace H := Option.bind_eq_some_iff.mp H
   obtain ⟨⟨dO, dP, dQ⟩, eE, H⟩ := H
   (try dsimp only at H)
   have nD := Aside0.mk eE
   clear eE
   simp only [Option.some.injEq, Prod.mk.injEq] at H
   obtain ⟨rfl, rfl, rfl, rfl⟩ := H
   go_enter Try.func48, Try.ntmps48
   go_wp2_with (first | ((with_reducible refine gate_dst (N := 2) rfl ?_); refine box_event rfl (N := 2) rfl (cs := #[.int .i64 a0_0, .int .i64 a0_1, .slice aM l0_2.length aN]) (t := 25) oS ?_; intro aF hg nU hbox hb; have n_ := o2_ (below_step (oB HB) hb) (o2_ (hbox) (o2_ ((oG hg (below_size (oB HB)) : w.heap.size ≤ aF)) (o1_ ((oG hg (below_size (oB HB)) : w.heap.size ≤ aF))))); clear HB; obtain ⟨HB, aB, aZ, aW⟩ := n_; clear hb hbox hg) | ((with_reducible refine gate_dst (N := 3) rfl ?_); refine box_event rfl (N := 3) rfl (cs := #[.int .i64 a1_0, .int .i64 a1_1, .int .i64 a1_2, .int .i64 a1_3, .int .i64 a1_4]) (t := 27) oS ?_; intro aE hg nV hbox hb; have n_ := o2_ (blk_below (oP aB) hb) (o2_ (below_step (oB HB) hb) (o2_ (hbox) (o2_ ((oG hg (below_size (oB HB)) : w.heap.size ≤ aE)) (o2_ ((oG hg (below_size (oB HB)) : w.heap.size ≤ aE)) (o2_ ((oL hg (blk_lt (oP aB)))) (o1_ ((oN hg (blk_lt (oP aB)))))))))); clear aB HB; obtain ⟨aB, HB, aA, bA, aX, aI, aK⟩ := n_; clear hb hbox hg) | ((with_reducible refine gate_dst (N := 4) rfl ?_); refine box_event rfl (N := 4) rfl (cs := #[.int .i64 0, .int .i64 0, .slice none 0 0]) (t := 25) oS ?_; intro aD hg dB hbox hb; have n_ := o2_ (blk_below (oP aB) hb) (o2_ (blk_below (oP aA) hb) (o2_ (below_step (oB HB) hb) (o2_ (hbox) (o2_ ((oG hg (below_size (oB HB)) : w.heap.size ≤ aD)) (o2_ ((oG hg (below_size (oB HB)) : w.heap.size ≤ aD)) (o2_ ((oL hg (blk_lt (oP aB)))) (o2_ ((oN hg (blk_lt (oP aB)))) (o2_ ((oL hg (blk_lt (oP aA)))) (o1_ ((oN hg (blk_lt (oP aA))))))))))))); clear aB aA HB; obtain ⟨aB, aA, HB, aC, bB, aY, aJ, aL, aG, aH⟩ := n_; clear hb hbox hg; have lM := aK.out; have mM := aI.out; have lN := aG.out; have mN := aH.out; have fU : dB.cell? ⟨aE, 0, none⟩ = some (.int .i64 a1_0) := (blk_cell aA.out 0).trans rfl; have fV : dB.cell? ⟨aE, 1, none⟩ = some (.int .i64 a1_1) := (blk_cell aA.out 1).trans rfl; have fW : dB.cell? ⟨aE, 2, none⟩ = some (.int .i64 a1_2) := (blk_cell aA.out 2).trans rfl; have fX : dB.cell? ⟨aE, 3, none⟩ = some (.int .i64 a1_3) := (blk_cell aA.out 3).trans rfl; have fY : dB.cell? ⟨aE, 4, none⟩ = some (.int .i64 a1_4) := (blk_cell aA.out 4).trans rfl; have iL := blk_frozen aA.out 0; have iM := blk_frozen aA.out 1; have iN := blk_frozen aA.out 2; have iO := blk_frozen aA.out 3; have iP := blk_frozen aA.out 4; have lO := aJ.out; have mO := aL.out; have fZ : dB.cell? ⟨aF, 0, none⟩ = some (.int .i64 a0_0) := (blk_cell aB.out 0).trans rfl; have gA : dB.cell? ⟨aF, 1, none⟩ = some (.int .i64 a0_1) := (blk_cell aB.out 1).trans rfl; have gB : dB.cell? ⟨aF, 2, none⟩ = some (.slice aM l0_2.length aN) := (blk_cell aB.out 2).trans rfl; have iQ := blk_frozen aB.out 0; have iR := blk_frozen aB.out 1; have iS := blk_frozen aB.out 2) | ((with_reducible refine gate_callee (f := 81) rfl ?_); refine goesL_ (some 35) rfl rfl Try.func81 oK rfl #[.agg #[.int .i64 a0_0, .int .i64 a0_1, .slice aM l0_2.length aN]] rfl oA ?_; (with_reducible refine (spec_l6FlipX.calls k a0_0 a0_1 _ _ l0_2 dO dP dQ _ ?side1 ?side2 nD.out).mono ?_); (case side1 => repeat (first | exact (Kd.C_below aU.out HB.out) | (with_reducible refine Kd.C_alloc ?_ _) | (with_reducible refine Kd.C_drewN ?_ _) | (with_reducible refine Kd.C_drew ?_))); (case side2 => exact aT.out); rintro e kW ⟨nO, rfl, ho0, hb⟩; refine ⟨_, rfl, ?_⟩; have n_ := o2_ (Kd.R_lower ho0 (below_size (oB HB))) (o2_ (blk_below (oP aB) hb) (o2_ (blk_below (oP aA) hb) (o2_ (blk_below (oP aC) hb) (o1_ (below_step (oB HB) hb))))); clear aB aA aC HB; obtain ⟨cV, aB, aA, aC, HB⟩ := n_; (try clear hb); (try clear hb2); (try clear hk); (try clear hi); (try clear ho0); have gC : kW.cell? ⟨aD, 0, none⟩ = some (.int .i64 0) := (blk_cell aC.out 0).trans rfl; have gD : kW.cell? ⟨aD, 1, none⟩ = some (.int .i64 0) := (blk_cell aC.out 1).trans rfl; have gE : kW.cell? ⟨aD, 2, none⟩ = some (.slice none 0 0) := (blk_cell aC.out 2).trans rfl; have iT := blk_frozen aC.out 0; have iU := blk_frozen aC.out 1; have iV := blk_frozen aC.out 2; obtain ⟨eK, fA, kQ⟩ := Kd.R_slice cV.out; subst kQ))
   refine bodyPost_ret (results_ct rfl _ _ aD 25 #[.int .i64 dO, .int .i64 dP, .slice eK dQ.length fA] (0, 0) _ rfl (blk_put (blk_put (blk_put aC.out 0 _ rfl) 1 _ rfl) 2 _ rfl) Try.underlying25 rfl oK) rfl ?_
   exact ⟨_, by first | rfl | (simp [errW_none, errW_some] <;> rfl) | (simp [*, errW_none, errW_some] <;> rfl), by (with_reducible repeat (first | apply Kd.R_alloc | apply Kd.R_drewN | apply Kd.R_drew)); exact Kd.R_mono (Kd.R_far (p := ⟨aD, 2, none⟩) (Kd.R_far (p := ⟨aD, 1, none⟩) (Kd.R_far (p := ⟨aD, 0, none⟩) (Kd.R_types cV.out aC.out oD) (fun _ hk => hk.2) (.int .i64 dO)) (fun _ hk => hk.2) (.int .i64 dP)) (fun _ hk => hk.2) (.slice eK dQ.length fA)) (fun _ hk => trivial), oB HB⟩
  ·rw [if_neg dH] at H
   have eP : (a1_0 == 2) = false := beq_eq_false_iff_ne.mpr dH
   have eQ : (a1_0 != 2) = true := bne_iff_ne.mpr dH
   by_cases dI : a1_0 = 3
   ·rw [if_pos dI] at H
    have eT : (a1_0 == 3) = true := beq_iff_eq.mpr dI
    have eU : (a1_0 != 3) = false := bne_eq_false_iff_eq.mpr dI
    clear dI
    replace H := Option.bind_eq_some_iff.mp H
    obtain ⟨⟨dR, dS, dT⟩, eF, H⟩ := H
    (try dsimp only at H)
    have nE := Aside0.mk eF
    clear eF
    simp only [Option.some.injEq, Prod.mk.injEq] at H
    obtain ⟨rfl, rfl, rfl, rfl⟩ := H
    go_enter Try.func48, Try.ntmps48
    go_wp2_with (first | ((with_reducible refine gate_dst (N := 2) rfl ?_); refine box_event rfl (N := 2) rfl (cs := #[.int .i64 a0_0, .int .i64 a0_1, .slice aM l0_2.length aN]) (t := 25) oS ?_; intro aF hg nW hbox hb; have n_ := o2_ (below_step (oB HB) hb) (o2_ (hbox) (o2_ ((oG hg (below_size (oB HB)) : w.heap.size ≤ aF)) (o1_ ((oG hg (below_size (oB HB)) : w.heap.size ≤ aF))))); clear HB; obtain ⟨HB, aB, aZ, aW⟩ := n_; clear hb hbox hg) | ((with_reducible refine gate_dst (N := 3) rfl ?_); refine box_event rfl (N := 3) rfl (cs := #[.int .i64 a1_0, .int .i64 a1_1, .int .i64 a1_2, .int .i64 a1_3, .int .i64 a1_4]) (t := 27) oS ?_; intro aE hg nX hbox hb; have n_ := o2_ (blk_below (oP aB) hb) (o2_ (below_step (oB HB) hb) (o2_ (hbox) (o2_ ((oG hg (below_size (oB HB)) : w.heap.size ≤ aE)) (o2_ ((oG hg (below_size (oB HB)) : w.heap.size ≤ aE)) (o2_ ((oL hg (blk_lt (oP aB)))) (o1_ ((oN hg (blk_lt (oP aB)))))))))); clear aB HB; obtain ⟨aB, HB, aA, bA, aX, aI, aK⟩ := n_; clear hb hbox hg) | ((with_reducible refine gate_dst (N := 4) rfl ?_); refine box_event rfl (N := 4) rfl (cs := #[.int .i64 0, .int .i64 0, .slice none 0 0]) (t := 25) oS ?_; intro aD hg dC hbox hb; have n_ := o2_ (blk_below (oP aB) hb) (o2_ (blk_below (oP aA) hb) (o2_ (below_step (oB HB) hb) (o2_ (hbox) (o2_ ((oG hg (below_size (oB HB)) : w.heap.size ≤ aD)) (o2_ ((oG hg (below_size (oB HB)) : w.heap.size ≤ aD)) (o2_ ((oL hg (blk_lt (oP aB)))) (o2_ ((oN hg (blk_lt (oP aB)))) (o2_ ((oL hg (blk_lt (oP aA)))) (o1_ ((oN hg (blk_lt (oP aA))))))))))))); clear aB aA HB; obtain ⟨aB, aA, HB, aC, bB, aY, aJ, aL, aG, aH⟩ := n_; clear hb hbox hg; have lP := aK.out; have mP := aI.out; have lQ := aG.out; have mQ := aH.out; have gF : dC.cell? ⟨aE, 0, none⟩ = some (.int .i64 a1_0) := (blk_cell aA.out 0).trans rfl; have gG : dC.cell? ⟨aE, 1, none⟩ = some (.int .i64 a1_1) := (blk_cell aA.out 1).trans rfl; have gH : dC.cell? ⟨aE, 2, none⟩ = some (.int .i64 a1_2) := (blk_cell aA.out 2).trans rfl; have gI : dC.cell? ⟨aE, 3, none⟩ = some (.int .i64 a1_3) := (blk_cell aA.out 3).trans rfl; have gJ : dC.cell? ⟨aE, 4, none⟩ = some (.int .i64 a1_4) := (blk_cell aA.out 4).trans rfl; have iW := blk_frozen aA.out 0; have iX := blk_frozen aA.out 1; have iY := blk_frozen aA.out 2; have iZ := blk_frozen aA.out 3; have jA := blk_frozen aA.out 4; have lR := aJ.out; have mR := aL.out; have gK : dC.cell? ⟨aF, 0, none⟩ = some (.int .i64 a0_0) := (blk_cell aB.out 0).trans rfl; have gL : dC.cell? ⟨aF, 1, none⟩ = some (.int .i64 a0_1) := (blk_cell aB.out 1).trans rfl; have gM : dC.cell? ⟨aF, 2, none⟩ = some (.slice aM l0_2.length aN) := (blk_cell aB.out 2).trans rfl; have jB := blk_frozen aB.out 0; have jC := blk_frozen aB.out 1; have jD := blk_frozen aB.out 2) | ((with_reducible refine gate_callee (f := 82) rfl ?_); refine goesL_ (some 39) rfl rfl Try.func82 oK rfl #[.agg #[.int .i64 a0_0, .int .i64 a0_1, .slice aM l0_2.length aN]] rfl oA ?_; (with_reducible refine (spec_l5Flip.calls k a0_0 a0_1 _ _ l0_2 dR dS dT _ ?side1 ?side2 nE.out).mono ?_); (case side1 => repeat (first | exact (Kd.C_below aU.out HB.out) | (with_reducible refine Kd.C_alloc ?_ _) | (with_reducible refine Kd.C_drewN ?_ _) | (with_reducible refine Kd.C_drew ?_))); (case side2 => exact aT.out); rintro e kX ⟨nP, rfl, ho0, hb⟩; refine ⟨_, rfl, ?_⟩; have n_ := o2_ (Kd.R_lower ho0 (below_size (oB HB))) (o2_ (blk_below (oP aB) hb) (o2_ (blk_below (oP aA) hb) (o2_ (blk_below (oP aC) hb) (o1_ (below_step (oB HB) hb))))); clear aB aA aC HB; obtain ⟨cW, aB, aA, aC, HB⟩ := n_; (try clear hb); (try clear hb2); (try clear hk); (try clear hi); (try clear ho0); have gN : kX.cell? ⟨aD, 0, none⟩ = some (.int .i64 0) := (blk_cell aC.out 0).trans rfl; have gO : kX.cell? ⟨aD, 1, none⟩ = some (.int .i64 0) := (blk_cell aC.out 1).trans rfl; have gP : kX.cell? ⟨aD, 2, none⟩ = some (.slice none 0 0) := (blk_cell aC.out 2).trans rfl; have jE := blk_frozen aC.out 0; have jF := blk_frozen aC.out 1; have jG := blk_frozen aC.out 2; obtain ⟨eL, fB, kR⟩ := Kd.R_slice cW.out; subst kR))
    refine bodyPost_ret (results_ct rfl _ _ aD 25 #[.int .i64 dR, .int .i64 dS, .slice eL dT.length fB] (0, 0) _ rfl (blk_put (blk_put (blk_put aC.out 0 _ rfl) 1 _ rfl) 2 _ rfl) Try.underlying25 rfl oK) rfl ?_
    exact ⟨_, by first | rfl | (simp [errW_none, errW_some] <;> rfl) | (simp [*, errW_none, errW_some] <;> rfl), by (with_reducible repeat (first | apply Kd.R_alloc | apply Kd.R_drewN | apply Kd.R_drew)); exact Kd.R_mono (Kd.R_far (p := ⟨aD, 2, none⟩) (Kd.R_far (p := ⟨aD, 1, none⟩) (Kd.R_far (p := ⟨aD, 0, none⟩) (Kd.R_types cW.out aC.out oD) (fun _ hk => hk.2) (.int .i64 dR)) (fun _ hk => hk.2) (.int .i64 dS)) (fun _ hk => hk.2) (.slice eL dT.length fB)) (fun _ hk => trivial), oB HB⟩
   ·rw [if_neg dI] at H
    have eT : (a1_0 == 3) = false := beq_eq_false_iff_ne.mpr dI
    have eU : (a1_0 != 3) = true := bne_iff_ne.mpr dI
    by_cases dJ : a1_0 = 4
    ·rw [if_pos dJ] at H
     have eV : (a1_0 == 4) = true := beq_iff_eq.mpr dJ
     have eW : (a1_0 != 4) = false := bne_eq_false_iff_eq.mpr dJ
     clear dJ
     replace H := Option.bind_eq_some_iff.mp H
     obtain ⟨⟨dU, dV, dW⟩, eG, H⟩ := H
     (try dsimp only at H)
     have nF := Aside0.mk eG
     clear eG
     simp only [Option.some.injEq, Prod.mk.injEq] at H
     obtain ⟨rfl, rfl, rfl, rfl⟩ := H
     go_enter Try.func48, Try.ntmps48
     go_wp2_with (first | ((with_reducible refine gate_dst (N := 2) rfl ?_); refine box_event rfl (N := 2) rfl (cs := #[.int .i64 a0_0, .int .i64 a0_1, .slice aM l0_2.length aN]) (t := 25) oS ?_; intro aF hg nY hbox hb; have n_ := o2_ (below_step (oB HB) hb) (o2_ (hbox) (o2_ ((oG hg (below_size (oB HB)) : w.heap.size ≤ aF)) (o1_ ((oG hg (below_size (oB HB)) : w.heap.size ≤ aF))))); clear HB; obtain ⟨HB, aB, aZ, aW⟩ := n_; clear hb hbox hg) | ((with_reducible refine gate_dst (N := 3) rfl ?_); refine box_event rfl (N := 3) rfl (cs := #[.int .i64 a1_0, .int .i64 a1_1, .int .i64 a1_2, .int .i64 a1_3, .int .i64 a1_4]) (t := 27) oS ?_; intro aE hg nZ hbox hb; have n_ := o2_ (blk_below (oP aB) hb) (o2_ (below_step (oB HB) hb) (o2_ (hbox) (o2_ ((oG hg (below_size (oB HB)) : w.heap.size ≤ aE)) (o2_ ((oG hg (below_size (oB HB)) : w.heap.size ≤ aE)) (o2_ ((oL hg (blk_lt (oP aB)))) (o1_ ((oN hg (blk_lt (oP aB)))))))))); clear aB HB; obtain ⟨aB, HB, aA, bA, aX, aI, aK⟩ := n_; clear hb hbox hg) | ((with_reducible refine gate_dst (N := 4) rfl ?_); refine box_event rfl (N := 4) rfl (cs := #[.int .i64 0, .int .i64 0, .slice none 0 0]) (t := 25) oS ?_; intro aD hg dD hbox hb; have n_ := o2_ (blk_below (oP aB) hb) (o2_ (blk_below (oP aA) hb) (o2_ (below_step (oB HB) hb) (o2_ (hbox) (o2_ ((oG hg (below_size (oB HB)) : w.heap.size ≤ aD)) (o2_ ((oG hg (below_size (oB HB)) : w.heap.size ≤ aD)) (o2_ ((oL hg (blk_lt (oP aB)))) (o2_ ((oN hg (blk_lt (oP aB)))) (o2_ ((oL hg (blk_lt (oP aA)))) (o1_ ((oN hg (blk_lt (oP aA))))))))))))); clear aB aA HB; obtain ⟨aB, aA, HB, aC, bB, aY, aJ, aL, aG, aH⟩ := n_; clear hb hbox hg; have lS := aK.out; have mS := aI.out; have lT := aG.out; have mT := aH.out; have gQ : dD.cell? ⟨aE, 0, none⟩ = some (.int .i64 a1_0) := (blk_cell aA.out 0).trans rfl; have gR : dD.cell? ⟨aE, 1, none⟩ = some (.int .i64 a1_1) := (blk_cell aA.out 1).trans rfl; have gS : dD.cell? ⟨aE, 2, none⟩ = some (.int .i64 a1_2) := (blk_cell aA.out 2).trans rfl; have gT : dD.cell? ⟨aE, 3, none⟩ = some (.int .i64 a1_3) := (blk_cell aA.out 3).trans rfl; have gU : dD.cell? ⟨aE, 4, none⟩ = some (.int .i64 a1_4) := (blk_cell aA.out 4).trans rfl; have jH := blk_frozen aA.out 0; have jI := blk_frozen aA.out 1; have jJ := blk_frozen aA.out 2; have jK := blk_frozen aA.out 3; have jL := blk_frozen aA.out 4; have lU := aJ.out; have mU := aL.out; have gV : dD.cell? ⟨aF, 0, none⟩ = some (.int .i64 a0_0) := (blk_cell aB.out 0).trans rfl; have gW : dD.cell? ⟨aF, 1, none⟩ = some (.int .i64 a0_1) := (blk_cell aB.out 1).trans rfl; have gX : dD.cell? ⟨aF, 2, none⟩ = some (.slice aM l0_2.length aN) := (blk_cell aB.out 2).trans rfl; have jM := blk_frozen aB.out 0; have jN := blk_frozen aB.out 1; have jO := blk_frozen aB.out 2) | ((with_reducible refine gate_callee (f := 83) rfl ?_); refine goesL_ (some 43) rfl rfl Try.func83 oK rfl #[.agg #[.int .i64 a0_0, .int .i64 a0_1, .slice aM l0_2.length aN]] rfl oA ?_; (with_reducible refine (spec_l6Turn.calls k a0_0 a0_1 _ _ l0_2 dU dV dW _ ?side1 ?side2 nF.out).mono ?_); (case side1 => repeat (first | exact (Kd.C_below aU.out HB.out) | (with_reducible refine Kd.C_alloc ?_ _) | (with_reducible refine Kd.C_drewN ?_ _) | (with_reducible refine Kd.C_drew ?_))); (case side2 => exact aT.out); rintro e kY ⟨nQ, rfl, ho0, hb⟩; refine ⟨_, rfl, ?_⟩; have n_ := o2_ (Kd.R_lower ho0 (below_size (oB HB))) (o2_ (blk_below (oP aB) hb) (o2_ (blk_below (oP aA) hb) (o2_ (blk_below (oP aC) hb) (o1_ (below_step (oB HB) hb))))); clear aB aA aC HB; obtain ⟨cX, aB, aA, aC, HB⟩ := n_; (try clear hb); (try clear hb2); (try clear hk); (try clear hi); (try clear ho0); have gY : kY.cell? ⟨aD, 0, none⟩ = some (.int .i64 0) := (blk_cell aC.out 0).trans rfl; have gZ : kY.cell? ⟨aD, 1, none⟩ = some (.int .i64 0) := (blk_cell aC.out 1).trans rfl; have hA : kY.cell? ⟨aD, 2, none⟩ = some (.slice none 0 0) := (blk_cell aC.out 2).trans rfl; have jP := blk_frozen aC.out 0; have jQ := blk_frozen aC.out 1; have jR := blk_frozen aC.out 2; obtain ⟨eM, fC, kS⟩ := Kd.R_slice cX.out; subst kS))
     refine bodyPost_ret (results_ct rfl _ _ aD 25 #[.int .i64 dU, .int .i64 dV, .slice eM dW.length fC] (0, 0) _ rfl (blk_put (blk_put (blk_put aC.out 0 _ rfl) 1 _ rfl) 2 _ rfl) Try.underlying25 rfl oK) rfl ?_
     exact ⟨_, by first | rfl | (simp [errW_none, errW_some] <;> rfl) | (simp [*, errW_none, errW_some] <;> rfl), by (with_reducible repeat (first | apply Kd.R_alloc | apply Kd.R_drewN | apply Kd.R_drew)); exact Kd.R_mono (Kd.R_far (p := ⟨aD, 2, none⟩) (Kd.R_far (p := ⟨aD, 1, none⟩) (Kd.R_far (p := ⟨aD, 0, none⟩) (Kd.R_types cX.out aC.out oD) (fun _ hk => hk.2) (.int .i64 dU)) (fun _ hk => hk.2) (.int .i64 dV)) (fun _ hk => hk.2) (.slice eM dW.length fC)) (fun _ hk => trivial), oB HB⟩
    ·rw [if_neg dJ] at H
     have eV : (a1_0 == 4) = false := beq_eq_false_iff_ne.mpr dJ
     have eW : (a1_0 != 4) = true := bne_iff_ne.mpr dJ
     by_cases dK : a1_0 = 7
     ·rw [if_pos dK] at H
      have eX : (a1_0 == 7) = true := beq_iff_eq.mpr dK
      have eY : (a1_0 != 7) = false := bne_eq_false_iff_eq.mpr dK
      clear dK
      replace H := Option.bind_eq_some_iff.mp H
      obtain ⟨⟨dX, dY, dZ⟩, eH, H⟩ := H
      (try dsimp only at H)
      have nG := Aside0.mk eH
      clear eH
      simp only [Option.some.injEq, Prod.mk.injEq] at H
      obtain ⟨rfl, rfl, rfl, rfl⟩ := H
      go_enter Try.func48, Try.ntmps48
      go_wp2_with (first | ((with_reducible refine gate_dst (N := 2) rfl ?_); refine box_event rfl (N := 2) rfl (cs := #[.int .i64 a0_0, .int .i64 a0_1, .slice aM l0_2.length aN]) (t := 25) oS ?_; intro aF hg oO hbox hb; have n_ := o2_ (below_step (oB HB) hb) (o2_ (hbox) (o2_ ((oG hg (below_size (oB HB)) : w.heap.size ≤ aF)) (o1_ ((oG hg (below_size (oB HB)) : w.heap.size ≤ aF))))); clear HB; obtain ⟨HB, aB, aZ, aW⟩ := n_; clear hb hbox hg) | ((with_reducible refine gate_dst (N := 3) rfl ?_); refine box_event rfl (N := 3) rfl (cs := #[.int .i64 a1_0, .int .i64 a1_1, .int .i64 a1_2, .int .i64 a1_3, .int .i64 a1_4]) (t := 27) oS ?_; intro aE hg pA hbox hb; have n_ := o2_ (blk_below (oP aB) hb) (o2_ (below_step (oB HB) hb) (o2_ (hbox) (o2_ ((oG hg (below_size (oB HB)) : w.heap.size ≤ aE)) (o2_ ((oG hg (below_size (oB HB)) : w.heap.size ≤ aE)) (o2_ ((oL hg (blk_lt (oP aB)))) (o1_ ((oN hg (blk_lt (oP aB)))))))))); clear aB HB; obtain ⟨aB, HB, aA, bA, aX, aI, aK⟩ := n_; clear hb hbox hg) | ((with_reducible refine gate_dst (N := 4) rfl ?_); refine box_event rfl (N := 4) rfl (cs := #[.int .i64 0, .int .i64 0, .slice none 0 0]) (t := 25) oS ?_; intro aD hg dE hbox hb; have n_ := o2_ (blk_below (oP aB) hb) (o2_ (blk_below (oP aA) hb) (o2_ (below_step (oB HB) hb) (o2_ (hbox) (o2_ ((oG hg (below_size (oB HB)) : w.heap.size ≤ aD)) (o2_ ((oG hg (below_size (oB HB)) : w.heap.size ≤ aD)) (o2_ ((oL hg (blk_lt (oP aB)))) (o2_ ((oN hg (blk_lt (oP aB)))) (o2_ ((oL hg (blk_lt (oP aA)))) (o1_ ((oN hg (blk_lt (oP aA))))))))))))); clear aB aA HB; obtain ⟨aB, aA, HB, aC, bB, aY, aJ, aL, aG, aH⟩ := n_; clear hb hbox hg; have lV := aK.out; have mV := aI.out; have lW := aG.out; have mW := aH.out; have hB : dE.cell? ⟨aE, 0, none⟩ = some (.int .i64 a1_0) := (blk_cell aA.out 0).trans rfl; have hC : dE.cell? ⟨aE, 1, none⟩ = some (.int .i64 a1_1) := (blk_cell aA.out 1).trans rfl; have hD : dE.cell? ⟨aE, 2, none⟩ = some (.int .i64 a1_2) := (blk_cell aA.out 2).trans rfl; have hE : dE.cell? ⟨aE, 3, none⟩ = some (.int .i64 a1_3) := (blk_cell aA.out 3).trans rfl; have hF : dE.cell? ⟨aE, 4, none⟩ = some (.int .i64 a1_4) := (blk_cell aA.out 4).trans rfl; have jS := blk_frozen aA.out 0; have jT := blk_frozen aA.out 1; have jU := blk_frozen aA.out 2; have jV := blk_frozen aA.out 3; have jW := blk_frozen aA.out 4; have lX := aJ.out; have mX := aL.out; have hG : dE.cell? ⟨aF, 0, none⟩ = some (.int .i64 a0_0) := (blk_cell aB.out 0).trans rfl; have hH : dE.cell? ⟨aF, 1, none⟩ = some (.int .i64 a0_1) := (blk_cell aB.out 1).trans rfl; have hI : dE.cell? ⟨aF, 2, none⟩ = some (.slice aM l0_2.length aN) := (blk_cell aB.out 2).trans rfl; have jX := blk_frozen aB.out 0; have jY := blk_frozen aB.out 1; have jZ := blk_frozen aB.out 2) | ((with_reducible refine gate_callee (f := 84) rfl ?_); refine goesL_ (some 48) rfl rfl Try.func84 oK rfl #[.agg #[.int .i64 a0_0, .int .i64 a0_1, .slice aM l0_2.length aN], .agg #[.int .i64 a1_0, .int .i64 a1_1, .int .i64 a1_2, .int .i64 a1_3, .int .i64 a1_4]] rfl oA ?_; (with_reducible refine (spec_l6Size.calls k a0_0 a0_1 _ _ l0_2 a1_0 a1_1 a1_2 a1_3 a1_4 dX dY dZ _ ?side1 ?side2 nG.out).mono ?_); (case side1 => repeat (first | exact (Kd.C_below aU.out HB.out) | (with_reducible refine Kd.C_alloc ?_ _) | (with_reducible refine Kd.C_drewN ?_ _) | (with_reducible refine Kd.C_drew ?_))); (case side2 => exact aT.out); rintro e kZ ⟨nR, rfl, ho0, hb⟩; refine ⟨_, rfl, ?_⟩; have n_ := o2_ (Kd.R_lower ho0 (below_size (oB HB))) (o2_ (blk_below (oP aB) hb) (o2_ (blk_below (oP aA) hb) (o2_ (blk_below (oP aC) hb) (o1_ (below_step (oB HB) hb))))); clear aB aA aC HB; obtain ⟨cY, aB, aA, aC, HB⟩ := n_; (try clear hb); (try clear hb2); (try clear hk); (try clear hi); (try clear ho0); have hJ : kZ.cell? ⟨aD, 0, none⟩ = some (.int .i64 0) := (blk_cell aC.out 0).trans rfl; have hK : kZ.cell? ⟨aD, 1, none⟩ = some (.int .i64 0) := (blk_cell aC.out 1).trans rfl; have hL : kZ.cell? ⟨aD, 2, none⟩ = some (.slice none 0 0) := (blk_cell aC.out 2).trans rfl; have kA := blk_frozen aC.out 0; have kB := blk_frozen aC.out 1; have kC := blk_frozen aC.out 2; obtain ⟨eN, fD, kT⟩ := Kd.R_slice cY.out; subst kT))
      refine bodyPost_ret (results_ct rfl _ _ aD 25 #[.int .i64 dX, .int .i64 dY, .slice eN dZ.length fD] (0, 0) _ rfl (blk_put (blk_put (blk_put aC.out 0 _ rfl) 1 _ rfl) 2 _ rfl) Try.underlying25 rfl oK) rfl ?_
      exact ⟨_, by first | rfl | (simp [errW_none, errW_some] <;> rfl) | (simp [*, errW_none, errW_some] <;> rfl), by (with_reducible repeat (first | apply Kd.R_alloc | apply Kd.R_drewN | apply Kd.R_drew)); exact Kd.R_mono (Kd.R_far (p := ⟨aD, 2, none⟩) (Kd.R_far (p := ⟨aD, 1, none⟩) (Kd.R_far (p := ⟨aD, 0, none⟩) (Kd.R_types cY.out aC.out oD) (fun _ hk => hk.2) (.int .i64 dX)) (fun _ hk => hk.2) (.int .i64 dY)) (fun _ hk => hk.2) (.slice eN dZ.length fD)) (fun _ hk => trivial), oB HB⟩
     ·rw [if_neg dK] at H
      have eX : (a1_0 == 7) = false := beq_eq_false_iff_ne.mpr dK
      have eY : (a1_0 != 7) = true := bne_iff_ne.mpr dK
      replace H := Option.bind_eq_some_iff.mp H
      obtain ⟨⟨eA, eB, eC⟩, eI, H⟩ := H
      (try dsimp only at H)
      have nH := Aside0.mk eI
      clear eI
      simp only [Option.some.injEq, Prod.mk.injEq] at H
      obtain ⟨rfl, rfl, rfl, rfl⟩ := H
      go_enter Try.func48, Try.ntmps48
      go_wp2_with (first | ((with_reducible refine gate_dst (N := 2) rfl ?_); refine box_event rfl (N := 2) rfl (cs := #[.int .i64 a0_0, .int .i64 a0_1, .slice aM l0_2.length aN]) (t := 25) oS ?_; intro aF hg pB hbox hb; have n_ := o2_ (below_step (oB HB) hb) (o2_ (hbox) (o2_ ((oG hg (below_size (oB HB)) : w.heap.size ≤ aF)) (o1_ ((oG hg (below_size (oB HB)) : w.heap.size ≤ aF))))); clear HB; obtain ⟨HB, aB, aZ, aW⟩ := n_; clear hb hbox hg) | ((with_reducible refine gate_dst (N := 3) rfl ?_); refine box_event rfl (N := 3) rfl (cs := #[.int .i64 a1_0, .int .i64 a1_1, .int .i64 a1_2, .int .i64 a1_3, .int .i64 a1_4]) (t := 27) oS ?_; intro aE hg pC hbox hb; have n_ := o2_ (blk_below (oP aB) hb) (o2_ (below_step (oB HB) hb) (o2_ (hbox) (o2_ ((oG hg (below_size (oB HB)) : w.heap.size ≤ aE)) (o2_ ((oG hg (below_size (oB HB)) : w.heap.size ≤ aE)) (o2_ ((oL hg (blk_lt (oP aB)))) (o1_ ((oN hg (blk_lt (oP aB)))))))))); clear aB HB; obtain ⟨aB, HB, aA, bA, aX, aI, aK⟩ := n_; clear hb hbox hg) | ((with_reducible refine gate_dst (N := 4) rfl ?_); refine box_event rfl (N := 4) rfl (cs := #[.int .i64 0, .int .i64 0, .slice none 0 0]) (t := 25) oS ?_; intro aD hg dF hbox hb; have n_ := o2_ (blk_below (oP aB) hb) (o2_ (blk_below (oP aA) hb) (o2_ (below_step (oB HB) hb) (o2_ (hbox) (o2_ ((oG hg (below_size (oB HB)) : w.heap.size ≤ aD)) (o2_ ((oG hg (below_size (oB HB)) : w.heap.size ≤ aD)) (o2_ ((oL hg (blk_lt (oP aB)))) (o2_ ((oN hg (blk_lt (oP aB)))) (o2_ ((oL hg (blk_lt (oP aA)))) (o1_ ((oN hg (blk_lt (oP aA))))))))))))); clear aB aA HB; obtain ⟨aB, aA, HB, aC, bB, aY, aJ, aL, aG, aH⟩ := n_; clear hb hbox hg; have lY := aK.out; have mY := aI.out; have lZ := aG.out; have mZ := aH.out; have hM : dF.cell? ⟨aE, 0, none⟩ = some (.int .i64 a1_0) := (blk_cell aA.out 0).trans rfl; have hN : dF.cell? ⟨aE, 1, none⟩ = some (.int .i64 a1_1) := (blk_cell aA.out 1).trans rfl; have hO : dF.cell? ⟨aE, 2, none⟩ = some (.int .i64 a1_2) := (blk_cell aA.out 2).trans rfl; have hP : dF.cell? ⟨aE, 3, none⟩ = some (.int .i64 a1_3) := (blk_cell aA.out 3).trans rfl; have hQ : dF.cell? ⟨aE, 4, none⟩ = some (.int .i64 a1_4) := (blk_cell aA.out 4).trans rfl; have kD := blk_frozen aA.out 0; have kE := blk_frozen aA.out 1; have kF := blk_frozen aA.out 2; have kG := blk_frozen aA.out 3; have kH := blk_frozen aA.out 4; have mA := aJ.out; have nA := aL.out; have hR : dF.cell? ⟨aF, 0, none⟩ = some (.int .i64 a0_0) := (blk_cell aB.out 0).trans rfl; have hS : dF.cell? ⟨aF, 1, none⟩ = some (.int .i64 a0_1) := (blk_cell aB.out 1).trans rfl; have hT : dF.cell? ⟨aF, 2, none⟩ = some (.slice aM l0_2.length aN) := (blk_cell aB.out 2).trans rfl; have kI := blk_frozen aB.out 0; have kJ := blk_frozen aB.out 1; have kK := blk_frozen aB.out 2) | ((with_reducible refine gate_callee (f := 85) rfl ?_); refine goesL_ (some 51) rfl rfl Try.func85 oK rfl #[.agg #[.int .i64 a0_0, .int .i64 a0_1, .slice aM l0_2.length aN], .agg #[.int .i64 a1_0, .int .i64 a1_1, .int .i64 a1_2, .int .i64 a1_3, .int .i64 a1_4]] rfl oA ?_; (with_reducible refine (spec_l6Each.calls k a0_0 a0_1 _ _ l0_2 a1_0 a1_1 a1_2 a1_3 a1_4 eA eB eC _ ?side1 ?side2 nH.out).mono ?_); (case side1 => repeat (first | exact (Kd.C_below aU.out HB.out) | (with_reducible refine Kd.C_alloc ?_ _) | (with_reducible refine Kd.C_drewN ?_ _) | (with_reducible refine Kd.C_drew ?_))); (case side2 => exact aT.out); rintro e lA ⟨nS, rfl, ho0, hb⟩; refine ⟨_, rfl, ?_⟩; have n_ := o2_ (Kd.R_lower ho0 (below_size (oB HB))) (o2_ (blk_below (oP aC) hb) (o1_ (below_step (oB HB) hb))); clear aC HB; obtain ⟨cZ, aC, HB⟩ := n_; (try clear hb); (try clear hb2); (try clear hk); (try clear hi); (try clear ho0); have hU : lA.cell? ⟨aD, 0, none⟩ = some (.int .i64 0) := (blk_cell aC.out 0).trans rfl; have hV : lA.cell? ⟨aD, 1, none⟩ = some (.int .i64 0) := (blk_cell aC.out 1).trans rfl; have hW : lA.cell? ⟨aD, 2, none⟩ = some (.slice none 0 0) := (blk_cell aC.out 2).trans rfl; have kL := blk_frozen aC.out 0; have kM := blk_frozen aC.out 1; have kN := blk_frozen aC.out 2; obtain ⟨eO, fE, kU⟩ := Kd.R_slice cZ.out; subst kU))
      refine bodyPost_ret (results_ct rfl _ _ aD 25 #[.int .i64 eA, .int .i64 eB, .slice eO eC.length fE] (0, 0) _ rfl (blk_put (blk_put (blk_put aC.out 0 _ rfl) 1 _ rfl) 2 _ rfl) Try.underlying25 rfl oK) rfl ?_
      exact ⟨_, by first | rfl | (simp [errW_none, errW_some] <;> rfl) | (simp [*, errW_none, errW_some] <;> rfl), by (with_reducible repeat (first | apply Kd.R_alloc | apply Kd.R_drewN | apply Kd.R_drew)); exact Kd.R_mono (Kd.R_far (p := ⟨aD, 2, none⟩) (Kd.R_far (p := ⟨aD, 1, none⟩) (Kd.R_far (p := ⟨aD, 0, none⟩) (Kd.R_types cZ.out aC.out oD) (fun _ hk => hk.2) (.int .i64 eA)) (fun _ hk => hk.2) (.int .i64 eB)) (fun _ hk => hk.2) (.slice eO eC.length fE)) (fun _ hk => trivial), oB HB⟩

end Go.Proofs.Ythnmeogafklhnaa.X
