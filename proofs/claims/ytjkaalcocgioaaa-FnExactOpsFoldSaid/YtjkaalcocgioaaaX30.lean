/- What functions of the program come to, each with its proof. No condition but what each theorem states. -/
import Derived.Test.YtjkaalcocgioaaaX0
import Derived.Test.YtjkaalcocgioaaaX1
namespace Go.Proofs.Ytjkaalcocgioaaa.X
open Go.RowKit Go.Proofs.YtjkaalcocgioaaaW.PrintWords Go.Proofs.YtjkaalcocgioaaaW.PrintLast Go.Proofs.YtjkaalcocgioaaaW.PrintMore Go.Proofs.Ytjkaalcocgioaaa.Hyb
attribute [local go_sem] max2_int min2_int max_two min_two max_three min_three max_four min_four
set_option linter.unusedVariables false
set_option linter.unusedSimpArgs false

attribute [local go_sem high] eqA25
/-! ### spec_l6Pair: function 44 -/
mutual
def spec_l6Pair.j0 : Nat → Bool → Int → Int → Int → Int → Int → Int → Int → Int → Int → Int → Option ((List (S25)) × Bool)
 | 0, _, _, _, _, _, _, _, _, _, _, _ => none
 | k + 1, x13, x318000, x318001, x318002, x318003, x318004, x319000, x319001, x319002, x319003, x319004 => if x13 = true then (some ((([] : List (S25))), true)) else (if x318000 = 5 then (spec_l6Pair.j1 k true x318000 x318001 x318002 x318003 x318004 x319000 x319001 x319002 x319003 x319004) else (if x318000 = 8 then (spec_l6Pair.j1 k true x318000 x318001 x318002 x318003 x318004 x319000 x319001 x319002 x319003 x319004) else (if x318000 = 7 then (spec_l6Pair.j1 k (x318000 == x319000 && (x318001 == x319001 && (x318002 == x319002 && (x318003 == x319003 && (x318004 == x319004))))) x318000 x318001 x318002 x318003 x318004 x319000 x319001 x319002 x319003 x319004) else (spec_l6Pair.j1 k false x318000 x318001 x318002 x318003 x318004 x319000 x319001 x319002 x319003 x319004))))
def spec_l6Pair.j1 : Nat → Bool → Int → Int → Int → Int → Int → Int → Int → Int → Int → Int → Option ((List (S25)) × Bool)
 | 0, _, _, _, _, _, _, _, _, _, _, _ => none
 | k + 1, x23, x318000, x318001, x318002, x318003, x318004, x319000, x319001, x319002, x319003, x319004 => if x23 = true then (some ((([(⟨x318000, x318001, x318002, x318003, x318004⟩ : S25)] : List (S25))), true)) else (if x318000 = 1 then (if (wrap64 (x319001 + x319003)) ≤ x318003 then (if (wrap64 (x319002 + x319004)) ≤ x318004 then (if (wrap64 (x318001 + x319001)) < 6 then (if (wrap64 (x318002 + x319002)) < 6 then (some ((([(⟨1, wrap64 (x318001 + x319001), wrap64 (x318002 + x319002), x319003, x319004⟩ : S25)] : List (S25))), true)) else (some ((([] : List (S25))), false))) else (some ((([] : List (S25))), false))) else (some ((([] : List (S25))), false))) else (some ((([] : List (S25))), false))) else (some ((([] : List (S25))), false)))
end
def spec_l6Pair.f (k : Nat) (a0_0 : Int) (a0_1 : Int) (a0_2 : Int) (a0_3 : Int) (a0_4 : Int) (a1_0 : Int) (a1_1 : Int) (a1_2 : Int) (a1_3 : Int) (a1_4 : Int) : Option ((List (S25)) × Bool) := if a0_0 = a1_0 then (if a0_0 = 2 then (spec_l6Pair.j0 k true a0_0 a0_1 a0_2 a0_3 a0_4 a1_0 a1_1 a1_2 a1_3 a1_4) else (spec_l6Pair.j0 k (a0_0 == 3) a0_0 a0_1 a0_2 a0_3 a0_4 a1_0 a1_1 a1_2 a1_3 a1_4)) else (some ((([] : List (S25))), false))
theorem spec_l6Pair.mono_l : ∀ k, (∀ y0 y1 y2 y3 y4 y5 y6 y7 y8 y9 eU, LeO (spec_l6Pair.j0 k y0 y1 y2 y3 y4 y5 y6 y7 y8 y9 eU) (spec_l6Pair.j0 (k + 1) y0 y1 y2 y3 y4 y5 y6 y7 y8 y9 eU)) ∧ (∀ y0 y1 y2 y3 y4 y5 y6 y7 y8 y9 eU, LeO (spec_l6Pair.j1 k y0 y1 y2 y3 y4 y5 y6 y7 y8 y9 eU) (spec_l6Pair.j1 (k + 1) y0 y1 y2 y3 y4 y5 y6 y7 y8 y9 eU))
 | 0 => ⟨(fun _ _ _ _ _ _ _ _ _ _ _ r h => nomatch (show none = some r from h)), (fun _ _ _ _ _ _ _ _ _ _ _ r h => nomatch (show none = some r from h))⟩
 | k + 1 => by
  obtain ⟨ih0, ih1⟩ := spec_l6Pair.mono_l k
  refine ⟨?_, ?_⟩
  ·intro y0 y1 y2 y3 y4 y5 y6 y7 y8 y9 eU
   unfold spec_l6Pair.j0
   repeat' first
   | (with_reducible exact ih0 _ _ _ _ _ _ _ _ _ _ _)
   | (with_reducible exact ih1 _ _ _ _ _ _ _ _ _ _ _)
   | (with_reducible exact LeO.refl _)
   | (with_reducible exact LeO.none _)
   | (with_reducible refine LeO.ite ?_ ?_)
   | (with_reducible refine LeO.bind ?_ (fun _ => ?_))
   | exact ih0 _ _ _ _ _ _ _ _ _ _ _
   | exact ih1 _ _ _ _ _ _ _ _ _ _ _
   | exact LeO.none _
   | refine LeO.ite ?_ ?_
   | refine LeO.bind ?_ (fun _ => ?_)
  ·intro y0 y1 y2 y3 y4 y5 y6 y7 y8 y9 eU
   unfold spec_l6Pair.j1
   repeat' first
   | (with_reducible exact ih0 _ _ _ _ _ _ _ _ _ _ _)
   | (with_reducible exact ih1 _ _ _ _ _ _ _ _ _ _ _)
   | (with_reducible exact LeO.refl _)
   | (with_reducible exact LeO.none _)
   | (with_reducible refine LeO.ite ?_ ?_)
   | (with_reducible refine LeO.bind ?_ (fun _ => ?_))
   | exact ih0 _ _ _ _ _ _ _ _ _ _ _
   | exact ih1 _ _ _ _ _ _ _ _ _ _ _
   | exact LeO.none _
   | refine LeO.ite ?_ ?_
   | refine LeO.bind ?_ (fun _ => ?_)
theorem spec_l6Pair.mono : ∀ a0 a1 a2 a3 a4 a5 a6 a7 a8 a9 k, LeO (spec_l6Pair.f k a0 a1 a2 a3 a4 a5 a6 a7 a8 a9) (spec_l6Pair.f (k + 1) a0 a1 a2 a3 a4 a5 a6 a7 a8 a9) := by
 intro a0 a1 a2 a3 a4 a5 a6 a7 a8 a9 k
 obtain ⟨ih0, ih1⟩ := spec_l6Pair.mono_l k
 unfold spec_l6Pair.f
 repeat' first
   | (with_reducible exact ih0 _ _ _ _ _ _ _ _ _ _ _)
   | (with_reducible exact ih1 _ _ _ _ _ _ _ _ _ _ _)
   | (with_reducible exact LeO.refl _)
   | (with_reducible exact LeO.none _)
   | (with_reducible refine LeO.ite ?_ ?_)
   | (with_reducible refine LeO.bind ?_ (fun _ => ?_))
   | exact ih0 _ _ _ _ _ _ _ _ _ _ _
   | exact ih1 _ _ _ _ _ _ _ _ _ _ _
   | exact LeO.none _
   | refine LeO.ite ?_ ?_
   | refine LeO.bind ?_ (fun _ => ?_)
set_option maxHeartbeats 8000000 in
set_option maxRecDepth 100000 in
theorem spec_l6Pair.calls (k : Nat) (a0_0 : Int) (a0_1 : Int) (a0_2 : Int) (a0_3 : Int) (a0_4 : Int) (a1_0 : Int) (a1_1 : Int) (a1_2 : Int) (a1_3 : Int) (a1_4 : Int) (r1 : List (S25)) (r2 : Bool) (w : World) (h : spec_l6Pair.f k a0_0 a0_1 a0_2 a0_3 a0_4 a1_0 a1_1 a1_2 a1_3 a1_4 = some (r1, r2)) :
  Calls Try.prog 44 #[.agg #[.int .i64 a0_0, .int .i64 a0_1, .int .i64 a0_2, .int .i64 a0_3, .int .i64 a0_4], .agg #[.int .i64 a1_0, .int .i64 a1_1, .int .i64 a1_2, .int .i64 a1_3, .int .i64 a1_4]] w fun e w' => ∃ mI : Value, e = .returned (.tuple #[mI, .bool r2]) ∧ Kd.R k25 25 w' w.heap.size (fun _ => True) mI r1 ∧ Below w.heap.size w w' := by
 have hu25 := Try.underlying25
 have HB := Aside0.mk (Below.refl w.heap.size w)
 have H : (if a0_0 = a1_0 then (if a0_0 = 2 then (spec_l6Pair.j0 k true a0_0 a0_1 a0_2 a0_3 a0_4 a1_0 a1_1 a1_2 a1_3 a1_4) else (spec_l6Pair.j0 k (a0_0 == 3) a0_0 a0_1 a0_2 a0_3 a0_4 a1_0 a1_1 a1_2 a1_3 a1_4)) else (some ((([] : List (S25))), false))) = some (r1, r2) := h
 clear h
 by_cases c3 : a0_0 = a1_0
 ·rw [if_pos c3] at H
  have eS : (a0_0 == a1_0) = true := beq_iff_eq.mpr c3
  have eT : (a0_0 != a1_0) = false := bne_eq_false_iff_eq.mpr c3
  clear c3
  have lF := Aside0.mk H
  clear H
  go_enter Try.func44, Try.ntmps44
  go_upto_region 3 with (first | ((with_reducible refine gate_dst (N := 2) rfl ?_); refine box_event rfl (N := 2) rfl (cs := #[.int .i64 a0_0, .int .i64 a0_1, .int .i64 a0_2, .int .i64 a0_3, .int .i64 a0_4]) (t := 25) oS ?_; intro aC hg w5 hbox hb; have n_ := o2_ (below_step (oB HB) hb) (o2_ (hbox) (o2_ ((oG hg (below_size (oB HB)) : w.heap.size ≤ aC)) (o1_ ((oG hg (below_size (oB HB)) : w.heap.size ≤ aC))))); clear HB; obtain ⟨HB, aA, fB, eZ⟩ := n_; clear hb hbox hg) | ((with_reducible refine gate_dst (N := 3) rfl ?_); refine box_event rfl (N := 3) rfl (cs := #[.int .i64 a1_0, .int .i64 a1_1, .int .i64 a1_2, .int .i64 a1_3, .int .i64 a1_4]) (t := 25) oS ?_; intro aD hg w6 hbox hb; have n_ := o2_ (blk_below (oP aA) hb) (o2_ (below_step (oB HB) hb) (o2_ (hbox) (o2_ ((oG hg (below_size (oB HB)) : w.heap.size ≤ aD)) (o2_ ((oG hg (below_size (oB HB)) : w.heap.size ≤ aD)) (o2_ ((oL hg (blk_lt (oP aA)))) (o1_ ((oN hg (blk_lt (oP aA)))))))))); clear aA HB; obtain ⟨aA, HB, aB, fC, fA, aE, aF⟩ := n_; clear hb hbox hg; have mK := aE.out; have mL := aF.out; have bF : w6.cell? ⟨aC, 0, none⟩ = some (.int .i64 a0_0) := (blk_cell aA.out 0).trans rfl; have bG : w6.cell? ⟨aC, 1, none⟩ = some (.int .i64 a0_1) := (blk_cell aA.out 1).trans rfl; have bH : w6.cell? ⟨aC, 2, none⟩ = some (.int .i64 a0_2) := (blk_cell aA.out 2).trans rfl; have bI : w6.cell? ⟨aC, 3, none⟩ = some (.int .i64 a0_3) := (blk_cell aA.out 3).trans rfl; have bJ : w6.cell? ⟨aC, 4, none⟩ = some (.int .i64 a0_4) := (blk_cell aA.out 4).trans rfl; have bP := blk_frozen aA.out 0; have bQ := blk_frozen aA.out 1; have bR := blk_frozen aA.out 2; have bS := blk_frozen aA.out 3; have bT := blk_frozen aA.out 4; have bK : w6.cell? ⟨aD, 0, none⟩ = some (.int .i64 a1_0) := (blk_cell aB.out 0).trans rfl; have bL : w6.cell? ⟨aD, 1, none⟩ = some (.int .i64 a1_1) := (blk_cell aB.out 1).trans rfl; have bM : w6.cell? ⟨aD, 2, none⟩ = some (.int .i64 a1_2) := (blk_cell aB.out 2).trans rfl; have bN : w6.cell? ⟨aD, 3, none⟩ = some (.int .i64 a1_3) := (blk_cell aB.out 3).trans rfl; have bO : w6.cell? ⟨aD, 4, none⟩ = some (.int .i64 a1_4) := (blk_cell aB.out 4).trans rfl; have bU := blk_frozen aB.out 0; have bV := blk_frozen aB.out 1; have bW := blk_frozen aB.out 2; have bX := blk_frozen aB.out 3; have bY := blk_frozen aB.out 4))
  (try simp only [Act.put, List.setIfInBounds_toArray, List.set_cons_zero, List.set_cons_succ])
  go_cut [13] (fun mM wc => ∃ (kq : Nat) (bD : Bool), mM = .bool bD ∧ Aside0 (spec_l6Pair.j0 kq bD a0_0 a0_1 a0_2 a0_3 a0_4 a1_0 a1_1 a1_2 a1_3 a1_4 = some (r1, r2)) ∧ Aside0 (kq ≤ k) ∧ Aside0 (wc.heap[aC]? = some (.cells #[.int .i64 a0_0, .int .i64 a0_1, .int .i64 a0_2, .int .i64 a0_3, .int .i64 a0_4] 25 (0, 0))) ∧ Aside0 (wc.heap[aD]? = some (.cells #[.int .i64 a1_0, .int .i64 a1_1, .int .i64 a1_2, .int .i64 a1_3, .int .i64 a1_4] 25 (0, 0))) ∧ Aside0 (Below w.heap.size w wc))
  case first =>
   have H := lF.out
   clear lF
   by_cases cA : a0_0 = 2
   ·rw [if_pos cA] at H
    have aG : (a0_0 == 2) = true := beq_iff_eq.mpr cA
    have bE : (a0_0 != 2) = false := bne_eq_false_iff_eq.mpr cA
    clear cA
    (first | rw [aG] | (simp only [i64_w, i32_w]; rw [aG]) | skip)
    have H' := Aside0.mk H
    clear H
    have lG := aE.out
    have lU := aF.out
    have aJ : w6.cell? ⟨aC, 0, none⟩ = some (.int .i64 a0_0) := (blk_cell aA.out 0).trans rfl
    have aK : w6.cell? ⟨aC, 1, none⟩ = some (.int .i64 a0_1) := (blk_cell aA.out 1).trans rfl
    have aL : w6.cell? ⟨aC, 2, none⟩ = some (.int .i64 a0_2) := (blk_cell aA.out 2).trans rfl
    have aM : w6.cell? ⟨aC, 3, none⟩ = some (.int .i64 a0_3) := (blk_cell aA.out 3).trans rfl
    have aN : w6.cell? ⟨aC, 4, none⟩ = some (.int .i64 a0_4) := (blk_cell aA.out 4).trans rfl
    have aT := blk_frozen aA.out 0
    have aU := blk_frozen aA.out 1
    have aV := blk_frozen aA.out 2
    have aW := blk_frozen aA.out 3
    have aX := blk_frozen aA.out 4
    go_wp2
    go_meet
    case rel => exact ⟨_, (true), oU, H', ⟨(by first | omega | exact Nat.le_refl _)⟩, ⟨(oP aA)⟩, ⟨(oP aB)⟩, ⟨(oB HB)⟩⟩
   ·rw [if_neg cA] at H
    have aG : (a0_0 == 2) = false := beq_eq_false_iff_ne.mpr cA
    have bE : (a0_0 != 2) = true := bne_iff_ne.mpr cA
    (first | rw [aG] | (simp only [i64_w, i32_w]; rw [aG]) | skip)
    have H' := Aside0.mk H
    clear H
    have lH := aE.out
    have lV := aF.out
    have aO : w6.cell? ⟨aC, 0, none⟩ = some (.int .i64 a0_0) := (blk_cell aA.out 0).trans rfl
    have aP : w6.cell? ⟨aC, 1, none⟩ = some (.int .i64 a0_1) := (blk_cell aA.out 1).trans rfl
    have aQ : w6.cell? ⟨aC, 2, none⟩ = some (.int .i64 a0_2) := (blk_cell aA.out 2).trans rfl
    have aR : w6.cell? ⟨aC, 3, none⟩ = some (.int .i64 a0_3) := (blk_cell aA.out 3).trans rfl
    have aS : w6.cell? ⟨aC, 4, none⟩ = some (.int .i64 a0_4) := (blk_cell aA.out 4).trans rfl
    have aY := blk_frozen aA.out 0
    have aZ := blk_frozen aA.out 1
    have bA := blk_frozen aA.out 2
    have bB := blk_frozen aA.out 3
    have bC := blk_frozen aA.out 4
    go_wp2
    go_meet
    case rel => exact ⟨_, ((a0_0 == 3)), oU, H', ⟨(by first | omega | exact Nat.le_refl _)⟩, ⟨(oP aA)⟩, ⟨(oP aB)⟩, ⟨(oB HB)⟩⟩
  case rest =>
   clear lF
   try clear c1
   try clear p2
   try clear c3
   try clear eS
   try clear eT
   try clear c4
   try clear c7
   try clear cA
   try clear aG
   try clear bE
   try clear c11
   try clear c13
   try clear aJ
   try clear aK
   try clear aL
   try clear aM
   try clear aN
   try clear aO
   try clear aP
   try clear aQ
   try clear aR
   try clear aS
   try clear bF
   try clear bG
   try clear bH
   try clear bI
   try clear bJ
   try clear bK
   try clear bL
   try clear bM
   try clear bN
   try clear bO
   try clear aT
   try clear aU
   try clear aV
   try clear aW
   try clear aX
   try clear aY
   try clear aZ
   try clear bA
   try clear bB
   try clear bC
   try clear bP
   try clear bQ
   try clear bR
   try clear bS
   try clear bT
   try clear bU
   try clear bV
   try clear bW
   try clear bX
   try clear bY
   obtain ⟨kq, bD, rfl, HA, fT, aA, aB, HB⟩ := hcut
   cases kq with
   | zero => exact nomatch (show none = some _ from HA.out)
   | succ kj3 =>
    have H := HA.out
    clear HA
    simp only [spec_l6Pair.j0] at H
    by_cases fM : bD = true
    ·subst fM
     rw [if_pos rfl] at H
     obtain ⟨y319, hy319⟩ : ∃ y_ : List (S25), y_ = (([] : List (S25))) := ⟨_, rfl⟩
     replace H : (some (y319, true)) = some (r1, r2) := by first | (rw [hy319]; with_reducible exact H) | (have H2_ := (Option.bind_some _ _).symm.trans H; rw [hy319]; with_reducible exact H2_) | (have H2_ := (Option.bind_some _ _).symm.trans H; with_reducible exact H2_) | with_reducible exact H | (rw [hy319]; exact H) | exact H
     have dZ := Aside0.mk hy319
     clear hy319
     simp only [Option.some.injEq, Prod.mk.injEq] at H
     obtain ⟨rfl, rfl⟩ := H
     go_wp2_with (first | ((with_reducible refine gate_dst (N := 22) rfl ?_); refine Kd.R_lit k25 _ 25 ?hg (N := 22) ?hd (xs := ([] : List (S25))) (inner := []) (ok := fun _ => True) (okp := fun _ => True) ?hr ?hp (fun _ hk => hk) trivial (Below.refl _ _) (Nat.le_refl _) (by simp) ?_; (case hd => rfl); (case hg => rfl); (case hr => first | (go_simp; done) | (go_simp; rfl)); (case hp => exact (Reps.none _ _)); intro mO mX ho17 hb hg_ hnew_; clear hg_ hnew_; (first | rw [← dZ.out] at ho17 | (simp only [Int.reduceToNat] at ho17; rw [← dZ.out] at ho17)); have n_ := o2_ (Kd.R_lower (Kd.R_newB (Kd.R_newB ho17 (oP aA)) (oP aB)) (below_size (oB HB))) (o2_ (blk_below (oP aA) hb) (o2_ (blk_below (oP aB) hb) (o1_ (below_step (oB HB) hb)))); clear aA aB HB; obtain ⟨fD, aA, aB, HB⟩ := n_; clear hb ho17))
     go_ret2
     exact ⟨_, by first | rfl | (simp [errW_none, errW_some] <;> rfl) | (simp [*, errW_none, errW_some] <;> rfl), by (with_reducible repeat (first | apply Kd.R_alloc | apply Kd.R_drewN | apply Kd.R_drew)); exact Kd.R_mono fD.out (fun _ hk => trivial), oB HB⟩
    ·replace fM := Bool.eq_false_iff.mpr fM
     subst fM
     rw [if_neg (show ¬ (false = true) by decide)] at H
     have eQ := Aside0.mk H
     clear H
     go_upto_region 5 with (fail)
     go_cut [23] (fun mN wc => ∃ (kq : Nat) (aI : Bool), mN = .bool aI ∧ Aside0 (spec_l6Pair.j1 kq aI a0_0 a0_1 a0_2 a0_3 a0_4 a1_0 a1_1 a1_2 a1_3 a1_4 = some (r1, r2)) ∧ Aside0 (kq ≤ kj3) ∧ Aside0 (wc.heap[aC]? = some (.cells #[.int .i64 a0_0, .int .i64 a0_1, .int .i64 a0_2, .int .i64 a0_3, .int .i64 a0_4] 25 (0, 0))) ∧ Aside0 (wc.heap[aD]? = some (.cells #[.int .i64 a1_0, .int .i64 a1_1, .int .i64 a1_2, .int .i64 a1_3, .int .i64 a1_4] 25 (0, 0))) ∧ Aside0 (Below w.heap.size w wc))
     case first =>
      have H := eQ.out
      clear eQ
      by_cases eI : a0_0 = 5
      ·rw [if_pos eI] at H
       have aH : (a0_0 == 5) = true := beq_iff_eq.mpr eI
       have eJ : (a0_0 != 5) = false := bne_eq_false_iff_eq.mpr eI
       clear eI
       (first | rw [aH] | (simp only [i64_w, i32_w]; rw [aH]) | skip)
       have H' := Aside0.mk H
       clear H
       have lI := aE.out
       have lW := aF.out
       have cB : wc.cell? ⟨aC, 0, none⟩ = some (.int .i64 a0_0) := (blk_cell aA.out 0).trans rfl
       have cC : wc.cell? ⟨aC, 1, none⟩ = some (.int .i64 a0_1) := (blk_cell aA.out 1).trans rfl
       have cD : wc.cell? ⟨aC, 2, none⟩ = some (.int .i64 a0_2) := (blk_cell aA.out 2).trans rfl
       have cE : wc.cell? ⟨aC, 3, none⟩ = some (.int .i64 a0_3) := (blk_cell aA.out 3).trans rfl
       have cF : wc.cell? ⟨aC, 4, none⟩ = some (.int .i64 a0_4) := (blk_cell aA.out 4).trans rfl
       have dA := blk_frozen aA.out 0
       have dB := blk_frozen aA.out 1
       have dC := blk_frozen aA.out 2
       have dD := blk_frozen aA.out 3
       have dE := blk_frozen aA.out 4
       go_wp2
       go_meet
       case rel => exact ⟨_, (true), oU, H', ⟨(by have := fT.out; first | omega | exact Nat.le_refl _)⟩, ⟨(oP aA)⟩, ⟨(oP aB)⟩, ⟨(oB HB)⟩⟩
      ·rw [if_neg eI] at H
       have aH : (a0_0 == 5) = false := beq_eq_false_iff_ne.mpr eI
       have eJ : (a0_0 != 5) = true := bne_iff_ne.mpr eI
       (first | rw [aH] | (simp only [i64_w, i32_w]; rw [aH]) | skip)
       by_cases eK : a0_0 = 8
       ·rw [if_pos eK] at H
        have eL : (a0_0 == 8) = true := beq_iff_eq.mpr eK
        have eM : (a0_0 != 8) = false := bne_eq_false_iff_eq.mpr eK
        clear eK
        have H' := Aside0.mk H
        clear H
        have lJ := aE.out
        have lX := aF.out
        have cG : wc.cell? ⟨aC, 0, none⟩ = some (.int .i64 a0_0) := (blk_cell aA.out 0).trans rfl
        have cH : wc.cell? ⟨aC, 1, none⟩ = some (.int .i64 a0_1) := (blk_cell aA.out 1).trans rfl
        have cI : wc.cell? ⟨aC, 2, none⟩ = some (.int .i64 a0_2) := (blk_cell aA.out 2).trans rfl
        have cJ : wc.cell? ⟨aC, 3, none⟩ = some (.int .i64 a0_3) := (blk_cell aA.out 3).trans rfl
        have cK : wc.cell? ⟨aC, 4, none⟩ = some (.int .i64 a0_4) := (blk_cell aA.out 4).trans rfl
        have dF := blk_frozen aA.out 0
        have dG := blk_frozen aA.out 1
        have dH := blk_frozen aA.out 2
        have dI := blk_frozen aA.out 3
        have dJ := blk_frozen aA.out 4
        go_wp2
        go_meet
        case rel => exact ⟨_, (true), oU, H', ⟨(by have := fT.out; first | omega | exact Nat.le_refl _)⟩, ⟨(oP aA)⟩, ⟨(oP aB)⟩, ⟨(oB HB)⟩⟩
       ·rw [if_neg eK] at H
        have eL : (a0_0 == 8) = false := beq_eq_false_iff_ne.mpr eK
        have eM : (a0_0 != 8) = true := bne_iff_ne.mpr eK
        by_cases eN : a0_0 = 7
        ·rw [if_pos eN] at H
         have eO : (a0_0 == 7) = true := beq_iff_eq.mpr eN
         have eP : (a0_0 != 7) = false := bne_eq_false_iff_eq.mpr eN
         clear eN
         have H' := Aside0.mk H
         clear H
         have lK := aE.out
         have lY := aF.out
         have cL : wc.cell? ⟨aC, 0, none⟩ = some (.int .i64 a0_0) := (blk_cell aA.out 0).trans rfl
         have cM : wc.cell? ⟨aC, 1, none⟩ = some (.int .i64 a0_1) := (blk_cell aA.out 1).trans rfl
         have cN : wc.cell? ⟨aC, 2, none⟩ = some (.int .i64 a0_2) := (blk_cell aA.out 2).trans rfl
         have cO : wc.cell? ⟨aC, 3, none⟩ = some (.int .i64 a0_3) := (blk_cell aA.out 3).trans rfl
         have cP : wc.cell? ⟨aC, 4, none⟩ = some (.int .i64 a0_4) := (blk_cell aA.out 4).trans rfl
         have dK := blk_frozen aA.out 0
         have dL := blk_frozen aA.out 1
         have dM := blk_frozen aA.out 2
         have dN := blk_frozen aA.out 3
         have dO := blk_frozen aA.out 4
         have cQ : wc.cell? ⟨aD, 0, none⟩ = some (.int .i64 a1_0) := (blk_cell aB.out 0).trans rfl
         have cR : wc.cell? ⟨aD, 1, none⟩ = some (.int .i64 a1_1) := (blk_cell aB.out 1).trans rfl
         have cS : wc.cell? ⟨aD, 2, none⟩ = some (.int .i64 a1_2) := (blk_cell aB.out 2).trans rfl
         have cT : wc.cell? ⟨aD, 3, none⟩ = some (.int .i64 a1_3) := (blk_cell aB.out 3).trans rfl
         have cU : wc.cell? ⟨aD, 4, none⟩ = some (.int .i64 a1_4) := (blk_cell aB.out 4).trans rfl
         have dP := blk_frozen aB.out 0
         have dQ := blk_frozen aB.out 1
         have dR := blk_frozen aB.out 2
         have dS := blk_frozen aB.out 3
         have dT := blk_frozen aB.out 4
         go_wp2
         go_meet
         case rel => exact ⟨_, ((a0_0 == a1_0 && (a0_1 == a1_1 && (a0_2 == a1_2 && (a0_3 == a1_3 && (a0_4 == a1_4)))))), oU, H', ⟨(by have := fT.out; first | omega | exact Nat.le_refl _)⟩, ⟨(oP aA)⟩, ⟨(oP aB)⟩, ⟨(oB HB)⟩⟩
        ·rw [if_neg eN] at H
         have eO : (a0_0 == 7) = false := beq_eq_false_iff_ne.mpr eN
         have eP : (a0_0 != 7) = true := bne_iff_ne.mpr eN
         have H' := Aside0.mk H
         clear H
         have lL := aE.out
         have lZ := aF.out
         have cV : wc.cell? ⟨aC, 0, none⟩ = some (.int .i64 a0_0) := (blk_cell aA.out 0).trans rfl
         have cW : wc.cell? ⟨aC, 1, none⟩ = some (.int .i64 a0_1) := (blk_cell aA.out 1).trans rfl
         have cX : wc.cell? ⟨aC, 2, none⟩ = some (.int .i64 a0_2) := (blk_cell aA.out 2).trans rfl
         have cY : wc.cell? ⟨aC, 3, none⟩ = some (.int .i64 a0_3) := (blk_cell aA.out 3).trans rfl
         have cZ : wc.cell? ⟨aC, 4, none⟩ = some (.int .i64 a0_4) := (blk_cell aA.out 4).trans rfl
         have dU := blk_frozen aA.out 0
         have dV := blk_frozen aA.out 1
         have dW := blk_frozen aA.out 2
         have dX := blk_frozen aA.out 3
         have dY := blk_frozen aA.out 4
         go_wp2
         go_meet
         case rel => exact ⟨_, (false), oU, H', ⟨(by have := fT.out; first | omega | exact Nat.le_refl _)⟩, ⟨(oP aA)⟩, ⟨(oP aB)⟩, ⟨(oB HB)⟩⟩
     case rest =>
      clear eQ
      try clear c1
      try clear c2
      try clear p2
      try clear c3
      try clear eS
      try clear eT
      try clear c4
      try clear c7
      try clear cA
      try clear aG
      try clear bE
      try clear c11
      try clear c13
      try clear fM
      try clear eI
      try clear aH
      try clear eJ
      try clear c20
      try clear eK
      try clear eL
      try clear eM
      try clear c23
      try clear eN
      try clear eO
      try clear eP
      try clear c26
      try clear c29
      try clear aJ
      try clear aK
      try clear aL
      try clear aM
      try clear aN
      try clear aO
      try clear aP
      try clear aQ
      try clear aR
      try clear aS
      try clear cB
      try clear cC
      try clear cD
      try clear cE
      try clear cF
      try clear cG
      try clear cH
      try clear cI
      try clear cJ
      try clear cK
      try clear cL
      try clear cM
      try clear cN
      try clear cO
      try clear cP
      try clear cQ
      try clear cR
      try clear cS
      try clear cT
      try clear cU
      try clear cV
      try clear cW
      try clear cX
      try clear cY
      try clear cZ
      try clear bF
      try clear bG
      try clear bH
      try clear bI
      try clear bJ
      try clear bK
      try clear bL
      try clear bM
      try clear bN
      try clear bO
      try clear aT
      try clear aU
      try clear aV
      try clear aW
      try clear aX
      try clear aY
      try clear aZ
      try clear bA
      try clear bB
      try clear bC
      try clear dA
      try clear dB
      try clear dC
      try clear dD
      try clear dE
      try clear dF
      try clear dG
      try clear dH
      try clear dI
      try clear dJ
      try clear dK
      try clear dL
      try clear dM
      try clear dN
      try clear dO
      try clear dP
      try clear dQ
      try clear dR
      try clear dS
      try clear dT
      try clear dU
      try clear dV
      try clear dW
      try clear dX
      try clear dY
      try clear bP
      try clear bQ
      try clear bR
      try clear bS
      try clear bT
      try clear bU
      try clear bV
      try clear bW
      try clear bX
      try clear bY
      try clear p2
      obtain ⟨kq, aI, rfl, HA, mJ, aA, aB, HB⟩ := hcut
      cases kq with
      | zero => exact nomatch (show none = some _ from HA.out)
      | succ kj17 =>
       have H := HA.out
       clear HA
       simp only [spec_l6Pair.j1] at H
       by_cases fU : aI = true
       ·subst fU
        rw [if_pos rfl] at H
        obtain ⟨y322, hy322⟩ : ∃ y_ : List (S25), y_ = (([(⟨a0_0, a0_1, a0_2, a0_3, a0_4⟩ : S25)] : List (S25))) := ⟨_, rfl⟩
        replace H : (some (y322, true)) = some (r1, r2) := by first | (rw [hy322]; with_reducible exact H) | (have H2_ := (Option.bind_some _ _).symm.trans H; rw [hy322]; with_reducible exact H2_) | (have H2_ := (Option.bind_some _ _).symm.trans H; with_reducible exact H2_) | with_reducible exact H | (rw [hy322]; exact H) | exact H
        have eA := Aside0.mk hy322
        clear hy322
        simp only [Option.some.injEq, Prod.mk.injEq] at H
        obtain ⟨rfl, rfl⟩ := H
        have lM := aE.out
        have mA := aF.out
        have fV : wc.cell? ⟨aC, 0, none⟩ = some (.int .i64 a0_0) := (blk_cell aA.out 0).trans rfl
        have fW : wc.cell? ⟨aC, 1, none⟩ = some (.int .i64 a0_1) := (blk_cell aA.out 1).trans rfl
        have fX : wc.cell? ⟨aC, 2, none⟩ = some (.int .i64 a0_2) := (blk_cell aA.out 2).trans rfl
        have fY : wc.cell? ⟨aC, 3, none⟩ = some (.int .i64 a0_3) := (blk_cell aA.out 3).trans rfl
        have fZ : wc.cell? ⟨aC, 4, none⟩ = some (.int .i64 a0_4) := (blk_cell aA.out 4).trans rfl
        have iN := blk_frozen aA.out 0
        have iO := blk_frozen aA.out 1
        have iP := blk_frozen aA.out 2
        have iQ := blk_frozen aA.out 3
        have iR := blk_frozen aA.out 4
        go_wp2_with (first | ((with_reducible refine gate_dst (N := 43) rfl ?_); refine Kd.R_lit k25 _ 25 ?hg (N := 43) ?hd (xs := ([(⟨a0_0, a0_1, a0_2, a0_3, a0_4⟩ : S25)] : List (S25))) (inner := [.int .i64 a0_0, .int .i64 a0_1, .int .i64 a0_2, .int .i64 a0_3, .int .i64 a0_4]) (ok := fun _ => True) (okp := fun _ => True) ?hr ?hp (fun _ hk => hk) trivial (Below.refl _ _) (Nat.le_refl _) (by simp) ?_; (case hd => rfl); (case hg => rfl); (case hr => first | (go_simp; done) | (go_simp; rfl)); (case hp => exact (Reps.c5 (show Kd.M k25 _ _ _ (⟨a0_0, a0_1, a0_2, a0_3, a0_4⟩ : S25) [.int .i64 a0_0, .int .i64 a0_1, .int .i64 a0_2, .int .i64 a0_3, .int .i64 a0_4] from (k25_mkM _ _ _ (⟨a0_0, a0_1, a0_2, a0_3, a0_4⟩ : S25) )) (Reps.none _ _))); intro mP mY ho35 hb hg_ hnew_; clear hg_ hnew_; (first | rw [← eA.out] at ho35 | (simp only [Int.reduceToNat] at ho35; rw [← eA.out] at ho35)); have n_ := o2_ (Kd.R_lower (Kd.R_newB (Kd.R_newB ho35 (oP aA)) (oP aB)) (below_size (oB HB))) (o2_ (blk_below (oP aA) hb) (o2_ (blk_below (oP aB) hb) (o1_ (below_step (oB HB) hb)))); clear aA aB HB; obtain ⟨fE, aA, aB, HB⟩ := n_; clear hb ho35))
        go_ret2
        exact ⟨_, by first | rfl | (simp [errW_none, errW_some] <;> rfl) | (simp [*, errW_none, errW_some] <;> rfl), by (with_reducible repeat (first | apply Kd.R_alloc | apply Kd.R_drewN | apply Kd.R_drew)); exact Kd.R_mono fE.out (fun _ hk => trivial), oB HB⟩
       ·replace fU := Bool.eq_false_iff.mpr fU
        subst fU
        rw [if_neg (show ¬ (false = true) by decide)] at H
        by_cases eR : a0_0 = 1
        ·rw [if_pos eR] at H
         have fN : (a0_0 == 1) = true := beq_iff_eq.mpr eR
         have fO : (a0_0 != 1) = false := bne_eq_false_iff_eq.mpr eR
         clear eR
         by_cases eV : (wrap64 (a1_1 + a1_3)) ≤ a0_3
         ·rw [if_pos eV] at H
          have fP : decide ((wrap64 (a1_1 + a1_3)) ≤ a0_3) = true := decide_eq_true eV
          clear eV
          by_cases eW : (wrap64 (a1_2 + a1_4)) ≤ a0_4
          ·rw [if_pos eW] at H
           have fQ : decide ((wrap64 (a1_2 + a1_4)) ≤ a0_4) = true := decide_eq_true eW
           clear eW
           by_cases eX : (wrap64 (a0_1 + a1_1)) < 6
           ·rw [if_pos eX] at H
            have fR : decide ((wrap64 (a0_1 + a1_1)) < 6) = true := decide_eq_true eX
            clear eX
            by_cases eY : (wrap64 (a0_2 + a1_2)) < 6
            ·rw [if_pos eY] at H
             have fS : decide ((wrap64 (a0_2 + a1_2)) < 6) = true := decide_eq_true eY
             clear eY
             obtain ⟨y325, hy325⟩ : ∃ y_ : List (S25), y_ = (([(⟨1, wrap64 (a0_1 + a1_1), wrap64 (a0_2 + a1_2), a1_3, a1_4⟩ : S25)] : List (S25))) := ⟨_, rfl⟩
             replace H : (some (y325, true)) = some (r1, r2) := by first | (rw [hy325]; with_reducible exact H) | (have H2_ := (Option.bind_some _ _).symm.trans H; rw [hy325]; with_reducible exact H2_) | (have H2_ := (Option.bind_some _ _).symm.trans H; with_reducible exact H2_) | with_reducible exact H | (rw [hy325]; exact H) | exact H
             have eB := Aside0.mk hy325
             clear hy325
             simp only [Option.some.injEq, Prod.mk.injEq] at H
             obtain ⟨rfl, rfl⟩ := H
             have lN := aE.out
             have mB := aF.out
             have gA : wc.cell? ⟨aC, 0, none⟩ = some (.int .i64 a0_0) := (blk_cell aA.out 0).trans rfl
             have gB : wc.cell? ⟨aC, 1, none⟩ = some (.int .i64 a0_1) := (blk_cell aA.out 1).trans rfl
             have gC : wc.cell? ⟨aC, 2, none⟩ = some (.int .i64 a0_2) := (blk_cell aA.out 2).trans rfl
             have gD : wc.cell? ⟨aC, 3, none⟩ = some (.int .i64 a0_3) := (blk_cell aA.out 3).trans rfl
             have gE : wc.cell? ⟨aC, 4, none⟩ = some (.int .i64 a0_4) := (blk_cell aA.out 4).trans rfl
             have iS := blk_frozen aA.out 0
             have iT := blk_frozen aA.out 1
             have iU := blk_frozen aA.out 2
             have iV := blk_frozen aA.out 3
             have iW := blk_frozen aA.out 4
             have gF : wc.cell? ⟨aD, 0, none⟩ = some (.int .i64 a1_0) := (blk_cell aB.out 0).trans rfl
             have gG : wc.cell? ⟨aD, 1, none⟩ = some (.int .i64 a1_1) := (blk_cell aB.out 1).trans rfl
             have gH : wc.cell? ⟨aD, 2, none⟩ = some (.int .i64 a1_2) := (blk_cell aB.out 2).trans rfl
             have gI : wc.cell? ⟨aD, 3, none⟩ = some (.int .i64 a1_3) := (blk_cell aB.out 3).trans rfl
             have gJ : wc.cell? ⟨aD, 4, none⟩ = some (.int .i64 a1_4) := (blk_cell aB.out 4).trans rfl
             have iX := blk_frozen aB.out 0
             have iY := blk_frozen aB.out 1
             have iZ := blk_frozen aB.out 2
             have jA := blk_frozen aB.out 3
             have jB := blk_frozen aB.out 4
             go_wp2_with (first | ((with_reducible refine gate_dst (N := 99) rfl ?_); refine Kd.R_lit k25 _ 25 ?hg (N := 99) ?hd (xs := ([(⟨1, wrap64 (a0_1 + a1_1), wrap64 (a0_2 + a1_2), a1_3, a1_4⟩ : S25)] : List (S25))) (inner := [.int .i64 1, .int .i64 (wrap64 (a0_1 + a1_1)), .int .i64 (wrap64 (a0_2 + a1_2)), .int .i64 a1_3, .int .i64 a1_4]) (ok := fun _ => True) (okp := fun _ => True) ?hr ?hp (fun _ hk => hk) trivial (Below.refl _ _) (Nat.le_refl _) (by simp) ?_; (case hd => rfl); (case hg => rfl); (case hr => first | (go_simp; done) | (go_simp; rfl)); (case hp => exact (Reps.c5 (show Kd.M k25 _ _ _ (⟨1, wrap64 (a0_1 + a1_1), wrap64 (a0_2 + a1_2), a1_3, a1_4⟩ : S25) [.int .i64 1, .int .i64 (wrap64 (a0_1 + a1_1)), .int .i64 (wrap64 (a0_2 + a1_2)), .int .i64 a1_3, .int .i64 a1_4] from (k25_mkM _ _ _ (⟨1, wrap64 (a0_1 + a1_1), wrap64 (a0_2 + a1_2), a1_3, a1_4⟩ : S25) )) (Reps.none _ _))); intro mQ mZ ho45 hb hg_ hnew_; clear hg_ hnew_; (first | rw [← eB.out] at ho45 | (simp only [Int.reduceToNat] at ho45; rw [← eB.out] at ho45)); have n_ := o2_ (Kd.R_lower (Kd.R_newB (Kd.R_newB ho45 (oP aA)) (oP aB)) (below_size (oB HB))) (o2_ (blk_below (oP aA) hb) (o2_ (blk_below (oP aB) hb) (o1_ (below_step (oB HB) hb)))); clear aA aB HB; obtain ⟨fF, aA, aB, HB⟩ := n_; clear hb ho45))
             go_ret2
             exact ⟨_, by first | rfl | (simp [errW_none, errW_some] <;> rfl) | (simp [*, errW_none, errW_some] <;> rfl), by (with_reducible repeat (first | apply Kd.R_alloc | apply Kd.R_drewN | apply Kd.R_drew)); exact Kd.R_mono fF.out (fun _ hk => trivial), oB HB⟩
            ·rw [if_neg eY] at H
             have fS : decide ((wrap64 (a0_2 + a1_2)) < 6) = false := decide_eq_false eY
             clear eY
             obtain ⟨y328, hy328⟩ : ∃ y_ : List (S25), y_ = (([] : List (S25))) := ⟨_, rfl⟩
             replace H : (some (y328, false)) = some (r1, r2) := by first | (rw [hy328]; with_reducible exact H) | (have H2_ := (Option.bind_some _ _).symm.trans H; rw [hy328]; with_reducible exact H2_) | (have H2_ := (Option.bind_some _ _).symm.trans H; with_reducible exact H2_) | with_reducible exact H | (rw [hy328]; exact H) | exact H
             have eC := Aside0.mk hy328
             clear hy328
             simp only [Option.some.injEq, Prod.mk.injEq] at H
             obtain ⟨rfl, rfl⟩ := H
             have lO := aE.out
             have mC := aF.out
             have gK : wc.cell? ⟨aC, 0, none⟩ = some (.int .i64 a0_0) := (blk_cell aA.out 0).trans rfl
             have gL : wc.cell? ⟨aC, 1, none⟩ = some (.int .i64 a0_1) := (blk_cell aA.out 1).trans rfl
             have gM : wc.cell? ⟨aC, 2, none⟩ = some (.int .i64 a0_2) := (blk_cell aA.out 2).trans rfl
             have gN : wc.cell? ⟨aC, 3, none⟩ = some (.int .i64 a0_3) := (blk_cell aA.out 3).trans rfl
             have gO : wc.cell? ⟨aC, 4, none⟩ = some (.int .i64 a0_4) := (blk_cell aA.out 4).trans rfl
             have jC := blk_frozen aA.out 0
             have jD := blk_frozen aA.out 1
             have jE := blk_frozen aA.out 2
             have jF := blk_frozen aA.out 3
             have jG := blk_frozen aA.out 4
             have gP : wc.cell? ⟨aD, 0, none⟩ = some (.int .i64 a1_0) := (blk_cell aB.out 0).trans rfl
             have gQ : wc.cell? ⟨aD, 1, none⟩ = some (.int .i64 a1_1) := (blk_cell aB.out 1).trans rfl
             have gR : wc.cell? ⟨aD, 2, none⟩ = some (.int .i64 a1_2) := (blk_cell aB.out 2).trans rfl
             have gS : wc.cell? ⟨aD, 3, none⟩ = some (.int .i64 a1_3) := (blk_cell aB.out 3).trans rfl
             have gT : wc.cell? ⟨aD, 4, none⟩ = some (.int .i64 a1_4) := (blk_cell aB.out 4).trans rfl
             have jH := blk_frozen aB.out 0
             have jI := blk_frozen aB.out 1
             have jJ := blk_frozen aB.out 2
             have jK := blk_frozen aB.out 3
             have jL := blk_frozen aB.out 4
             go_wp2_with (first | ((with_reducible refine gate_dst (N := 100) rfl ?_); refine Kd.R_lit k25 _ 25 ?hg (N := 100) ?hd (xs := ([] : List (S25))) (inner := []) (ok := fun _ => True) (okp := fun _ => True) ?hr ?hp (fun _ hk => hk) trivial (Below.refl _ _) (Nat.le_refl _) (by simp) ?_; (case hd => rfl); (case hg => rfl); (case hr => first | (go_simp; done) | (go_simp; rfl)); (case hp => exact (Reps.none _ _)); intro mR nA ho50 hb hg_ hnew_; clear hg_ hnew_; (first | rw [← eC.out] at ho50 | (simp only [Int.reduceToNat] at ho50; rw [← eC.out] at ho50)); have n_ := o2_ (Kd.R_lower (Kd.R_newB (Kd.R_newB ho50 (oP aA)) (oP aB)) (below_size (oB HB))) (o2_ (blk_below (oP aA) hb) (o2_ (blk_below (oP aB) hb) (o1_ (below_step (oB HB) hb)))); clear aA aB HB; obtain ⟨fG, aA, aB, HB⟩ := n_; clear hb ho50))
             go_ret2
             exact ⟨_, by first | rfl | (simp [errW_none, errW_some] <;> rfl) | (simp [*, errW_none, errW_some] <;> rfl), by (with_reducible repeat (first | apply Kd.R_alloc | apply Kd.R_drewN | apply Kd.R_drew)); exact Kd.R_mono fG.out (fun _ hk => trivial), oB HB⟩
           ·rw [if_neg eX] at H
            have fR : decide ((wrap64 (a0_1 + a1_1)) < 6) = false := decide_eq_false eX
            clear eX
            obtain ⟨y331, hy331⟩ : ∃ y_ : List (S25), y_ = (([] : List (S25))) := ⟨_, rfl⟩
            replace H : (some (y331, false)) = some (r1, r2) := by first | (rw [hy331]; with_reducible exact H) | (have H2_ := (Option.bind_some _ _).symm.trans H; rw [hy331]; with_reducible exact H2_) | (have H2_ := (Option.bind_some _ _).symm.trans H; with_reducible exact H2_) | with_reducible exact H | (rw [hy331]; exact H) | exact H
            have eD := Aside0.mk hy331
            clear hy331
            simp only [Option.some.injEq, Prod.mk.injEq] at H
            obtain ⟨rfl, rfl⟩ := H
            have lP := aE.out
            have mD := aF.out
            have gU : wc.cell? ⟨aC, 0, none⟩ = some (.int .i64 a0_0) := (blk_cell aA.out 0).trans rfl
            have gV : wc.cell? ⟨aC, 1, none⟩ = some (.int .i64 a0_1) := (blk_cell aA.out 1).trans rfl
            have gW : wc.cell? ⟨aC, 2, none⟩ = some (.int .i64 a0_2) := (blk_cell aA.out 2).trans rfl
            have gX : wc.cell? ⟨aC, 3, none⟩ = some (.int .i64 a0_3) := (blk_cell aA.out 3).trans rfl
            have gY : wc.cell? ⟨aC, 4, none⟩ = some (.int .i64 a0_4) := (blk_cell aA.out 4).trans rfl
            have jM := blk_frozen aA.out 0
            have jN := blk_frozen aA.out 1
            have jO := blk_frozen aA.out 2
            have jP := blk_frozen aA.out 3
            have jQ := blk_frozen aA.out 4
            have gZ : wc.cell? ⟨aD, 0, none⟩ = some (.int .i64 a1_0) := (blk_cell aB.out 0).trans rfl
            have hA : wc.cell? ⟨aD, 1, none⟩ = some (.int .i64 a1_1) := (blk_cell aB.out 1).trans rfl
            have hB : wc.cell? ⟨aD, 2, none⟩ = some (.int .i64 a1_2) := (blk_cell aB.out 2).trans rfl
            have hC : wc.cell? ⟨aD, 3, none⟩ = some (.int .i64 a1_3) := (blk_cell aB.out 3).trans rfl
            have hD : wc.cell? ⟨aD, 4, none⟩ = some (.int .i64 a1_4) := (blk_cell aB.out 4).trans rfl
            have jR := blk_frozen aB.out 0
            have jS := blk_frozen aB.out 1
            have jT := blk_frozen aB.out 2
            have jU := blk_frozen aB.out 3
            have jV := blk_frozen aB.out 4
            go_wp2_with (first | ((with_reducible refine gate_dst (N := 100) rfl ?_); refine Kd.R_lit k25 _ 25 ?hg (N := 100) ?hd (xs := ([] : List (S25))) (inner := []) (ok := fun _ => True) (okp := fun _ => True) ?hr ?hp (fun _ hk => hk) trivial (Below.refl _ _) (Nat.le_refl _) (by simp) ?_; (case hd => rfl); (case hg => rfl); (case hr => first | (go_simp; done) | (go_simp; rfl)); (case hp => exact (Reps.none _ _)); intro mS nB ho55 hb hg_ hnew_; clear hg_ hnew_; (first | rw [← eD.out] at ho55 | (simp only [Int.reduceToNat] at ho55; rw [← eD.out] at ho55)); have n_ := o2_ (Kd.R_lower (Kd.R_newB (Kd.R_newB ho55 (oP aA)) (oP aB)) (below_size (oB HB))) (o2_ (blk_below (oP aA) hb) (o2_ (blk_below (oP aB) hb) (o1_ (below_step (oB HB) hb)))); clear aA aB HB; obtain ⟨fH, aA, aB, HB⟩ := n_; clear hb ho55))
            go_ret2
            exact ⟨_, by first | rfl | (simp [errW_none, errW_some] <;> rfl) | (simp [*, errW_none, errW_some] <;> rfl), by (with_reducible repeat (first | apply Kd.R_alloc | apply Kd.R_drewN | apply Kd.R_drew)); exact Kd.R_mono fH.out (fun _ hk => trivial), oB HB⟩
          ·rw [if_neg eW] at H
           have fQ : decide ((wrap64 (a1_2 + a1_4)) ≤ a0_4) = false := decide_eq_false eW
           clear eW
           obtain ⟨y334, hy334⟩ : ∃ y_ : List (S25), y_ = (([] : List (S25))) := ⟨_, rfl⟩
           replace H : (some (y334, false)) = some (r1, r2) := by first | (rw [hy334]; with_reducible exact H) | (have H2_ := (Option.bind_some _ _).symm.trans H; rw [hy334]; with_reducible exact H2_) | (have H2_ := (Option.bind_some _ _).symm.trans H; with_reducible exact H2_) | with_reducible exact H | (rw [hy334]; exact H) | exact H
           have eE := Aside0.mk hy334
           clear hy334
           simp only [Option.some.injEq, Prod.mk.injEq] at H
           obtain ⟨rfl, rfl⟩ := H
           have lQ := aE.out
           have mE := aF.out
           have hE : wc.cell? ⟨aC, 0, none⟩ = some (.int .i64 a0_0) := (blk_cell aA.out 0).trans rfl
           have hF : wc.cell? ⟨aC, 1, none⟩ = some (.int .i64 a0_1) := (blk_cell aA.out 1).trans rfl
           have hG : wc.cell? ⟨aC, 2, none⟩ = some (.int .i64 a0_2) := (blk_cell aA.out 2).trans rfl
           have hH : wc.cell? ⟨aC, 3, none⟩ = some (.int .i64 a0_3) := (blk_cell aA.out 3).trans rfl
           have hI : wc.cell? ⟨aC, 4, none⟩ = some (.int .i64 a0_4) := (blk_cell aA.out 4).trans rfl
           have jW := blk_frozen aA.out 0
           have jX := blk_frozen aA.out 1
           have jY := blk_frozen aA.out 2
           have jZ := blk_frozen aA.out 3
           have kA := blk_frozen aA.out 4
           have hJ : wc.cell? ⟨aD, 0, none⟩ = some (.int .i64 a1_0) := (blk_cell aB.out 0).trans rfl
           have hK : wc.cell? ⟨aD, 1, none⟩ = some (.int .i64 a1_1) := (blk_cell aB.out 1).trans rfl
           have hL : wc.cell? ⟨aD, 2, none⟩ = some (.int .i64 a1_2) := (blk_cell aB.out 2).trans rfl
           have hM : wc.cell? ⟨aD, 3, none⟩ = some (.int .i64 a1_3) := (blk_cell aB.out 3).trans rfl
           have hN : wc.cell? ⟨aD, 4, none⟩ = some (.int .i64 a1_4) := (blk_cell aB.out 4).trans rfl
           have kB := blk_frozen aB.out 0
           have kC := blk_frozen aB.out 1
           have kD := blk_frozen aB.out 2
           have kE := blk_frozen aB.out 3
           have kF := blk_frozen aB.out 4
           go_wp2_with (first | ((with_reducible refine gate_dst (N := 100) rfl ?_); refine Kd.R_lit k25 _ 25 ?hg (N := 100) ?hd (xs := ([] : List (S25))) (inner := []) (ok := fun _ => True) (okp := fun _ => True) ?hr ?hp (fun _ hk => hk) trivial (Below.refl _ _) (Nat.le_refl _) (by simp) ?_; (case hd => rfl); (case hg => rfl); (case hr => first | (go_simp; done) | (go_simp; rfl)); (case hp => exact (Reps.none _ _)); intro mT nC ho60 hb hg_ hnew_; clear hg_ hnew_; (first | rw [← eE.out] at ho60 | (simp only [Int.reduceToNat] at ho60; rw [← eE.out] at ho60)); have n_ := o2_ (Kd.R_lower (Kd.R_newB (Kd.R_newB ho60 (oP aA)) (oP aB)) (below_size (oB HB))) (o2_ (blk_below (oP aA) hb) (o2_ (blk_below (oP aB) hb) (o1_ (below_step (oB HB) hb)))); clear aA aB HB; obtain ⟨fI, aA, aB, HB⟩ := n_; clear hb ho60))
           go_ret2
           exact ⟨_, by first | rfl | (simp [errW_none, errW_some] <;> rfl) | (simp [*, errW_none, errW_some] <;> rfl), by (with_reducible repeat (first | apply Kd.R_alloc | apply Kd.R_drewN | apply Kd.R_drew)); exact Kd.R_mono fI.out (fun _ hk => trivial), oB HB⟩
         ·rw [if_neg eV] at H
          have fP : decide ((wrap64 (a1_1 + a1_3)) ≤ a0_3) = false := decide_eq_false eV
          clear eV
          obtain ⟨y337, hy337⟩ : ∃ y_ : List (S25), y_ = (([] : List (S25))) := ⟨_, rfl⟩
          replace H : (some (y337, false)) = some (r1, r2) := by first | (rw [hy337]; with_reducible exact H) | (have H2_ := (Option.bind_some _ _).symm.trans H; rw [hy337]; with_reducible exact H2_) | (have H2_ := (Option.bind_some _ _).symm.trans H; with_reducible exact H2_) | with_reducible exact H | (rw [hy337]; exact H) | exact H
          have eF := Aside0.mk hy337
          clear hy337
          simp only [Option.some.injEq, Prod.mk.injEq] at H
          obtain ⟨rfl, rfl⟩ := H
          have lR := aE.out
          have mF := aF.out
          have hO : wc.cell? ⟨aC, 0, none⟩ = some (.int .i64 a0_0) := (blk_cell aA.out 0).trans rfl
          have hP : wc.cell? ⟨aC, 1, none⟩ = some (.int .i64 a0_1) := (blk_cell aA.out 1).trans rfl
          have hQ : wc.cell? ⟨aC, 2, none⟩ = some (.int .i64 a0_2) := (blk_cell aA.out 2).trans rfl
          have hR : wc.cell? ⟨aC, 3, none⟩ = some (.int .i64 a0_3) := (blk_cell aA.out 3).trans rfl
          have hS : wc.cell? ⟨aC, 4, none⟩ = some (.int .i64 a0_4) := (blk_cell aA.out 4).trans rfl
          have kG := blk_frozen aA.out 0
          have kH := blk_frozen aA.out 1
          have kI := blk_frozen aA.out 2
          have kJ := blk_frozen aA.out 3
          have kK := blk_frozen aA.out 4
          have hT : wc.cell? ⟨aD, 0, none⟩ = some (.int .i64 a1_0) := (blk_cell aB.out 0).trans rfl
          have hU : wc.cell? ⟨aD, 1, none⟩ = some (.int .i64 a1_1) := (blk_cell aB.out 1).trans rfl
          have hV : wc.cell? ⟨aD, 2, none⟩ = some (.int .i64 a1_2) := (blk_cell aB.out 2).trans rfl
          have hW : wc.cell? ⟨aD, 3, none⟩ = some (.int .i64 a1_3) := (blk_cell aB.out 3).trans rfl
          have hX : wc.cell? ⟨aD, 4, none⟩ = some (.int .i64 a1_4) := (blk_cell aB.out 4).trans rfl
          have kL := blk_frozen aB.out 0
          have kM := blk_frozen aB.out 1
          have kN := blk_frozen aB.out 2
          have kO := blk_frozen aB.out 3
          have kP := blk_frozen aB.out 4
          go_wp2_with (first | ((with_reducible refine gate_dst (N := 100) rfl ?_); refine Kd.R_lit k25 _ 25 ?hg (N := 100) ?hd (xs := ([] : List (S25))) (inner := []) (ok := fun _ => True) (okp := fun _ => True) ?hr ?hp (fun _ hk => hk) trivial (Below.refl _ _) (Nat.le_refl _) (by simp) ?_; (case hd => rfl); (case hg => rfl); (case hr => first | (go_simp; done) | (go_simp; rfl)); (case hp => exact (Reps.none _ _)); intro mU nD ho65 hb hg_ hnew_; clear hg_ hnew_; (first | rw [← eF.out] at ho65 | (simp only [Int.reduceToNat] at ho65; rw [← eF.out] at ho65)); have n_ := o2_ (Kd.R_lower (Kd.R_newB (Kd.R_newB ho65 (oP aA)) (oP aB)) (below_size (oB HB))) (o2_ (blk_below (oP aA) hb) (o2_ (blk_below (oP aB) hb) (o1_ (below_step (oB HB) hb)))); clear aA aB HB; obtain ⟨fJ, aA, aB, HB⟩ := n_; clear hb ho65))
          go_ret2
          exact ⟨_, by first | rfl | (simp [errW_none, errW_some] <;> rfl) | (simp [*, errW_none, errW_some] <;> rfl), by (with_reducible repeat (first | apply Kd.R_alloc | apply Kd.R_drewN | apply Kd.R_drew)); exact Kd.R_mono fJ.out (fun _ hk => trivial), oB HB⟩
        ·rw [if_neg eR] at H
         have fN : (a0_0 == 1) = false := beq_eq_false_iff_ne.mpr eR
         have fO : (a0_0 != 1) = true := bne_iff_ne.mpr eR
         obtain ⟨y340, hy340⟩ : ∃ y_ : List (S25), y_ = (([] : List (S25))) := ⟨_, rfl⟩
         replace H : (some (y340, false)) = some (r1, r2) := by first | (rw [hy340]; with_reducible exact H) | (have H2_ := (Option.bind_some _ _).symm.trans H; rw [hy340]; with_reducible exact H2_) | (have H2_ := (Option.bind_some _ _).symm.trans H; with_reducible exact H2_) | with_reducible exact H | (rw [hy340]; exact H) | exact H
         have eG := Aside0.mk hy340
         clear hy340
         simp only [Option.some.injEq, Prod.mk.injEq] at H
         obtain ⟨rfl, rfl⟩ := H
         have lS := aE.out
         have mG := aF.out
         have hY : wc.cell? ⟨aC, 0, none⟩ = some (.int .i64 a0_0) := (blk_cell aA.out 0).trans rfl
         have hZ : wc.cell? ⟨aC, 1, none⟩ = some (.int .i64 a0_1) := (blk_cell aA.out 1).trans rfl
         have iA : wc.cell? ⟨aC, 2, none⟩ = some (.int .i64 a0_2) := (blk_cell aA.out 2).trans rfl
         have iB : wc.cell? ⟨aC, 3, none⟩ = some (.int .i64 a0_3) := (blk_cell aA.out 3).trans rfl
         have iC : wc.cell? ⟨aC, 4, none⟩ = some (.int .i64 a0_4) := (blk_cell aA.out 4).trans rfl
         have kQ := blk_frozen aA.out 0
         have kR := blk_frozen aA.out 1
         have kS := blk_frozen aA.out 2
         have kT := blk_frozen aA.out 3
         have kU := blk_frozen aA.out 4
         go_wp2_with (first | ((with_reducible refine gate_dst (N := 100) rfl ?_); refine Kd.R_lit k25 _ 25 ?hg (N := 100) ?hd (xs := ([] : List (S25))) (inner := []) (ok := fun _ => True) (okp := fun _ => True) ?hr ?hp (fun _ hk => hk) trivial (Below.refl _ _) (Nat.le_refl _) (by simp) ?_; (case hd => rfl); (case hg => rfl); (case hr => first | (go_simp; done) | (go_simp; rfl)); (case hp => exact (Reps.none _ _)); intro mV nE ho69 hb hg_ hnew_; clear hg_ hnew_; (first | rw [← eG.out] at ho69 | (simp only [Int.reduceToNat] at ho69; rw [← eG.out] at ho69)); have n_ := o2_ (Kd.R_lower (Kd.R_newB (Kd.R_newB ho69 (oP aA)) (oP aB)) (below_size (oB HB))) (o2_ (blk_below (oP aA) hb) (o2_ (blk_below (oP aB) hb) (o1_ (below_step (oB HB) hb)))); clear aA aB HB; obtain ⟨fK, aA, aB, HB⟩ := n_; clear hb ho69))
         go_ret2
         exact ⟨_, by first | rfl | (simp [errW_none, errW_some] <;> rfl) | (simp [*, errW_none, errW_some] <;> rfl), by (with_reducible repeat (first | apply Kd.R_alloc | apply Kd.R_drewN | apply Kd.R_drew)); exact Kd.R_mono fK.out (fun _ hk => trivial), oB HB⟩
 ·rw [if_neg c3] at H
  have eS : (a0_0 == a1_0) = false := beq_eq_false_iff_ne.mpr c3
  have eT : (a0_0 != a1_0) = true := bne_iff_ne.mpr c3
  obtain ⟨y343, hy343⟩ : ∃ y_ : List (S25), y_ = (([] : List (S25))) := ⟨_, rfl⟩
  replace H : (some (y343, false)) = some (r1, r2) := by first | (rw [hy343]; with_reducible exact H) | (have H2_ := (Option.bind_some _ _).symm.trans H; rw [hy343]; with_reducible exact H2_) | (have H2_ := (Option.bind_some _ _).symm.trans H; with_reducible exact H2_) | with_reducible exact H | (rw [hy343]; exact H) | exact H
  have eH := Aside0.mk hy343
  clear hy343
  simp only [Option.some.injEq, Prod.mk.injEq] at H
  obtain ⟨rfl, rfl⟩ := H
  go_enter Try.func44, Try.ntmps44
  go_wp2_with (first | ((with_reducible refine gate_dst (N := 2) rfl ?_); refine box_event rfl (N := 2) rfl (cs := #[.int .i64 a0_0, .int .i64 a0_1, .int .i64 a0_2, .int .i64 a0_3, .int .i64 a0_4]) (t := 25) oS ?_; intro aC hg nF hbox hb; have n_ := o2_ (below_step (oB HB) hb) (o2_ (hbox) (o2_ ((oG hg (below_size (oB HB)) : w.heap.size ≤ aC)) (o1_ ((oG hg (below_size (oB HB)) : w.heap.size ≤ aC))))); clear HB; obtain ⟨HB, aA, fB, eZ⟩ := n_; clear hb hbox hg) | ((with_reducible refine gate_dst (N := 3) rfl ?_); refine box_event rfl (N := 3) rfl (cs := #[.int .i64 a1_0, .int .i64 a1_1, .int .i64 a1_2, .int .i64 a1_3, .int .i64 a1_4]) (t := 25) oS ?_; intro aD hg bZ hbox hb; have n_ := o2_ (blk_below (oP aA) hb) (o2_ (below_step (oB HB) hb) (o2_ (hbox) (o2_ ((oG hg (below_size (oB HB)) : w.heap.size ≤ aD)) (o2_ ((oG hg (below_size (oB HB)) : w.heap.size ≤ aD)) (o2_ ((oL hg (blk_lt (oP aA)))) (o1_ ((oN hg (blk_lt (oP aA)))))))))); clear aA HB; obtain ⟨aA, HB, aB, fC, fA, aE, aF⟩ := n_; clear hb hbox hg; have lT := aE.out; have mH := aF.out; have iD : bZ.cell? ⟨aC, 0, none⟩ = some (.int .i64 a0_0) := (blk_cell aA.out 0).trans rfl; have iE : bZ.cell? ⟨aC, 1, none⟩ = some (.int .i64 a0_1) := (blk_cell aA.out 1).trans rfl; have iF : bZ.cell? ⟨aC, 2, none⟩ = some (.int .i64 a0_2) := (blk_cell aA.out 2).trans rfl; have iG : bZ.cell? ⟨aC, 3, none⟩ = some (.int .i64 a0_3) := (blk_cell aA.out 3).trans rfl; have iH : bZ.cell? ⟨aC, 4, none⟩ = some (.int .i64 a0_4) := (blk_cell aA.out 4).trans rfl; have kV := blk_frozen aA.out 0; have kW := blk_frozen aA.out 1; have kX := blk_frozen aA.out 2; have kY := blk_frozen aA.out 3; have kZ := blk_frozen aA.out 4; have iI : bZ.cell? ⟨aD, 0, none⟩ = some (.int .i64 a1_0) := (blk_cell aB.out 0).trans rfl; have iJ : bZ.cell? ⟨aD, 1, none⟩ = some (.int .i64 a1_1) := (blk_cell aB.out 1).trans rfl; have iK : bZ.cell? ⟨aD, 2, none⟩ = some (.int .i64 a1_2) := (blk_cell aB.out 2).trans rfl; have iL : bZ.cell? ⟨aD, 3, none⟩ = some (.int .i64 a1_3) := (blk_cell aB.out 3).trans rfl; have iM : bZ.cell? ⟨aD, 4, none⟩ = some (.int .i64 a1_4) := (blk_cell aB.out 4).trans rfl; have lA := blk_frozen aB.out 0; have lB := blk_frozen aB.out 1; have lC := blk_frozen aB.out 2; have lD := blk_frozen aB.out 3; have lE := blk_frozen aB.out 4) | ((with_reducible refine gate_dst (N := 12) rfl ?_); refine Kd.R_lit k25 _ 25 ?hg (N := 12) ?hd (xs := ([] : List (S25))) (inner := []) (ok := fun _ => True) (okp := fun _ => True) ?hr ?hp (fun _ hk => hk) trivial (Below.refl _ _) (Nat.le_refl _) (by simp) ?_; (case hd => rfl); (case hg => rfl); (case hr => first | (go_simp; done) | (go_simp; rfl)); (case hp => exact (Reps.none _ _)); intro mW nG ho76 hb hg_ hnew_; clear hg_ hnew_; (first | rw [← eH.out] at ho76 | (simp only [Int.reduceToNat] at ho76; rw [← eH.out] at ho76)); have n_ := o2_ (Kd.R_lower (Kd.R_newB (Kd.R_newB ho76 (oP aA)) (oP aB)) (below_size (oB HB))) (o1_ (below_step (oB HB) hb)); clear HB; obtain ⟨fL, HB⟩ := n_; clear hb ho76))
  go_ret2
  exact ⟨_, by first | rfl | (simp [errW_none, errW_some] <;> rfl) | (simp [*, errW_none, errW_some] <;> rfl), by (with_reducible repeat (first | apply Kd.R_alloc | apply Kd.R_drewN | apply Kd.R_drew)); exact Kd.R_mono fL.out (fun _ hk => trivial), oB HB⟩

end Go.Proofs.Ytjkaalcocgioaaa.X
