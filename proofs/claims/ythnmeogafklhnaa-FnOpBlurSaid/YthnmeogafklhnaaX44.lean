/- What functions of the program come to, each with its proof. No condition but what each theorem states. -/
import Derived.Test.YthnmeogafklhnaaX0
import Derived.Test.YthnmeogafklhnaaX2
namespace Go.Proofs.Ythnmeogafklhnaa.X
open Go.RowKit Go.Proofs.YthnmeogafklhnaaW.PrintWords Go.Proofs.YthnmeogafklhnaaW.PrintLast Go.Proofs.YthnmeogafklhnaaW.PrintMore Go.Proofs.Ythnmeogafklhnaa.Hyb
attribute [local go_sem] max2_int min2_int max_two min_two max_three min_three max_four min_four
set_option linter.unusedVariables false
set_option linter.unusedSimpArgs false

attribute [local go_sem high] eqA38
/-! ### laws_eaRas: function 21 -/
mutual
def laws_eaRas.j0 : Nat → Bool → Int → Int → List (S38) → Int → Int → List (S38) → Option (Bool)
 | 0, _, _, _, _, _, _, _ => none
 | k + 1, x26, x436000, x436001, x436002, x437000, x437001, x437002 => if x26 = true then (some false) else (laws_eaRas.l0 k 0 x436000 x436001 x436002 x437000 x437001 x437002)
def laws_eaRas.l0 : Nat → Int → Int → Int → List (S38) → Int → Int → List (S38) → Option (Bool)
 | 0, _, _, _, _, _, _, _ => none
 | k + 1, x5, x436000, x436001, x436002, x437000, x437001, x437002 => if x5 < (x436002.length : Int) then (if 0 ≤ x5 then (if x5 < (x437002.length : Int) then (if (!(((rd_T38 x436002 x5).f0) == ((rd_T38 x437002 x5).f0)) || (!(((rd_T38 x436002 x5).f1) == ((rd_T38 x437002 x5).f1)) || (!(((rd_T38 x436002 x5).f2) == ((rd_T38 x437002 x5).f2)) || (!(((rd_T38 x436002 x5).f3) == ((rd_T38 x437002 x5).f3)))))) = true then (some false) else (laws_eaRas.l0 k (wrap64 (x5 + 1)) x436000 x436001 x436002 x437000 x437001 x437002)) else (none)) else (none)) else (some true)
end
def laws_eaRas.f (k : Nat) (a0_0 : Int) (a0_1 : Int) (l0_2 : List (S38)) (a1_0 : Int) (a1_1 : Int) (l1_2 : List (S38)) : Option (Bool) := if a0_0 = a1_0 then (if a0_1 = a1_1 then (laws_eaRas.j0 k ((l0_2.length : Int) != (l1_2.length : Int)) a0_0 a0_1 l0_2 a1_0 a1_1 l1_2) else (laws_eaRas.j0 k true a0_0 a0_1 l0_2 a1_0 a1_1 l1_2)) else (laws_eaRas.j0 k true a0_0 a0_1 l0_2 a1_0 a1_1 l1_2)
theorem laws_eaRas.mono_l : ∀ k, (∀ y0 y1 y2 y3 y4 y5 y6, LeO (laws_eaRas.j0 k y0 y1 y2 y3 y4 y5 y6) (laws_eaRas.j0 (k + 1) y0 y1 y2 y3 y4 y5 y6)) ∧ (∀ y0 y1 y2 y3 y4 y5 y6, LeO (laws_eaRas.l0 k y0 y1 y2 y3 y4 y5 y6) (laws_eaRas.l0 (k + 1) y0 y1 y2 y3 y4 y5 y6))
 | 0 => ⟨(fun _ _ _ _ _ _ _ r h => nomatch (show none = some r from h)), (fun _ _ _ _ _ _ _ r h => nomatch (show none = some r from h))⟩
 | k + 1 => by
  obtain ⟨ih0, ih1⟩ := laws_eaRas.mono_l k
  refine ⟨?_, ?_⟩
  ·intro y0 y1 y2 y3 y4 y5 y6
   unfold laws_eaRas.j0
   repeat' first
   | (with_reducible exact ih0 _ _ _ _ _ _ _)
   | (with_reducible exact ih1 _ _ _ _ _ _ _)
   | (with_reducible exact LeO.refl _)
   | (with_reducible exact LeO.none _)
   | (with_reducible refine LeO.ite ?_ ?_)
   | (with_reducible refine LeO.bind ?_ (fun _ => ?_))
   | exact ih0 _ _ _ _ _ _ _
   | exact ih1 _ _ _ _ _ _ _
   | exact LeO.none _
   | refine LeO.ite ?_ ?_
   | refine LeO.bind ?_ (fun _ => ?_)
  ·intro y0 y1 y2 y3 y4 y5 y6
   unfold laws_eaRas.l0
   repeat' first
   | (with_reducible exact ih0 _ _ _ _ _ _ _)
   | (with_reducible exact ih1 _ _ _ _ _ _ _)
   | (with_reducible exact LeO.refl _)
   | (with_reducible exact LeO.none _)
   | (with_reducible refine LeO.ite ?_ ?_)
   | (with_reducible refine LeO.bind ?_ (fun _ => ?_))
   | exact ih0 _ _ _ _ _ _ _
   | exact ih1 _ _ _ _ _ _ _
   | exact LeO.none _
   | refine LeO.ite ?_ ?_
   | refine LeO.bind ?_ (fun _ => ?_)
theorem laws_eaRas.mono : ∀ a0 a1 a2 a3 a4 a5 k, LeO (laws_eaRas.f k a0 a1 a2 a3 a4 a5) (laws_eaRas.f (k + 1) a0 a1 a2 a3 a4 a5) := by
 intro a0 a1 a2 a3 a4 a5 k
 obtain ⟨ih0, ih1⟩ := laws_eaRas.mono_l k
 unfold laws_eaRas.f
 repeat' first
   | (with_reducible exact ih0 _ _ _ _ _ _ _)
   | (with_reducible exact ih1 _ _ _ _ _ _ _)
   | (with_reducible exact LeO.refl _)
   | (with_reducible exact LeO.none _)
   | (with_reducible refine LeO.ite ?_ ?_)
   | (with_reducible refine LeO.bind ?_ (fun _ => ?_))
   | exact ih0 _ _ _ _ _ _ _
   | exact ih1 _ _ _ _ _ _ _
   | exact LeO.none _
   | refine LeO.ite ?_ ?_
   | refine LeO.bind ?_ (fun _ => ?_)
set_option maxHeartbeats 8000000 in
set_option maxRecDepth 100000 in
theorem laws_eaRas.calls (k : Nat) (a0_0 : Int) (a0_1 : Int) (aP : Option Addr) (aQ : Nat) (l0_2 : List (S38)) (a1_0 : Int) (a1_1 : Int) (aR : Option Addr) (aS : Nat) (l1_2 : List (S38)) (r : Bool) (w : World) (hr0_2 : Kd.C k38 w aP l0_2.length l0_2) (cP : l0_2.length ≤ aQ) (hr1_2 : Kd.C k38 w aR l1_2.length l1_2) (cQ : l1_2.length ≤ aS) (h : laws_eaRas.f k a0_0 a0_1 l0_2 a1_0 a1_1 l1_2 = some r) :
  Calls Try.prog 21 #[.agg #[.int .i64 a0_0, .int .i64 a0_1, .slice aP l0_2.length aQ], .agg #[.int .i64 a1_0, .int .i64 a1_1, .slice aR l1_2.length aS]] w fun e w' => e = .returned (.bool r) ∧ Below w.heap.size w w' := by
 have hu25 := Try.underlying25
 have hu38 := Try.underlying38
 have cN := Aside0.mk hr0_2
 have eK := Aside0.mk cP
 clear hr0_2 cP
 have cO := Aside0.mk hr1_2
 have eL := Aside0.mk cQ
 clear hr1_2 cQ
 have HB := Aside0.mk (Below.refl w.heap.size w)
 have H : (if a0_0 = a1_0 then (if a0_1 = a1_1 then (laws_eaRas.j0 k ((l0_2.length : Int) != (l1_2.length : Int)) a0_0 a0_1 l0_2 a1_0 a1_1 l1_2) else (laws_eaRas.j0 k true a0_0 a0_1 l0_2 a1_0 a1_1 l1_2)) else (laws_eaRas.j0 k true a0_0 a0_1 l0_2 a1_0 a1_1 l1_2)) = some r := h
 clear h
 have eJ := Aside0.mk H
 clear H
 go_enter Try.func21, Try.ntmps21
 go_upto_region 1 with (first | ((with_reducible refine gate_dst (N := 2) rfl ?_); (try (refine gate_guard (by rfl) ?_; dsimp only)); refine box_event rfl (N := 2) rfl (cs := #[.int .i64 a0_0, .int .i64 a0_1, .slice aP l0_2.length aQ]) (t := 25) oS ?_; intro aD hg w4 hbox hb; have n_ := o2_ (below_step (oB HB) hb) (o2_ (hbox) (o2_ ((oG hg (below_size (oB HB)) : w.heap.size ≤ aD)) (o1_ ((oG hg (below_size (oB HB)) : w.heap.size ≤ aD))))); clear HB; obtain ⟨HB, aA, cL, cJ⟩ := n_; clear hb hbox hg) | ((with_reducible refine gate_dst (N := 3) rfl ?_); (try (refine gate_guard (by rfl) ?_; dsimp only)); refine box_event rfl (N := 3) rfl (cs := #[.int .i64 a1_0, .int .i64 a1_1, .slice aR l1_2.length aS]) (t := 25) oS ?_; intro aE hg w5 hbox hb; have n_ := o2_ (blk_below (oP aA) hb) (o2_ (below_step (oB HB) hb) (o2_ (hbox) (o2_ ((oG hg (below_size (oB HB)) : w.heap.size ≤ aE)) (o2_ ((oG hg (below_size (oB HB)) : w.heap.size ≤ aE)) (o2_ ((oL hg (blk_lt (oP aA)))) (o1_ ((oN hg (blk_lt (oP aA)))))))))); clear aA HB; obtain ⟨aA, HB, aB, cM, cK, aF, aG⟩ := n_; clear hb hbox hg))
 repeat (go_quiet (first | ((with_reducible refine gate_dst (N := 2) rfl ?_); (try (refine gate_guard (by rfl) ?_; dsimp only)); refine box_event rfl (N := 2) rfl (cs := #[.int .i64 a0_0, .int .i64 a0_1, .slice aP l0_2.length aQ]) (t := 25) oS ?_; intro aD hg w4 hbox hb; have n_ := o2_ (below_step (oB HB) hb) (o2_ (hbox) (o2_ ((oG hg (below_size (oB HB)) : w.heap.size ≤ aD)) (o1_ ((oG hg (below_size (oB HB)) : w.heap.size ≤ aD))))); clear HB; obtain ⟨HB, aA, cL, cJ⟩ := n_; clear hb hbox hg) | ((with_reducible refine gate_dst (N := 3) rfl ?_); (try (refine gate_guard (by rfl) ?_; dsimp only)); refine box_event rfl (N := 3) rfl (cs := #[.int .i64 a1_0, .int .i64 a1_1, .slice aR l1_2.length aS]) (t := 25) oS ?_; intro aE hg w5 hbox hb; have n_ := o2_ (blk_below (oP aA) hb) (o2_ (below_step (oB HB) hb) (o2_ (hbox) (o2_ ((oG hg (below_size (oB HB)) : w.heap.size ≤ aE)) (o2_ ((oG hg (below_size (oB HB)) : w.heap.size ≤ aE)) (o2_ ((oL hg (blk_lt (oP aA)))) (o1_ ((oN hg (blk_lt (oP aA)))))))))); clear aA HB; obtain ⟨aA, HB, aB, cM, cK, aF, aG⟩ := n_; clear hb hbox hg)); go_upto_region 1 with (first | ((with_reducible refine gate_dst (N := 2) rfl ?_); (try (refine gate_guard (by rfl) ?_; dsimp only)); refine box_event rfl (N := 2) rfl (cs := #[.int .i64 a0_0, .int .i64 a0_1, .slice aP l0_2.length aQ]) (t := 25) oS ?_; intro aD hg w4 hbox hb; have n_ := o2_ (below_step (oB HB) hb) (o2_ (hbox) (o2_ ((oG hg (below_size (oB HB)) : w.heap.size ≤ aD)) (o1_ ((oG hg (below_size (oB HB)) : w.heap.size ≤ aD))))); clear HB; obtain ⟨HB, aA, cL, cJ⟩ := n_; clear hb hbox hg) | ((with_reducible refine gate_dst (N := 3) rfl ?_); (try (refine gate_guard (by rfl) ?_; dsimp only)); refine box_event rfl (N := 3) rfl (cs := #[.int .i64 a1_0, .int .i64 a1_1, .slice aR l1_2.length aS]) (t := 25) oS ?_; intro aE hg w5 hbox hb; have n_ := o2_ (blk_below (oP aA) hb) (o2_ (below_step (oB HB) hb) (o2_ (hbox) (o2_ ((oG hg (below_size (oB HB)) : w.heap.size ≤ aE)) (o2_ ((oG hg (below_size (oB HB)) : w.heap.size ≤ aE)) (o2_ ((oL hg (blk_lt (oP aA)))) (o1_ ((oN hg (blk_lt (oP aA)))))))))); clear aA HB; obtain ⟨aA, HB, aB, cM, cK, aF, aG⟩ := n_; clear hb hbox hg)))
 (try simp only [Act.put, List.setIfInBounds_toArray, List.set_cons_zero, List.set_cons_succ])
 go_cut [26] (fun fB wc => ∃ (kq : Nat) (cC : Bool), fB = .bool cC ∧ Aside0 (laws_eaRas.j0 kq cC a0_0 a0_1 l0_2 a1_0 a1_1 l1_2 = some r) ∧ Aside0 (kq ≤ k) ∧ Aside0 (wc.heap[aD]? = some (.cells #[.int .i64 a0_0, .int .i64 a0_1, (.slice aP l0_2.length aQ)] 25 (0, 0))) ∧ Aside0 (wc.heap[aE]? = some (.cells #[.int .i64 a1_0, .int .i64 a1_1, (.slice aR l1_2.length aS)] 25 (0, 0))) ∧ Aside0 (Below w.heap.size w wc))
 case first =>
  have H := eJ.out
  clear eJ
  by_cases c6 : a0_0 = a1_0
  ·rw [if_pos c6] at H
   have aT : (a0_0 == a1_0) = true := beq_iff_eq.mpr c6
   have cR : (a0_0 != a1_0) = false := bne_eq_false_iff_eq.mpr c6
   clear c6
   (first | rw [aT] | (simp only [i64_w, i32_w]; rw [aT]) | skip)
   by_cases c7 : a0_1 = a1_1
   ·rw [if_pos c7] at H
    have cS : (a0_1 == a1_1) = true := beq_iff_eq.mpr c7
    have cT : (a0_1 != a1_1) = false := bne_eq_false_iff_eq.mpr c7
    clear c7
    have H' := Aside0.mk H
    clear H
    have eZ := aF.out
    have fA := aG.out
    have cD : w5.cell? ⟨aD, 0, none⟩ = some (.int .i64 a0_0) := (blk_cell aA.out 0).trans rfl
    have cE : w5.cell? ⟨aD, 1, none⟩ = some (.int .i64 a0_1) := (blk_cell aA.out 1).trans rfl
    have cF : w5.cell? ⟨aD, 2, none⟩ = some (.slice aP l0_2.length aQ) := (blk_cell aA.out 2).trans rfl
    have cG := blk_frozen aA.out 0
    have cH := blk_frozen aA.out 1
    have cI := blk_frozen aA.out 2
    have aY : w5.cell? ⟨aE, 0, none⟩ = some (.int .i64 a1_0) := (blk_cell aB.out 0).trans rfl
    have aZ : w5.cell? ⟨aE, 1, none⟩ = some (.int .i64 a1_1) := (blk_cell aB.out 1).trans rfl
    have bA : w5.cell? ⟨aE, 2, none⟩ = some (.slice aR l1_2.length aS) := (blk_cell aB.out 2).trans rfl
    have bN := blk_frozen aB.out 0
    have bO := blk_frozen aB.out 1
    have bP := blk_frozen aB.out 2
    go_wp2
    repeat (go_quiet (fail); try go_wp2)
    go_meet
    case rel => exact ⟨_, (((l0_2.length : Int) != (l1_2.length : Int))), oU, H', ⟨(by first | omega | exact Nat.le_refl _)⟩, ⟨(oP aA)⟩, ⟨(oP aB)⟩, ⟨(oB HB)⟩⟩
   ·rw [if_neg c7] at H
    have cS : (a0_1 == a1_1) = false := beq_eq_false_iff_ne.mpr c7
    have cT : (a0_1 != a1_1) = true := bne_iff_ne.mpr c7
    have H' := Aside0.mk H
    clear H
    have eP := aF.out
    have eU := aG.out
    have bB : w5.cell? ⟨aD, 0, none⟩ = some (.int .i64 a0_0) := (blk_cell aA.out 0).trans rfl
    have bC : w5.cell? ⟨aD, 1, none⟩ = some (.int .i64 a0_1) := (blk_cell aA.out 1).trans rfl
    have bD : w5.cell? ⟨aD, 2, none⟩ = some (.slice aP l0_2.length aQ) := (blk_cell aA.out 2).trans rfl
    have bQ := blk_frozen aA.out 0
    have bR := blk_frozen aA.out 1
    have bS := blk_frozen aA.out 2
    have bE : w5.cell? ⟨aE, 0, none⟩ = some (.int .i64 a1_0) := (blk_cell aB.out 0).trans rfl
    have bF : w5.cell? ⟨aE, 1, none⟩ = some (.int .i64 a1_1) := (blk_cell aB.out 1).trans rfl
    have bG : w5.cell? ⟨aE, 2, none⟩ = some (.slice aR l1_2.length aS) := (blk_cell aB.out 2).trans rfl
    have bT := blk_frozen aB.out 0
    have bU := blk_frozen aB.out 1
    have bV := blk_frozen aB.out 2
    go_wp2
    repeat (go_quiet (fail); try go_wp2)
    go_meet
    case rel => exact ⟨_, (true), oU, H', ⟨(by first | omega | exact Nat.le_refl _)⟩, ⟨(oP aA)⟩, ⟨(oP aB)⟩, ⟨(oB HB)⟩⟩
  ·rw [if_neg c6] at H
   have aT : (a0_0 == a1_0) = false := beq_eq_false_iff_ne.mpr c6
   have cR : (a0_0 != a1_0) = true := bne_iff_ne.mpr c6
   (first | rw [aT] | (simp only [i64_w, i32_w]; rw [aT]) | skip)
   have H' := Aside0.mk H
   clear H
   have eQ := aF.out
   have eV := aG.out
   have bH : w5.cell? ⟨aD, 0, none⟩ = some (.int .i64 a0_0) := (blk_cell aA.out 0).trans rfl
   have bI : w5.cell? ⟨aD, 1, none⟩ = some (.int .i64 a0_1) := (blk_cell aA.out 1).trans rfl
   have bJ : w5.cell? ⟨aD, 2, none⟩ = some (.slice aP l0_2.length aQ) := (blk_cell aA.out 2).trans rfl
   have bW := blk_frozen aA.out 0
   have bX := blk_frozen aA.out 1
   have bY := blk_frozen aA.out 2
   have bK : w5.cell? ⟨aE, 0, none⟩ = some (.int .i64 a1_0) := (blk_cell aB.out 0).trans rfl
   have bL : w5.cell? ⟨aE, 1, none⟩ = some (.int .i64 a1_1) := (blk_cell aB.out 1).trans rfl
   have bM : w5.cell? ⟨aE, 2, none⟩ = some (.slice aR l1_2.length aS) := (blk_cell aB.out 2).trans rfl
   have bZ := blk_frozen aB.out 0
   have cA := blk_frozen aB.out 1
   have cB := blk_frozen aB.out 2
   go_wp2
   repeat (go_quiet (fail); try go_wp2)
   go_meet
   case rel => exact ⟨_, (true), oU, H', ⟨(by first | omega | exact Nat.le_refl _)⟩, ⟨(oP aA)⟩, ⟨(oP aB)⟩, ⟨(oB HB)⟩⟩
 case rest =>
  clear eJ
  try clear c1
  try clear c2
  try clear p2
  try clear c6
  try clear aT
  try clear cR
  try clear c7
  try clear cS
  try clear cT
  try clear c8
  try clear c11
  try clear c14
  try clear aY
  try clear aZ
  try clear bA
  try clear bB
  try clear bC
  try clear bD
  try clear bE
  try clear bF
  try clear bG
  try clear bH
  try clear bI
  try clear bJ
  try clear bK
  try clear bL
  try clear bM
  try clear cD
  try clear cE
  try clear cF
  try clear bN
  try clear bO
  try clear bP
  try clear bQ
  try clear bR
  try clear bS
  try clear bT
  try clear bU
  try clear bV
  try clear bW
  try clear bX
  try clear bY
  try clear bZ
  try clear cA
  try clear cB
  try clear cG
  try clear cH
  try clear cI
  obtain ⟨kq, cC, rfl, HA, eM, aA, aB, HB⟩ := hcut
  cases kq with
  | zero => exact nomatch (show none = some _ from HA.out)
  | succ kj2 =>
   have H := HA.out
   clear HA
   simp only [laws_eaRas.j0] at H
   by_cases dA : cC = true
   ·subst dA
    rw [if_pos rfl] at H
    obtain rfl := Option.some.inj H
    go_wp2
    repeat (go_quiet (fail); try go_wp2)
    go_ret
    exact ⟨by first | rfl | (simp [errW_none, errW_some] <;> rfl) | (simp [*, errW_none, errW_some] <;> rfl), oB HB⟩
   ·replace dA := Bool.eq_false_iff.mpr dA
    subst dA
    rw [if_neg (show ¬ (false = true) by decide)] at H
    have H' := Aside0.mk H
    clear H
    go_wp2
    repeat (go_quiet (fail); try go_wp2)
    go_loopg [5] kj2 (fun kq v5 w' => ∃ (aC : Int), v5 = .int .i64 aC ∧ Aside0 (laws_eaRas.l0 kq aC a0_0 a0_1 l0_2 a1_0 a1_1 l1_2 = some r) ∧ Aside0 (kq ≤ kj2) ∧ Aside0 (w'.heap[aD]? = some (.cells #[.int .i64 a0_0, .int .i64 a0_1, (.slice aP l0_2.length aQ)] 25 (0, 0))) ∧ Aside0 (w'.heap[aE]? = some (.cells #[.int .i64 a1_0, .int .i64 a1_1, (.slice aR l1_2.length aS)] 25 (0, 0))) ∧ Aside0 (Below w.heap.size w w'))
    case atStart => exact ⟨(0), oU, H', ⟨Nat.le_refl _⟩, ⟨(oP aA)⟩, ⟨(oP aB)⟩, ⟨(oB HB)⟩⟩
    case round =>
     clear H'
     try clear c1
     try clear c2
     try clear p2
     try clear c6
     try clear aT
     try clear cR
     try clear c7
     try clear cS
     try clear cT
     try clear c8
     try clear c11
     try clear c14
     try clear dA
     try clear aY
     try clear aZ
     try clear bA
     try clear bB
     try clear bC
     try clear bD
     try clear bE
     try clear bF
     try clear bG
     try clear bH
     try clear bI
     try clear bJ
     try clear bK
     try clear bL
     try clear bM
     try clear cD
     try clear cE
     try clear cF
     try clear bN
     try clear bO
     try clear bP
     try clear bQ
     try clear bR
     try clear bS
     try clear bT
     try clear bU
     try clear bV
     try clear bW
     try clear bX
     try clear bY
     try clear bZ
     try clear cA
     try clear cB
     try clear cG
     try clear cH
     try clear cI
     try clear p2
     obtain ⟨aC, rfl, HA, HK2, aA, aB, HB⟩ := hrel
     cases gk with
     | zero => exact nomatch (show none = some _ from HA.out)
     | succ k2 =>
      have H := HA.out
      clear HA
      simp only [laws_eaRas.l0] at H
      by_cases cW : aC < (l0_2.length : Int)
      ·rw [if_pos cW] at H
       have dB : decide (aC < (l0_2.length : Int)) = true := decide_eq_true cW
       clear cW
       by_cases dD : 0 ≤ aC
       ·rw [if_pos dD] at H
        have eN : decide (0 ≤ aC) = true := decide_eq_true dD
        clear dD
        by_cases dE : aC < (l1_2.length : Int)
        ·rw [if_pos dE] at H
         have eO : decide (aC < (l1_2.length : Int)) = true := decide_eq_true dE
         clear dE
         by_cases cX : (!(((rd_T38 l0_2 aC).f0) == ((rd_T38 l1_2 aC).f0)) || (!(((rd_T38 l0_2 aC).f1) == ((rd_T38 l1_2 aC).f1)) || (!(((rd_T38 l0_2 aC).f2) == ((rd_T38 l1_2 aC).f2)) || (!(((rd_T38 l0_2 aC).f3) == ((rd_T38 l1_2 aC).f3)))))) = true
         ·rw [if_pos cX] at H
          have dC : (!(((rd_T38 l0_2 aC).f0) == ((rd_T38 l1_2 aC).f0)) || (!(((rd_T38 l0_2 aC).f1) == ((rd_T38 l1_2 aC).f1)) || (!(((rd_T38 l0_2 aC).f2) == ((rd_T38 l1_2 aC).f2)) || (!(((rd_T38 l0_2 aC).f3) == ((rd_T38 l1_2 aC).f3)))))) = true := cX
          clear cX
          obtain rfl := Option.some.inj H
          have eR := aF.out
          have eW := aG.out
          have dF : wr.cell? ⟨aD, 0, none⟩ = some (.int .i64 a0_0) := (blk_cell aA.out 0).trans rfl
          have dG : wr.cell? ⟨aD, 1, none⟩ = some (.int .i64 a0_1) := (blk_cell aA.out 1).trans rfl
          have dH : wr.cell? ⟨aD, 2, none⟩ = some (.slice aP l0_2.length aQ) := (blk_cell aA.out 2).trans rfl
          have dU := blk_frozen aA.out 0
          have dV := blk_frozen aA.out 1
          have dW := blk_frozen aA.out 2
          have aU : 0 ≤ (aC : Int) := of_decide_eq_true oM
          have aW : aC < (l0_2.length : Int) := of_decide_eq_true oM
          obtain ⟨cY, cU, aH, aI, aJ, aK⟩ := at_T38 cN.out aC aU aW
          cases cU
          replace aH := (HB.out.cell (World.block_lt_of_cell? w _ aH)).trans aH
          replace aI := (HB.out.cell (World.block_lt_of_cell? w _ aI)).trans aI
          replace aJ := (HB.out.cell (World.block_lt_of_cell? w _ aJ)).trans aJ
          replace aK := (HB.out.cell (World.block_lt_of_cell? w _ aK)).trans aK
          replace aU := eq_true aU
          replace aW := eq_true aW
          have dI : wr.cell? ⟨aE, 0, none⟩ = some (.int .i64 a1_0) := (blk_cell aB.out 0).trans rfl
          have dJ : wr.cell? ⟨aE, 1, none⟩ = some (.int .i64 a1_1) := (blk_cell aB.out 1).trans rfl
          have dK : wr.cell? ⟨aE, 2, none⟩ = some (.slice aR l1_2.length aS) := (blk_cell aB.out 2).trans rfl
          have dX := blk_frozen aB.out 0
          have dY := blk_frozen aB.out 1
          have dZ := blk_frozen aB.out 2
          have aV : 0 ≤ (aC : Int) := of_decide_eq_true oM
          have aX : aC < (l1_2.length : Int) := of_decide_eq_true oM
          obtain ⟨cZ, cV, aL, aM, aN, aO⟩ := at_T38 cO.out aC aV aX
          cases cV
          replace aL := (HB.out.cell (World.block_lt_of_cell? w _ aL)).trans aL
          replace aM := (HB.out.cell (World.block_lt_of_cell? w _ aM)).trans aM
          replace aN := (HB.out.cell (World.block_lt_of_cell? w _ aN)).trans aN
          replace aO := (HB.out.cell (World.block_lt_of_cell? w _ aO)).trans aO
          replace aV := eq_true aV
          replace aX := eq_true aX
          go_wp2
          repeat (go_quiet (fail); try go_wp2)
          go_ret
          exact ⟨by first | rfl | (simp [errW_none, errW_some] <;> rfl) | (simp [*, errW_none, errW_some] <;> rfl), oB HB⟩
         ·rw [if_neg cX] at H
          have dC : (!(((rd_T38 l0_2 aC).f0) == ((rd_T38 l1_2 aC).f0)) || (!(((rd_T38 l0_2 aC).f1) == ((rd_T38 l1_2 aC).f1)) || (!(((rd_T38 l0_2 aC).f2) == ((rd_T38 l1_2 aC).f2)) || (!(((rd_T38 l0_2 aC).f3) == ((rd_T38 l1_2 aC).f3)))))) = false := by simpa using cX
          clear cX
          have H' := Aside0.mk H
          clear H
          have eS := aF.out
          have eX := aG.out
          have dL : wr.cell? ⟨aD, 0, none⟩ = some (.int .i64 a0_0) := (blk_cell aA.out 0).trans rfl
          have dM : wr.cell? ⟨aD, 1, none⟩ = some (.int .i64 a0_1) := (blk_cell aA.out 1).trans rfl
          have dN : wr.cell? ⟨aD, 2, none⟩ = some (.slice aP l0_2.length aQ) := (blk_cell aA.out 2).trans rfl
          have eA := blk_frozen aA.out 0
          have eB := blk_frozen aA.out 1
          have eC := blk_frozen aA.out 2
          have aU : 0 ≤ (aC : Int) := of_decide_eq_true oM
          have aW : aC < (l0_2.length : Int) := of_decide_eq_true oM
          obtain ⟨cY, cU, aH, aI, aJ, aK⟩ := at_T38 cN.out aC aU aW
          cases cU
          replace aH := (HB.out.cell (World.block_lt_of_cell? w _ aH)).trans aH
          replace aI := (HB.out.cell (World.block_lt_of_cell? w _ aI)).trans aI
          replace aJ := (HB.out.cell (World.block_lt_of_cell? w _ aJ)).trans aJ
          replace aK := (HB.out.cell (World.block_lt_of_cell? w _ aK)).trans aK
          replace aU := eq_true aU
          replace aW := eq_true aW
          have dO : wr.cell? ⟨aE, 0, none⟩ = some (.int .i64 a1_0) := (blk_cell aB.out 0).trans rfl
          have dP : wr.cell? ⟨aE, 1, none⟩ = some (.int .i64 a1_1) := (blk_cell aB.out 1).trans rfl
          have dQ : wr.cell? ⟨aE, 2, none⟩ = some (.slice aR l1_2.length aS) := (blk_cell aB.out 2).trans rfl
          have eD := blk_frozen aB.out 0
          have eE := blk_frozen aB.out 1
          have eF := blk_frozen aB.out 2
          have aV : 0 ≤ (aC : Int) := of_decide_eq_true oM
          have aX : aC < (l1_2.length : Int) := of_decide_eq_true oM
          obtain ⟨cZ, cV, aL, aM, aN, aO⟩ := at_T38 cO.out aC aV aX
          cases cV
          replace aL := (HB.out.cell (World.block_lt_of_cell? w _ aL)).trans aL
          replace aM := (HB.out.cell (World.block_lt_of_cell? w _ aM)).trans aM
          replace aN := (HB.out.cell (World.block_lt_of_cell? w _ aN)).trans aN
          replace aO := (HB.out.cell (World.block_lt_of_cell? w _ aO)).trans aO
          replace aV := eq_true aV
          replace aX := eq_true aX
          go_wp2
          repeat (go_quiet (fail); try go_wp2)
          go_roundg k2
          case measure => have := eM.out; have := HK2.out; omega
          case rel => exact ⟨(wrap64 (aC + 1)), oU, H', ⟨(by have := eM.out; have := HK2.out; omega)⟩, ⟨(oP aA)⟩, ⟨(oP aB)⟩, ⟨(oB HB)⟩⟩
        ·rw [if_neg dE] at H
         exact absurd H (by simp)
       ·rw [if_neg dD] at H
        exact absurd H (by simp)
      ·rw [if_neg cW] at H
       have dB : decide (aC < (l0_2.length : Int)) = false := decide_eq_false cW
       clear cW
       obtain rfl := Option.some.inj H
       have eT := aF.out
       have eY := aG.out
       have dR : wr.cell? ⟨aD, 0, none⟩ = some (.int .i64 a0_0) := (blk_cell aA.out 0).trans rfl
       have dS : wr.cell? ⟨aD, 1, none⟩ = some (.int .i64 a0_1) := (blk_cell aA.out 1).trans rfl
       have dT : wr.cell? ⟨aD, 2, none⟩ = some (.slice aP l0_2.length aQ) := (blk_cell aA.out 2).trans rfl
       have eG := blk_frozen aA.out 0
       have eH := blk_frozen aA.out 1
       have eI := blk_frozen aA.out 2
       go_wp2
       repeat (go_quiet (fail); try go_wp2)
       go_ret
       exact ⟨by first | rfl | (simp [errW_none, errW_some] <;> rfl) | (simp [*, errW_none, errW_some] <;> rfl), oB HB⟩

end Go.Proofs.Ythnmeogafklhnaa.X
