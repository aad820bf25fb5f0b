/- What functions of the program come to, each with its proof. No condition but what each theorem states. -/
import Derived.Test.YthnmeogafklhnaaX0
namespace Go.Proofs.Ythnmeogafklhnaa.X
open Go.RowKit Go.Proofs.YthnmeogafklhnaaW.PrintWords Go.Proofs.YthnmeogafklhnaaW.PrintLast Go.Proofs.YthnmeogafklhnaaW.PrintMore Go.Proofs.Ythnmeogafklhnaa.Hyb
attribute [local go_sem] max2_int min2_int max_two min_two max_three min_three max_four min_four
set_option linter.unusedVariables false
set_option linter.unusedSimpArgs false

/-! ### spec_l6Mean: function 100 -/
mutual
def spec_l6Mean.l0 : Nat → Int → Int → Int → Int → Int → Int → List (S38) → Int → Int → Int → Int → Option (Int × Int × Int × Int)
 | 0, _, _, _, _, _, _, _, _, _, _, _ => none
 | k + 1, x1, x2, x7, x9, x357000, x357001, x357002, x359000, x359001, x359002, x359003 => if x9 ≤ (mn (wrap64 (x357001 - 1)) (wrap64 (x2 + 1))) then (spec_l6Mean.l1 k x1 x2 x7 x9 (mx 0 (wrap64 (x1 - 1))) x357000 x357001 x357002 x359000 x359001 x359002 x359003) else (if x7 = 0 then (none) else (some (wrap64 (Int.tdiv x359000 x7), wrap64 (Int.tdiv x359001 x7), wrap64 (Int.tdiv x359002 x7), wrap64 (Int.tdiv x359003 x7))))
def spec_l6Mean.l1 : Nat → Int → Int → Int → Int → Int → Int → Int → List (S38) → Int → Int → Int → Int → Option (Int × Int × Int × Int)
 | 0, _, _, _, _, _, _, _, _, _, _, _, _ => none
 | k + 1, x1, x2, x7, x9, x10, x357000, x357001, x357002, x359000, x359001, x359002, x359003 => if x10 ≤ (mn (wrap64 (x357000 - 1)) (wrap64 (x1 + 1))) then (if 0 ≤ (wrap64 ((wrap64 (x9 * x357000)) + x10)) then (if (wrap64 ((wrap64 (x9 * x357000)) + x10)) < (x357002.length : Int) then (spec_l6Mean.l1 k x1 x2 (wrap64 (x7 + 1)) x9 (wrap64 (x10 + 1)) x357000 x357001 x357002 (wrap64 (x359000 + ((rd_T38 x357002 (wrap64 ((wrap64 (x9 * x357000)) + x10))).f0))) (wrap64 (x359001 + ((rd_T38 x357002 (wrap64 ((wrap64 (x9 * x357000)) + x10))).f1))) (wrap64 (x359002 + ((rd_T38 x357002 (wrap64 ((wrap64 (x9 * x357000)) + x10))).f2))) (wrap64 (x359003 + ((rd_T38 x357002 (wrap64 ((wrap64 (x9 * x357000)) + x10))).f3)))) else (none)) else (none)) else (spec_l6Mean.l0 k x1 x2 x7 (wrap64 (x9 + 1)) x357000 x357001 x357002 x359000 x359001 x359002 x359003)
end
def spec_l6Mean.f (k : Nat) (a0_0 : Int) (a0_1 : Int) (l0_2 : List (S38)) (a1 : Int) (a2 : Int) : Option (Int × Int × Int × Int) := spec_l6Mean.l0 k a1 a2 0 (mx 0 (wrap64 (a2 - 1))) a0_0 a0_1 l0_2 0 0 0 0
theorem spec_l6Mean.mono_l : ∀ k, (∀ y0 y1 y2 y3 y4 y5 y6 y7 y8 y9 cG, LeO (spec_l6Mean.l0 k y0 y1 y2 y3 y4 y5 y6 y7 y8 y9 cG) (spec_l6Mean.l0 (k + 1) y0 y1 y2 y3 y4 y5 y6 y7 y8 y9 cG)) ∧ (∀ y0 y1 y2 y3 y4 y5 y6 y7 y8 y9 cG eB, LeO (spec_l6Mean.l1 k y0 y1 y2 y3 y4 y5 y6 y7 y8 y9 cG eB) (spec_l6Mean.l1 (k + 1) y0 y1 y2 y3 y4 y5 y6 y7 y8 y9 cG eB))
 | 0 => ⟨(fun _ _ _ _ _ _ _ _ _ _ _ r h => nomatch (show none = some r from h)), (fun _ _ _ _ _ _ _ _ _ _ _ _ r h => nomatch (show none = some r from h))⟩
 | k + 1 => by
  obtain ⟨ih0, ih1⟩ := spec_l6Mean.mono_l k
  refine ⟨?_, ?_⟩
  ·intro y0 y1 y2 y3 y4 y5 y6 y7 y8 y9 cG
   unfold spec_l6Mean.l0
   repeat' first
   | (with_reducible exact ih0 _ _ _ _ _ _ _ _ _ _ _)
   | (with_reducible exact ih1 _ _ _ _ _ _ _ _ _ _ _ _)
   | (with_reducible exact LeO.refl _)
   | (with_reducible exact LeO.none _)
   | (with_reducible refine LeO.ite ?_ ?_)
   | (with_reducible refine LeO.bind ?_ (fun _ => ?_))
   | exact ih0 _ _ _ _ _ _ _ _ _ _ _
   | exact ih1 _ _ _ _ _ _ _ _ _ _ _ _
   | exact LeO.none _
   | refine LeO.ite ?_ ?_
   | refine LeO.bind ?_ (fun _ => ?_)
  ·intro y0 y1 y2 y3 y4 y5 y6 y7 y8 y9 cG eB
   unfold spec_l6Mean.l1
   repeat' first
   | (with_reducible exact ih0 _ _ _ _ _ _ _ _ _ _ _)
   | (with_reducible exact ih1 _ _ _ _ _ _ _ _ _ _ _ _)
   | (with_reducible exact LeO.refl _)
   | (with_reducible exact LeO.none _)
   | (with_reducible refine LeO.ite ?_ ?_)
   | (with_reducible refine LeO.bind ?_ (fun _ => ?_))
   | exact ih0 _ _ _ _ _ _ _ _ _ _ _
   | exact ih1 _ _ _ _ _ _ _ _ _ _ _ _
   | exact LeO.none _
   | refine LeO.ite ?_ ?_
   | refine LeO.bind ?_ (fun _ => ?_)
theorem spec_l6Mean.mono : ∀ a0 a1 a2 a3 a4 k, LeO (spec_l6Mean.f k a0 a1 a2 a3 a4) (spec_l6Mean.f (k + 1) a0 a1 a2 a3 a4) := by
 intro a0 a1 a2 a3 a4 k
 obtain ⟨ih0, ih1⟩ := spec_l6Mean.mono_l k
 unfold spec_l6Mean.f
 repeat' first
   | (with_reducible exact ih0 _ _ _ _ _ _ _ _ _ _ _)
   | (with_reducible exact ih1 _ _ _ _ _ _ _ _ _ _ _ _)
   | (with_reducible exact LeO.refl _)
   | (with_reducible exact LeO.none _)
   | (with_reducible refine LeO.ite ?_ ?_)
   | (with_reducible refine LeO.bind ?_ (fun _ => ?_))
   | exact ih0 _ _ _ _ _ _ _ _ _ _ _
   | exact ih1 _ _ _ _ _ _ _ _ _ _ _ _
   | exact LeO.none _
   | refine LeO.ite ?_ ?_
   | refine LeO.bind ?_ (fun _ => ?_)
def spec_l6Mean.T12 : Bool × List (List Nat × List Nat) := (true, [([], []), ([0], [0]), ([], []), ([1, 2], [1, 2]), ([], []), ([4], [4]), ([], []), ([5, 6], [5, 6]), ([], []), ([8], [8]), ([], []), ([9, 10], [9, 10]), ([], []), ([12], [12]), ([], []), ([13, 14], [13, 14]), ([3, 7, 11, 15], [3, 7, 11, 15]), ([16, 0, 1, 2, 3, 4, 5, 6, 7, 8, 9, 10, 11, 12, 13, 14, 15, 16], [16])])
def spec_l6Mean.B12 : List Nat := [0, 1, 0, 7, 0, 16, 0, 112, 0, 256, 0, 1792, 0, 4096, 0, 28672, 65535, 131071]
theorem spec_l6Mean.tab12 : rtab .any (opsOf Try.f100 12) = spec_l6Mean.T12 := by kernel_rfl
theorem spec_l6Mean.bits12 : waitsOk spec_l6Mean.T12.2 spec_l6Mean.B12 = true := by kernel_rfl
set_option maxHeartbeats 8000000 in
set_option maxRecDepth 100000 in
theorem spec_l6Mean.calls (k : Nat) (a0_0 : Int) (a0_1 : Int) (aZ : Option Addr) (bA : Nat) (l0_2 : List (S38)) (a1 : Int) (a2 : Int) (r1 : Int) (r2 : Int) (r3 : Int) (r4 : Int) (w : World) (hr0_2 : Kd.C k38 w aZ l0_2.length l0_2) (cB : l0_2.length ≤ bA) (h : spec_l6Mean.f k a0_0 a0_1 l0_2 a1 a2 = some (r1, r2, r3, r4)) :
  Calls Try.prog 100 #[.agg #[.int .i64 a0_0, .int .i64 a0_1, .slice aZ l0_2.length bA], .int .i64 a1, .int .i64 a2] w fun e w' => e = .returned (.agg #[.int .i64 r1, .int .i64 r2, .int .i64 r3, .int .i64 r4]) ∧ Below w.heap.size w w' := by
 have hu25 := Try.underlying25
 have hu38 := Try.underlying38
 have cI := Aside0.mk hr0_2
 have eK := Aside0.mk cB
 clear hr0_2 cB
 have HB := Aside0.mk (Below.refl w.heap.size w)
 have H : (spec_l6Mean.l0 k a1 a2 0 (mx 0 (wrap64 (a2 - 1))) a0_0 a0_1 l0_2 0 0 0 0) = some (r1, r2, r3, r4) := h
 clear h
 obtain ⟨ji4, hji4⟩ : ∃ j_ : Int, (mx 0 (wrap64 (a2 - 1))) = j_ := ⟨_, rfl⟩
 replace H : (spec_l6Mean.l0 k a1 a2 0 ji4 a0_0 a0_1 l0_2 0 0 0 0) = some (r1, r2, r3, r4) := by first | (rw [hji4] at H; exact H) | (simp only [hji4] at H ⊢; exact H)
 (try (have eR : 0 ≤ ji4 := by (rw [← hji4]; unfold mx; (repeat' split) <;> omega)))
 (try (have eS : 0 ≤ ji4 := by omega))
 have eQ : (if 0 < (wrap64 (a2 - 1)) then (wrap64 (a2 - 1)) else 0) = ji4 := hji4
 have H' := Aside0.mk H
 clear H
 go_enter Try.func100, Try.ntmps100
 go_wp2_with (first | ((with_reducible refine gate_dst (N := 3) rfl ?_); refine box_event rfl (N := 3) rfl (cs := #[.int .i64 a0_0, .int .i64 a0_1, .slice aZ l0_2.length bA]) (t := 25) oS ?_; intro aQ hg w5 hbox hb; have n_ := o2_ (below_step (oB HB) hb) (o2_ (hbox) (o2_ ((oG hg (below_size (oB HB)) : w.heap.size ≤ aQ)) (o1_ ((oG hg (below_size (oB HB)) : w.heap.size ≤ aQ))))); clear HB; obtain ⟨HB, aB, eG, eC⟩ := n_; clear hb hbox hg) | ((with_reducible refine gate_dst (N := 6) rfl ?_); refine box_event rfl (N := 6) rfl (cs := #[.int .i64 0, .int .i64 0, .int .i64 0, .int .i64 0]) (t := 38) oS ?_; intro aE hg w6 hbox hb; have n_ := o2_ (blk_below (oP aB) hb) (o2_ (below_step (oB HB) hb) (o2_ (hbox) (o2_ ((oG hg (below_size (oB HB)) : w.heap.size ≤ aE)) (o2_ ((oG hg (below_size (oB HB)) : w.heap.size ≤ aE)) (o2_ ((oL hg (blk_lt (oP aB)))) (o1_ ((oN hg (blk_lt (oP aB)))))))))); clear aB HB; obtain ⟨aB, HB, aD, eH, eD, aN, aO⟩ := n_; clear hb hbox hg) | ((with_reducible refine gate_dst (N := 8) rfl ?_); refine box_event rfl (N := 8) rfl (cs := #[.int .i64 0, .int .i64 0, .int .i64 0, .int .i64 0]) (t := 38) oS ?_; intro aR hg w7 hbox hb; have n_ := o2_ (blk_below (oP aB) hb) (o2_ (blk_below (oP aD) hb) (o2_ (below_step (oB HB) hb) (o2_ (hbox) (o2_ ((oG hg (below_size (oB HB)) : w.heap.size ≤ aR)) (o2_ ((oG hg (below_size (oB HB)) : w.heap.size ≤ aR)) (o2_ ((oL hg (blk_lt (oP aB)))) (o2_ ((oN hg (blk_lt (oP aB)))) (o2_ ((oL hg (blk_lt (oP aD)))) (o1_ ((oN hg (blk_lt (oP aD))))))))))))); clear aB aD HB; obtain ⟨aB, aD, HB, aC, eI, eE, aU, aV, aS, aA⟩ := n_; clear hb hbox hg; have fR := aV.out; have fT := aU.out; have fS := aA.out; have fU := aS.out; have bG : w7.cell? ⟨aR, 0, none⟩ = some (.int .i64 0) := (blk_cell aC.out 0).trans rfl; have bH : w7.cell? ⟨aR, 1, none⟩ = some (.int .i64 0) := (blk_cell aC.out 1).trans rfl; have bI : w7.cell? ⟨aR, 2, none⟩ = some (.int .i64 0) := (blk_cell aC.out 2).trans rfl; have bJ : w7.cell? ⟨aR, 3, none⟩ = some (.int .i64 0) := (blk_cell aC.out 3).trans rfl; have bK := blk_frozen aC.out 0; have bL := blk_frozen aC.out 1; have bM := blk_frozen aC.out 2; have bN := blk_frozen aC.out 3))
 go_loopg [7, 9] k (fun kq v7 v9 w' => ∃ (aW : Int) (aT : Int) (aF : Int) (aH : Int) (aJ : Int) (aL : Int), v7 = .int .i64 aW ∧ v9 = .int .i64 aT ∧ Aside0 (spec_l6Mean.l0 kq a1 a2 aW aT a0_0 a0_1 l0_2 aF aH aJ aL = some (r1, r2, r3, r4)) ∧ Aside0 (kq ≤ k) ∧ Aside0 (w'.heap[aQ]? = some (.cells #[.int .i64 a0_0, .int .i64 a0_1, (.slice aZ l0_2.length bA)] 25 (0, 0))) ∧ Aside0 (w'.heap[aE]? = some (.cells #[.int .i64 0, .int .i64 0, .int .i64 0, .int .i64 0] 38 (0, 0))) ∧ Aside0 (w'.heap[aR]? = some (.cells #[.int .i64 aF, .int .i64 aH, .int .i64 aJ, .int .i64 aL] 38 (0, 0))) ∧ Aside0 (Below w.heap.size w w'))
 case atStart => exact ⟨(0), (ji4), (0), (0), (0), (0), oU, (by first | rfl | (simp; done) | (simp only [← hji4] <;> (first | rfl | simp)) | (simp [*]; done)), H', ⟨Nat.le_refl _⟩, ⟨(oP aB)⟩, ⟨(oP aD)⟩, ⟨(blk_put (blk_put (blk_put (blk_put aC.out 0 _ rfl) 1 _ rfl) 2 _ rfl) 3 _ rfl)⟩, ⟨(oB HB)⟩⟩
 case round =>
  clear H'
  try clear c1
  try clear p2
  try clear p6
  try clear c8
  try clear c9
  try clear c10
  try clear bG
  try clear bH
  try clear bI
  try clear bJ
  try clear bK
  try clear bL
  try clear bM
  try clear bN
  obtain ⟨aW, aT, aF, aH, aJ, aL, rfl, rfl, HA, HK1, aB, aD, aC, HB⟩ := hrel
  cases gk with
  | zero => exact nomatch (show none = some _ from HA.out)
  | succ k1 =>
   have H := HA.out
   clear HA
   simp only [spec_l6Mean.l0] at H
   obtain ⟨ji11, hji11⟩ : ∃ j_ : Int, (mn (wrap64 (a0_1 - 1)) (wrap64 (a2 + 1))) = j_ := ⟨_, rfl⟩
   replace H : (if aT ≤ (ji11) then (spec_l6Mean.l1 k1 a1 a2 aW aT (mx 0 (wrap64 (a1 - 1))) a0_0 a0_1 l0_2 aF aH aJ aL) else (if aW = 0 then (none) else (some (wrap64 (Int.tdiv aF aW), wrap64 (Int.tdiv aH aW), wrap64 (Int.tdiv aJ aW), wrap64 (Int.tdiv aL aW))))) = some (r1, r2, r3, r4) := by first | (rw [hji11] at H; exact H) | (simp only [hji11] at H ⊢; exact H)
   have dX : (if (wrap64 (a2 + 1)) < (wrap64 (a0_1 - 1)) then (wrap64 (a2 + 1)) else (wrap64 (a0_1 - 1))) = ji11 := hji11
   by_cases cD : aT ≤ (ji11)
   ·rw [if_pos cD] at H
    have cA : decide (aT ≤ (ji11)) = true := decide_eq_true cD
    clear cD
    obtain ⟨ji13, hji13⟩ : ∃ j_ : Int, (mx 0 (wrap64 (a1 - 1))) = j_ := ⟨_, rfl⟩
    replace H : (spec_l6Mean.l1 k1 a1 a2 aW aT ji13 a0_0 a0_1 l0_2 aF aH aJ aL) = some (r1, r2, r3, r4) := by first | (rw [hji13] at H; exact H) | (simp only [hji13] at H ⊢; exact H)
    have dY : (if 0 < (wrap64 (a1 - 1)) then (wrap64 (a1 - 1)) else 0) = ji13 := hji13
    have H' := Aside0.mk H
    clear H
    have eT := aN.out
    have fF := aO.out
    have eU := aU.out
    have fG := aV.out
    have bU : wr.cell? ⟨aQ, 0, none⟩ = some (.int .i64 a0_0) := (blk_cell aB.out 0).trans rfl
    have bV : wr.cell? ⟨aQ, 1, none⟩ = some (.int .i64 a0_1) := (blk_cell aB.out 1).trans rfl
    have bW : wr.cell? ⟨aQ, 2, none⟩ = some (.slice aZ l0_2.length bA) := (blk_cell aB.out 2).trans rfl
    have bX := blk_frozen aB.out 0
    have bY := blk_frozen aB.out 1
    have bZ := blk_frozen aB.out 2
    go_wp2
    go_loopg [7, 10] k1 (fun kq v7 fV w' => ∃ (bF : Int) (aP : Int) (aG : Int) (aI : Int) (aK : Int) (aM : Int), v7 = .int .i64 bF ∧ fV = .int .i64 aP ∧ Aside0 (spec_l6Mean.l1 kq a1 a2 bF aT aP a0_0 a0_1 l0_2 aG aI aK aM = some (r1, r2, r3, r4)) ∧ Aside0 (kq ≤ k1) ∧ Aside0 (w'.heap[aQ]? = some (.cells #[.int .i64 a0_0, .int .i64 a0_1, (.slice aZ l0_2.length bA)] 25 (0, 0))) ∧ Aside0 (w'.heap[aE]? = some (.cells #[.int .i64 0, .int .i64 0, .int .i64 0, .int .i64 0] 38 (0, 0))) ∧ Aside0 (w'.heap[aR]? = some (.cells #[.int .i64 aG, .int .i64 aI, .int .i64 aK, .int .i64 aM] 38 (0, 0))) ∧ Aside0 (Below w.heap.size w w'))
    case atStart => exact ⟨(aW), (ji13), (aF), (aH), (aJ), (aL), oU, (by first | rfl | (simp; done) | (simp only [← hji13] <;> (first | rfl | simp)) | (simp [*]; done)), H', ⟨Nat.le_refl _⟩, ⟨(oP aB)⟩, ⟨(oP aD)⟩, ⟨(oP aC)⟩, ⟨(oB HB)⟩⟩
    case round =>
     clear H'
     try clear c1
     try clear p2
     try clear p6
     try clear c8
     try clear c9
     try clear c10
     try clear cD
     try clear cA
     try clear c14
     try clear c15
     try clear bG
     try clear bH
     try clear bI
     try clear bJ
     try clear bU
     try clear bV
     try clear bW
     try clear bK
     try clear bL
     try clear bM
     try clear bN
     try clear bX
     try clear bY
     try clear bZ
     try clear p2
     try clear p6
     obtain ⟨bF, aP, aG, aI, aK, aM, rfl, rfl, HA, HK2, aB, aD, aC, HB⟩ := hrel
     cases gk with
     | zero => exact nomatch (show none = some _ from HA.out)
     | succ k2 =>
      have H := HA.out
      clear HA
      simp only [spec_l6Mean.l1] at H
      obtain ⟨ji17, hji17⟩ : ∃ j_ : Int, (mn (wrap64 (a0_0 - 1)) (wrap64 (a1 + 1))) = j_ := ⟨_, rfl⟩
      replace H : (if aP ≤ (ji17) then (if 0 ≤ (wrap64 ((wrap64 (aT * a0_0)) + aP)) then (if (wrap64 ((wrap64 (aT * a0_0)) + aP)) < (l0_2.length : Int) then (spec_l6Mean.l1 k2 a1 a2 (wrap64 (bF + 1)) aT (wrap64 (aP + 1)) a0_0 a0_1 l0_2 (wrap64 (aG + ((rd_T38 l0_2 (wrap64 ((wrap64 (aT * a0_0)) + aP))).f0))) (wrap64 (aI + ((rd_T38 l0_2 (wrap64 ((wrap64 (aT * a0_0)) + aP))).f1))) (wrap64 (aK + ((rd_T38 l0_2 (wrap64 ((wrap64 (aT * a0_0)) + aP))).f2))) (wrap64 (aM + ((rd_T38 l0_2 (wrap64 ((wrap64 (aT * a0_0)) + aP))).f3)))) else (none)) else (none)) else (spec_l6Mean.l0 k2 a1 a2 bF (wrap64 (aT + 1)) a0_0 a0_1 l0_2 aG aI aK aM)) = some (r1, r2, r3, r4) := by first | (rw [hji17] at H; exact H) | (simp only [hji17] at H ⊢; exact H)
      have dZ : (if (wrap64 (a1 + 1)) < (wrap64 (a0_0 - 1)) then (wrap64 (a1 + 1)) else (wrap64 (a0_0 - 1))) = ji17 := hji17
      by_cases cH : aP ≤ (ji17)
      ·rw [if_pos cH] at H
       have cJ : decide (aP ≤ (ji17)) = true := decide_eq_true cH
       clear cH
       obtain ⟨ji19, hji19⟩ : ∃ j_ : Int, (wrap64 ((wrap64 (aT * a0_0)) + aP)) = j_ := ⟨_, rfl⟩
       replace H : (if 0 ≤ (ji19) then (if (ji19) < (l0_2.length : Int) then (spec_l6Mean.l1 k2 a1 a2 (wrap64 (bF + 1)) aT (wrap64 (aP + 1)) a0_0 a0_1 l0_2 (wrap64 (aG + ((rd_T38 l0_2 (ji19)).f0))) (wrap64 (aI + ((rd_T38 l0_2 (ji19)).f1))) (wrap64 (aK + ((rd_T38 l0_2 (ji19)).f2))) (wrap64 (aM + ((rd_T38 l0_2 (ji19)).f3)))) else (none)) else (none)) = some (r1, r2, r3, r4) := by first | (rw [hji19] at H; exact H) | (simp only [hji19] at H ⊢; exact H)
       have eA : (IntKind.i64.wrap ((wrap64 (aT * a0_0)) + aP)) = ji19 := (i64_w _).trans hji19
       by_cases cK : 0 ≤ (ji19)
       ·rw [if_pos cK] at H
        have eM : decide (0 ≤ (ji19)) = true := decide_eq_true cK
        clear cK
        by_cases cL : (ji19) < (l0_2.length : Int)
        ·rw [if_pos cL] at H
         have eN : decide ((ji19) < (l0_2.length : Int)) = true := decide_eq_true cL
         clear cL
         have H' := Aside0.mk H
         clear H
         have eV := aN.out
         have fH := aO.out
         have eW := aU.out
         have fI := aV.out
         have cN : wr.cell? ⟨aQ, 0, none⟩ = some (.int .i64 a0_0) := (blk_cell aB.out 0).trans rfl
         have cO : wr.cell? ⟨aQ, 1, none⟩ = some (.int .i64 a0_1) := (blk_cell aB.out 1).trans rfl
         have cP : wr.cell? ⟨aQ, 2, none⟩ = some (.slice aZ l0_2.length bA) := (blk_cell aB.out 2).trans rfl
         have dE := blk_frozen aB.out 0
         have dF := blk_frozen aB.out 1
         have dG := blk_frozen aB.out 2
         have cE : 0 ≤ ((ji19) : Int) := of_decide_eq_true oM
         have cF : (ji19) < (l0_2.length : Int) := of_decide_eq_true oM
         obtain ⟨eL, dW, bB, bC, bD, bE⟩ := at_T38 cI.out (ji19) cE cF
         cases dW
         replace bB := (HB.out.cell (World.block_lt_of_cell? w _ bB)).trans bB
         replace bC := (HB.out.cell (World.block_lt_of_cell? w _ bC)).trans bC
         replace bD := (HB.out.cell (World.block_lt_of_cell? w _ bD)).trans bD
         replace bE := (HB.out.cell (World.block_lt_of_cell? w _ bE)).trans bE
         replace cE := eq_true cE
         replace cF := eq_true cF
         go_wp2_with (first | ((with_reducible refine gate_dst (N := 11) rfl ?_); refine box_event rfl (N := 11) rfl (cs := #[.int .i64 0, .int .i64 0, .int .i64 0, .int .i64 0]) (t := 38) oS ?_; intro aY hg cC hbox hb; have n_ := o2_ (blk_below (oP aB) hb) (o2_ (blk_below (oP aD) hb) (o2_ (blk_below (oP aC) hb) (o2_ (below_step (oB HB) hb) (o2_ (hbox) (o2_ ((oG hg (below_size (oB HB)) : w.heap.size ≤ aY)) (o2_ ((oG hg (below_size (oB HB)) : w.heap.size ≤ aY)) (o2_ ((oL hg (blk_lt (oP aB)))) (o2_ ((oN hg (blk_lt (oP aB)))) (o2_ ((oL hg (blk_lt (oP aD)))) (o2_ ((oN hg (blk_lt (oP aD)))) (o2_ ((oL hg (blk_lt (oP aC)))) (o1_ ((oN hg (blk_lt (oP aC)))))))))))))))); clear aB aD aC HB; obtain ⟨aB, aD, aC, HB, aX, eJ, eF, bO, bR, bP, bS, bQ, bT⟩ := n_; clear hb hbox hg; have eX := bR.out; have fJ := bO.out; have eY := bS.out; have fK := bP.out; have eZ := bT.out; have fL := bQ.out; have cQ : cC.cell? ⟨aY, 0, none⟩ = some (.int .i64 0) := (blk_cell aX.out 0).trans rfl; have cR : cC.cell? ⟨aY, 1, none⟩ = some (.int .i64 0) := (blk_cell aX.out 1).trans rfl; have cS : cC.cell? ⟨aY, 2, none⟩ = some (.int .i64 0) := (blk_cell aX.out 2).trans rfl; have cT : cC.cell? ⟨aY, 3, none⟩ = some (.int .i64 0) := (blk_cell aX.out 3).trans rfl; have dH := blk_frozen aX.out 0; have dI := blk_frozen aX.out 1; have dJ := blk_frozen aX.out 2; have dK := blk_frozen aX.out 3; have fA := aA.out; have fM := aS.out; have cU : cC.cell? ⟨aR, 0, none⟩ = some (.int .i64 aG) := (blk_cell aC.out 0).trans rfl; have cV : cC.cell? ⟨aR, 1, none⟩ = some (.int .i64 aI) := (blk_cell aC.out 1).trans rfl; have cW : cC.cell? ⟨aR, 2, none⟩ = some (.int .i64 aK) := (blk_cell aC.out 2).trans rfl; have cX : cC.cell? ⟨aR, 3, none⟩ = some (.int .i64 aM) := (blk_cell aC.out 3).trans rfl; have dL := blk_frozen aC.out 0; have dM := blk_frozen aC.out 1; have dN := blk_frozen aC.out 2; have dO := blk_frozen aC.out 3))
         go_roundg k2
         case measure => have := HK1.out; have := HK2.out; omega
         case rel => exact ⟨(wrap64 (bF + 1)), (wrap64 (aP + 1)), (wrap64 (aG + ((rd_T38 l0_2 (ji19)).f0))), (wrap64 (aI + ((rd_T38 l0_2 (ji19)).f1))), (wrap64 (aK + ((rd_T38 l0_2 (ji19)).f2))), (wrap64 (aM + ((rd_T38 l0_2 (ji19)).f3))), oU, oU, H', ⟨(by have := HK1.out; have := HK2.out; omega)⟩, ⟨(oP aB)⟩, ⟨(oP aD)⟩, ⟨(blk_put (blk_put (blk_put (blk_put (oP aC) 0 _ rfl) 1 _ rfl) 2 _ rfl) 3 _ rfl)⟩, ⟨(oB HB)⟩⟩
        ·rw [if_neg cL] at H
         exact absurd H (by simp)
       ·rw [if_neg cK] at H
        exact absurd H (by simp)
      ·rw [if_neg cH] at H
       have cJ : decide (aP ≤ (ji17)) = false := decide_eq_false cH
       clear cH
       have H' := Aside0.mk H
       clear H
       have fB := aN.out
       have fN := aO.out
       have fC := aU.out
       have fO := aV.out
       have cY : wr.cell? ⟨aQ, 0, none⟩ = some (.int .i64 a0_0) := (blk_cell aB.out 0).trans rfl
       have cZ : wr.cell? ⟨aQ, 1, none⟩ = some (.int .i64 a0_1) := (blk_cell aB.out 1).trans rfl
       have dA : wr.cell? ⟨aQ, 2, none⟩ = some (.slice aZ l0_2.length bA) := (blk_cell aB.out 2).trans rfl
       have dP := blk_frozen aB.out 0
       have dQ := blk_frozen aB.out 1
       have dR := blk_frozen aB.out 2
       go_wp2
       go_roundg k2
       case measure => have := HK1.out; have := HK2.out; omega
       case rel => exact ⟨(bF), (wrap64 (aT + 1)), (aG), (aI), (aK), (aM), oU, oU, H', ⟨(by have := HK1.out; have := HK2.out; omega)⟩, ⟨(oP aB)⟩, ⟨(oP aD)⟩, ⟨(oP aC)⟩, ⟨(oB HB)⟩⟩
   ·rw [if_neg cD] at H
    have cA : decide (aT ≤ (ji11)) = false := decide_eq_false cD
    clear cD
    by_cases cM : aW = 0
    ·rw [if_pos cM] at H
     exact absurd H (by simp)
    ·rw [if_neg cM] at H
     have eO : (aW == 0) = false := beq_eq_false_iff_ne.mpr cM
     have eP : (aW != 0) = true := bne_iff_ne.mpr cM
     simp only [Option.some.injEq, Prod.mk.injEq] at H
     obtain ⟨rfl, rfl, rfl, rfl⟩ := H
     have fD := aN.out
     have fP := aO.out
     have fE := aU.out
     have fQ := aV.out
     have dB : wr.cell? ⟨aQ, 0, none⟩ = some (.int .i64 a0_0) := (blk_cell aB.out 0).trans rfl
     have dC : wr.cell? ⟨aQ, 1, none⟩ = some (.int .i64 a0_1) := (blk_cell aB.out 1).trans rfl
     have dD : wr.cell? ⟨aQ, 2, none⟩ = some (.slice aZ l0_2.length bA) := (blk_cell aB.out 2).trans rfl
     have dS := blk_frozen aB.out 0
     have dT := blk_frozen aB.out 1
     have dU := blk_frozen aB.out 2
     try go_wp2
     have n_ := o2_ (blk_drew aB.out) (o2_ (blk_drew aD.out) (o2_ (blk_drew aC.out) (o1_ (below_drew1 HB.out))))
     clear aB aD aC HB
     obtain ⟨aB, aD, aC, HB⟩ := n_
     refine start_ (n := 18) (S := fun w' => w'.cell? ⟨aR, 0, none⟩ = some (.int .i64 aF) ∧ w'.cell? ⟨aR, 1, none⟩ = some (.int .i64 aH) ∧ w'.cell? ⟨aR, 2, none⟩ = some (.int .i64 aJ) ∧ w'.cell? ⟨aR, 3, none⟩ = some (.int .i64 aL)) (ds := []) #[false, false, false, false, false, false, false, false, false, false, false, false, false, false, false, false, false, false] oK rfl rfl ⟨(blk_cell aC.out 0).trans rfl, (blk_cell aC.out 1).trans rfl, (blk_cell aC.out 2).trans rfl, (blk_cell aC.out 3).trans rfl⟩ (fun hHeld => ?_); refine with_tabW spec_l6Mean.tab12 spec_l6Mean.bits12 (fun HT_ HW_ => ?_)
     generalize wr.drew = dV at aB aD aC HB hHeld ⊢
     refine pure_ (i := 0) (N := some 72) (v := ?_) (a' := ?_) #[true, false, false, false, false, false, false, false, false, false, false, false, false, false, false, false, false, false] rfl rfl (any_of HT_.out oK) (fun _ _ _ h => h) (Or.inl ⟨by rfl, ?_⟩) ?_ ?_
     rotate_left
     ·intro w'
      go_simp
      with_reducible rfl
     rotate_left
     ·exact oT
     refine pure_ (i := 2) (N := some 74) (v := ?_) (a' := ?_) #[true, false, true, false, false, false, false, false, false, false, false, false, false, false, false, false, false, false] rfl rfl (any_of HT_.out oK) (fun _ _ _ h => h) (Or.inl ⟨by rfl, ?_⟩) ?_ ?_
     rotate_left
     ·intro w'
      go_simp
      with_reducible rfl
     rotate_left
     ·exact oT
     refine pure_ (i := 4) (N := some 76) (v := ?_) (a' := ?_) #[true, false, true, false, true, false, false, false, false, false, false, false, false, false, false, false, false, false] rfl rfl (any_of HT_.out oK) (fun _ _ _ h => h) (Or.inl ⟨by rfl, ?_⟩) ?_ ?_
     rotate_left
     ·intro w'
      go_simp
      with_reducible rfl
     rotate_left
     ·exact oT
     refine pure_ (i := 6) (N := some 78) (v := ?_) (a' := ?_) #[true, false, true, false, true, false, true, false, false, false, false, false, false, false, false, false, false, false] rfl rfl (any_of HT_.out oK) (fun _ _ _ h => h) (Or.inl ⟨by rfl, ?_⟩) ?_ ?_
     rotate_left
     ·intro w'
      go_simp
      with_reducible rfl
     rotate_left
     ·exact oT
     refine pure_ (i := 8) (N := some 80) (v := ?_) (a' := ?_) #[true, false, true, false, true, false, true, false, true, false, false, false, false, false, false, false, false, false] rfl rfl (any_of HT_.out oK) (fun _ _ _ h => h) (Or.inl ⟨by rfl, ?_⟩) ?_ ?_
     rotate_left
     ·intro w'
      go_simp
      with_reducible rfl
     rotate_left
     ·exact oT
     refine pure_ (i := 10) (N := some 82) (v := ?_) (a' := ?_) #[true, false, true, false, true, false, true, false, true, false, true, false, false, false, false, false, false, false] rfl rfl (any_of HT_.out oK) (fun _ _ _ h => h) (Or.inl ⟨by rfl, ?_⟩) ?_ ?_
     rotate_left
     ·intro w'
      go_simp
      with_reducible rfl
     rotate_left
     ·exact oT
     refine pure_ (i := 12) (N := some 84) (v := ?_) (a' := ?_) #[true, false, true, false, true, false, true, false, true, false, true, false, true, false, false, false, false, false] rfl rfl (any_of HT_.out oK) (fun _ _ _ h => h) (Or.inl ⟨by rfl, ?_⟩) ?_ ?_
     rotate_left
     ·intro w'
      go_simp
      with_reducible rfl
     rotate_left
     ·exact oT
     refine pure_ (i := 14) (N := some 86) (v := ?_) (a' := ?_) #[true, false, true, false, true, false, true, false, true, false, true, false, true, false, true, false, false, false] rfl rfl (any_of HT_.out oK) (fun _ _ _ h => h) (Or.inl ⟨by rfl, ?_⟩) ?_ ?_
     rotate_left
     ·intro w'
      go_simp
      with_reducible rfl
     rotate_left
     ·exact oT
     refine take_ (i := 1) (N := some 73) (v := ?_) (a' := ?_) #[true, true, true, false, true, false, true, false, true, false, true, false, true, false, true, false, false, false] rfl rfl (take_ofW HT_.out HW_.out oK) (fun _ _ _ h => h) (Or.inl ⟨by rfl, ?_⟩) hHeld ?_ ?_
     rotate_left
     ·rintro w' ⟨s0, s1, s2, s3⟩
      go_simp
      with_reducible rfl
     rotate_left
     ·exact oT
     refine pure_ (i := 3) (N := some 75) (v := ?_) (a' := ?_) #[true, true, true, true, true, false, true, false, true, false, true, false, true, false, true, false, false, false] rfl rfl (any_of HT_.out oK) (fun _ _ _ h => h) (Or.inl ⟨by rfl, ?_⟩) ?_ ?_
     rotate_left
     ·intro w'
      go_simp
      with_reducible rfl
     rotate_left
     ·exact oT
     refine take_ (i := 5) (N := some 77) (v := ?_) (a' := ?_) #[true, true, true, true, true, true, true, false, true, false, true, false, true, false, true, false, false, false] rfl rfl (take_ofW HT_.out HW_.out oK) (fun _ _ _ h => h) (Or.inl ⟨by rfl, ?_⟩) hHeld ?_ ?_
     rotate_left
     ·rintro w' ⟨s0, s1, s2, s3⟩
      go_simp
      with_reducible rfl
     rotate_left
     ·exact oT
     refine pure_ (i := 7) (N := some 79) (v := ?_) (a' := ?_) #[true, true, true, true, true, true, true, true, true, false, true, false, true, false, true, false, false, false] rfl rfl (any_of HT_.out oK) (fun _ _ _ h => h) (Or.inl ⟨by rfl, ?_⟩) ?_ ?_
     rotate_left
     ·intro w'
      go_simp
      with_reducible rfl
     rotate_left
     ·exact oT
     refine take_ (i := 9) (N := some 81) (v := ?_) (a' := ?_) #[true, true, true, true, true, true, true, true, true, true, true, false, true, false, true, false, false, false] rfl rfl (take_ofW HT_.out HW_.out oK) (fun _ _ _ h => h) (Or.inl ⟨by rfl, ?_⟩) hHeld ?_ ?_
     rotate_left
     ·rintro w' ⟨s0, s1, s2, s3⟩
      go_simp
      with_reducible rfl
     rotate_left
     ·exact oT
     refine pure_ (i := 11) (N := some 83) (v := ?_) (a' := ?_) #[true, true, true, true, true, true, true, true, true, true, true, true, true, false, true, false, false, false] rfl rfl (any_of HT_.out oK) (fun _ _ _ h => h) (Or.inl ⟨by rfl, ?_⟩) ?_ ?_
     rotate_left
     ·intro w'
      go_simp
      with_reducible rfl
     rotate_left
     ·exact oT
     refine take_ (i := 13) (N := some 85) (v := ?_) (a' := ?_) #[true, true, true, true, true, true, true, true, true, true, true, true, true, true, true, false, false, false] rfl rfl (take_ofW HT_.out HW_.out oK) (fun _ _ _ h => h) (Or.inl ⟨by rfl, ?_⟩) hHeld ?_ ?_
     rotate_left
     ·rintro w' ⟨s0, s1, s2, s3⟩
      go_simp
      with_reducible rfl
     rotate_left
     ·exact oT
     refine pure_ (i := 15) (N := some 87) (v := ?_) (a' := ?_) #[true, true, true, true, true, true, true, true, true, true, true, true, true, true, true, true, false, false] rfl rfl (any_of HT_.out oK) (fun _ _ _ h => h) (Or.inl ⟨by rfl, ?_⟩) ?_ ?_
     rotate_left
     ·intro w'
      go_simp
      with_reducible rfl
     rotate_left
     ·exact oT
     refine pure_ (i := 16) (N := some 88) (v := ?_) (a' := ?_) #[true, true, true, true, true, true, true, true, true, true, true, true, true, true, true, true, true, false] rfl rfl (any_of HT_.out oK) (fun _ _ _ h => h) (Or.inl ⟨by rfl, ?_⟩) ?_ ?_
     rotate_left
     ·intro w'
      go_simp
      with_reducible rfl
     rotate_left
     ·exact oT
     refine one_ (i := 17) (N := none) #[true, true, true, true, true, true, true, true, true, true, true, true, true, true, true, true, true, true] rfl rfl (one_of HT_.out oK) oD (fun K hK => ?_)
     have hs40 : dV.cell? ⟨aE, 0, none⟩ = some (.int .i64 0) := (blk_cell aD.out 0).trans rfl
     have hfs40 := blk_frozen aD.out 0
     have hns40_0 := aN.out
     have hns40_2 := aA.out
     have hms40_0 := aO.out
     have hms40_2 := aS.out
     have hs41 : dV.cell? ⟨aE, 1, none⟩ = some (.int .i64 0) := (blk_cell aD.out 1).trans rfl
     have hfs41 := blk_frozen aD.out 1
     have hns41_0 := aN.out
     have hns41_2 := aA.out
     have hms41_0 := aO.out
     have hms41_2 := aS.out
     have hs42 : dV.cell? ⟨aE, 2, none⟩ = some (.int .i64 0) := (blk_cell aD.out 2).trans rfl
     have hfs42 := blk_frozen aD.out 2
     have hns42_0 := aN.out
     have hns42_2 := aA.out
     have hms42_0 := aO.out
     have hms42_2 := aS.out
     have hs43 : dV.cell? ⟨aE, 3, none⟩ = some (.int .i64 0) := (blk_cell aD.out 3).trans rfl
     have hfs43 := blk_frozen aD.out 3
     have hns43_0 := aN.out
     have hns43_2 := aA.out
     have hms43_0 := aO.out
     have hms43_2 := aS.out
     refine skip_ (w1 := ?_) (by rfl) rfl ?_ ?_
     rotate_left
     ·go_simp
      rfl
     refine hK.out _ _ ⟨((cell_far (p := ⟨aE, _, none⟩) aA.out _).trans (((cell_far (p := ⟨aE, _, none⟩) aA.out _).trans (((cell_far (p := ⟨aE, _, none⟩) aA.out _).trans (((cell_far (p := ⟨aE, _, none⟩) aA.out _).trans (hHeld.1)))))))), ((cell_far (p := ⟨aE, _, none⟩) aA.out _).trans (((cell_far (p := ⟨aE, _, none⟩) aA.out _).trans (((cell_far (p := ⟨aE, _, none⟩) aA.out _).trans (((cell_far (p := ⟨aE, _, none⟩) aA.out _).trans (hHeld.2.1)))))))), ((cell_far (p := ⟨aE, _, none⟩) aA.out _).trans (((cell_far (p := ⟨aE, _, none⟩) aA.out _).trans (((cell_far (p := ⟨aE, _, none⟩) aA.out _).trans (((cell_far (p := ⟨aE, _, none⟩) aA.out _).trans (hHeld.2.2.1)))))))), ((cell_far (p := ⟨aE, _, none⟩) aA.out _).trans (((cell_far (p := ⟨aE, _, none⟩) aA.out _).trans (((cell_far (p := ⟨aE, _, none⟩) aA.out _).trans (((cell_far (p := ⟨aE, _, none⟩) aA.out _).trans (hHeld.2.2.2))))))))⟩ (fun hHeld => ?_)
     clear hK K
     refine done_ (done_of HT_.out oK) ?_
     try go_wp2
     refine bodyPost_ret (results_cell_row rfl _ _ aE 38 #[.int .i64 (wrap64 (Int.tdiv aF aW)), .int .i64 (wrap64 (Int.tdiv aH aW)), .int .i64 (wrap64 (Int.tdiv aJ aW)), .int .i64 (wrap64 (Int.tdiv aL aW))] (0, 0) _ rfl (blk_put (blk_put (blk_put (blk_put aD.out 0 _ rfl) 1 _ rfl) 2 _ rfl) 3 _ rfl) Try.underlying38 rfl oK) rfl ?_
     exact ⟨by first | rfl | (simp [errW_none, errW_some] <;> rfl) | (simp only [← hji4, ← hji11]; first | rfl | (simp [errW_none, errW_some] <;> rfl)) | (simp [*, errW_none, errW_some] <;> rfl), oB HB⟩

end Go.Proofs.Ythnmeogafklhnaa.X
