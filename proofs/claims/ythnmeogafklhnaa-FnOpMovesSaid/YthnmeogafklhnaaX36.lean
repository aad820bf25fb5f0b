/- What functions of the program come to, each with its proof. No condition but what each theorem states. -/
import Derived.Test.YthnmeogafklhnaaX0
namespace Go.Proofs.Ythnmeogafklhnaa.X
open Go.RowKit Go.Proofs.YthnmeogafklhnaaW.PrintWords Go.Proofs.YthnmeogafklhnaaW.PrintLast Go.Proofs.YthnmeogafklhnaaW.PrintMore Go.Proofs.Ythnmeogafklhnaa.Hyb
attribute [local go_sem] max2_int min2_int max_two min_two max_three min_three max_four min_four
set_option linter.unusedVariables false
set_option linter.unusedSimpArgs false

/-! ### spec_l6Turn: function 83 -/
mutual
def spec_l6Turn.l0 : Nat → Int → Int → Int → List (S38) → Int → Int → List (S38) → Option (Int × Int × (List (S38)))
 | 0, _, _, _, _, _, _, _ => none
 | k + 1, x4, x340000, x340001, x340002, x342000, x342001, x342002 => if x4 < x342001 then (spec_l6Turn.l1 k x4 0 x340000 x340001 x340002 x342000 x342001 x342002) else (some (x342000, x342001, x342002))
def spec_l6Turn.l1 : Nat → Int → Int → Int → Int → List (S38) → Int → Int → List (S38) → Option (Int × Int × (List (S38)))
 | 0, _, _, _, _, _, _, _, _ => none
 | k + 1, x4, x5, x340000, x340001, x340002, x342000, x342001, x342002 => if x5 < x342000 then (if 0 ≤ (wrap64 ((wrap64 ((wrap64 ((wrap64 (x340001 - 1)) - x5)) * x340000)) + x4)) then (if (wrap64 ((wrap64 ((wrap64 ((wrap64 (x340001 - 1)) - x5)) * x340000)) + x4)) < (x340002.length : Int) then (if x342002.length < 4398046511104 then (spec_l6Turn.l1 k x4 (wrap64 (x5 + 1)) x340000 x340001 x340002 x342000 x342001 (x342002 ++ [(⟨(rd_T38 x340002 (wrap64 ((wrap64 ((wrap64 ((wrap64 (x340001 - 1)) - x5)) * x340000)) + x4))).f0, (rd_T38 x340002 (wrap64 ((wrap64 ((wrap64 ((wrap64 (x340001 - 1)) - x5)) * x340000)) + x4))).f1, (rd_T38 x340002 (wrap64 ((wrap64 ((wrap64 ((wrap64 (x340001 - 1)) - x5)) * x340000)) + x4))).f2, (rd_T38 x340002 (wrap64 ((wrap64 ((wrap64 ((wrap64 (x340001 - 1)) - x5)) * x340000)) + x4))).f3⟩ : S38)])) else (none)) else (none)) else (none)) else (spec_l6Turn.l0 k (wrap64 (x4 + 1)) x340000 x340001 x340002 x342000 x342001 x342002)
end
def spec_l6Turn.f (k : Nat) (a0_0 : Int) (a0_1 : Int) (l0_2 : List (S38)) : Option (Int × Int × (List (S38))) := spec_l6Turn.l0 k 0 a0_0 a0_1 l0_2 a0_1 a0_0 ([] : List (S38))
theorem spec_l6Turn.mono_l : ∀ k, (∀ y0 y1 y2 y3 y4 y5 y6, LeO (spec_l6Turn.l0 k y0 y1 y2 y3 y4 y5 y6) (spec_l6Turn.l0 (k + 1) y0 y1 y2 y3 y4 y5 y6)) ∧ (∀ y0 y1 y2 y3 y4 y5 y6 y7, LeO (spec_l6Turn.l1 k y0 y1 y2 y3 y4 y5 y6 y7) (spec_l6Turn.l1 (k + 1) y0 y1 y2 y3 y4 y5 y6 y7))
 | 0 => ⟨(fun _ _ _ _ _ _ _ r h => nomatch (show none = some r from h)), (fun _ _ _ _ _ _ _ _ r h => nomatch (show none = some r from h))⟩
 | k + 1 => by
  obtain ⟨ih0, ih1⟩ := spec_l6Turn.mono_l k
  refine ⟨?_, ?_⟩
  ·intro y0 y1 y2 y3 y4 y5 y6
   unfold spec_l6Turn.l0
   repeat' first
   | (with_reducible exact ih0 _ _ _ _ _ _ _)
   | (with_reducible exact ih1 _ _ _ _ _ _ _ _)
   | (with_reducible exact LeO.refl _)
   | (with_reducible exact LeO.none _)
   | (with_reducible refine LeO.ite ?_ ?_)
   | (with_reducible refine LeO.bind ?_ (fun _ => ?_))
   | exact ih0 _ _ _ _ _ _ _
   | exact ih1 _ _ _ _ _ _ _ _
   | exact LeO.none _
   | refine LeO.ite ?_ ?_
   | refine LeO.bind ?_ (fun _ => ?_)
  ·intro y0 y1 y2 y3 y4 y5 y6 y7
   unfold spec_l6Turn.l1
   repeat' first
   | (with_reducible exact ih0 _ _ _ _ _ _ _)
   | (with_reducible exact ih1 _ _ _ _ _ _ _ _)
   | (with_reducible exact LeO.refl _)
   | (with_reducible exact LeO.none _)
   | (with_reducible refine LeO.ite ?_ ?_)
   | (with_reducible refine LeO.bind ?_ (fun _ => ?_))
   | exact ih0 _ _ _ _ _ _ _
   | exact ih1 _ _ _ _ _ _ _ _
   | exact LeO.none _
   | refine LeO.ite ?_ ?_
   | refine LeO.bind ?_ (fun _ => ?_)
theorem spec_l6Turn.mono : ∀ a0 a1 a2 k, LeO (spec_l6Turn.f k a0 a1 a2) (spec_l6Turn.f (k + 1) a0 a1 a2) := by
 intro a0 a1 a2 k
 obtain ⟨ih0, ih1⟩ := spec_l6Turn.mono_l k
 unfold spec_l6Turn.f
 repeat' first
   | (with_reducible exact ih0 _ _ _ _ _ _ _)
   | (with_reducible exact ih1 _ _ _ _ _ _ _ _)
   | (with_reducible exact LeO.refl _)
   | (with_reducible exact LeO.none _)
   | (with_reducible refine LeO.ite ?_ ?_)
   | (with_reducible refine LeO.bind ?_ (fun _ => ?_))
   | exact ih0 _ _ _ _ _ _ _
   | exact ih1 _ _ _ _ _ _ _ _
   | exact LeO.none _
   | refine LeO.ite ?_ ?_
   | refine LeO.bind ?_ (fun _ => ?_)
def spec_l6Turn.T8 : Bool × List (List Nat × List Nat) := (true, [([], []), ([0], [0]), ([], []), ([2], [2]), ([], []), ([4], [4]), ([5], [5]), ([], []), ([6, 7], [6, 7]), ([], []), ([9], [9]), ([8, 10], [8, 10]), ([], []), ([11, 12], [11, 12]), ([3, 13], [3, 13]), ([14], [14]), ([15], [15]), ([1, 16], [1, 16]), ([0, 1, 2, 3, 4, 5, 6, 7, 8, 9, 10, 11, 12, 13, 14, 15, 16, 17], []), ([18, 17, 17, 0, 1, 2, 3, 4, 5, 6, 7, 8, 9, 10, 11, 12, 13, 14, 15, 16, 17], [17, 18])])
def spec_l6Turn.B8 : List Nat := [0, 1, 0, 4, 0, 16, 48, 0, 240, 0, 512, 2032, 0, 8176, 16380, 32764, 65532, 131071, 262143, 524287]
theorem spec_l6Turn.tab8 : rtab .any (opsOf Try.f83 8) = spec_l6Turn.T8 := by kernel_rfl
theorem spec_l6Turn.bits8 : waitsOk spec_l6Turn.T8.2 spec_l6Turn.B8 = true := by kernel_rfl
set_option maxHeartbeats 8000000 in
set_option maxRecDepth 100000 in
theorem spec_l6Turn.calls (k : Nat) (a0_0 : Int) (a0_1 : Int) (bE : Option Addr) (bD : Nat) (l0_2 : List (S38)) (r1 : Int) (r2 : Int) (r3 : List (S38)) (w : World) (hr0_2 : Kd.C k38 w bE l0_2.length l0_2) (bZ : l0_2.length ≤ bD) (h : spec_l6Turn.f k a0_0 a0_1 l0_2 = some (r1, r2, r3)) :
  Calls Try.prog 83 #[.agg #[.int .i64 a0_0, .int .i64 a0_1, .slice bE l0_2.length bD]] w fun e w' => ∃ eR : Value, e = .returned (.agg #[.int .i64 r1, .int .i64 r2, eR]) ∧ Kd.R k38 38 w' w.heap.size (fun _ => True) eR r3 ∧ Below w.heap.size w w' := by
 have hu25 := Try.underlying25
 have hu38 := Try.underlying38
 have cG := Aside0.mk hr0_2
 have dW := Aside0.mk bZ
 clear hr0_2 bZ
 have HB := Aside0.mk (Below.refl w.heap.size w)
 have H : (spec_l6Turn.l0 k 0 a0_0 a0_1 l0_2 a0_1 a0_0 ([] : List (S38))) = some (r1, r2, r3) := h
 clear h
 have H' := Aside0.mk H
 clear H
 go_enter Try.func83, Try.ntmps83
 go_wp2_with (first | ((with_reducible refine gate_dst (N := 1) rfl ?_); refine box_event rfl (N := 1) rfl (cs := #[.int .i64 a0_0, .int .i64 a0_1, .slice bE l0_2.length bD]) (t := 25) oS ?_; intro aT hg w2 hbox hb; have n_ := o2_ (below_step (oB HB) hb) (o2_ (hbox) (o2_ ((oG hg (below_size (oB HB)) : w.heap.size ≤ aT)) (o1_ ((oG hg (below_size (oB HB)) : w.heap.size ≤ aT))))); clear HB; obtain ⟨HB, aC, dT, dQ⟩ := n_; clear hb hbox hg) | ((with_reducible refine gate_dst (N := 2) rfl ?_); refine box_event rfl (N := 2) rfl (cs := #[.int .i64 0, .int .i64 0, .slice none 0 0]) (t := 25) oS ?_; intro aR hg w3 hbox hb; have n_ := o2_ (blk_below (oP aC) hb) (o2_ (below_step (oB HB) hb) (o2_ (hbox) (o2_ ((oG hg (below_size (oB HB)) : w.heap.size ≤ aR)) (o2_ ((oG hg (below_size (oB HB)) : w.heap.size ≤ aR)) (o2_ ((oL hg (blk_lt (oP aC)))) (o1_ ((oN hg (blk_lt (oP aC)))))))))); clear aC HB; obtain ⟨aC, HB, aG, dU, dR, bB, bC⟩ := n_; clear hb hbox hg; have eS := bB.out; have eV := bC.out; have bF : w3.cell? ⟨aT, 0, none⟩ = some (.int .i64 a0_0) := (blk_cell aC.out 0).trans rfl; have bG : w3.cell? ⟨aT, 1, none⟩ = some (.int .i64 a0_1) := (blk_cell aC.out 1).trans rfl; have bH : w3.cell? ⟨aT, 2, none⟩ = some (.slice bE l0_2.length bD) := (blk_cell aC.out 2).trans rfl; have bL := blk_frozen aC.out 0; have bM := blk_frozen aC.out 1; have bN := blk_frozen aC.out 2) | ((with_reducible refine gate_dst (N := 3) rfl ?_); refine box_event rfl (N := 3) rfl (cs := #[.int .i64 0, .int .i64 0, .slice none 0 0]) (t := 25) oS ?_; intro aH hg w6 hbox hb; have n_ := o2_ (blk_below (oP aC) hb) (o2_ (blk_below (oP aG) hb) (o2_ (below_step (oB HB) hb) (o2_ (hbox) (o2_ ((oG hg (below_size (oB HB)) : w.heap.size ≤ aH)) (o2_ ((oG hg (below_size (oB HB)) : w.heap.size ≤ aH)) (o2_ ((oL hg (blk_lt (oP aC)))) (o2_ ((oN hg (blk_lt (oP aC)))) (o2_ ((oL hg (blk_lt (oP aG)))) (o1_ ((oN hg (blk_lt (oP aG))))))))))))); clear aC aG HB; obtain ⟨aC, aG, HB, aA, dV, dS, aJ, aM, aK, aN⟩ := n_; clear hb hbox hg; have eT := aM.out; have eW := aJ.out; have eU := aN.out; have eX := aK.out; have bI : w6.cell? ⟨aH, 0, none⟩ = some (.int .i64 0) := (blk_cell aA.out 0).trans rfl; have bJ : w6.cell? ⟨aH, 1, none⟩ = some (.int .i64 0) := (blk_cell aA.out 1).trans rfl; have bK : w6.cell? ⟨aH, 2, none⟩ = some (.slice none 0 0) := (blk_cell aA.out 2).trans rfl; have bO := blk_frozen aA.out 0; have bP := blk_frozen aA.out 1; have bQ := blk_frozen aA.out 2))
 go_loopg [4] k (fun kq v4 w' => ∃ (aZ : Int) (aQ : List (S38)) (aE : Value), v4 = .int .i64 aZ ∧ Aside0 (spec_l6Turn.l0 kq aZ a0_0 a0_1 l0_2 a0_1 a0_0 aQ = some (r1, r2, r3)) ∧ Aside0 (kq ≤ k) ∧ Aside0 (Kd.R k38 38 w' w.heap.size (fun _ => True) aE aQ) ∧ Aside0 (w'.heap[aT]? = some (.cells #[.int .i64 a0_0, .int .i64 a0_1, (.slice bE l0_2.length bD)] 25 (0, 0))) ∧ Aside0 (w'.heap[aR]? = some (.cells #[.int .i64 0, .int .i64 0, (.slice none 0 0)] 25 (0, 0))) ∧ Aside0 (w'.heap[aH]? = some (.cells #[.int .i64 a0_1, .int .i64 a0_0, aE] 25 (0, 0))) ∧ Aside0 (Below w.heap.size w w'))
 case atStart => exact ⟨(0), (([] : List (S38))), (.slice none 0 0), oU, H', ⟨Nat.le_refl _⟩, ⟨oZ⟩, ⟨(oP aC)⟩, ⟨(oP aG)⟩, ⟨(blk_put (blk_put (blk_put aA.out 0 _ rfl) 1 _ rfl) 2 _ rfl)⟩, ⟨(oB HB)⟩⟩
 case round =>
  clear H'
  try clear p2
  try clear c4
  try clear c7
  try clear c8
  try clear bF
  try clear bG
  try clear bH
  try clear bI
  try clear bJ
  try clear bK
  try clear bL
  try clear bM
  try clear bN
  try clear bO
  try clear bP
  try clear bQ
  obtain ⟨aZ, aQ, aE, rfl, HA, HK1, aD, aC, aG, aA, HB⟩ := hrel
  cases gk with
  | zero => exact nomatch (show none = some _ from HA.out)
  | succ k1 =>
   have H := HA.out
   clear HA
   simp only [spec_l6Turn.l0] at H
   by_cases cA : aZ < a0_0
   ·rw [if_pos cA] at H
    have bY : decide (aZ < a0_0) = true := decide_eq_true cA
    clear cA
    have H' := Aside0.mk H
    clear H
    have dZ := aM.out
    have eI := aJ.out
    have eA := aN.out
    have eJ := aK.out
    have bR : wr.cell? ⟨aH, 0, none⟩ = some (.int .i64 a0_1) := (blk_cell aA.out 0).trans rfl
    have bS : wr.cell? ⟨aH, 1, none⟩ = some (.int .i64 a0_0) := (blk_cell aA.out 1).trans rfl
    have bT : wr.cell? ⟨aH, 2, none⟩ = some (aE) := (blk_cell aA.out 2).trans rfl
    have bU := blk_frozen aA.out 0
    have bV := blk_frozen aA.out 1
    have bW := blk_frozen aA.out 2
    go_wp2
    go_loopg [5] k1 (fun kq v5 w' => ∃ (bA : Int) (aI : List (S38)) (aE : Value), v5 = .int .i64 bA ∧ Aside0 (spec_l6Turn.l1 kq aZ bA a0_0 a0_1 l0_2 a0_1 a0_0 aI = some (r1, r2, r3)) ∧ Aside0 (kq ≤ k1) ∧ Aside0 (Kd.R k38 38 w' w.heap.size (fun _ => True) aE aI) ∧ Aside0 (w'.heap[aT]? = some (.cells #[.int .i64 a0_0, .int .i64 a0_1, (.slice bE l0_2.length bD)] 25 (0, 0))) ∧ Aside0 (w'.heap[aR]? = some (.cells #[.int .i64 0, .int .i64 0, (.slice none 0 0)] 25 (0, 0))) ∧ Aside0 (w'.heap[aH]? = some (.cells #[.int .i64 a0_1, .int .i64 a0_0, aE] 25 (0, 0))) ∧ Aside0 (Below w.heap.size w w'))
    case atStart => exact ⟨(0), (aQ), (aE), oU, H', ⟨Nat.le_refl _⟩, ⟨(oR aD)⟩, ⟨(oP aC)⟩, ⟨(oP aG)⟩, ⟨(oP aA)⟩, ⟨(oB HB)⟩⟩
    case round =>
     clear H'
     try clear c1
     try clear p2
     try clear c4
     try clear c7
     try clear c8
     try clear cA
     try clear bY
     try clear c11
     try clear c12
     try clear bR
     try clear bS
     try clear bT
     try clear bF
     try clear bG
     try clear bH
     try clear bI
     try clear bJ
     try clear bK
     try clear bU
     try clear bV
     try clear bW
     try clear bL
     try clear bM
     try clear bN
     try clear bO
     try clear bP
     try clear bQ
     try clear p2
     obtain ⟨bA, aI, aE, rfl, HA, HK2, aD, aC, aG, aA, HB⟩ := hrel
     cases gk with
     | zero => exact nomatch (show none = some _ from HA.out)
     | succ k2 =>
      have H := HA.out
      clear HA
      simp only [spec_l6Turn.l1] at H
      by_cases cD : bA < a0_1
      ·rw [if_pos cD] at H
       have cI : decide (bA < a0_1) = true := decide_eq_true cD
       clear cD
       obtain ⟨ji15, hji15⟩ : ∃ j_ : Int, (wrap64 ((wrap64 ((wrap64 ((wrap64 (a0_1 - 1)) - bA)) * a0_0)) + aZ)) = j_ := ⟨_, rfl⟩
       replace H : (if 0 ≤ (ji15) then (if (ji15) < (l0_2.length : Int) then (if aI.length < 4398046511104 then (spec_l6Turn.l1 k2 aZ (wrap64 (bA + 1)) a0_0 a0_1 l0_2 a0_1 a0_0 (aI ++ [(⟨(rd_T38 l0_2 (ji15)).f0, (rd_T38 l0_2 (ji15)).f1, (rd_T38 l0_2 (ji15)).f2, (rd_T38 l0_2 (ji15)).f3⟩ : S38)])) else (none)) else (none)) else (none)) = some (r1, r2, r3) := by first | (rw [hji15] at H; exact H) | (simp only [hji15] at H ⊢; exact H)
       have dP : (IntKind.i64.wrap ((wrap64 ((wrap64 ((wrap64 (a0_1 - 1)) - bA)) * a0_0)) + aZ)) = ji15 := (i64_w _).trans hji15
       by_cases cM : 0 ≤ (ji15)
       ·rw [if_pos cM] at H
        have dX : decide (0 ≤ (ji15)) = true := decide_eq_true cM
        clear cM
        by_cases cN : (ji15) < (l0_2.length : Int)
        ·rw [if_pos cN] at H
         have dY : decide ((ji15) < (l0_2.length : Int)) = true := decide_eq_true cN
         clear cN
         by_cases cO : aI.length < 4398046511104
         ·rw [if_pos cO] at H
          have LMc18 := Aside0.mk cO
          clear cO
          obtain ⟨y343, hy343⟩ : ∃ y_ : List (S38), y_ = (aI ++ [(⟨(rd_T38 l0_2 (ji15)).f0, (rd_T38 l0_2 (ji15)).f1, (rd_T38 l0_2 (ji15)).f2, (rd_T38 l0_2 (ji15)).f3⟩ : S38)]) := ⟨_, rfl⟩
          replace H : (spec_l6Turn.l1 k2 aZ (wrap64 (bA + 1)) a0_0 a0_1 l0_2 a0_1 a0_0 y343) = some (r1, r2, r3) := by first | (rw [hy343]; with_reducible exact H) | (have H2_ := (Option.bind_some _ _).symm.trans H; rw [hy343]; with_reducible exact H2_) | (have H2_ := (Option.bind_some _ _).symm.trans H; with_reducible exact H2_) | with_reducible exact H | (rw [hy343]; exact H) | exact H
          have cH := Aside0.mk hy343
          clear hy343
          have H' := Aside0.mk H
          clear H
          have eB := aM.out
          have eK := aJ.out
          have eC := aN.out
          have eL := aK.out
          have cP : wr.cell? ⟨aH, 0, none⟩ = some (.int .i64 a0_1) := (blk_cell aA.out 0).trans rfl
          have cQ : wr.cell? ⟨aH, 1, none⟩ = some (.int .i64 a0_0) := (blk_cell aA.out 1).trans rfl
          have cR : wr.cell? ⟨aH, 2, none⟩ = some (aE) := (blk_cell aA.out 2).trans rfl
          have dB := blk_frozen aA.out 0
          have dC := blk_frozen aA.out 1
          have dD := blk_frozen aA.out 2
          try go_wp2
          have n_ := o2_ (Kd.R_drew aD.out) (o2_ (blk_drew aC.out) (o2_ (blk_drew aG.out) (o2_ (blk_drew aA.out) (o1_ (below_drew1 HB.out)))))
          clear aD aC aG aA HB
          obtain ⟨aD, aC, aG, aA, HB⟩ := n_
          have cB : 0 ≤ ((ji15) : Int) := of_decide_eq_true oM
          have cC : (ji15) < (l0_2.length : Int) := of_decide_eq_true oM
          obtain ⟨aY, dN, aU, aV, aW, aX⟩ := at_T38 cG.out (ji15) cB cC
          have hw342_3 := aX
          have hw342_2 := aW
          have hw342_1 := aV
          have hw342_0 := aU
          cases dN
          replace aU := (HB.out.cell (World.block_lt_of_cell? w _ aU)).trans aU
          replace aV := (HB.out.cell (World.block_lt_of_cell? w _ aV)).trans aV
          replace aW := (HB.out.cell (World.block_lt_of_cell? w _ aW)).trans aW
          replace aX := (HB.out.cell (World.block_lt_of_cell? w _ aX)).trans aX
          replace cB := eq_true cB
          replace cC := eq_true cC
          refine start_ (n := 20) (S := fun w' => w'.cell? ⟨aH, 0, none⟩ = some (.int .i64 a0_1) ∧ w'.cell? ⟨aH, 1, none⟩ = some (.int .i64 a0_0) ∧ w'.cell? ⟨aH, 2, none⟩ = some (aE) ∧ w'.cell? ⟨aT, 0, none⟩ = some (.int .i64 a0_0) ∧ w'.cell? ⟨aT, 1, none⟩ = some (.int .i64 a0_1) ∧ w'.cell? ⟨aT, 2, none⟩ = some (.slice (some aY) l0_2.length bD) ∧ w'.cell? (aY.add (((ji15)).toNat * 4)) = some (.int .i64 ((rd_T38 l0_2 (ji15)).f0)) ∧ w'.cell? ⟨(aY.add (((ji15)).toNat * 4)).block, (aY.add (((ji15)).toNat * 4)).off + 1, none⟩ = some (.int .i64 ((rd_T38 l0_2 (ji15)).f1)) ∧ w'.cell? ⟨(aY.add (((ji15)).toNat * 4)).block, (aY.add (((ji15)).toNat * 4)).off + 2, none⟩ = some (.int .i64 ((rd_T38 l0_2 (ji15)).f2)) ∧ w'.cell? ⟨(aY.add (((ji15)).toNat * 4)).block, (aY.add (((ji15)).toNat * 4)).off + 3, none⟩ = some (.int .i64 ((rd_T38 l0_2 (ji15)).f3))) (ds := [19]) #[false, false, false, false, false, false, false, false, false, false, false, false, false, false, false, false, false, false, false, false] oK rfl rfl ⟨(blk_cell aA.out 0).trans rfl, (blk_cell aA.out 1).trans rfl, (blk_cell aA.out 2).trans rfl, (blk_cell aC.out 0).trans rfl, (blk_cell aC.out 1).trans rfl, (blk_cell aC.out 2).trans rfl, ((HB.out.cell (World.block_lt_of_cell? w _ hw342_0)).trans hw342_0), ((HB.out.cell (World.block_lt_of_cell? w _ hw342_1)).trans hw342_1), ((HB.out.cell (World.block_lt_of_cell? w _ hw342_2)).trans hw342_2), ((HB.out.cell (World.block_lt_of_cell? w _ hw342_3)).trans hw342_3)⟩ (fun hHeld => ?_); refine with_tabW spec_l6Turn.tab8 spec_l6Turn.bits8 (fun HT_ HW_ => ?_)
          generalize wr.drew = fA at aD aC aG aA HB aU aV aW aX hHeld ⊢
          refine pure_ (i := 0) (N := some 23) (v := ?_) (a' := ?_) #[true, false, false, false, false, false, false, false, false, false, false, false, false, false, false, false, false, false, false, false] rfl rfl (any_of HT_.out oK) (fun _ _ _ h => h) (Or.inl ⟨by rfl, ?_⟩) ?_ ?_
          rotate_left
          ·intro w'
           go_simp
           with_reducible rfl
          rotate_left
          ·exact oT
          refine pure_ (i := 2) (N := some 25) (v := ?_) (a' := ?_) #[true, false, true, false, false, false, false, false, false, false, false, false, false, false, false, false, false, false, false, false] rfl rfl (any_of HT_.out oK) (fun _ _ _ h => h) (Or.inl ⟨by rfl, ?_⟩) ?_ ?_
          rotate_left
          ·intro w'
           go_simp
           with_reducible rfl
          rotate_left
          ·exact oT
          refine pure_ (i := 4) (N := some 27) (v := ?_) (a' := ?_) #[true, false, true, false, true, false, false, false, false, false, false, false, false, false, false, false, false, false, false, false] rfl rfl (any_of HT_.out oK) (fun _ _ _ h => h) (Or.inl ⟨by rfl, ?_⟩) ?_ ?_
          rotate_left
          ·intro w'
           go_simp
           with_reducible rfl
          rotate_left
          ·exact oT
          refine pure_ (i := 7) (N := some 30) (v := ?_) (a' := ?_) #[true, false, true, false, true, false, false, true, false, false, false, false, false, false, false, false, false, false, false, false] rfl rfl (any_of HT_.out oK) (fun _ _ _ h => h) (Or.inl ⟨by rfl, ?_⟩) ?_ ?_
          rotate_left
          ·intro w'
           go_simp
           with_reducible rfl
          rotate_left
          ·exact oT
          refine pure_ (i := 9) (N := some 32) (v := ?_) (a' := ?_) #[true, false, true, false, true, false, false, true, false, true, false, false, false, false, false, false, false, false, false, false] rfl rfl (any_of HT_.out oK) (fun _ _ _ h => h) (Or.inl ⟨by rfl, ?_⟩) ?_ ?_
          rotate_left
          ·intro w'
           go_simp
           with_reducible rfl
          rotate_left
          ·exact oT
          refine pure_ (i := 12) (N := some 35) (v := ?_) (a' := ?_) #[true, false, true, false, true, false, false, true, false, true, false, false, true, false, false, false, false, false, false, false] rfl rfl (any_of HT_.out oK) (fun _ _ _ h => h) (Or.inl ⟨by rfl, ?_⟩) ?_ ?_
          rotate_left
          ·intro w'
           go_simp
           with_reducible rfl
          rotate_left
          ·exact oT
          refine take_ (i := 1) (N := some 24) (v := ?_) (a' := ?_) #[true, true, true, false, true, false, false, true, false, true, false, false, true, false, false, false, false, false, false, false] rfl rfl (take_ofW HT_.out HW_.out oK) (fun _ _ _ h => h) (Or.inl ⟨by rfl, ?_⟩) hHeld ?_ ?_
          rotate_left
          ·rintro w' ⟨s0, s1, s2, s3, s4, s5, s6, s7, s8, s9⟩
           go_simp
           with_reducible rfl
          rotate_left
          ·exact oT
          refine take_ (i := 3) (N := some 26) (v := ?_) (a' := ?_) #[true, true, true, true, true, false, false, true, false, true, false, false, true, false, false, false, false, false, false, false] rfl rfl (take_ofW HT_.out HW_.out oK) (fun _ _ _ h => h) (Or.inl ⟨by rfl, ?_⟩) hHeld ?_ ?_
          rotate_left
          ·rintro w' ⟨s0, s1, s2, s3, s4, s5, s6, s7, s8, s9⟩
           go_simp
           with_reducible rfl
          rotate_left
          ·exact oT
          refine take_ (i := 5) (N := some 28) (v := ?_) (a' := ?_) #[true, true, true, true, true, true, false, true, false, true, false, false, true, false, false, false, false, false, false, false] rfl rfl (take_ofW HT_.out HW_.out oK) (fun _ _ _ h => h) (Or.inl ⟨by rfl, ?_⟩) hHeld ?_ ?_
          rotate_left
          ·rintro w' ⟨s0, s1, s2, s3, s4, s5, s6, s7, s8, s9⟩
           go_simp
           with_reducible rfl
          rotate_left
          ·exact oT
          refine pure_ (i := 6) (N := some 29) (v := ?_) (a' := ?_) #[true, true, true, true, true, true, true, true, false, true, false, false, true, false, false, false, false, false, false, false] rfl rfl (any_of HT_.out oK) (fun _ _ _ h => h) (Or.inl ⟨by rfl, ?_⟩) ?_ ?_
          rotate_left
          ·intro w'
           go_simp
           with_reducible rfl
          rotate_left
          ·exact oT
          refine pure_ (i := 8) (N := some 31) (v := ?_) (a' := ?_) #[true, true, true, true, true, true, true, true, true, true, false, false, true, false, false, false, false, false, false, false] rfl rfl (any_of HT_.out oK) (fun _ _ _ h => h) (Or.inl ⟨by rfl, ?_⟩) ?_ ?_
          rotate_left
          ·intro w'
           go_simp
           with_reducible rfl
          rotate_left
          ·exact oT
          refine take_ (i := 10) (N := some 33) (v := ?_) (a' := ?_) #[true, true, true, true, true, true, true, true, true, true, true, false, true, false, false, false, false, false, false, false] rfl rfl (take_ofW HT_.out HW_.out oK) (fun _ _ _ h => h) (Or.inl ⟨by rfl, ?_⟩) hHeld ?_ ?_
          rotate_left
          ·rintro w' ⟨s0, s1, s2, s3, s4, s5, s6, s7, s8, s9⟩
           go_simp
           with_reducible rfl
          rotate_left
          ·exact oT
          refine pure_ (i := 11) (N := some 34) (v := ?_) (a' := ?_) #[true, true, true, true, true, true, true, true, true, true, true, true, true, false, false, false, false, false, false, false] rfl rfl (any_of HT_.out oK) (fun _ _ _ h => h) (Or.inl ⟨by rfl, ?_⟩) ?_ ?_
          rotate_left
          ·intro w'
           go_simp
           with_reducible rfl
          rotate_left
          ·exact oT
          refine pure_ (i := 13) (N := some 36) (v := ?_) (a' := ?_) #[true, true, true, true, true, true, true, true, true, true, true, true, true, true, false, false, false, false, false, false] rfl rfl (any_of HT_.out oK) (fun _ _ _ h => h) (Or.inl ⟨by rfl, ?_⟩) ?_ ?_
          rotate_left
          ·intro w'
           go_simp
           with_reducible rfl
          rotate_left
          ·exact oT
          refine pure_ (i := 14) (N := some 37) (v := ?_) (a' := ?_) #[true, true, true, true, true, true, true, true, true, true, true, true, true, true, true, false, false, false, false, false] rfl rfl (any_of HT_.out oK) (fun _ _ _ h => h) (Or.inl ⟨by rfl, ?_⟩) ?_ ?_
          rotate_left
          ·intro w'
           go_simp
           with_reducible rfl
          rotate_left
          ·exact oT
          refine take_ (i := 15) (N := some 38) (v := ?_) (a' := ?_) #[true, true, true, true, true, true, true, true, true, true, true, true, true, true, true, true, false, false, false, false] rfl rfl (take_ofW HT_.out HW_.out oK) (fun _ _ _ h => h) (Or.inl ⟨by rfl, ?_⟩) hHeld ?_ ?_
          rotate_left
          ·rintro w' ⟨s0, s1, s2, s3, s4, s5, s6, s7, s8, s9⟩
           go_simp
           with_reducible rfl
          rotate_left
          ·exact oT
          refine one_ (i := 16) (N := some 39) #[true, true, true, true, true, true, true, true, true, true, true, true, true, true, true, true, true, false, false, false] rfl rfl (one_of HT_.out oK) oD (fun K hK => ?_)
          refine value_ (w1 := ?_) (v := ?_) (by rfl) rfl ?_ ?_
          rotate_left 2
          ·go_simp
           constructor
           ·rfl
           ·rfl
          refine hK.out _ _ ⟨(blk_cell (blk_alloc aA.out _) 0).trans rfl, (blk_cell (blk_alloc aA.out _) 1).trans rfl, (blk_cell (blk_alloc aA.out _) 2).trans rfl, (blk_cell (blk_alloc aC.out _) 0).trans rfl, (blk_cell (blk_alloc aC.out _) 1).trans rfl, (blk_cell (blk_alloc aC.out _) 2).trans rfl, (World.cell?_alloc_lt _ _ _ (World.block_lt_of_cell? _ _ (((HB.out.cell (World.block_lt_of_cell? w _ hw342_0)).trans hw342_0)))).trans (((HB.out.cell (World.block_lt_of_cell? w _ hw342_0)).trans hw342_0)), (World.cell?_alloc_lt _ _ _ (World.block_lt_of_cell? _ _ (((HB.out.cell (World.block_lt_of_cell? w _ hw342_1)).trans hw342_1)))).trans (((HB.out.cell (World.block_lt_of_cell? w _ hw342_1)).trans hw342_1)), (World.cell?_alloc_lt _ _ _ (World.block_lt_of_cell? _ _ (((HB.out.cell (World.block_lt_of_cell? w _ hw342_2)).trans hw342_2)))).trans (((HB.out.cell (World.block_lt_of_cell? w _ hw342_2)).trans hw342_2)), (World.cell?_alloc_lt _ _ _ (World.block_lt_of_cell? _ _ (((HB.out.cell (World.block_lt_of_cell? w _ hw342_3)).trans hw342_3)))).trans (((HB.out.cell (World.block_lt_of_cell? w _ hw342_3)).trans hw342_3))⟩ (fun hHeld => ?_)
          clear hK K
          refine norm_ (a' := ?_) ?_ ?_
          rotate_left
          ·show Act.put _ (some 39) _ = _
           exact oT
          refine one_ (i := 17) (N := some 40) #[true, true, true, true, true, true, true, true, true, true, true, true, true, true, true, true, true, true, false, false] rfl rfl (one_of HT_.out oK) oD (fun K hK => ?_)
          refine Kd.R_append_step k38 (w0 := w) w.heap.size (by rfl) (.tmp 24) (.tmp 39) 23 38 (.agg #[(.int .i64 0), (.int .i64 0), (.int .i64 0), (.int .i64 0)]) 32 rfl Try.underlying23 info38 rfl oD (by omega) aE aI (⟨(rd_T38 l0_2 (ji15)).f0, (rd_T38 l0_2 (ji15)).f1, (rd_T38 l0_2 (ji15)).f2, (rd_T38 l0_2 (ji15)).f3⟩ : S38) [.int .i64 ((rd_T38 l0_2 (ji15)).f0), .int .i64 ((rd_T38 l0_2 (ji15)).f1), .int .i64 ((rd_T38 l0_2 (ji15)).f2), .int .i64 ((rd_T38 l0_2 (ji15)).f3)] (fun _ => True) (fun _ => False) rfl rfl ?aP (fun _ hk => hk.elim) ?aF ?aO ?aB ?aS ?aL ?_
          (case aP => exact k38_mkM _ _ _ (⟨(rd_T38 l0_2 (ji15)).f0, (rd_T38 l0_2 (ji15)).f1, (rd_T38 l0_2 (ji15)).f2, (rd_T38 l0_2 (ji15)).f3⟩ : S38))
          (case aB => exact (oB HB))
          (case aF => exact (fun _ _ => trivial))
          (case aO => exact (oR aD))
          (case aS => exact (below_size (oB HB)))
          (case aL => have := LMc18.out; omega)
          intro eY eZ ho hb hg hat
          rw [← cH.out] at ho
          have n_ := o2_ (blk_grown (oP aC) hg (Kd.R_ne aD.out aC.out oD)) (o2_ (blk_grown (oP aG) hg (Kd.R_ne aD.out aG.out oD)) (o2_ (blk_grown (oP aA) hg (Kd.R_ne aD.out aA.out oD)) (o2_ (hb) (o1_ (ho)))))
          clear aC aG aA HB aD
          obtain ⟨aC, aG, aA, HB, bX⟩ := n_
          clear ho hb hg hat
          obtain ⟨cE, cJ, cL⟩ := Kd.R_slice bX.out
          (first | subst cL | (injection cL with f1_ f2_ f3_; have f4_ := f1_.symm; have f5_ := f3_.symm; clear f1_ f2_ f3_; subst f4_; subst f5_))
          refine hK.out _ _ ⟨(blk_cell aA.out 0).trans rfl, (blk_cell aA.out 1).trans rfl, (blk_cell aA.out 2).trans rfl, (blk_cell aC.out 0).trans rfl, (blk_cell aC.out 1).trans rfl, (blk_cell aC.out 2).trans rfl, ((HB.out.cell (World.block_lt_of_cell? w _ hw342_0)).trans hw342_0), ((HB.out.cell (World.block_lt_of_cell? w _ hw342_1)).trans hw342_1), ((HB.out.cell (World.block_lt_of_cell? w _ hw342_2)).trans hw342_2), ((HB.out.cell (World.block_lt_of_cell? w _ hw342_3)).trans hw342_3)⟩ (fun hHeld => ?_)
          clear hK K
          refine norm_ (a' := ?_) ?_ ?_
          rotate_left
          ·show Act.put _ (some 40) _ = _
           exact oT
          refine pure_ (i := 18) (N := some 41) (v := ?_) (a' := ?_) #[true, true, true, true, true, true, true, true, true, true, true, true, true, true, true, true, true, true, true, false] rfl rfl (any_of HT_.out oK) (fun _ _ _ h => h) (Or.inl ⟨by rfl, ?_⟩) ?_ ?_
          rotate_left
          ·intro w'
           go_simp
           with_reducible rfl
          rotate_left
          ·exact oT
          refine last_ (i := 19) (N := none) #[true, true, true, true, true, true, true, true, true, true, true, true, true, true, true, true, true, true, true, true] rfl rfl (one_of HT_.out oK) oD (fun K hK => ?_)
          have hs25 : eZ.cell? ⟨aH, 2, none⟩ = some (aE) := (blk_cell aA.out 2).trans rfl
          have hfs25 := blk_frozen aA.out 2
          have hns25_0 := aJ.out
          have hns25_1 := aK.out
          have hms25_0 := aM.out
          have hms25_1 := aN.out
          refine skip_ (w1 := ?_) (by rfl) rfl ?_ ?_
          rotate_left
          ·go_simp
           rfl
          refine hK.out _ _ ?_
          clear hK K
          refine done_ (done_of HT_.out oK) ?_
          try go_wp2
          go_roundg k2
          case measure => have := HK1.out; have := HK2.out; omega
          case rel => exact ⟨(wrap64 (bA + 1)), (y343), (.slice cE y343.length cJ), oU, H', ⟨(by have := HK1.out; have := HK2.out; omega)⟩, ⟨(by (with_reducible repeat (first | apply Kd.R_alloc | apply Kd.R_drewN | apply Kd.R_drew)); exact Kd.R_mono (Kd.R_far (p := ⟨aH, 2, none⟩) (Kd.R_types bX.out aA.out oD) (fun _ hk => hk.2) (.slice cE y343.length cJ)) (fun _ hk => trivial))⟩, ⟨(oP aC)⟩, ⟨(oP aG)⟩, ⟨(blk_put aA.out 2 _ rfl)⟩, ⟨(oB HB)⟩⟩
         ·rw [if_neg cO] at H
          exact absurd H (by simp)
        ·rw [if_neg cN] at H
         exact absurd H (by simp)
       ·rw [if_neg cM] at H
        exact absurd H (by simp)
      ·rw [if_neg cD] at H
       have cI : decide (bA < a0_1) = false := decide_eq_false cD
       clear cD
       have H' := Aside0.mk H
       clear H
       have eD := aM.out
       have eM := aJ.out
       have eE := aN.out
       have eN := aK.out
       have cS : wr.cell? ⟨aH, 0, none⟩ = some (.int .i64 a0_1) := (blk_cell aA.out 0).trans rfl
       have cT : wr.cell? ⟨aH, 1, none⟩ = some (.int .i64 a0_0) := (blk_cell aA.out 1).trans rfl
       have cU : wr.cell? ⟨aH, 2, none⟩ = some (aE) := (blk_cell aA.out 2).trans rfl
       have dE := blk_frozen aA.out 0
       have dF := blk_frozen aA.out 1
       have dG := blk_frozen aA.out 2
       go_wp2
       go_roundg k2
       case measure => have := HK1.out; have := HK2.out; omega
       case rel => exact ⟨(wrap64 (aZ + 1)), (aI), (aE), oU, H', ⟨(by have := HK1.out; have := HK2.out; omega)⟩, ⟨(oR aD)⟩, ⟨(oP aC)⟩, ⟨(oP aG)⟩, ⟨(oP aA)⟩, ⟨(oB HB)⟩⟩
   ·rw [if_neg cA] at H
    have bY : decide (aZ < a0_0) = false := decide_eq_false cA
    clear cA
    simp only [Option.some.injEq, Prod.mk.injEq] at H
    obtain ⟨rfl, rfl, rfl⟩ := H
    have eF := aM.out
    have eO := aJ.out
    have eG := aN.out
    have eP := aK.out
    have cV : wr.cell? ⟨aH, 0, none⟩ = some (.int .i64 a0_1) := (blk_cell aA.out 0).trans rfl
    have cW : wr.cell? ⟨aH, 1, none⟩ = some (.int .i64 a0_0) := (blk_cell aA.out 1).trans rfl
    have cX : wr.cell? ⟨aH, 2, none⟩ = some (aE) := (blk_cell aA.out 2).trans rfl
    have dH := blk_frozen aA.out 0
    have dI := blk_frozen aA.out 1
    have dJ := blk_frozen aA.out 2
    have eH := bC.out
    have eQ := bB.out
    have cY : wr.cell? ⟨aR, 0, none⟩ = some (.int .i64 0) := (blk_cell aG.out 0).trans rfl
    have cZ : wr.cell? ⟨aR, 1, none⟩ = some (.int .i64 0) := (blk_cell aG.out 1).trans rfl
    have dA : wr.cell? ⟨aR, 2, none⟩ = some (.slice none 0 0) := (blk_cell aG.out 2).trans rfl
    have dK := blk_frozen aG.out 0
    have dL := blk_frozen aG.out 1
    have dM := blk_frozen aG.out 2
    obtain ⟨cF, cK, dO⟩ := Kd.R_slice aD.out
    subst dO
    go_wp2
    refine bodyPost_ret (results_cell_row rfl _ _ aR 25 #[.int .i64 a0_1, .int .i64 a0_0, .slice cF aQ.length cK] (0, 0) _ rfl (blk_put (blk_put (blk_put aG.out 0 _ rfl) 1 _ rfl) 2 _ rfl) Try.underlying25 rfl oK) rfl ?_
    exact ⟨_, by first | rfl | (simp [errW_none, errW_some] <;> rfl) | (simp [*, errW_none, errW_some] <;> rfl), by (with_reducible repeat (first | apply Kd.R_alloc | apply Kd.R_drewN | apply Kd.R_drew)); exact Kd.R_mono (Kd.R_far (p := ⟨aR, 2, none⟩) (Kd.R_far (p := ⟨aR, 1, none⟩) (Kd.R_far (p := ⟨aR, 0, none⟩) (Kd.R_types aD.out aG.out oD) (fun _ hk => hk.2) (.int .i64 a0_1)) (fun _ hk => hk.2) (.int .i64 a0_0)) (fun _ hk => hk.2) (.slice cF aQ.length cK)) (fun _ hk => trivial), oB HB⟩

end Go.Proofs.Ythnmeogafklhnaa.X
