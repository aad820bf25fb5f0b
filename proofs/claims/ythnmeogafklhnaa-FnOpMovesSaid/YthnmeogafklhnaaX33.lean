/- What functions of the program come to, each with its proof. No condition but what each theorem states. -/
import Derived.Test.YthnmeogafklhnaaX0
namespace Go.Proofs.Ythnmeogafklhnaa.X
open Go.RowKit Go.Proofs.YthnmeogafklhnaaW.PrintWords Go.Proofs.YthnmeogafklhnaaW.PrintLast Go.Proofs.YthnmeogafklhnaaW.PrintMore Go.Proofs.Ythnmeogafklhnaa.Hyb
attribute [local go_sem] max2_int min2_int max_two min_two max_three min_three max_four min_four
set_option linter.unusedVariables false
set_option linter.unusedSimpArgs false

/-! ### spec_l6Crop: function 80 -/
mutual
def spec_l6Crop.l0 : Nat → Int → Int → Int → List (S38) → Int → Int → Int → Int → Int → Int → Int → List (S38) → Option (Int × Int × (List (S38)))
 | 0, _, _, _, _, _, _, _, _, _, _, _, _ => none
 | k + 1, x6, x315000, x315001, x315002, x316000, x316001, x316002, x316003, x316004, x318000, x318001, x318002 => if x6 < x316004 then (spec_l6Crop.l1 k x6 0 x315000 x315001 x315002 x316000 x316001 x316002 x316003 x316004 x318000 x318001 x318002) else (some (x318000, x318001, x318002))
def spec_l6Crop.l1 : Nat → Int → Int → Int → Int → List (S38) → Int → Int → Int → Int → Int → Int → Int → List (S38) → Option (Int × Int × (List (S38)))
 | 0, _, _, _, _, _, _, _, _, _, _, _, _, _ => none
 | k + 1, x6, x7, x315000, x315001, x315002, x316000, x316001, x316002, x316003, x316004, x318000, x318001, x318002 => if x7 < x316003 then (if 0 ≤ (wrap64 ((wrap64 ((wrap64 ((wrap64 (x316002 + x6)) * x315000)) + x316001)) + x7)) then (if (wrap64 ((wrap64 ((wrap64 ((wrap64 (x316002 + x6)) * x315000)) + x316001)) + x7)) < (x315002.length : Int) then (if x318002.length < 4398046511104 then (spec_l6Crop.l1 k x6 (wrap64 (x7 + 1)) x315000 x315001 x315002 x316000 x316001 x316002 x316003 x316004 x318000 x318001 (x318002 ++ [(⟨(rd_T38 x315002 (wrap64 ((wrap64 ((wrap64 ((wrap64 (x316002 + x6)) * x315000)) + x316001)) + x7))).f0, (rd_T38 x315002 (wrap64 ((wrap64 ((wrap64 ((wrap64 (x316002 + x6)) * x315000)) + x316001)) + x7))).f1, (rd_T38 x315002 (wrap64 ((wrap64 ((wrap64 ((wrap64 (x316002 + x6)) * x315000)) + x316001)) + x7))).f2, (rd_T38 x315002 (wrap64 ((wrap64 ((wrap64 ((wrap64 (x316002 + x6)) * x315000)) + x316001)) + x7))).f3⟩ : S38)])) else (none)) else (none)) else (none)) else (spec_l6Crop.l0 k (wrap64 (x6 + 1)) x315000 x315001 x315002 x316000 x316001 x316002 x316003 x316004 x318000 x318001 x318002)
end
def spec_l6Crop.f (k : Nat) (a0_0 : Int) (a0_1 : Int) (l0_2 : List (S38)) (a1_0 : Int) (a1_1 : Int) (a1_2 : Int) (a1_3 : Int) (a1_4 : Int) : Option (Int × Int × (List (S38))) := spec_l6Crop.l0 k 0 a0_0 a0_1 l0_2 a1_0 a1_1 a1_2 a1_3 a1_4 a1_3 a1_4 ([] : List (S38))
theorem spec_l6Crop.mono_l : ∀ k, (∀ y0 y1 y2 y3 y4 y5 y6 y7 y8 y9 cT cU, LeO (spec_l6Crop.l0 k y0 y1 y2 y3 y4 y5 y6 y7 y8 y9 cT cU) (spec_l6Crop.l0 (k + 1) y0 y1 y2 y3 y4 y5 y6 y7 y8 y9 cT cU)) ∧ (∀ y0 y1 y2 y3 y4 y5 y6 y7 y8 y9 cT cU fA, LeO (spec_l6Crop.l1 k y0 y1 y2 y3 y4 y5 y6 y7 y8 y9 cT cU fA) (spec_l6Crop.l1 (k + 1) y0 y1 y2 y3 y4 y5 y6 y7 y8 y9 cT cU fA))
 | 0 => ⟨(fun _ _ _ _ _ _ _ _ _ _ _ _ r h => nomatch (show none = some r from h)), (fun _ _ _ _ _ _ _ _ _ _ _ _ _ r h => nomatch (show none = some r from h))⟩
 | k + 1 => by
  obtain ⟨ih0, ih1⟩ := spec_l6Crop.mono_l k
  refine ⟨?_, ?_⟩
  ·intro y0 y1 y2 y3 y4 y5 y6 y7 y8 y9 cT cU
   unfold spec_l6Crop.l0
   repeat' first
   | (with_reducible exact ih0 _ _ _ _ _ _ _ _ _ _ _ _)
   | (with_reducible exact ih1 _ _ _ _ _ _ _ _ _ _ _ _ _)
   | (with_reducible exact LeO.refl _)
   | (with_reducible exact LeO.none _)
   | (with_reducible refine LeO.ite ?_ ?_)
   | (with_reducible refine LeO.bind ?_ (fun _ => ?_))
   | exact ih0 _ _ _ _ _ _ _ _ _ _ _ _
   | exact ih1 _ _ _ _ _ _ _ _ _ _ _ _ _
   | exact LeO.none _
   | refine LeO.ite ?_ ?_
   | refine LeO.bind ?_ (fun _ => ?_)
  ·intro y0 y1 y2 y3 y4 y5 y6 y7 y8 y9 cT cU fA
   unfold spec_l6Crop.l1
   repeat' first
   | (with_reducible exact ih0 _ _ _ _ _ _ _ _ _ _ _ _)
   | (with_reducible exact ih1 _ _ _ _ _ _ _ _ _ _ _ _ _)
   | (with_reducible exact LeO.refl _)
   | (with_reducible exact LeO.none _)
   | (with_reducible refine LeO.ite ?_ ?_)
   | (with_reducible refine LeO.bind ?_ (fun _ => ?_))
   | exact ih0 _ _ _ _ _ _ _ _ _ _ _ _
   | exact ih1 _ _ _ _ _ _ _ _ _ _ _ _ _
   | exact LeO.none _
   | refine LeO.ite ?_ ?_
   | refine LeO.bind ?_ (fun _ => ?_)
theorem spec_l6Crop.mono : ∀ a0 a1 a2 a3 a4 a5 a6 a7 k, LeO (spec_l6Crop.f k a0 a1 a2 a3 a4 a5 a6 a7) (spec_l6Crop.f (k + 1) a0 a1 a2 a3 a4 a5 a6 a7) := by
 intro a0 a1 a2 a3 a4 a5 a6 a7 k
 obtain ⟨ih0, ih1⟩ := spec_l6Crop.mono_l k
 unfold spec_l6Crop.f
 repeat' first
   | (with_reducible exact ih0 _ _ _ _ _ _ _ _ _ _ _ _)
   | (with_reducible exact ih1 _ _ _ _ _ _ _ _ _ _ _ _ _)
   | (with_reducible exact LeO.refl _)
   | (with_reducible exact LeO.none _)
   | (with_reducible refine LeO.ite ?_ ?_)
   | (with_reducible refine LeO.bind ?_ (fun _ => ?_))
   | exact ih0 _ _ _ _ _ _ _ _ _ _ _ _
   | exact ih1 _ _ _ _ _ _ _ _ _ _ _ _ _
   | exact LeO.none _
   | refine LeO.ite ?_ ?_
   | refine LeO.bind ?_ (fun _ => ?_)
def spec_l6Crop.T8 : Bool × List (List Nat × List Nat) := (true, [([], []), ([0], [0]), ([], []), ([2], [2]), ([], []), ([4], [4]), ([], []), ([5, 6], [5, 6]), ([], []), ([8], [8]), ([7, 9], [7, 9]), ([], []), ([11], [11]), ([10, 12], [10, 12]), ([], []), ([13, 14], [13, 14]), ([3, 15], [3, 15]), ([16], [16]), ([17], [17]), ([1, 18], [1, 18]), ([0, 1, 2, 3, 4, 5, 6, 7, 8, 9, 10, 11, 12, 13, 14, 15, 16, 17, 18, 19], []), ([20, 19, 19, 0, 1, 2, 3, 4, 5, 6, 7, 8, 9, 10, 11, 12, 13, 14, 15, 16, 17, 18, 19], [19, 20])])
def spec_l6Crop.B8 : List Nat := [0, 1, 0, 4, 0, 16, 0, 112, 0, 256, 1008, 0, 2048, 8176, 0, 32752, 65532, 131068, 262140, 524287, 1048575, 2097151]
theorem spec_l6Crop.tab8 : rtab .any (opsOf Try.f80 8) = spec_l6Crop.T8 := by kernel_rfl
theorem spec_l6Crop.bits8 : waitsOk spec_l6Crop.T8.2 spec_l6Crop.B8 = true := by kernel_rfl
set_option maxHeartbeats 8000000 in
set_option maxRecDepth 100000 in
theorem spec_l6Crop.calls (k : Nat) (a0_0 : Int) (a0_1 : Int) (bS : Option Addr) (bR : Nat) (l0_2 : List (S38)) (a1_0 : Int) (a1_1 : Int) (a1_2 : Int) (a1_3 : Int) (a1_4 : Int) (r1 : Int) (r2 : Int) (r3 : List (S38)) (w : World) (hr0_2 : Kd.C k38 w bS l0_2.length l0_2) (cP : l0_2.length ≤ bR) (h : spec_l6Crop.f k a0_0 a0_1 l0_2 a1_0 a1_1 a1_2 a1_3 a1_4 = some (r1, r2, r3)) :
  Calls Try.prog 80 #[.agg #[.int .i64 a0_0, .int .i64 a0_1, .slice bS l0_2.length bR], .agg #[.int .i64 a1_0, .int .i64 a1_1, .int .i64 a1_2, .int .i64 a1_3, .int .i64 a1_4]] w fun e w' => ∃ gW : Value, e = .returned (.agg #[.int .i64 r1, .int .i64 r2, gW]) ∧ Kd.R k38 38 w' w.heap.size (fun _ => True) gW r3 ∧ Below w.heap.size w w' := by
 have hu25 := Try.underlying25
 have hu27 := Try.underlying27
 have hu38 := Try.underlying38
 have cY := Aside0.mk hr0_2
 have fJ := Aside0.mk cP
 clear hr0_2 cP
 have HB := Aside0.mk (Below.refl w.heap.size w)
 have H : (spec_l6Crop.l0 k 0 a0_0 a0_1 l0_2 a1_0 a1_1 a1_2 a1_3 a1_4 a1_3 a1_4 ([] : List (S38))) = some (r1, r2, r3) := h
 clear h
 have H' := Aside0.mk H
 clear H
 go_enter Try.func80, Try.ntmps80
 go_wp2_with (first | ((with_reducible refine gate_dst (N := 2) rfl ?_); refine box_event rfl (N := 2) rfl (cs := #[.int .i64 a0_0, .int .i64 a0_1, .slice bS l0_2.length bR]) (t := 25) oS ?_; intro bH hg w3 hbox hb; have n_ := o2_ (below_step (oB HB) hb) (o2_ (hbox) (o2_ ((oG hg (below_size (oB HB)) : w.heap.size ≤ bH)) (o1_ ((oG hg (below_size (oB HB)) : w.heap.size ≤ bH))))); clear HB; obtain ⟨HB, aC, fF, fB⟩ := n_; clear hb hbox hg) | ((with_reducible refine gate_dst (N := 3) rfl ?_); refine box_event rfl (N := 3) rfl (cs := #[.int .i64 a1_0, .int .i64 a1_1, .int .i64 a1_2, .int .i64 a1_3, .int .i64 a1_4]) (t := 27) oS ?_; intro aG hg w4 hbox hb; have n_ := o2_ (blk_below (oP aC) hb) (o2_ (below_step (oB HB) hb) (o2_ (hbox) (o2_ ((oG hg (below_size (oB HB)) : w.heap.size ≤ aG)) (o2_ ((oG hg (below_size (oB HB)) : w.heap.size ≤ aG)) (o2_ ((oL hg (blk_lt (oP aC)))) (o1_ ((oN hg (blk_lt (oP aC)))))))))); clear aC HB; obtain ⟨aC, HB, aA, fG, fC, aR, aT⟩ := n_; clear hb hbox hg) | ((with_reducible refine gate_dst (N := 4) rfl ?_); refine box_event rfl (N := 4) rfl (cs := #[.int .i64 0, .int .i64 0, .slice none 0 0]) (t := 25) oS ?_; intro aW hg w5 hbox hb; have n_ := o2_ (blk_below (oP aC) hb) (o2_ (blk_below (oP aA) hb) (o2_ (below_step (oB HB) hb) (o2_ (hbox) (o2_ ((oG hg (below_size (oB HB)) : w.heap.size ≤ aW)) (o2_ ((oG hg (below_size (oB HB)) : w.heap.size ≤ aW)) (o2_ ((oL hg (blk_lt (oP aC)))) (o2_ ((oN hg (blk_lt (oP aC)))) (o2_ ((oL hg (blk_lt (oP aA)))) (o1_ ((oN hg (blk_lt (oP aA))))))))))))); clear aC aA HB; obtain ⟨aC, aA, HB, aH, fH, fD, bP, bQ, aU, aV⟩ := n_; clear hb hbox hg; have gX := aT.out; have gZ := aR.out; have gY := aU.out; have hA := aV.out; have bT : w5.cell? ⟨aG, 0, none⟩ = some (.int .i64 a1_0) := (blk_cell aA.out 0).trans rfl; have bU : w5.cell? ⟨aG, 1, none⟩ = some (.int .i64 a1_1) := (blk_cell aA.out 1).trans rfl; have bV : w5.cell? ⟨aG, 2, none⟩ = some (.int .i64 a1_2) := (blk_cell aA.out 2).trans rfl; have bW : w5.cell? ⟨aG, 3, none⟩ = some (.int .i64 a1_3) := (blk_cell aA.out 3).trans rfl; have bX : w5.cell? ⟨aG, 4, none⟩ = some (.int .i64 a1_4) := (blk_cell aA.out 4).trans rfl; have bY := blk_frozen aA.out 0; have bZ := blk_frozen aA.out 1; have cA := blk_frozen aA.out 2; have cB := blk_frozen aA.out 3; have cC := blk_frozen aA.out 4) | ((with_reducible refine gate_dst (N := 5) rfl ?_); refine box_event rfl (N := 5) rfl (cs := #[.int .i64 0, .int .i64 0, .slice none 0 0]) (t := 25) oS ?_; intro aQ hg w9 hbox hb; have n_ := o2_ (blk_below (oP aC) hb) (o2_ (blk_below (oP aA) hb) (o2_ (blk_below (oP aH) hb) (o2_ (below_step (oB HB) hb) (o2_ (hbox) (o2_ ((oG hg (below_size (oB HB)) : w.heap.size ≤ aQ)) (o2_ ((oG hg (below_size (oB HB)) : w.heap.size ≤ aQ)) (o2_ ((oL hg (blk_lt (oP aC)))) (o2_ ((oN hg (blk_lt (oP aC)))) (o2_ ((oL hg (blk_lt (oP aA)))) (o2_ ((oN hg (blk_lt (oP aA)))) (o2_ ((oL hg (blk_lt (oP aH)))) (o1_ ((oN hg (blk_lt (oP aH)))))))))))))))); clear aC aA aH HB; obtain ⟨aC, aA, aH, HB, aD, fI, fE, bB, bD, aK, aM, bC, bE⟩ := n_; clear hb hbox hg; have fM := bD.out; have gE := bB.out; have fN := aM.out; have gF := aK.out; have fO := bE.out; have gG := bC.out; have bJ : w9.cell? ⟨aQ, 0, none⟩ = some (.int .i64 0) := (blk_cell aD.out 0).trans rfl; have bK : w9.cell? ⟨aQ, 1, none⟩ = some (.int .i64 0) := (blk_cell aD.out 1).trans rfl; have bL : w9.cell? ⟨aQ, 2, none⟩ = some (.slice none 0 0) := (blk_cell aD.out 2).trans rfl; have bM := blk_frozen aD.out 0; have bN := blk_frozen aD.out 1; have bO := blk_frozen aD.out 2))
 go_loopg [6] k (fun kq v6 w' => ∃ (bG : Int) (aN : List (S38)) (aI : Value), v6 = .int .i64 bG ∧ Aside0 (spec_l6Crop.l0 kq bG a0_0 a0_1 l0_2 a1_0 a1_1 a1_2 a1_3 a1_4 a1_3 a1_4 aN = some (r1, r2, r3)) ∧ Aside0 (kq ≤ k) ∧ Aside0 (Kd.R k38 38 w' w.heap.size (fun _ => True) aI aN) ∧ Aside0 (w'.heap[bH]? = some (.cells #[.int .i64 a0_0, .int .i64 a0_1, (.slice bS l0_2.length bR)] 25 (0, 0))) ∧ Aside0 (w'.heap[aG]? = some (.cells #[.int .i64 a1_0, .int .i64 a1_1, .int .i64 a1_2, .int .i64 a1_3, .int .i64 a1_4] 27 (0, 0))) ∧ Aside0 (w'.heap[aW]? = some (.cells #[.int .i64 0, .int .i64 0, (.slice none 0 0)] 25 (0, 0))) ∧ Aside0 (w'.heap[aQ]? = some (.cells #[.int .i64 a1_3, .int .i64 a1_4, aI] 25 (0, 0))) ∧ Aside0 (Below w.heap.size w w'))
 case atStart => exact ⟨(0), (([] : List (S38))), (.slice none 0 0), oU, H', ⟨Nat.le_refl _⟩, ⟨oZ⟩, ⟨(oP aC)⟩, ⟨(oP aA)⟩, ⟨(oP aH)⟩, ⟨(blk_put (blk_put (blk_put aD.out 0 _ rfl) 1 _ rfl) 2 _ rfl)⟩, ⟨(oB HB)⟩⟩
 case round =>
  clear H'
  try clear c1
  try clear p2
  try clear c6
  try clear c7
  try clear c8
  try clear c10
  try clear c11
  try clear c12
  try clear bJ
  try clear bK
  try clear bL
  try clear bT
  try clear bU
  try clear bV
  try clear bW
  try clear bX
  try clear bM
  try clear bN
  try clear bO
  try clear bY
  try clear bZ
  try clear cA
  try clear cB
  try clear cC
  obtain ⟨bG, aN, aI, rfl, HA, HK1, aE, aC, aA, aH, aD, HB⟩ := hrel
  cases gk with
  | zero => exact nomatch (show none = some _ from HA.out)
  | succ k1 =>
   have H := HA.out
   clear HA
   simp only [spec_l6Crop.l0] at H
   by_cases cQ : bG < a1_4
   ·rw [if_pos cQ] at H
    have cO : decide (bG < a1_4) = true := decide_eq_true cQ
    clear cQ
    have H' := Aside0.mk H
    clear H
    have fP := aT.out
    have gH := aR.out
    have fQ := aU.out
    have gI := aV.out
    have fR := aK.out
    have gJ := aM.out
    have cD : wr.cell? ⟨aG, 0, none⟩ = some (.int .i64 a1_0) := (blk_cell aA.out 0).trans rfl
    have cE : wr.cell? ⟨aG, 1, none⟩ = some (.int .i64 a1_1) := (blk_cell aA.out 1).trans rfl
    have cF : wr.cell? ⟨aG, 2, none⟩ = some (.int .i64 a1_2) := (blk_cell aA.out 2).trans rfl
    have cG : wr.cell? ⟨aG, 3, none⟩ = some (.int .i64 a1_3) := (blk_cell aA.out 3).trans rfl
    have cH : wr.cell? ⟨aG, 4, none⟩ = some (.int .i64 a1_4) := (blk_cell aA.out 4).trans rfl
    have cI := blk_frozen aA.out 0
    have cJ := blk_frozen aA.out 1
    have cK := blk_frozen aA.out 2
    have cL := blk_frozen aA.out 3
    have cM := blk_frozen aA.out 4
    go_wp2
    go_loopg [7] k1 (fun kq v7 w' => ∃ (bI : Int) (aJ : List (S38)) (aI : Value), v7 = .int .i64 bI ∧ Aside0 (spec_l6Crop.l1 kq bG bI a0_0 a0_1 l0_2 a1_0 a1_1 a1_2 a1_3 a1_4 a1_3 a1_4 aJ = some (r1, r2, r3)) ∧ Aside0 (kq ≤ k1) ∧ Aside0 (Kd.R k38 38 w' w.heap.size (fun _ => True) aI aJ) ∧ Aside0 (w'.heap[bH]? = some (.cells #[.int .i64 a0_0, .int .i64 a0_1, (.slice bS l0_2.length bR)] 25 (0, 0))) ∧ Aside0 (w'.heap[aG]? = some (.cells #[.int .i64 a1_0, .int .i64 a1_1, .int .i64 a1_2, .int .i64 a1_3, .int .i64 a1_4] 27 (0, 0))) ∧ Aside0 (w'.heap[aW]? = some (.cells #[.int .i64 0, .int .i64 0, (.slice none 0 0)] 25 (0, 0))) ∧ Aside0 (w'.heap[aQ]? = some (.cells #[.int .i64 a1_3, .int .i64 a1_4, aI] 25 (0, 0))) ∧ Aside0 (Below w.heap.size w w'))
    case atStart => exact ⟨(0), (aN), (aI), oU, H', ⟨Nat.le_refl _⟩, ⟨(oR aE)⟩, ⟨(oP aC)⟩, ⟨(oP aA)⟩, ⟨(oP aH)⟩, ⟨(oP aD)⟩, ⟨(oB HB)⟩⟩
    case round =>
     clear H'
     try clear c1
     try clear p2
     try clear c6
     try clear c7
     try clear c8
     try clear c10
     try clear c11
     try clear c12
     try clear cQ
     try clear cO
     try clear c15
     try clear c16
     try clear c17
     try clear bJ
     try clear bK
     try clear bL
     try clear cD
     try clear cE
     try clear cF
     try clear cG
     try clear cH
     try clear bT
     try clear bU
     try clear bV
     try clear bW
     try clear bX
     try clear bM
     try clear bN
     try clear bO
     try clear cI
     try clear cJ
     try clear cK
     try clear cL
     try clear cM
     try clear bY
     try clear bZ
     try clear cA
     try clear cB
     try clear cC
     try clear p2
     obtain ⟨bI, aJ, aI, rfl, HA, HK2, aE, aC, aA, aH, aD, HB⟩ := hrel
     cases gk with
     | zero => exact nomatch (show none = some _ from HA.out)
     | succ k2 =>
      have H := HA.out
      clear HA
      simp only [spec_l6Crop.l1] at H
      by_cases cV : bI < a1_3
      ·rw [if_pos cV] at H
       have dA : decide (bI < a1_3) = true := decide_eq_true cV
       clear cV
       obtain ⟨ji20, hji20⟩ : ∃ j_ : Int, (wrap64 ((wrap64 ((wrap64 ((wrap64 (a1_2 + bG)) * a0_0)) + a1_1)) + bI)) = j_ := ⟨_, rfl⟩
       replace H : (if 0 ≤ (ji20) then (if (ji20) < (l0_2.length : Int) then (if aJ.length < 4398046511104 then (spec_l6Crop.l1 k2 bG (wrap64 (bI + 1)) a0_0 a0_1 l0_2 a1_0 a1_1 a1_2 a1_3 a1_4 a1_3 a1_4 (aJ ++ [(⟨(rd_T38 l0_2 (ji20)).f0, (rd_T38 l0_2 (ji20)).f1, (rd_T38 l0_2 (ji20)).f2, (rd_T38 l0_2 (ji20)).f3⟩ : S38)])) else (none)) else (none)) else (none)) = some (r1, r2, r3) := by first | (rw [hji20] at H; exact H) | (simp only [hji20] at H ⊢; exact H)
       have eZ : (IntKind.i64.wrap ((wrap64 ((wrap64 ((wrap64 (a1_2 + bG)) * a0_0)) + a1_1)) + bI)) = ji20 := (i64_w _).trans hji20
       by_cases dE : 0 ≤ (ji20)
       ·rw [if_pos dE] at H
        have fK : decide (0 ≤ (ji20)) = true := decide_eq_true dE
        clear dE
        by_cases dF : (ji20) < (l0_2.length : Int)
        ·rw [if_pos dF] at H
         have fL : decide ((ji20) < (l0_2.length : Int)) = true := decide_eq_true dF
         clear dF
         by_cases dG : aJ.length < 4398046511104
         ·rw [if_pos dG] at H
          have LMc23 := Aside0.mk dG
          clear dG
          obtain ⟨y319, hy319⟩ : ∃ y_ : List (S38), y_ = (aJ ++ [(⟨(rd_T38 l0_2 (ji20)).f0, (rd_T38 l0_2 (ji20)).f1, (rd_T38 l0_2 (ji20)).f2, (rd_T38 l0_2 (ji20)).f3⟩ : S38)]) := ⟨_, rfl⟩
          replace H : (spec_l6Crop.l1 k2 bG (wrap64 (bI + 1)) a0_0 a0_1 l0_2 a1_0 a1_1 a1_2 a1_3 a1_4 a1_3 a1_4 y319) = some (r1, r2, r3) := by first | (rw [hy319]; with_reducible exact H) | (have H2_ := (Option.bind_some _ _).symm.trans H; rw [hy319]; with_reducible exact H2_) | (have H2_ := (Option.bind_some _ _).symm.trans H; with_reducible exact H2_) | with_reducible exact H | (rw [hy319]; exact H) | exact H
          have cZ := Aside0.mk hy319
          clear hy319
          have H' := Aside0.mk H
          clear H
          have fS := aT.out
          have gK := aR.out
          have fT := aU.out
          have gL := aV.out
          have fU := aK.out
          have gM := aM.out
          have dH : wr.cell? ⟨aG, 0, none⟩ = some (.int .i64 a1_0) := (blk_cell aA.out 0).trans rfl
          have dI : wr.cell? ⟨aG, 1, none⟩ = some (.int .i64 a1_1) := (blk_cell aA.out 1).trans rfl
          have dJ : wr.cell? ⟨aG, 2, none⟩ = some (.int .i64 a1_2) := (blk_cell aA.out 2).trans rfl
          have dK : wr.cell? ⟨aG, 3, none⟩ = some (.int .i64 a1_3) := (blk_cell aA.out 3).trans rfl
          have dL : wr.cell? ⟨aG, 4, none⟩ = some (.int .i64 a1_4) := (blk_cell aA.out 4).trans rfl
          have eC := blk_frozen aA.out 0
          have eD := blk_frozen aA.out 1
          have eE := blk_frozen aA.out 2
          have eF := blk_frozen aA.out 3
          have eG := blk_frozen aA.out 4
          try go_wp2
          have n_ := o2_ (Kd.R_drew aE.out) (o2_ (blk_drew aC.out) (o2_ (blk_drew aA.out) (o2_ (blk_drew aH.out) (o2_ (blk_drew aD.out) (o1_ (below_drew1 HB.out))))))
          clear aE aC aA aH aD HB
          obtain ⟨aE, aC, aA, aH, aD, HB⟩ := n_
          have cR : 0 ≤ ((ji20) : Int) := of_decide_eq_true oM
          have cS : (ji20) < (l0_2.length : Int) := of_decide_eq_true oM
          obtain ⟨bF, eX, aX, aY, aZ, bA⟩ := at_T38 cY.out (ji20) cR cS
          have hw318_3 := bA
          have hw318_2 := aZ
          have hw318_1 := aY
          have hw318_0 := aX
          cases eX
          replace aX := (HB.out.cell (World.block_lt_of_cell? w _ aX)).trans aX
          replace aY := (HB.out.cell (World.block_lt_of_cell? w _ aY)).trans aY
          replace aZ := (HB.out.cell (World.block_lt_of_cell? w _ aZ)).trans aZ
          replace bA := (HB.out.cell (World.block_lt_of_cell? w _ bA)).trans bA
          replace cR := eq_true cR
          replace cS := eq_true cS
          refine start_ (n := 22) (S := fun w' => w'.cell? ⟨aQ, 0, none⟩ = some (.int .i64 a1_3) ∧ w'.cell? ⟨aQ, 1, none⟩ = some (.int .i64 a1_4) ∧ w'.cell? ⟨aQ, 2, none⟩ = some (aI) ∧ w'.cell? ⟨bH, 0, none⟩ = some (.int .i64 a0_0) ∧ w'.cell? ⟨bH, 1, none⟩ = some (.int .i64 a0_1) ∧ w'.cell? ⟨bH, 2, none⟩ = some (.slice (some bF) l0_2.length bR) ∧ w'.cell? ⟨aG, 0, none⟩ = some (.int .i64 a1_0) ∧ w'.cell? ⟨aG, 1, none⟩ = some (.int .i64 a1_1) ∧ w'.cell? ⟨aG, 2, none⟩ = some (.int .i64 a1_2) ∧ w'.cell? ⟨aG, 3, none⟩ = some (.int .i64 a1_3) ∧ w'.cell? ⟨aG, 4, none⟩ = some (.int .i64 a1_4) ∧ w'.cell? (bF.add (((ji20)).toNat * 4)) = some (.int .i64 ((rd_T38 l0_2 (ji20)).f0)) ∧ w'.cell? ⟨(bF.add (((ji20)).toNat * 4)).block, (bF.add (((ji20)).toNat * 4)).off + 1, none⟩ = some (.int .i64 ((rd_T38 l0_2 (ji20)).f1)) ∧ w'.cell? ⟨(bF.add (((ji20)).toNat * 4)).block, (bF.add (((ji20)).toNat * 4)).off + 2, none⟩ = some (.int .i64 ((rd_T38 l0_2 (ji20)).f2)) ∧ w'.cell? ⟨(bF.add (((ji20)).toNat * 4)).block, (bF.add (((ji20)).toNat * 4)).off + 3, none⟩ = some (.int .i64 ((rd_T38 l0_2 (ji20)).f3))) (ds := [21]) #[false, false, false, false, false, false, false, false, false, false, false, false, false, false, false, false, false, false, false, false, false, false] oK rfl rfl ⟨(blk_cell aD.out 0).trans rfl, (blk_cell aD.out 1).trans rfl, (blk_cell aD.out 2).trans rfl, (blk_cell aC.out 0).trans rfl, (blk_cell aC.out 1).trans rfl, (blk_cell aC.out 2).trans rfl, (blk_cell aA.out 0).trans rfl, (blk_cell aA.out 1).trans rfl, (blk_cell aA.out 2).trans rfl, (blk_cell aA.out 3).trans rfl, (blk_cell aA.out 4).trans rfl, ((HB.out.cell (World.block_lt_of_cell? w _ hw318_0)).trans hw318_0), ((HB.out.cell (World.block_lt_of_cell? w _ hw318_1)).trans hw318_1), ((HB.out.cell (World.block_lt_of_cell? w _ hw318_2)).trans hw318_2), ((HB.out.cell (World.block_lt_of_cell? w _ hw318_3)).trans hw318_3)⟩ (fun hHeld => ?_); refine with_tabW spec_l6Crop.tab8 spec_l6Crop.bits8 (fun HT_ HW_ => ?_)
          generalize wr.drew = hD at aE aC aA aH aD HB aX aY aZ bA hHeld ⊢
          refine pure_ (i := 0) (N := some 25) (v := ?_) (a' := ?_) #[true, false, false, false, false, false, false, false, false, false, false, false, false, false, false, false, false, false, false, false, false, false] rfl rfl (any_of HT_.out oK) (fun _ _ _ h => h) (Or.inl ⟨by rfl, ?_⟩) ?_ ?_
          rotate_left
          ·intro w'
           go_simp
           with_reducible rfl
          rotate_left
          ·exact oT
          refine pure_ (i := 2) (N := some 27) (v := ?_) (a' := ?_) #[true, false, true, false, false, false, false, false, false, false, false, false, false, false, false, false, false, false, false, false, false, false] rfl rfl (any_of HT_.out oK) (fun _ _ _ h => h) (Or.inl ⟨by rfl, ?_⟩) ?_ ?_
          rotate_left
          ·intro w'
           go_simp
           with_reducible rfl
          rotate_left
          ·exact oT
          refine pure_ (i := 4) (N := some 29) (v := ?_) (a' := ?_) #[true, false, true, false, true, false, false, false, false, false, false, false, false, false, false, false, false, false, false, false, false, false] rfl rfl (any_of HT_.out oK) (fun _ _ _ h => h) (Or.inl ⟨by rfl, ?_⟩) ?_ ?_
          rotate_left
          ·intro w'
           go_simp
           with_reducible rfl
          rotate_left
          ·exact oT
          refine pure_ (i := 6) (N := some 31) (v := ?_) (a' := ?_) #[true, false, true, false, true, false, true, false, false, false, false, false, false, false, false, false, false, false, false, false, false, false] rfl rfl (any_of HT_.out oK) (fun _ _ _ h => h) (Or.inl ⟨by rfl, ?_⟩) ?_ ?_
          rotate_left
          ·intro w'
           go_simp
           with_reducible rfl
          rotate_left
          ·exact oT
          refine pure_ (i := 8) (N := some 33) (v := ?_) (a' := ?_) #[true, false, true, false, true, false, true, false, true, false, false, false, false, false, false, false, false, false, false, false, false, false] rfl rfl (any_of HT_.out oK) (fun _ _ _ h => h) (Or.inl ⟨by rfl, ?_⟩) ?_ ?_
          rotate_left
          ·intro w'
           go_simp
           with_reducible rfl
          rotate_left
          ·exact oT
          refine pure_ (i := 11) (N := some 36) (v := ?_) (a' := ?_) #[true, false, true, false, true, false, true, false, true, false, false, true, false, false, false, false, false, false, false, false, false, false] rfl rfl (any_of HT_.out oK) (fun _ _ _ h => h) (Or.inl ⟨by rfl, ?_⟩) ?_ ?_
          rotate_left
          ·intro w'
           go_simp
           with_reducible rfl
          rotate_left
          ·exact oT
          refine pure_ (i := 14) (N := some 39) (v := ?_) (a' := ?_) #[true, false, true, false, true, false, true, false, true, false, false, true, false, false, true, false, false, false, false, false, false, false] rfl rfl (any_of HT_.out oK) (fun _ _ _ h => h) (Or.inl ⟨by rfl, ?_⟩) ?_ ?_
          rotate_left
          ·intro w'
           go_simp
           with_reducible rfl
          rotate_left
          ·exact oT
          refine take_ (i := 1) (N := some 26) (v := ?_) (a' := ?_) #[true, true, true, false, true, false, true, false, true, false, false, true, false, false, true, false, false, false, false, false, false, false] rfl rfl (take_ofW HT_.out HW_.out oK) (fun _ _ _ h => h) (Or.inl ⟨by rfl, ?_⟩) hHeld ?_ ?_
          rotate_left
          ·rintro w' ⟨s0, s1, s2, s3, s4, s5, s6, s7, s8, s9, s10, s11, s12, s13, s14⟩
           go_simp
           with_reducible rfl
          rotate_left
          ·exact oT
          refine take_ (i := 3) (N := some 28) (v := ?_) (a' := ?_) #[true, true, true, true, true, false, true, false, true, false, false, true, false, false, true, false, false, false, false, false, false, false] rfl rfl (take_ofW HT_.out HW_.out oK) (fun _ _ _ h => h) (Or.inl ⟨by rfl, ?_⟩) hHeld ?_ ?_
          rotate_left
          ·rintro w' ⟨s0, s1, s2, s3, s4, s5, s6, s7, s8, s9, s10, s11, s12, s13, s14⟩
           go_simp
           with_reducible rfl
          rotate_left
          ·exact oT
          refine take_ (i := 5) (N := some 30) (v := ?_) (a' := ?_) #[true, true, true, true, true, true, true, false, true, false, false, true, false, false, true, false, false, false, false, false, false, false] rfl rfl (take_ofW HT_.out HW_.out oK) (fun _ _ _ h => h) (Or.inl ⟨by rfl, ?_⟩) hHeld ?_ ?_
          rotate_left
          ·rintro w' ⟨s0, s1, s2, s3, s4, s5, s6, s7, s8, s9, s10, s11, s12, s13, s14⟩
           go_simp
           with_reducible rfl
          rotate_left
          ·exact oT
          refine pure_ (i := 7) (N := some 32) (v := ?_) (a' := ?_) #[true, true, true, true, true, true, true, true, true, false, false, true, false, false, true, false, false, false, false, false, false, false] rfl rfl (any_of HT_.out oK) (fun _ _ _ h => h) (Or.inl ⟨by rfl, ?_⟩) ?_ ?_
          rotate_left
          ·intro w'
           go_simp
           with_reducible rfl
          rotate_left
          ·exact oT
          refine take_ (i := 9) (N := some 34) (v := ?_) (a' := ?_) #[true, true, true, true, true, true, true, true, true, true, false, true, false, false, true, false, false, false, false, false, false, false] rfl rfl (take_ofW HT_.out HW_.out oK) (fun _ _ _ h => h) (Or.inl ⟨by rfl, ?_⟩) hHeld ?_ ?_
          rotate_left
          ·rintro w' ⟨s0, s1, s2, s3, s4, s5, s6, s7, s8, s9, s10, s11, s12, s13, s14⟩
           go_simp
           with_reducible rfl
          rotate_left
          ·exact oT
          refine pure_ (i := 10) (N := some 35) (v := ?_) (a' := ?_) #[true, true, true, true, true, true, true, true, true, true, true, true, false, false, true, false, false, false, false, false, false, false] rfl rfl (any_of HT_.out oK) (fun _ _ _ h => h) (Or.inl ⟨by rfl, ?_⟩) ?_ ?_
          rotate_left
          ·intro w'
           go_simp
           with_reducible rfl
          rotate_left
          ·exact oT
          refine take_ (i := 12) (N := some 37) (v := ?_) (a' := ?_) #[true, true, true, true, true, true, true, true, true, true, true, true, true, false, true, false, false, false, false, false, false, false] rfl rfl (take_ofW HT_.out HW_.out oK) (fun _ _ _ h => h) (Or.inl ⟨by rfl, ?_⟩) hHeld ?_ ?_
          rotate_left
          ·rintro w' ⟨s0, s1, s2, s3, s4, s5, s6, s7, s8, s9, s10, s11, s12, s13, s14⟩
           go_simp
           with_reducible rfl
          rotate_left
          ·exact oT
          refine pure_ (i := 13) (N := some 38) (v := ?_) (a' := ?_) #[true, true, true, true, true, true, true, true, true, true, true, true, true, true, true, false, false, false, false, false, false, false] rfl rfl (any_of HT_.out oK) (fun _ _ _ h => h) (Or.inl ⟨by rfl, ?_⟩) ?_ ?_
          rotate_left
          ·intro w'
           go_simp
           with_reducible rfl
          rotate_left
          ·exact oT
          refine pure_ (i := 15) (N := some 40) (v := ?_) (a' := ?_) #[true, true, true, true, true, true, true, true, true, true, true, true, true, true, true, true, false, false, false, false, false, false] rfl rfl (any_of HT_.out oK) (fun _ _ _ h => h) (Or.inl ⟨by rfl, ?_⟩) ?_ ?_
          rotate_left
          ·intro w'
           go_simp
           with_reducible rfl
          rotate_left
          ·exact oT
          refine pure_ (i := 16) (N := some 41) (v := ?_) (a' := ?_) #[true, true, true, true, true, true, true, true, true, true, true, true, true, true, true, true, true, false, false, false, false, false] rfl rfl (any_of HT_.out oK) (fun _ _ _ h => h) (Or.inl ⟨by rfl, ?_⟩) ?_ ?_
          rotate_left
          ·intro w'
           go_simp
           with_reducible rfl
          rotate_left
          ·exact oT
          refine take_ (i := 17) (N := some 42) (v := ?_) (a' := ?_) #[true, true, true, true, true, true, true, true, true, true, true, true, true, true, true, true, true, true, false, false, false, false] rfl rfl (take_ofW HT_.out HW_.out oK) (fun _ _ _ h => h) (Or.inl ⟨by rfl, ?_⟩) hHeld ?_ ?_
          rotate_left
          ·rintro w' ⟨s0, s1, s2, s3, s4, s5, s6, s7, s8, s9, s10, s11, s12, s13, s14⟩
           go_simp
           with_reducible rfl
          rotate_left
          ·exact oT
          refine one_ (i := 18) (N := some 43) #[true, true, true, true, true, true, true, true, true, true, true, true, true, true, true, true, true, true, true, false, false, false] rfl rfl (one_of HT_.out oK) oD (fun K hK => ?_)
          refine value_ (w1 := ?_) (v := ?_) (by rfl) rfl ?_ ?_
          rotate_left 2
          ·go_simp
           constructor
           ·rfl
           ·rfl
          refine hK.out _ _ ⟨(blk_cell (blk_alloc aD.out _) 0).trans rfl, (blk_cell (blk_alloc aD.out _) 1).trans rfl, (blk_cell (blk_alloc aD.out _) 2).trans rfl, (blk_cell (blk_alloc aC.out _) 0).trans rfl, (blk_cell (blk_alloc aC.out _) 1).trans rfl, (blk_cell (blk_alloc aC.out _) 2).trans rfl, (blk_cell (blk_alloc aA.out _) 0).trans rfl, (blk_cell (blk_alloc aA.out _) 1).trans rfl, (blk_cell (blk_alloc aA.out _) 2).trans rfl, (blk_cell (blk_alloc aA.out _) 3).trans rfl, (blk_cell (blk_alloc aA.out _) 4).trans rfl, (World.cell?_alloc_lt _ _ _ (World.block_lt_of_cell? _ _ (((HB.out.cell (World.block_lt_of_cell? w _ hw318_0)).trans hw318_0)))).trans (((HB.out.cell (World.block_lt_of_cell? w _ hw318_0)).trans hw318_0)), (World.cell?_alloc_lt _ _ _ (World.block_lt_of_cell? _ _ (((HB.out.cell (World.block_lt_of_cell? w _ hw318_1)).trans hw318_1)))).trans (((HB.out.cell (World.block_lt_of_cell? w _ hw318_1)).trans hw318_1)), (World.cell?_alloc_lt _ _ _ (World.block_lt_of_cell? _ _ (((HB.out.cell (World.block_lt_of_cell? w _ hw318_2)).trans hw318_2)))).trans (((HB.out.cell (World.block_lt_of_cell? w _ hw318_2)).trans hw318_2)), (World.cell?_alloc_lt _ _ _ (World.block_lt_of_cell? _ _ (((HB.out.cell (World.block_lt_of_cell? w _ hw318_3)).trans hw318_3)))).trans (((HB.out.cell (World.block_lt_of_cell? w _ hw318_3)).trans hw318_3))⟩ (fun hHeld => ?_)
          clear hK K
          refine norm_ (a' := ?_) ?_ ?_
          rotate_left
          ·show Act.put _ (some 43) _ = _
           exact oT
          refine one_ (i := 19) (N := some 44) #[true, true, true, true, true, true, true, true, true, true, true, true, true, true, true, true, true, true, true, true, false, false] rfl rfl (one_of HT_.out oK) oD (fun K hK => ?_)
          refine Kd.R_append_step k38 (w0 := w) w.heap.size (by rfl) (.tmp 26) (.tmp 43) 23 38 (.agg #[(.int .i64 0), (.int .i64 0), (.int .i64 0), (.int .i64 0)]) 32 rfl Try.underlying23 info38 rfl oD (by omega) aI aJ (⟨(rd_T38 l0_2 (ji20)).f0, (rd_T38 l0_2 (ji20)).f1, (rd_T38 l0_2 (ji20)).f2, (rd_T38 l0_2 (ji20)).f3⟩ : S38) [.int .i64 ((rd_T38 l0_2 (ji20)).f0), .int .i64 ((rd_T38 l0_2 (ji20)).f1), .int .i64 ((rd_T38 l0_2 (ji20)).f2), .int .i64 ((rd_T38 l0_2 (ji20)).f3)] (fun _ => True) (fun _ => False) rfl rfl ?aP (fun _ hk => hk.elim) ?aF ?aO ?aB ?aS ?aL ?_
          (case aP => exact k38_mkM _ _ _ (⟨(rd_T38 l0_2 (ji20)).f0, (rd_T38 l0_2 (ji20)).f1, (rd_T38 l0_2 (ji20)).f2, (rd_T38 l0_2 (ji20)).f3⟩ : S38))
          (case aB => exact (oB HB))
          (case aF => exact (fun _ _ => trivial))
          (case aO => exact (oR aE))
          (case aS => exact (below_size (oB HB)))
          (case aL => have := LMc23.out; omega)
          intro hB hC ho hb hg hat
          rw [← cZ.out] at ho
          have n_ := o2_ (blk_grown (oP aC) hg (Kd.R_ne aE.out aC.out oD)) (o2_ (blk_grown (oP aA) hg (Kd.R_ne aE.out aA.out oD)) (o2_ (blk_grown (oP aH) hg (Kd.R_ne aE.out aH.out oD)) (o2_ (blk_grown (oP aD) hg (Kd.R_ne aE.out aD.out oD)) (o2_ (hb) (o1_ (ho))))))
          clear aC aA aH aD HB aE
          obtain ⟨aC, aA, aH, aD, HB, cN⟩ := n_
          clear ho hb hg hat
          obtain ⟨cW, dB, dD⟩ := Kd.R_slice cN.out
          (first | subst dD | (injection dD with f1_ f2_ f3_; have f4_ := f1_.symm; have f5_ := f3_.symm; clear f1_ f2_ f3_; subst f4_; subst f5_))
          refine hK.out _ _ ⟨(blk_cell aD.out 0).trans rfl, (blk_cell aD.out 1).trans rfl, (blk_cell aD.out 2).trans rfl, (blk_cell aC.out 0).trans rfl, (blk_cell aC.out 1).trans rfl, (blk_cell aC.out 2).trans rfl, (blk_cell aA.out 0).trans rfl, (blk_cell aA.out 1).trans rfl, (blk_cell aA.out 2).trans rfl, (blk_cell aA.out 3).trans rfl, (blk_cell aA.out 4).trans rfl, ((HB.out.cell (World.block_lt_of_cell? w _ hw318_0)).trans hw318_0), ((HB.out.cell (World.block_lt_of_cell? w _ hw318_1)).trans hw318_1), ((HB.out.cell (World.block_lt_of_cell? w _ hw318_2)).trans hw318_2), ((HB.out.cell (World.block_lt_of_cell? w _ hw318_3)).trans hw318_3)⟩ (fun hHeld => ?_)
          clear hK K
          refine norm_ (a' := ?_) ?_ ?_
          rotate_left
          ·show Act.put _ (some 44) _ = _
           exact oT
          refine pure_ (i := 20) (N := some 45) (v := ?_) (a' := ?_) #[true, true, true, true, true, true, true, true, true, true, true, true, true, true, true, true, true, true, true, true, true, false] rfl rfl (any_of HT_.out oK) (fun _ _ _ h => h) (Or.inl ⟨by rfl, ?_⟩) ?_ ?_
          rotate_left
          ·intro w'
           go_simp
           with_reducible rfl
          rotate_left
          ·exact oT
          refine last_ (i := 21) (N := none) #[true, true, true, true, true, true, true, true, true, true, true, true, true, true, true, true, true, true, true, true, true, true] rfl rfl (one_of HT_.out oK) oD (fun K hK => ?_)
          have hs31 : hC.cell? ⟨aQ, 2, none⟩ = some (aI) := (blk_cell aD.out 2).trans rfl
          have hfs31 := blk_frozen aD.out 2
          have hns31_0 := bB.out
          have hns31_1 := aK.out
          have hns31_2 := bC.out
          have hms31_0 := bD.out
          have hms31_1 := aM.out
          have hms31_2 := bE.out
          refine skip_ (w1 := ?_) (by rfl) rfl ?_ ?_
          rotate_left
          ·go_simp
           rfl
          refine hK.out _ _ ?_
          clear hK K
          refine done_ (done_of HT_.out oK) ?_
          try go_wp2
          go_roundg k2
          case measure => have := HK1.out; have := HK2.out; omega
          case rel => exact ⟨(wrap64 (bI + 1)), (y319), (.slice cW y319.length dB), oU, H', ⟨(by have := HK1.out; have := HK2.out; omega)⟩, ⟨(by (with_reducible repeat (first | apply Kd.R_alloc | apply Kd.R_drewN | apply Kd.R_drew)); exact Kd.R_mono (Kd.R_far (p := ⟨aQ, 2, none⟩) (Kd.R_types cN.out aD.out oD) (fun _ hk => hk.2) (.slice cW y319.length dB)) (fun _ hk => trivial))⟩, ⟨(oP aC)⟩, ⟨(oP aA)⟩, ⟨(oP aH)⟩, ⟨(blk_put aD.out 2 _ rfl)⟩, ⟨(oB HB)⟩⟩
         ·rw [if_neg dG] at H
          exact absurd H (by simp)
        ·rw [if_neg dF] at H
         exact absurd H (by simp)
       ·rw [if_neg dE] at H
        exact absurd H (by simp)
      ·rw [if_neg cV] at H
       have dA : decide (bI < a1_3) = false := decide_eq_false cV
       clear cV
       have H' := Aside0.mk H
       clear H
       have fV := aT.out
       have gN := aR.out
       have fW := aU.out
       have gO := aV.out
       have fX := aK.out
       have gP := aM.out
       have dM : wr.cell? ⟨aG, 0, none⟩ = some (.int .i64 a1_0) := (blk_cell aA.out 0).trans rfl
       have dN : wr.cell? ⟨aG, 1, none⟩ = some (.int .i64 a1_1) := (blk_cell aA.out 1).trans rfl
       have dO : wr.cell? ⟨aG, 2, none⟩ = some (.int .i64 a1_2) := (blk_cell aA.out 2).trans rfl
       have dP : wr.cell? ⟨aG, 3, none⟩ = some (.int .i64 a1_3) := (blk_cell aA.out 3).trans rfl
       have dQ : wr.cell? ⟨aG, 4, none⟩ = some (.int .i64 a1_4) := (blk_cell aA.out 4).trans rfl
       have eH := blk_frozen aA.out 0
       have eI := blk_frozen aA.out 1
       have eJ := blk_frozen aA.out 2
       have eK := blk_frozen aA.out 3
       have eL := blk_frozen aA.out 4
       go_wp2
       go_roundg k2
       case measure => have := HK1.out; have := HK2.out; omega
       case rel => exact ⟨(wrap64 (bG + 1)), (aJ), (aI), oU, H', ⟨(by have := HK1.out; have := HK2.out; omega)⟩, ⟨(oR aE)⟩, ⟨(oP aC)⟩, ⟨(oP aA)⟩, ⟨(oP aH)⟩, ⟨(oP aD)⟩, ⟨(oB HB)⟩⟩
   ·rw [if_neg cQ] at H
    have cO : decide (bG < a1_4) = false := decide_eq_false cQ
    clear cQ
    simp only [Option.some.injEq, Prod.mk.injEq] at H
    obtain ⟨rfl, rfl, rfl⟩ := H
    have fY := aT.out
    have gQ := aR.out
    have fZ := aU.out
    have gR := aV.out
    have gA := aK.out
    have gS := aM.out
    have dR : wr.cell? ⟨aG, 0, none⟩ = some (.int .i64 a1_0) := (blk_cell aA.out 0).trans rfl
    have dS : wr.cell? ⟨aG, 1, none⟩ = some (.int .i64 a1_1) := (blk_cell aA.out 1).trans rfl
    have dT : wr.cell? ⟨aG, 2, none⟩ = some (.int .i64 a1_2) := (blk_cell aA.out 2).trans rfl
    have dU : wr.cell? ⟨aG, 3, none⟩ = some (.int .i64 a1_3) := (blk_cell aA.out 3).trans rfl
    have dV : wr.cell? ⟨aG, 4, none⟩ = some (.int .i64 a1_4) := (blk_cell aA.out 4).trans rfl
    have eM := blk_frozen aA.out 0
    have eN := blk_frozen aA.out 1
    have eO := blk_frozen aA.out 2
    have eP := blk_frozen aA.out 3
    have eQ := blk_frozen aA.out 4
    have gB := bD.out
    have gT := bB.out
    have gC := bE.out
    have gU := bC.out
    have dW : wr.cell? ⟨aQ, 0, none⟩ = some (.int .i64 a1_3) := (blk_cell aD.out 0).trans rfl
    have dX : wr.cell? ⟨aQ, 1, none⟩ = some (.int .i64 a1_4) := (blk_cell aD.out 1).trans rfl
    have dY : wr.cell? ⟨aQ, 2, none⟩ = some (aI) := (blk_cell aD.out 2).trans rfl
    have eR := blk_frozen aD.out 0
    have eS := blk_frozen aD.out 1
    have eT := blk_frozen aD.out 2
    have gD := bQ.out
    have gV := bP.out
    have dZ : wr.cell? ⟨aW, 0, none⟩ = some (.int .i64 0) := (blk_cell aH.out 0).trans rfl
    have eA : wr.cell? ⟨aW, 1, none⟩ = some (.int .i64 0) := (blk_cell aH.out 1).trans rfl
    have eB : wr.cell? ⟨aW, 2, none⟩ = some (.slice none 0 0) := (blk_cell aH.out 2).trans rfl
    have eU := blk_frozen aH.out 0
    have eV := blk_frozen aH.out 1
    have eW := blk_frozen aH.out 2
    obtain ⟨cX, dC, eY⟩ := Kd.R_slice aE.out
    subst eY
    go_wp2
    refine bodyPost_ret (results_cell_row rfl _ _ aW 25 #[.int .i64 a1_3, .int .i64 a1_4, .slice cX aN.length dC] (0, 0) _ rfl (blk_put (blk_put (blk_put aH.out 0 _ rfl) 1 _ rfl) 2 _ rfl) Try.underlying25 rfl oK) rfl ?_
    exact ⟨_, by first | rfl | (simp [errW_none, errW_some] <;> rfl) | (simp [*, errW_none, errW_some] <;> rfl), by (with_reducible repeat (first | apply Kd.R_alloc | apply Kd.R_drewN | apply Kd.R_drew)); exact Kd.R_mono (Kd.R_far (p := ⟨aW, 2, none⟩) (Kd.R_far (p := ⟨aW, 1, none⟩) (Kd.R_far (p := ⟨aW, 0, none⟩) (Kd.R_types aE.out aH.out oD) (fun _ hk => hk.2) (.int .i64 a1_3)) (fun _ hk => hk.2) (.int .i64 a1_4)) (fun _ hk => hk.2) (.slice cX aN.length dC)) (fun _ hk => trivial), oB HB⟩

end Go.Proofs.Ythnmeogafklhnaa.X
