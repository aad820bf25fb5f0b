/- What functions of the program come to, each with its proof. No condition but what each theorem states. -/
import Derived.Test.YthnmeogafklhnaaX0
namespace Go.Proofs.Ythnmeogafklhnaa.X
open Go.RowKit Go.Proofs.YthnmeogafklhnaaW.PrintWords Go.Proofs.YthnmeogafklhnaaW.PrintLast Go.Proofs.YthnmeogafklhnaaW.PrintMore Go.Proofs.Ythnmeogafklhnaa.Hyb
attribute [local go_sem] max2_int min2_int max_two min_two max_three min_three max_four min_four
set_option linter.unusedVariables false
set_option linter.unusedSimpArgs false

/-! ### spec_l6Size: function 84 -/
mutual
def spec_l6Size.l0 : Nat → Int → Int → Int → List (S38) → Int → Int → Int → Int → Int → Int → Int → List (S38) → Option (Int × Int × (List (S38)))
 | 0, _, _, _, _, _, _, _, _, _, _, _, _ => none
 | k + 1, x6, x347000, x347001, x347002, x348000, x348001, x348002, x348003, x348004, x350000, x350001, x350002 => if x6 < x348002 then (spec_l6Size.l1 k x6 0 x347000 x347001 x347002 x348000 x348001 x348002 x348003 x348004 x350000 x350001 x350002) else (some (x350000, x350001, x350002))
def spec_l6Size.l1 : Nat → Int → Int → Int → Int → List (S38) → Int → Int → Int → Int → Int → Int → Int → List (S38) → Option (Int × Int × (List (S38)))
 | 0, _, _, _, _, _, _, _, _, _, _, _, _, _ => none
 | k + 1, x6, x7, x347000, x347001, x347002, x348000, x348001, x348002, x348003, x348004, x350000, x350001, x350002 => if x7 < x348001 then (if (wrap64 (2 * x348002)) = 0 then (none) else (if (wrap64 (2 * x348001)) = 0 then (none) else (if 0 ≤ (wrap64 ((wrap64 ((wrap64 (Int.tdiv (wrap64 ((wrap64 ((wrap64 (2 * x6)) + 1)) * x347001)) (wrap64 (2 * x348002)))) * x347000)) + (wrap64 (Int.tdiv (wrap64 ((wrap64 ((wrap64 (2 * x7)) + 1)) * x347000)) (wrap64 (2 * x348001)))))) then (if (wrap64 ((wrap64 ((wrap64 (Int.tdiv (wrap64 ((wrap64 ((wrap64 (2 * x6)) + 1)) * x347001)) (wrap64 (2 * x348002)))) * x347000)) + (wrap64 (Int.tdiv (wrap64 ((wrap64 ((wrap64 (2 * x7)) + 1)) * x347000)) (wrap64 (2 * x348001)))))) < (x347002.length : Int) then (if x350002.length < 4398046511104 then (spec_l6Size.l1 k x6 (wrap64 (x7 + 1)) x347000 x347001 x347002 x348000 x348001 x348002 x348003 x348004 x350000 x350001 (x350002 ++ [(⟨(rd_T38 x347002 (wrap64 ((wrap64 ((wrap64 (Int.tdiv (wrap64 ((wrap64 ((wrap64 (2 * x6)) + 1)) * x347001)) (wrap64 (2 * x348002)))) * x347000)) + (wrap64 (Int.tdiv (wrap64 ((wrap64 ((wrap64 (2 * x7)) + 1)) * x347000)) (wrap64 (2 * x348001))))))).f0, (rd_T38 x347002 (wrap64 ((wrap64 ((wrap64 (Int.tdiv (wrap64 ((wrap64 ((wrap64 (2 * x6)) + 1)) * x347001)) (wrap64 (2 * x348002)))) * x347000)) + (wrap64 (Int.tdiv (wrap64 ((wrap64 ((wrap64 (2 * x7)) + 1)) * x347000)) (wrap64 (2 * x348001))))))).f1, (rd_T38 x347002 (wrap64 ((wrap64 ((wrap64 (Int.tdiv (wrap64 ((wrap64 ((wrap64 (2 * x6)) + 1)) * x347001)) (wrap64 (2 * x348002)))) * x347000)) + (wrap64 (Int.tdiv (wrap64 ((wrap64 ((wrap64 (2 * x7)) + 1)) * x347000)) (wrap64 (2 * x348001))))))).f2, (rd_T38 x347002 (wrap64 ((wrap64 ((wrap64 (Int.tdiv (wrap64 ((wrap64 ((wrap64 (2 * x6)) + 1)) * x347001)) (wrap64 (2 * x348002)))) * x347000)) + (wrap64 (Int.tdiv (wrap64 ((wrap64 ((wrap64 (2 * x7)) + 1)) * x347000)) (wrap64 (2 * x348001))))))).f3⟩ : S38)])) else (none)) else (none)) else (none)))) else (spec_l6Size.l0 k (wrap64 (x6 + 1)) x347000 x347001 x347002 x348000 x348001 x348002 x348003 x348004 x350000 x350001 x350002)
end
def spec_l6Size.f (k : Nat) (a0_0 : Int) (a0_1 : Int) (l0_2 : List (S38)) (a1_0 : Int) (a1_1 : Int) (a1_2 : Int) (a1_3 : Int) (a1_4 : Int) : Option (Int × Int × (List (S38))) := spec_l6Size.l0 k 0 a0_0 a0_1 l0_2 a1_0 a1_1 a1_2 a1_3 a1_4 a1_1 a1_2 ([] : List (S38))
theorem spec_l6Size.mono_l : ∀ k, (∀ y0 y1 y2 y3 y4 y5 y6 y7 y8 y9 cT cU, LeO (spec_l6Size.l0 k y0 y1 y2 y3 y4 y5 y6 y7 y8 y9 cT cU) (spec_l6Size.l0 (k + 1) y0 y1 y2 y3 y4 y5 y6 y7 y8 y9 cT cU)) ∧ (∀ y0 y1 y2 y3 y4 y5 y6 y7 y8 y9 cT cU fC, LeO (spec_l6Size.l1 k y0 y1 y2 y3 y4 y5 y6 y7 y8 y9 cT cU fC) (spec_l6Size.l1 (k + 1) y0 y1 y2 y3 y4 y5 y6 y7 y8 y9 cT cU fC))
 | 0 => ⟨(fun _ _ _ _ _ _ _ _ _ _ _ _ r h => nomatch (show none = some r from h)), (fun _ _ _ _ _ _ _ _ _ _ _ _ _ r h => nomatch (show none = some r from h))⟩
 | k + 1 => by
  obtain ⟨ih0, ih1⟩ := spec_l6Size.mono_l k
  refine ⟨?_, ?_⟩
  ·intro y0 y1 y2 y3 y4 y5 y6 y7 y8 y9 cT cU
   unfold spec_l6Size.l0
   repeat' first
   | (with_reducible exact ih0 _ _ _ _ _ _ _ _ _ _ _ _)
   | (with_reducible exact ih1 _ _ _ _ _ _ _ _ _ _ _ _ _)
   | (with_reducible exact LeO.refl _)
   | (with_reducible exact LeO.none _)
   | (with_reducible refine LeO.ite ?_ ?_)
   | (with_reducible refine LeO.bind ?_ (fun _ => ?_))
   | exact ih0 _ _ _ _ _ _ _ _ _ _ _ _
   | exact ih1 _ _ _ _ _ _ _ _ _ _ _ _ _
   | exact LeO.none _
   | refine LeO.ite ?_ ?_
   | refine LeO.bind ?_ (fun _ => ?_)
  ·intro y0 y1 y2 y3 y4 y5 y6 y7 y8 y9 cT cU fC
   unfold spec_l6Size.l1
   repeat' first
   | (with_reducible exact ih0 _ _ _ _ _ _ _ _ _ _ _ _)
   | (with_reducible exact ih1 _ _ _ _ _ _ _ _ _ _ _ _ _)
   | (with_reducible exact LeO.refl _)
   | (with_reducible exact LeO.none _)
   | (with_reducible refine LeO.ite ?_ ?_)
   | (with_reducible refine LeO.bind ?_ (fun _ => ?_))
   | exact ih0 _ _ _ _ _ _ _ _ _ _ _ _
   | exact ih1 _ _ _ _ _ _ _ _ _ _ _ _ _
   | exact LeO.none _
   | refine LeO.ite ?_ ?_
   | refine LeO.bind ?_ (fun _ => ?_)
theorem spec_l6Size.mono : ∀ a0 a1 a2 a3 a4 a5 a6 a7 k, LeO (spec_l6Size.f k a0 a1 a2 a3 a4 a5 a6 a7) (spec_l6Size.f (k + 1) a0 a1 a2 a3 a4 a5 a6 a7) := by
 intro a0 a1 a2 a3 a4 a5 a6 a7 k
 obtain ⟨ih0, ih1⟩ := spec_l6Size.mono_l k
 unfold spec_l6Size.f
 repeat' first
   | (with_reducible exact ih0 _ _ _ _ _ _ _ _ _ _ _ _)
   | (with_reducible exact ih1 _ _ _ _ _ _ _ _ _ _ _ _ _)
   | (with_reducible exact LeO.refl _)
   | (with_reducible exact LeO.none _)
   | (with_reducible refine LeO.ite ?_ ?_)
   | (with_reducible refine LeO.bind ?_ (fun _ => ?_))
   | exact ih0 _ _ _ _ _ _ _ _ _ _ _ _
   | exact ih1 _ _ _ _ _ _ _ _ _ _ _ _ _
   | exact LeO.none _
   | refine LeO.ite ?_ ?_
   | refine LeO.bind ?_ (fun _ => ?_)
def spec_l6Size.T8 : Bool × List (List Nat × List Nat) := (true, [([], []), ([0], [0]), ([], []), ([2], [2]), ([], []), ([4], [4]), ([5], [5]), ([], []), ([7], [7]), ([6, 8], [6, 8]), ([], []), ([10], [10]), ([11], [11]), ([9, 12], [9, 12]), ([], []), ([14], [14]), ([13, 15], [13, 15]), ([], []), ([17], [17]), ([18], [18]), ([], []), ([20], [20]), ([19, 21], [19, 21]), ([], []), ([23], [23]), ([24], [24]), ([22, 25], [22, 25]), ([16, 26], [16, 26]), ([3, 27], [3, 27]), ([28], [28]), ([29], [29]), ([1, 30], [1, 30]), ([0, 1, 2, 3, 4, 5, 6, 7, 8, 9, 10, 11, 12, 13, 14, 15, 16, 17, 18, 19, 20, 21, 22, 23, 24, 25, 26, 27, 28, 29, 30, 31], []), ([32, 31, 31, 0, 1, 2, 3, 4, 5, 6, 7, 8, 9, 10, 11, 12, 13, 14, 15, 16, 17, 18, 19, 20, 21, 22, 23, 24, 25, 26, 27, 28, 29, 30, 31], [31, 32])])
def spec_l6Size.B8 : List Nat := [0, 1, 0, 4, 0, 16, 48, 0, 128, 496, 0, 1024, 3072, 8176, 0, 16384, 65520, 0, 131072, 393216, 0, 1048576, 4063232, 0, 8388608, 25165824, 66977792, 134217712, 268435452, 536870908, 1073741820, 2147483647, 4294967295, 8589934591]
theorem spec_l6Size.tab8 : rtab .any (opsOf Try.f84 8) = spec_l6Size.T8 := by kernel_rfl
theorem spec_l6Size.bits8 : waitsOk spec_l6Size.T8.2 spec_l6Size.B8 = true := by kernel_rfl
set_option maxHeartbeats 8000000 in
set_option maxRecDepth 100000 in
theorem spec_l6Size.calls (k : Nat) (a0_0 : Int) (a0_1 : Int) (bS : Option Addr) (bR : Nat) (l0_2 : List (S38)) (a1_0 : Int) (a1_1 : Int) (a1_2 : Int) (a1_3 : Int) (a1_4 : Int) (r1 : Int) (r2 : Int) (r3 : List (S38)) (w : World) (hr0_2 : Kd.C k38 w bS l0_2.length l0_2) (cP : l0_2.length ≤ bR) (h : spec_l6Size.f k a0_0 a0_1 l0_2 a1_0 a1_1 a1_2 a1_3 a1_4 = some (r1, r2, r3)) :
  Calls Try.prog 84 #[.agg #[.int .i64 a0_0, .int .i64 a0_1, .slice bS l0_2.length bR], .agg #[.int .i64 a1_0, .int .i64 a1_1, .int .i64 a1_2, .int .i64 a1_3, .int .i64 a1_4]] w fun e w' => ∃ hC : Value, e = .returned (.agg #[.int .i64 r1, .int .i64 r2, hC]) ∧ Kd.R k38 38 w' w.heap.size (fun _ => True) hC r3 ∧ Below w.heap.size w w' := by
 have hu25 := Try.underlying25
 have hu27 := Try.underlying27
 have hu38 := Try.underlying38
 have cY := Aside0.mk hr0_2
 have fL := Aside0.mk cP
 clear hr0_2 cP
 have HB := Aside0.mk (Below.refl w.heap.size w)
 have H : (spec_l6Size.l0 k 0 a0_0 a0_1 l0_2 a1_0 a1_1 a1_2 a1_3 a1_4 a1_1 a1_2 ([] : List (S38))) = some (r1, r2, r3) := h
 clear h
 have H' := Aside0.mk H
 clear H
 go_enter Try.func84, Try.ntmps84
 go_wp2_with (first | ((with_reducible refine gate_dst (N := 2) rfl ?_); refine box_event rfl (N := 2) rfl (cs := #[.int .i64 a0_0, .int .i64 a0_1, .slice bS l0_2.length bR]) (t := 25) oS ?_; intro bH hg w3 hbox hb; have n_ := o2_ (below_step (oB HB) hb) (o2_ (hbox) (o2_ ((oG hg (below_size (oB HB)) : w.heap.size ≤ bH)) (o1_ ((oG hg (below_size (oB HB)) : w.heap.size ≤ bH))))); clear HB; obtain ⟨HB, aC, fH, fD⟩ := n_; clear hb hbox hg) | ((with_reducible refine gate_dst (N := 3) rfl ?_); refine box_event rfl (N := 3) rfl (cs := #[.int .i64 a1_0, .int .i64 a1_1, .int .i64 a1_2, .int .i64 a1_3, .int .i64 a1_4]) (t := 27) oS ?_; intro aG hg w4 hbox hb; have n_ := o2_ (blk_below (oP aC) hb) (o2_ (below_step (oB HB) hb) (o2_ (hbox) (o2_ ((oG hg (below_size (oB HB)) : w.heap.size ≤ aG)) (o2_ ((oG hg (below_size (oB HB)) : w.heap.size ≤ aG)) (o2_ ((oL hg (blk_lt (oP aC)))) (o1_ ((oN hg (blk_lt (oP aC)))))))))); clear aC HB; obtain ⟨aC, HB, aA, fI, fE, aR, aT⟩ := n_; clear hb hbox hg) | ((with_reducible refine gate_dst (N := 4) rfl ?_); refine box_event rfl (N := 4) rfl (cs := #[.int .i64 0, .int .i64 0, .slice none 0 0]) (t := 25) oS ?_; intro aW hg w5 hbox hb; have n_ := o2_ (blk_below (oP aC) hb) (o2_ (blk_below (oP aA) hb) (o2_ (below_step (oB HB) hb) (o2_ (hbox) (o2_ ((oG hg (below_size (oB HB)) : w.heap.size ≤ aW)) (o2_ ((oG hg (below_size (oB HB)) : w.heap.size ≤ aW)) (o2_ ((oL hg (blk_lt (oP aC)))) (o2_ ((oN hg (blk_lt (oP aC)))) (o2_ ((oL hg (blk_lt (oP aA)))) (o1_ ((oN hg (blk_lt (oP aA))))))))))))); clear aC aA HB; obtain ⟨aC, aA, HB, aH, fJ, fF, bP, bQ, aU, aV⟩ := n_; clear hb hbox hg; have hD := aT.out; have hF := aR.out; have hE := aU.out; have hG := aV.out; have bT : w5.cell? ⟨aG, 0, none⟩ = some (.int .i64 a1_0) := (blk_cell aA.out 0).trans rfl; have bU : w5.cell? ⟨aG, 1, none⟩ = some (.int .i64 a1_1) := (blk_cell aA.out 1).trans rfl; have bV : w5.cell? ⟨aG, 2, none⟩ = some (.int .i64 a1_2) := (blk_cell aA.out 2).trans rfl; have bW : w5.cell? ⟨aG, 3, none⟩ = some (.int .i64 a1_3) := (blk_cell aA.out 3).trans rfl; have bX : w5.cell? ⟨aG, 4, none⟩ = some (.int .i64 a1_4) := (blk_cell aA.out 4).trans rfl; have bY := blk_frozen aA.out 0; have bZ := blk_frozen aA.out 1; have cA := blk_frozen aA.out 2; have cB := blk_frozen aA.out 3; have cC := blk_frozen aA.out 4) | ((with_reducible refine gate_dst (N := 5) rfl ?_); refine box_event rfl (N := 5) rfl (cs := #[.int .i64 0, .int .i64 0, .slice none 0 0]) (t := 25) oS ?_; intro aQ hg w9 hbox hb; have n_ := o2_ (blk_below (oP aC) hb) (o2_ (blk_below (oP aA) hb) (o2_ (blk_below (oP aH) hb) (o2_ (below_step (oB HB) hb) (o2_ (hbox) (o2_ ((oG hg (below_size (oB HB)) : w.heap.size ≤ aQ)) (o2_ ((oG hg (below_size (oB HB)) : w.heap.size ≤ aQ)) (o2_ ((oL hg (blk_lt (oP aC)))) (o2_ ((oN hg (blk_lt (oP aC)))) (o2_ ((oL hg (blk_lt (oP aA)))) (o2_ ((oN hg (blk_lt (oP aA)))) (o2_ ((oL hg (blk_lt (oP aH)))) (o1_ ((oN hg (blk_lt (oP aH)))))))))))))))); clear aC aA aH HB; obtain ⟨aC, aA, aH, HB, aD, fK, fG, bB, bD, aK, aM, bC, bE⟩ := n_; clear hb hbox hg; have fS := bD.out; have gK := bB.out; have fT := aM.out; have gL := aK.out; have fU := bE.out; have gM := bC.out; have bJ : w9.cell? ⟨aQ, 0, none⟩ = some (.int .i64 0) := (blk_cell aD.out 0).trans rfl; have bK : w9.cell? ⟨aQ, 1, none⟩ = some (.int .i64 0) := (blk_cell aD.out 1).trans rfl; have bL : w9.cell? ⟨aQ, 2, none⟩ = some (.slice none 0 0) := (blk_cell aD.out 2).trans rfl; have bM := blk_frozen aD.out 0; have bN := blk_frozen aD.out 1; have bO := blk_frozen aD.out 2))
 go_loopg [6] k (fun kq v6 w' => ∃ (bG : Int) (aN : List (S38)) (aI : Value), v6 = .int .i64 bG ∧ Aside0 (spec_l6Size.l0 kq bG a0_0 a0_1 l0_2 a1_0 a1_1 a1_2 a1_3 a1_4 a1_1 a1_2 aN = some (r1, r2, r3)) ∧ Aside0 (kq ≤ k) ∧ Aside0 (Kd.R k38 38 w' w.heap.size (fun _ => True) aI aN) ∧ Aside0 (w'.heap[bH]? = some (.cells #[.int .i64 a0_0, .int .i64 a0_1, (.slice bS l0_2.length bR)] 25 (0, 0))) ∧ Aside0 (w'.heap[aG]? = some (.cells #[.int .i64 a1_0, .int .i64 a1_1, .int .i64 a1_2, .int .i64 a1_3, .int .i64 a1_4] 27 (0, 0))) ∧ Aside0 (w'.heap[aW]? = some (.cells #[.int .i64 0, .int .i64 0, (.slice none 0 0)] 25 (0, 0))) ∧ Aside0 (w'.heap[aQ]? = some (.cells #[.int .i64 a1_1, .int .i64 a1_2, aI] 25 (0, 0))) ∧ Aside0 (Below w.heap.size w w'))
 case atStart => exact ⟨(0), (([] : List (S38))), (.slice none 0 0), oU, H', ⟨Nat.le_refl _⟩, ⟨oZ⟩, ⟨(oP aC)⟩, ⟨(oP aA)⟩, ⟨(oP aH)⟩, ⟨(blk_put (blk_put (blk_put aD.out 0 _ rfl) 1 _ rfl) 2 _ rfl)⟩, ⟨(oB HB)⟩⟩
 case round =>
  clear H'
  try clear c1
  try clear p2
  try clear c6
  try clear c7
  try clear c8
  try clear c10
  try clear c11
  try clear c12
  try clear bJ
  try clear bK
  try clear bL
  try clear bT
  try clear bU
  try clear bV
  try clear bW
  try clear bX
  try clear bM
  try clear bN
  try clear bO
  try clear bY
  try clear bZ
  try clear cA
  try clear cB
  try clear cC
  obtain ⟨bG, aN, aI, rfl, HA, HK1, aE, aC, aA, aH, aD, HB⟩ := hrel
  cases gk with
  | zero => exact nomatch (show none = some _ from HA.out)
  | succ k1 =>
   have H := HA.out
   clear HA
   simp only [spec_l6Size.l0] at H
   by_cases cQ : bG < a1_2
   ·rw [if_pos cQ] at H
    have cO : decide (bG < a1_2) = true := decide_eq_true cQ
    clear cQ
    have H' := Aside0.mk H
    clear H
    have fV := aT.out
    have gN := aR.out
    have fW := aU.out
    have gO := aV.out
    have fX := aK.out
    have gP := aM.out
    have cD : wr.cell? ⟨aG, 0, none⟩ = some (.int .i64 a1_0) := (blk_cell aA.out 0).trans rfl
    have cE : wr.cell? ⟨aG, 1, none⟩ = some (.int .i64 a1_1) := (blk_cell aA.out 1).trans rfl
    have cF : wr.cell? ⟨aG, 2, none⟩ = some (.int .i64 a1_2) := (blk_cell aA.out 2).trans rfl
    have cG : wr.cell? ⟨aG, 3, none⟩ = some (.int .i64 a1_3) := (blk_cell aA.out 3).trans rfl
    have cH : wr.cell? ⟨aG, 4, none⟩ = some (.int .i64 a1_4) := (blk_cell aA.out 4).trans rfl
    have cI := blk_frozen aA.out 0
    have cJ := blk_frozen aA.out 1
    have cK := blk_frozen aA.out 2
    have cL := blk_frozen aA.out 3
    have cM := blk_frozen aA.out 4
    go_wp2
    go_loopg [7] k1 (fun kq v7 w' => ∃ (bI : Int) (aJ : List (S38)) (aI : Value), v7 = .int .i64 bI ∧ Aside0 (spec_l6Size.l1 kq bG bI a0_0 a0_1 l0_2 a1_0 a1_1 a1_2 a1_3 a1_4 a1_1 a1_2 aJ = some (r1, r2, r3)) ∧ Aside0 (kq ≤ k1) ∧ Aside0 (Kd.R k38 38 w' w.heap.size (fun _ => True) aI aJ) ∧ Aside0 (w'.heap[bH]? = some (.cells #[.int .i64 a0_0, .int .i64 a0_1, (.slice bS l0_2.length bR)] 25 (0, 0))) ∧ Aside0 (w'.heap[aG]? = some (.cells #[.int .i64 a1_0, .int .i64 a1_1, .int .i64 a1_2, .int .i64 a1_3, .int .i64 a1_4] 27 (0, 0))) ∧ Aside0 (w'.heap[aW]? = some (.cells #[.int .i64 0, .int .i64 0, (.slice none 0 0)] 25 (0, 0))) ∧ Aside0 (w'.heap[aQ]? = some (.cells #[.int .i64 a1_1, .int .i64 a1_2, aI] 25 (0, 0))) ∧ Aside0 (Below w.heap.size w w'))
    case atStart => exact ⟨(0), (aN), (aI), oU, H', ⟨Nat.le_refl _⟩, ⟨(oR aE)⟩, ⟨(oP aC)⟩, ⟨(oP aA)⟩, ⟨(oP aH)⟩, ⟨(oP aD)⟩, ⟨(oB HB)⟩⟩
    case round =>
     clear H'
     try clear c1
     try clear p2
     try clear c6
     try clear c7
     try clear c8
     try clear c10
     try clear c11
     try clear c12
     try clear cQ
     try clear cO
     try clear c15
     try clear c16
     try clear c17
     try clear bJ
     try clear bK
     try clear bL
     try clear cD
     try clear cE
     try clear cF
     try clear cG
     try clear cH
     try clear bT
     try clear bU
     try clear bV
     try clear bW
     try clear bX
     try clear bM
     try clear bN
     try clear bO
     try clear cI
     try clear cJ
     try clear cK
     try clear cL
     try clear cM
     try clear bY
     try clear bZ
     try clear cA
     try clear cB
     try clear cC
     try clear p2
     obtain ⟨bI, aJ, aI, rfl, HA, HK2, aE, aC, aA, aH, aD, HB⟩ := hrel
     cases gk with
     | zero => exact nomatch (show none = some _ from HA.out)
     | succ k2 =>
      have H := HA.out
      clear HA
      simp only [spec_l6Size.l1] at H
      by_cases cV : bI < a1_1
      ·rw [if_pos cV] at H
       have dA : decide (bI < a1_1) = true := decide_eq_true cV
       clear cV
       by_cases dE : (wrap64 (2 * a1_2)) = 0
       ·rw [if_pos dE] at H
        exact absurd H (by simp)
       ·rw [if_neg dE] at H
        have fM : ((wrap64 (2 * a1_2)) == 0) = false := beq_eq_false_iff_ne.mpr dE
        have fN : ((wrap64 (2 * a1_2)) != 0) = true := bne_iff_ne.mpr dE
        by_cases dF : (wrap64 (2 * a1_1)) = 0
        ·rw [if_pos dF] at H
         exact absurd H (by simp)
        ·rw [if_neg dF] at H
         have fO : ((wrap64 (2 * a1_1)) == 0) = false := beq_eq_false_iff_ne.mpr dF
         have fP : ((wrap64 (2 * a1_1)) != 0) = true := bne_iff_ne.mpr dF
         obtain ⟨ji22, hji22⟩ : ∃ j_ : Int, (wrap64 ((wrap64 ((wrap64 (Int.tdiv (wrap64 ((wrap64 ((wrap64 (2 * bG)) + 1)) * a0_1)) (wrap64 (2 * a1_2)))) * a0_0)) + (wrap64 (Int.tdiv (wrap64 ((wrap64 ((wrap64 (2 * bI)) + 1)) * a0_0)) (wrap64 (2 * a1_1)))))) = j_ := ⟨_, rfl⟩
         replace H : (if 0 ≤ (ji22) then (if (ji22) < (l0_2.length : Int) then (if aJ.length < 4398046511104 then (spec_l6Size.l1 k2 bG (wrap64 (bI + 1)) a0_0 a0_1 l0_2 a1_0 a1_1 a1_2 a1_3 a1_4 a1_1 a1_2 (aJ ++ [(⟨(rd_T38 l0_2 (ji22)).f0, (rd_T38 l0_2 (ji22)).f1, (rd_T38 l0_2 (ji22)).f2, (rd_T38 l0_2 (ji22)).f3⟩ : S38)])) else (none)) else (none)) else (none)) = some (r1, r2, r3) := by first | (rw [hji22] at H; exact H) | (simp only [hji22] at H ⊢; exact H)
         have fB : (IntKind.i64.wrap ((wrap64 ((wrap64 (Int.tdiv (wrap64 ((wrap64 ((wrap64 (2 * bG)) + 1)) * a0_1)) (wrap64 (2 * a1_2)))) * a0_0)) + (wrap64 (Int.tdiv (wrap64 ((wrap64 ((wrap64 (2 * bI)) + 1)) * a0_0)) (wrap64 (2 * a1_1)))))) = ji22 := (i64_w _).trans hji22
         by_cases dG : 0 ≤ (ji22)
         ·rw [if_pos dG] at H
          have fQ : decide (0 ≤ (ji22)) = true := decide_eq_true dG
          clear dG
          by_cases dH : (ji22) < (l0_2.length : Int)
          ·rw [if_pos dH] at H
           have fR : decide ((ji22) < (l0_2.length : Int)) = true := decide_eq_true dH
           clear dH
           by_cases dI : aJ.length < 4398046511104
           ·rw [if_pos dI] at H
            have LMc25 := Aside0.mk dI
            clear dI
            obtain ⟨y351, hy351⟩ : ∃ y_ : List (S38), y_ = (aJ ++ [(⟨(rd_T38 l0_2 (ji22)).f0, (rd_T38 l0_2 (ji22)).f1, (rd_T38 l0_2 (ji22)).f2, (rd_T38 l0_2 (ji22)).f3⟩ : S38)]) := ⟨_, rfl⟩
            replace H : (spec_l6Size.l1 k2 bG (wrap64 (bI + 1)) a0_0 a0_1 l0_2 a1_0 a1_1 a1_2 a1_3 a1_4 a1_1 a1_2 y351) = some (r1, r2, r3) := by first | (rw [hy351]; with_reducible exact H) | (have H2_ := (Option.bind_some _ _).symm.trans H; rw [hy351]; with_reducible exact H2_) | (have H2_ := (Option.bind_some _ _).symm.trans H; with_reducible exact H2_) | with_reducible exact H | (rw [hy351]; exact H) | exact H
            have cZ := Aside0.mk hy351
            clear hy351
            have H' := Aside0.mk H
            clear H
            have fY := aT.out
            have gQ := aR.out
            have fZ := aU.out
            have gR := aV.out
            have gA := aK.out
            have gS := aM.out
            have dJ : wr.cell? ⟨aG, 0, none⟩ = some (.int .i64 a1_0) := (blk_cell aA.out 0).trans rfl
            have dK : wr.cell? ⟨aG, 1, none⟩ = some (.int .i64 a1_1) := (blk_cell aA.out 1).trans rfl
            have dL : wr.cell? ⟨aG, 2, none⟩ = some (.int .i64 a1_2) := (blk_cell aA.out 2).trans rfl
            have dM : wr.cell? ⟨aG, 3, none⟩ = some (.int .i64 a1_3) := (blk_cell aA.out 3).trans rfl
            have dN : wr.cell? ⟨aG, 4, none⟩ = some (.int .i64 a1_4) := (blk_cell aA.out 4).trans rfl
            have eE := blk_frozen aA.out 0
            have eF := blk_frozen aA.out 1
            have eG := blk_frozen aA.out 2
            have eH := blk_frozen aA.out 3
            have eI := blk_frozen aA.out 4
            try go_wp2
            have n_ := o2_ (Kd.R_drew aE.out) (o2_ (blk_drew aC.out) (o2_ (blk_drew aA.out) (o2_ (blk_drew aH.out) (o2_ (blk_drew aD.out) (o1_ (below_drew1 HB.out))))))
            clear aE aC aA aH aD HB
            obtain ⟨aE, aC, aA, aH, aD, HB⟩ := n_
            have cR : 0 ≤ ((ji22) : Int) := of_decide_eq_true oM
            have cS : (ji22) < (l0_2.length : Int) := of_decide_eq_true oM
            obtain ⟨bF, eZ, aX, aY, aZ, bA⟩ := at_T38 cY.out (ji22) cR cS
            have hw350_3 := bA
            have hw350_2 := aZ
            have hw350_1 := aY
            have hw350_0 := aX
            cases eZ
            replace aX := (HB.out.cell (World.block_lt_of_cell? w _ aX)).trans aX
            replace aY := (HB.out.cell (World.block_lt_of_cell? w _ aY)).trans aY
            replace aZ := (HB.out.cell (World.block_lt_of_cell? w _ aZ)).trans aZ
            replace bA := (HB.out.cell (World.block_lt_of_cell? w _ bA)).trans bA
            replace cR := eq_true cR
            replace cS := eq_true cS
            refine start_ (n := 34) (S := fun w' => w'.cell? ⟨aQ, 0, none⟩ = some (.int .i64 a1_1) ∧ w'.cell? ⟨aQ, 1, none⟩ = some (.int .i64 a1_2) ∧ w'.cell? ⟨aQ, 2, none⟩ = some (aI) ∧ w'.cell? ⟨bH, 0, none⟩ = some (.int .i64 a0_0) ∧ w'.cell? ⟨bH, 1, none⟩ = some (.int .i64 a0_1) ∧ w'.cell? ⟨bH, 2, none⟩ = some (.slice (some bF) l0_2.length bR) ∧ w'.cell? ⟨aG, 0, none⟩ = some (.int .i64 a1_0) ∧ w'.cell? ⟨aG, 1, none⟩ = some (.int .i64 a1_1) ∧ w'.cell? ⟨aG, 2, none⟩ = some (.int .i64 a1_2) ∧ w'.cell? ⟨aG, 3, none⟩ = some (.int .i64 a1_3) ∧ w'.cell? ⟨aG, 4, none⟩ = some (.int .i64 a1_4) ∧ w'.cell? (bF.add (((ji22)).toNat * 4)) = some (.int .i64 ((rd_T38 l0_2 (ji22)).f0)) ∧ w'.cell? ⟨(bF.add (((ji22)).toNat * 4)).block, (bF.add (((ji22)).toNat * 4)).off + 1, none⟩ = some (.int .i64 ((rd_T38 l0_2 (ji22)).f1)) ∧ w'.cell? ⟨(bF.add (((ji22)).toNat * 4)).block, (bF.add (((ji22)).toNat * 4)).off + 2, none⟩ = some (.int .i64 ((rd_T38 l0_2 (ji22)).f2)) ∧ w'.cell? ⟨(bF.add (((ji22)).toNat * 4)).block, (bF.add (((ji22)).toNat * 4)).off + 3, none⟩ = some (.int .i64 ((rd_T38 l0_2 (ji22)).f3))) (ds := [33]) #[false, false, false, false, false, false, false, false, false, false, false, false, false, false, false, false, false, false, false, false, false, false, false, false, false, false, false, false, false, false, false, false, false, false] oK rfl rfl ⟨(blk_cell aD.out 0).trans rfl, (blk_cell aD.out 1).trans rfl, (blk_cell aD.out 2).trans rfl, (blk_cell aC.out 0).trans rfl, (blk_cell aC.out 1).trans rfl, (blk_cell aC.out 2).trans rfl, (blk_cell aA.out 0).trans rfl, (blk_cell aA.out 1).trans rfl, (blk_cell aA.out 2).trans rfl, (blk_cell aA.out 3).trans rfl, (blk_cell aA.out 4).trans rfl, ((HB.out.cell (World.block_lt_of_cell? w _ hw350_0)).trans hw350_0), ((HB.out.cell (World.block_lt_of_cell? w _ hw350_1)).trans hw350_1), ((HB.out.cell (World.block_lt_of_cell? w _ hw350_2)).trans hw350_2), ((HB.out.cell (World.block_lt_of_cell? w _ hw350_3)).trans hw350_3)⟩ (fun hHeld => ?_); refine with_tabW spec_l6Size.tab8 spec_l6Size.bits8 (fun HT_ HW_ => ?_)
            generalize wr.drew = hJ at aE aC aA aH aD HB aX aY aZ bA hHeld ⊢
            refine pure_ (i := 0) (N := some 25) (v := ?_) (a' := ?_) #[true, false, false, false, false, false, false, false, false, false, false, false, false, false, false, false, false, false, false, false, false, false, false, false, false, false, false, false, false, false, false, false, false, false] rfl rfl (any_of HT_.out oK) (fun _ _ _ h => h) (Or.inl ⟨by rfl, ?_⟩) ?_ ?_
            rotate_left
            ·intro w'
             go_simp
             with_reducible rfl
            rotate_left
            ·exact oT
            refine pure_ (i := 2) (N := some 27) (v := ?_) (a' := ?_) #[true, false, true, false, false, false, false, false, false, false, false, false, false, false, false, false, false, false, false, false, false, false, false, false, false, false, false, false, false, false, false, false, false, false] rfl rfl (any_of HT_.out oK) (fun _ _ _ h => h) (Or.inl ⟨by rfl, ?_⟩) ?_ ?_
            rotate_left
            ·intro w'
             go_simp
             with_reducible rfl
            rotate_left
            ·exact oT
            refine pure_ (i := 4) (N := some 29) (v := ?_) (a' := ?_) #[true, false, true, false, true, false, false, false, false, false, false, false, false, false, false, false, false, false, false, false, false, false, false, false, false, false, false, false, false, false, false, false, false, false] rfl rfl (any_of HT_.out oK) (fun _ _ _ h => h) (Or.inl ⟨by rfl, ?_⟩) ?_ ?_
            rotate_left
            ·intro w'
             go_simp
             with_reducible rfl
            rotate_left
            ·exact oT
            refine pure_ (i := 5) (N := some 30) (v := ?_) (a' := ?_) #[true, false, true, false, true, true, false, false, false, false, false, false, false, false, false, false, false, false, false, false, false, false, false, false, false, false, false, false, false, false, false, false, false, false] rfl rfl (any_of HT_.out oK) (fun _ _ _ h => h) (Or.inl ⟨by rfl, ?_⟩) ?_ ?_
            rotate_left
            ·intro w'
             go_simp
             with_reducible rfl
            rotate_left
            ·exact oT
            refine pure_ (i := 6) (N := some 31) (v := ?_) (a' := ?_) #[true, false, true, false, true, true, true, false, false, false, false, false, false, false, false, false, false, false, false, false, false, false, false, false, false, false, false, false, false, false, false, false, false, false] rfl rfl (any_of HT_.out oK) (fun _ _ _ h => h) (Or.inl ⟨by rfl, ?_⟩) ?_ ?_
            rotate_left
            ·intro w'
             go_simp
             with_reducible rfl
            rotate_left
            ·exact oT
            refine pure_ (i := 7) (N := some 32) (v := ?_) (a' := ?_) #[true, false, true, false, true, true, true, true, false, false, false, false, false, false, false, false, false, false, false, false, false, false, false, false, false, false, false, false, false, false, false, false, false, false] rfl rfl (any_of HT_.out oK) (fun _ _ _ h => h) (Or.inl ⟨by rfl, ?_⟩) ?_ ?_
            rotate_left
            ·intro w'
             go_simp
             with_reducible rfl
            rotate_left
            ·exact oT
            refine pure_ (i := 10) (N := some 35) (v := ?_) (a' := ?_) #[true, false, true, false, true, true, true, true, false, false, true, false, false, false, false, false, false, false, false, false, false, false, false, false, false, false, false, false, false, false, false, false, false, false] rfl rfl (any_of HT_.out oK) (fun _ _ _ h => h) (Or.inl ⟨by rfl, ?_⟩) ?_ ?_
            rotate_left
            ·intro w'
             go_simp
             with_reducible rfl
            rotate_left
            ·exact oT
            refine pure_ (i := 14) (N := some 39) (v := ?_) (a' := ?_) #[true, false, true, false, true, true, true, true, false, false, true, false, false, false, true, false, false, false, false, false, false, false, false, false, false, false, false, false, false, false, false, false, false, false] rfl rfl (any_of HT_.out oK) (fun _ _ _ h => h) (Or.inl ⟨by rfl, ?_⟩) ?_ ?_
            rotate_left
            ·intro w'
             go_simp
             with_reducible rfl
            rotate_left
            ·exact oT
            refine pure_ (i := 17) (N := some 42) (v := ?_) (a' := ?_) #[true, false, true, false, true, true, true, true, false, false, true, false, false, false, true, false, false, true, false, false, false, false, false, false, false, false, false, false, false, false, false, false, false, false] rfl rfl (any_of HT_.out oK) (fun _ _ _ h => h) (Or.inl ⟨by rfl, ?_⟩) ?_ ?_
            rotate_left
            ·intro w'
             go_simp
             with_reducible rfl
            rotate_left
            ·exact oT
            refine pure_ (i := 18) (N := some 43) (v := ?_) (a' := ?_) #[true, false, true, false, true, true, true, true, false, false, true, false, false, false, true, false, false, true, true, false, false, false, false, false, false, false, false, false, false, false, false, false, false, false] rfl rfl (any_of HT_.out oK) (fun _ _ _ h => h) (Or.inl ⟨by rfl, ?_⟩) ?_ ?_
            rotate_left
            ·intro w'
             go_simp
             with_reducible rfl
            rotate_left
            ·exact oT
            refine pure_ (i := 19) (N := some 44) (v := ?_) (a' := ?_) #[true, false, true, false, true, true, true, true, false, false, true, false, false, false, true, false, false, true, true, true, false, false, false, false, false, false, false, false, false, false, false, false, false, false] rfl rfl (any_of HT_.out oK) (fun _ _ _ h => h) (Or.inl ⟨by rfl, ?_⟩) ?_ ?_
            rotate_left
            ·intro w'
             go_simp
             with_reducible rfl
            rotate_left
            ·exact oT
            refine pure_ (i := 20) (N := some 45) (v := ?_) (a' := ?_) #[true, false, true, false, true, true, true, true, false, false, true, false, false, false, true, false, false, true, true, true, true, false, false, false, false, false, false, false, false, false, false, false, false, false] rfl rfl (any_of HT_.out oK) (fun _ _ _ h => h) (Or.inl ⟨by rfl, ?_⟩) ?_ ?_
            rotate_left
            ·intro w'
             go_simp
             with_reducible rfl
            rotate_left
            ·exact oT
            refine pure_ (i := 23) (N := some 48) (v := ?_) (a' := ?_) #[true, false, true, false, true, true, true, true, false, false, true, false, false, false, true, false, false, true, true, true, true, false, false, true, false, false, false, false, false, false, false, false, false, false] rfl rfl (any_of HT_.out oK) (fun _ _ _ h => h) (Or.inl ⟨by rfl, ?_⟩) ?_ ?_
            rotate_left
            ·intro w'
             go_simp
             with_reducible rfl
            rotate_left
            ·exact oT
            refine take_ (i := 1) (N := some 26) (v := ?_) (a' := ?_) #[true, true, true, false, true, true, true, true, false, false, true, false, false, false, true, false, false, true, true, true, true, false, false, true, false, false, false, false, false, false, false, false, false, false] rfl rfl (take_ofW HT_.out HW_.out oK) (fun _ _ _ h => h) (Or.inl ⟨by rfl, ?_⟩) hHeld ?_ ?_
            rotate_left
            ·rintro w' ⟨s0, s1, s2, s3, s4, s5, s6, s7, s8, s9, s10, s11, s12, s13, s14⟩
             go_simp
             with_reducible rfl
            rotate_left
            ·exact oT
            refine take_ (i := 3) (N := some 28) (v := ?_) (a' := ?_) #[true, true, true, true, true, true, true, true, false, false, true, false, false, false, true, false, false, true, true, true, true, false, false, true, false, false, false, false, false, false, false, false, false, false] rfl rfl (take_ofW HT_.out HW_.out oK) (fun _ _ _ h => h) (Or.inl ⟨by rfl, ?_⟩) hHeld ?_ ?_
            rotate_left
            ·rintro w' ⟨s0, s1, s2, s3, s4, s5, s6, s7, s8, s9, s10, s11, s12, s13, s14⟩
             go_simp
             with_reducible rfl
            rotate_left
            ·exact oT
            refine take_ (i := 8) (N := some 33) (v := ?_) (a' := ?_) #[true, true, true, true, true, true, true, true, true, false, true, false, false, false, true, false, false, true, true, true, true, false, false, true, false, false, false, false, false, false, false, false, false, false] rfl rfl (take_ofW HT_.out HW_.out oK) (fun _ _ _ h => h) (Or.inl ⟨by rfl, ?_⟩) hHeld ?_ ?_
            rotate_left
            ·rintro w' ⟨s0, s1, s2, s3, s4, s5, s6, s7, s8, s9, s10, s11, s12, s13, s14⟩
             go_simp
             with_reducible rfl
            rotate_left
            ·exact oT
            refine pure_ (i := 9) (N := some 34) (v := ?_) (a' := ?_) #[true, true, true, true, true, true, true, true, true, true, true, false, false, false, true, false, false, true, true, true, true, false, false, true, false, false, false, false, false, false, false, false, false, false] rfl rfl (any_of HT_.out oK) (fun _ _ _ h => h) (Or.inl ⟨by rfl, ?_⟩) ?_ ?_
            rotate_left
            ·intro w'
             go_simp
             with_reducible rfl
            rotate_left
            ·exact oT
            refine take_ (i := 11) (N := some 36) (v := ?_) (a' := ?_) #[true, true, true, true, true, true, true, true, true, true, true, true, false, false, true, false, false, true, true, true, true, false, false, true, false, false, false, false, false, false, false, false, false, false] rfl rfl (take_ofW HT_.out HW_.out oK) (fun _ _ _ h => h) (Or.inl ⟨by rfl, ?_⟩) hHeld ?_ ?_
            rotate_left
            ·rintro w' ⟨s0, s1, s2, s3, s4, s5, s6, s7, s8, s9, s10, s11, s12, s13, s14⟩
             go_simp
             with_reducible rfl
            rotate_left
            ·exact oT
            refine pure_ (i := 12) (N := some 37) (v := ?_) (a' := ?_) #[true, true, true, true, true, true, true, true, true, true, true, true, true, false, true, false, false, true, true, true, true, false, false, true, false, false, false, false, false, false, false, false, false, false] rfl rfl (any_of HT_.out oK) (fun _ _ _ h => h) (Or.inl ⟨by rfl, ?_⟩) ?_ ?_
            rotate_left
            ·intro w'
             go_simp
             with_reducible rfl
            rotate_left
            ·exact oT
            refine pure_ (i := 13) (N := some 38) (v := ?_) (a' := ?_) #[true, true, true, true, true, true, true, true, true, true, true, true, true, true, true, false, false, true, true, true, true, false, false, true, false, false, false, false, false, false, false, false, false, false] rfl rfl (any_of HT_.out oK) (fun _ _ _ h => h) (Or.inl ⟨by rfl, ?_⟩) ?_ ?_
            rotate_left
            ·intro w'
             go_simp
             with_reducible rfl
            rotate_left
            ·exact oT
            refine take_ (i := 15) (N := some 40) (v := ?_) (a' := ?_) #[true, true, true, true, true, true, true, true, true, true, true, true, true, true, true, true, false, true, true, true, true, false, false, true, false, false, false, false, false, false, false, false, false, false] rfl rfl (take_ofW HT_.out HW_.out oK) (fun _ _ _ h => h) (Or.inl ⟨by rfl, ?_⟩) hHeld ?_ ?_
            rotate_left
            ·rintro w' ⟨s0, s1, s2, s3, s4, s5, s6, s7, s8, s9, s10, s11, s12, s13, s14⟩
             go_simp
             with_reducible rfl
            rotate_left
            ·exact oT
            refine pure_ (i := 16) (N := some 41) (v := ?_) (a' := ?_) #[true, true, true, true, true, true, true, true, true, true, true, true, true, true, true, true, true, true, true, true, true, false, false, true, false, false, false, false, false, false, false, false, false, false] rfl rfl (any_of HT_.out oK) (fun _ _ _ h => h) (Or.inl ⟨by rfl, ?_⟩) ?_ ?_
            rotate_left
            ·intro w'
             go_simp
             with_reducible rfl
            rotate_left
            ·exact oT
            refine take_ (i := 21) (N := some 46) (v := ?_) (a' := ?_) #[true, true, true, true, true, true, true, true, true, true, true, true, true, true, true, true, true, true, true, true, true, true, false, true, false, false, false, false, false, false, false, false, false, false] rfl rfl (take_ofW HT_.out HW_.out oK) (fun _ _ _ h => h) (Or.inl ⟨by rfl, ?_⟩) hHeld ?_ ?_
            rotate_left
            ·rintro w' ⟨s0, s1, s2, s3, s4, s5, s6, s7, s8, s9, s10, s11, s12, s13, s14⟩
             go_simp
             with_reducible rfl
            rotate_left
            ·exact oT
            refine pure_ (i := 22) (N := some 47) (v := ?_) (a' := ?_) #[true, true, true, true, true, true, true, true, true, true, true, true, true, true, true, true, true, true, true, true, true, true, true, true, false, false, false, false, false, false, false, false, false, false] rfl rfl (any_of HT_.out oK) (fun _ _ _ h => h) (Or.inl ⟨by rfl, ?_⟩) ?_ ?_
            rotate_left
            ·intro w'
             go_simp
             with_reducible rfl
            rotate_left
            ·exact oT
            refine take_ (i := 24) (N := some 49) (v := ?_) (a' := ?_) #[true, true, true, true, true, true, true, true, true, true, true, true, true, true, true, true, true, true, true, true, true, true, true, true, true, false, false, false, false, false, false, false, false, false] rfl rfl (take_ofW HT_.out HW_.out oK) (fun _ _ _ h => h) (Or.inl ⟨by rfl, ?_⟩) hHeld ?_ ?_
            rotate_left
            ·rintro w' ⟨s0, s1, s2, s3, s4, s5, s6, s7, s8, s9, s10, s11, s12, s13, s14⟩
             go_simp
             with_reducible rfl
            rotate_left
            ·exact oT
            refine pure_ (i := 25) (N := some 50) (v := ?_) (a' := ?_) #[true, true, true, true, true, true, true, true, true, true, true, true, true, true, true, true, true, true, true, true, true, true, true, true, true, true, false, false, false, false, false, false, false, false] rfl rfl (any_of HT_.out oK) (fun _ _ _ h => h) (Or.inl ⟨by rfl, ?_⟩) ?_ ?_
            rotate_left
            ·intro w'
             go_simp
             with_reducible rfl
            rotate_left
            ·exact oT
            refine pure_ (i := 26) (N := some 51) (v := ?_) (a' := ?_) #[true, true, true, true, true, true, true, true, true, true, true, true, true, true, true, true, true, true, true, true, true, true, true, true, true, true, true, false, false, false, false, false, false, false] rfl rfl (any_of HT_.out oK) (fun _ _ _ h => h) (Or.inl ⟨by rfl, ?_⟩) ?_ ?_
            rotate_left
            ·intro w'
             go_simp
             with_reducible rfl
            rotate_left
            ·exact oT
            refine pure_ (i := 27) (N := some 52) (v := ?_) (a' := ?_) #[true, true, true, true, true, true, true, true, true, true, true, true, true, true, true, true, true, true, true, true, true, true, true, true, true, true, true, true, false, false, false, false, false, false] rfl rfl (any_of HT_.out oK) (fun _ _ _ h => h) (Or.inl ⟨by rfl, ?_⟩) ?_ ?_
            rotate_left
            ·intro w'
             go_simp
             with_reducible rfl
            rotate_left
            ·exact oT
            refine pure_ (i := 28) (N := some 53) (v := ?_) (a' := ?_) #[true, true, true, true, true, true, true, true, true, true, true, true, true, true, true, true, true, true, true, true, true, true, true, true, true, true, true, true, true, false, false, false, false, false] rfl rfl (any_of HT_.out oK) (fun _ _ _ h => h) (Or.inl ⟨by rfl, ?_⟩) ?_ ?_
            rotate_left
            ·intro w'
             go_simp
             with_reducible rfl
            rotate_left
            ·exact oT
            refine take_ (i := 29) (N := some 54) (v := ?_) (a' := ?_) #[true, true, true, true, true, true, true, true, true, true, true, true, true, true, true, true, true, true, true, true, true, true, true, true, true, true, true, true, true, true, false, false, false, false] rfl rfl (take_ofW HT_.out HW_.out oK) (fun _ _ _ h => h) (Or.inl ⟨by rfl, ?_⟩) hHeld ?_ ?_
            rotate_left
            ·rintro w' ⟨s0, s1, s2, s3, s4, s5, s6, s7, s8, s9, s10, s11, s12, s13, s14⟩
             go_simp
             with_reducible rfl
            rotate_left
            ·exact oT
            refine one_ (i := 30) (N := some 55) #[true, true, true, true, true, true, true, true, true, true, true, true, true, true, true, true, true, true, true, true, true, true, true, true, true, true, true, true, true, true, true, false, false, false] rfl rfl (one_of HT_.out oK) oD (fun K hK => ?_)
            refine value_ (w1 := ?_) (v := ?_) (by rfl) rfl ?_ ?_
            rotate_left 2
            ·go_simp
             constructor
             ·rfl
             ·rfl
            refine hK.out _ _ ⟨(blk_cell (blk_alloc aD.out _) 0).trans rfl, (blk_cell (blk_alloc aD.out _) 1).trans rfl, (blk_cell (blk_alloc aD.out _) 2).trans rfl, (blk_cell (blk_alloc aC.out _) 0).trans rfl, (blk_cell (blk_alloc aC.out _) 1).trans rfl, (blk_cell (blk_alloc aC.out _) 2).trans rfl, (blk_cell (blk_alloc aA.out _) 0).trans rfl, (blk_cell (blk_alloc aA.out _) 1).trans rfl, (blk_cell (blk_alloc aA.out _) 2).trans rfl, (blk_cell (blk_alloc aA.out _) 3).trans rfl, (blk_cell (blk_alloc aA.out _) 4).trans rfl, (World.cell?_alloc_lt _ _ _ (World.block_lt_of_cell? _ _ (((HB.out.cell (World.block_lt_of_cell? w _ hw350_0)).trans hw350_0)))).trans (((HB.out.cell (World.block_lt_of_cell? w _ hw350_0)).trans hw350_0)), (World.cell?_alloc_lt _ _ _ (World.block_lt_of_cell? _ _ (((HB.out.cell (World.block_lt_of_cell? w _ hw350_1)).trans hw350_1)))).trans (((HB.out.cell (World.block_lt_of_cell? w _ hw350_1)).trans hw350_1)), (World.cell?_alloc_lt _ _ _ (World.block_lt_of_cell? _ _ (((HB.out.cell (World.block_lt_of_cell? w _ hw350_2)).trans hw350_2)))).trans (((HB.out.cell (World.block_lt_of_cell? w _ hw350_2)).trans hw350_2)), (World.cell?_alloc_lt _ _ _ (World.block_lt_of_cell? _ _ (((HB.out.cell (World.block_lt_of_cell? w _ hw350_3)).trans hw350_3)))).trans (((HB.out.cell (World.block_lt_of_cell? w _ hw350_3)).trans hw350_3))⟩ (fun hHeld => ?_)
            clear hK K
            refine norm_ (a' := ?_) ?_ ?_
            rotate_left
            ·show Act.put _ (some 55) _ = _
             exact oT
            refine one_ (i := 31) (N := some 56) #[true, true, true, true, true, true, true, true, true, true, true, true, true, true, true, true, true, true, true, true, true, true, true, true, true, true, true, true, true, true, true, true, false, false] rfl rfl (one_of HT_.out oK) oD (fun K hK => ?_)
            refine Kd.R_append_step k38 (w0 := w) w.heap.size (by rfl) (.tmp 26) (.tmp 55) 23 38 (.agg #[(.int .i64 0), (.int .i64 0), (.int .i64 0), (.int .i64 0)]) 32 rfl Try.underlying23 info38 rfl oD (by omega) aI aJ (⟨(rd_T38 l0_2 (ji22)).f0, (rd_T38 l0_2 (ji22)).f1, (rd_T38 l0_2 (ji22)).f2, (rd_T38 l0_2 (ji22)).f3⟩ : S38) [.int .i64 ((rd_T38 l0_2 (ji22)).f0), .int .i64 ((rd_T38 l0_2 (ji22)).f1), .int .i64 ((rd_T38 l0_2 (ji22)).f2), .int .i64 ((rd_T38 l0_2 (ji22)).f3)] (fun _ => True) (fun _ => False) rfl rfl ?aP (fun _ hk => hk.elim) ?aF ?aO ?aB ?aS ?aL ?_
            (case aP => exact k38_mkM _ _ _ (⟨(rd_T38 l0_2 (ji22)).f0, (rd_T38 l0_2 (ji22)).f1, (rd_T38 l0_2 (ji22)).f2, (rd_T38 l0_2 (ji22)).f3⟩ : S38))
            (case aB => exact (oB HB))
            (case aF => exact (fun _ _ => trivial))
            (case aO => exact (oR aE))
            (case aS => exact (below_size (oB HB)))
            (case aL => have := LMc25.out; omega)
            intro hH hI ho hb hg hat
            rw [← cZ.out] at ho
            have n_ := o2_ (blk_grown (oP aC) hg (Kd.R_ne aE.out aC.out oD)) (o2_ (blk_grown (oP aA) hg (Kd.R_ne aE.out aA.out oD)) (o2_ (blk_grown (oP aH) hg (Kd.R_ne aE.out aH.out oD)) (o2_ (blk_grown (oP aD) hg (Kd.R_ne aE.out aD.out oD)) (o2_ (hb) (o1_ (ho))))))
            clear aC aA aH aD HB aE
            obtain ⟨aC, aA, aH, aD, HB, cN⟩ := n_
            clear ho hb hg hat
            obtain ⟨cW, dB, dD⟩ := Kd.R_slice cN.out
            (first | subst dD | (injection dD with f1_ f2_ f3_; have f4_ := f1_.symm; have f5_ := f3_.symm; clear f1_ f2_ f3_; subst f4_; subst f5_))
            refine hK.out _ _ ⟨(blk_cell aD.out 0).trans rfl, (blk_cell aD.out 1).trans rfl, (blk_cell aD.out 2).trans rfl, (blk_cell aC.out 0).trans rfl, (blk_cell aC.out 1).trans rfl, (blk_cell aC.out 2).trans rfl, (blk_cell aA.out 0).trans rfl, (blk_cell aA.out 1).trans rfl, (blk_cell aA.out 2).trans rfl, (blk_cell aA.out 3).trans rfl, (blk_cell aA.out 4).trans rfl, ((HB.out.cell (World.block_lt_of_cell? w _ hw350_0)).trans hw350_0), ((HB.out.cell (World.block_lt_of_cell? w _ hw350_1)).trans hw350_1), ((HB.out.cell (World.block_lt_of_cell? w _ hw350_2)).trans hw350_2), ((HB.out.cell (World.block_lt_of_cell? w _ hw350_3)).trans hw350_3)⟩ (fun hHeld => ?_)
            clear hK K
            refine norm_ (a' := ?_) ?_ ?_
            rotate_left
            ·show Act.put _ (some 56) _ = _
             exact oT
            refine pure_ (i := 32) (N := some 57) (v := ?_) (a' := ?_) #[true, true, true, true, true, true, true, true, true, true, true, true, true, true, true, true, true, true, true, true, true, true, true, true, true, true, true, true, true, true, true, true, true, false] rfl rfl (any_of HT_.out oK) (fun _ _ _ h => h) (Or.inl ⟨by rfl, ?_⟩) ?_ ?_
            rotate_left
            ·intro w'
             go_simp
             with_reducible rfl
            rotate_left
            ·exact oT
            refine last_ (i := 33) (N := none) #[true, true, true, true, true, true, true, true, true, true, true, true, true, true, true, true, true, true, true, true, true, true, true, true, true, true, true, true, true, true, true, true, true, true] rfl rfl (one_of HT_.out oK) oD (fun K hK => ?_)
            have hs33 : hI.cell? ⟨aQ, 2, none⟩ = some (aI) := (blk_cell aD.out 2).trans rfl
            have hfs33 := blk_frozen aD.out 2
            have hns33_0 := bB.out
            have hns33_1 := aK.out
            have hns33_2 := bC.out
            have hms33_0 := bD.out
            have hms33_1 := aM.out
            have hms33_2 := bE.out
            refine skip_ (w1 := ?_) (by rfl) rfl ?_ ?_
            rotate_left
            ·go_simp
             rfl
            refine hK.out _ _ ?_
            clear hK K
            refine done_ (done_of HT_.out oK) ?_
            try go_wp2
            go_roundg k2
            case measure => have := HK1.out; have := HK2.out; omega
            case rel => exact ⟨(wrap64 (bI + 1)), (y351), (.slice cW y351.length dB), oU, H', ⟨(by have := HK1.out; have := HK2.out; omega)⟩, ⟨(by (with_reducible repeat (first | apply Kd.R_alloc | apply Kd.R_drewN | apply Kd.R_drew)); exact Kd.R_mono (Kd.R_far (p := ⟨aQ, 2, none⟩) (Kd.R_types cN.out aD.out oD) (fun _ hk => hk.2) (.slice cW y351.length dB)) (fun _ hk => trivial))⟩, ⟨(oP aC)⟩, ⟨(oP aA)⟩, ⟨(oP aH)⟩, ⟨(blk_put aD.out 2 _ rfl)⟩, ⟨(oB HB)⟩⟩
           ·rw [if_neg dI] at H
            exact absurd H (by simp)
          ·rw [if_neg dH] at H
           exact absurd H (by simp)
         ·rw [if_neg dG] at H
          exact absurd H (by simp)
      ·rw [if_neg cV] at H
       have dA : decide (bI < a1_1) = false := decide_eq_false cV
       clear cV
       have H' := Aside0.mk H
       clear H
       have gB := aT.out
       have gT := aR.out
       have gC := aU.out
       have gU := aV.out
       have gD := aK.out
       have gV := aM.out
       have dO : wr.cell? ⟨aG, 0, none⟩ = some (.int .i64 a1_0) := (blk_cell aA.out 0).trans rfl
       have dP : wr.cell? ⟨aG, 1, none⟩ = some (.int .i64 a1_1) := (blk_cell aA.out 1).trans rfl
       have dQ : wr.cell? ⟨aG, 2, none⟩ = some (.int .i64 a1_2) := (blk_cell aA.out 2).trans rfl
       have dR : wr.cell? ⟨aG, 3, none⟩ = some (.int .i64 a1_3) := (blk_cell aA.out 3).trans rfl
       have dS : wr.cell? ⟨aG, 4, none⟩ = some (.int .i64 a1_4) := (blk_cell aA.out 4).trans rfl
       have eJ := blk_frozen aA.out 0
       have eK := blk_frozen aA.out 1
       have eL := blk_frozen aA.out 2
       have eM := blk_frozen aA.out 3
       have eN := blk_frozen aA.out 4
       go_wp2
       go_roundg k2
       case measure => have := HK1.out; have := HK2.out; omega
       case rel => exact ⟨(wrap64 (bG + 1)), (aJ), (aI), oU, H', ⟨(by have := HK1.out; have := HK2.out; omega)⟩, ⟨(oR aE)⟩, ⟨(oP aC)⟩, ⟨(oP aA)⟩, ⟨(oP aH)⟩, ⟨(oP aD)⟩, ⟨(oB HB)⟩⟩
   ·rw [if_neg cQ] at H
    have cO : decide (bG < a1_2) = false := decide_eq_false cQ
    clear cQ
    simp only [Option.some.injEq, Prod.mk.injEq] at H
    obtain ⟨rfl, rfl, rfl⟩ := H
    have gE := aT.out
    have gW := aR.out
    have gF := aU.out
    have gX := aV.out
    have gG := aK.out
    have gY := aM.out
    have dT : wr.cell? ⟨aG, 0, none⟩ = some (.int .i64 a1_0) := (blk_cell aA.out 0).trans rfl
    have dU : wr.cell? ⟨aG, 1, none⟩ = some (.int .i64 a1_1) := (blk_cell aA.out 1).trans rfl
    have dV : wr.cell? ⟨aG, 2, none⟩ = some (.int .i64 a1_2) := (blk_cell aA.out 2).trans rfl
    have dW : wr.cell? ⟨aG, 3, none⟩ = some (.int .i64 a1_3) := (blk_cell aA.out 3).trans rfl
    have dX : wr.cell? ⟨aG, 4, none⟩ = some (.int .i64 a1_4) := (blk_cell aA.out 4).trans rfl
    have eO := blk_frozen aA.out 0
    have eP := blk_frozen aA.out 1
    have eQ := blk_frozen aA.out 2
    have eR := blk_frozen aA.out 3
    have eS := blk_frozen aA.out 4
    have gH := bD.out
    have gZ := bB.out
    have gI := bE.out
    have hA := bC.out
    have dY : wr.cell? ⟨aQ, 0, none⟩ = some (.int .i64 a1_1) := (blk_cell aD.out 0).trans rfl
    have dZ : wr.cell? ⟨aQ, 1, none⟩ = some (.int .i64 a1_2) := (blk_cell aD.out 1).trans rfl
    have eA : wr.cell? ⟨aQ, 2, none⟩ = some (aI) := (blk_cell aD.out 2).trans rfl
    have eT := blk_frozen aD.out 0
    have eU := blk_frozen aD.out 1
    have eV := blk_frozen aD.out 2
    have gJ := bQ.out
    have hB := bP.out
    have eB : wr.cell? ⟨aW, 0, none⟩ = some (.int .i64 0) := (blk_cell aH.out 0).trans rfl
    have eC : wr.cell? ⟨aW, 1, none⟩ = some (.int .i64 0) := (blk_cell aH.out 1).trans rfl
    have eD : wr.cell? ⟨aW, 2, none⟩ = some (.slice none 0 0) := (blk_cell aH.out 2).trans rfl
    have eW := blk_frozen aH.out 0
    have eX := blk_frozen aH.out 1
    have eY := blk_frozen aH.out 2
    obtain ⟨cX, dC, fA⟩ := Kd.R_slice aE.out
    subst fA
    go_wp2
    refine bodyPost_ret (results_cell_row rfl _ _ aW 25 #[.int .i64 a1_1, .int .i64 a1_2, .slice cX aN.length dC] (0, 0) _ rfl (blk_put (blk_put (blk_put aH.out 0 _ rfl) 1 _ rfl) 2 _ rfl) Try.underlying25 rfl oK) rfl ?_
    exact ⟨_, by first | rfl | (simp [errW_none, errW_some] <;> rfl) | (simp [*, errW_none, errW_some] <;> rfl), by (with_reducible repeat (first | apply Kd.R_alloc | apply Kd.R_drewN | apply Kd.R_drew)); exact Kd.R_mono (Kd.R_far (p := ⟨aW, 2, none⟩) (Kd.R_far (p := ⟨aW, 1, none⟩) (Kd.R_far (p := ⟨aW, 0, none⟩) (Kd.R_types aE.out aH.out oD) (fun _ hk => hk.2) (.int .i64 a1_1)) (fun _ hk => hk.2) (.int .i64 a1_2)) (fun _ hk => hk.2) (.slice cX aN.length dC)) (fun _ hk => trivial), oB HB⟩

end Go.Proofs.Ythnmeogafklhnaa.X
