/- What functions of the program come to, each with its proof. No condition but what each theorem states. -/
import Derived.Test.YthnmeogafklhnaaX0
import Derived.Test.YthnmeogafklhnaaX38
import Derived.Test.YthnmeogafklhnaaX39
import Derived.Test.YthnmeogafklhnaaX40
namespace Go.Proofs.Ythnmeogafklhnaa.X
open Go.RowKit Go.Proofs.YthnmeogafklhnaaW.PrintWords Go.Proofs.YthnmeogafklhnaaW.PrintLast Go.Proofs.YthnmeogafklhnaaW.PrintMore Go.Proofs.Ythnmeogafklhnaa.Hyb
attribute [local go_sem] max2_int min2_int max_two min_two max_three min_three max_four min_four
set_option linter.unusedVariables false
set_option linter.unusedSimpArgs false

/-! ### spec_l6Each: function 85 -/
def spec_l6Each.l0 : Nat → Int → Int → Int → List (S38) → Int → Int → Int → Int → Int → Int → Int → List (S38) → Option (Int × Int × (List (S38)))
 | 0, _, _, _, _, _, _, _, _, _, _, _, _ => none
 | k + 1, x6, x365000, x365001, x365002, x366000, x366001, x366002, x366003, x366004, x368000, x368001, x368002 => if x6 < (x365002.length : Int) then (if x366000 = 5 then (if 0 ≤ x6 then ((spec_l6Gray.f ((rd_T38 x365002 x6).f0) ((rd_T38 x365002 x6).f1) ((rd_T38 x365002 x6).f2) ((rd_T38 x365002 x6).f3)).bind fun bQ => (if x368002.length < 4398046511104 then (spec_l6Each.l0 k (wrap64 (x6 + 1)) x365000 x365001 x365002 x366000 x366001 x366002 x366003 x366004 x368000 x368001 (x368002 ++ [(⟨bQ.1, bQ.2.1, bQ.2.2.1, bQ.2.2.2⟩ : S38)])) else (none))) else (none)) else (if x366000 = 6 then (if x365000 = 0 then (none) else ((spec_l6Mean.f k x365000 x365001 x365002 (Int.tmod x6 x365000) (wrap64 (Int.tdiv x6 x365000))).bind fun bR => (if x368002.length < 4398046511104 then (spec_l6Each.l0 k (wrap64 (x6 + 1)) x365000 x365001 x365002 x366000 x366001 x366002 x366003 x366004 x368000 x368001 (x368002 ++ [(⟨bR.1, bR.2.1, bR.2.2.1, bR.2.2.2⟩ : S38)])) else (none)))) else (if 0 ≤ x6 then ((spec_l6Flat.f ((rd_T38 x365002 x6).f0) ((rd_T38 x365002 x6).f1) ((rd_T38 x365002 x6).f2) ((rd_T38 x365002 x6).f3) x366000 x366001 x366002 x366003 x366004).bind fun bS => (if x368002.length < 4398046511104 then (spec_l6Each.l0 k (wrap64 (x6 + 1)) x365000 x365001 x365002 x366000 x366001 x366002 x366003 x366004 x368000 x368001 (x368002 ++ [(⟨bS.1, bS.2.1, bS.2.2.1, bS.2.2.2⟩ : S38)])) else (none))) else (none)))) else (some (x368000, x368001, x368002))
def spec_l6Each.f (k : Nat) (a0_0 : Int) (a0_1 : Int) (l0_2 : List (S38)) (a1_0 : Int) (a1_1 : Int) (a1_2 : Int) (a1_3 : Int) (a1_4 : Int) : Option (Int × Int × (List (S38))) := spec_l6Each.l0 k 0 a0_0 a0_1 l0_2 a1_0 a1_1 a1_2 a1_3 a1_4 a0_0 a0_1 ([] : List (S38))
theorem spec_l6Each.mono_l : ∀ k, (∀ y0 y1 y2 y3 y4 y5 y6 y7 y8 y9 gX gY, LeO (spec_l6Each.l0 k y0 y1 y2 y3 y4 y5 y6 y7 y8 y9 gX gY) (spec_l6Each.l0 (k + 1) y0 y1 y2 y3 y4 y5 y6 y7 y8 y9 gX gY))
 | 0 => (fun _ _ _ _ _ _ _ _ _ _ _ _ r h => nomatch (show none = some r from h))
 | k + 1 => by
  have ih0 := spec_l6Each.mono_l k
  ·intro y0 y1 y2 y3 y4 y5 y6 y7 y8 y9 gX gY
   unfold spec_l6Each.l0
   repeat' first
   | (with_reducible exact ih0 _ _ _ _ _ _ _ _ _ _ _ _)
   | (with_reducible exact spec_l6Mean.mono _ _ _ _ _ _)
   | (with_reducible exact LeO.refl _)
   | (with_reducible exact LeO.none _)
   | (with_reducible refine LeO.ite ?_ ?_)
   | (with_reducible refine LeO.bind ?_ (fun _ => ?_))
   | exact ih0 _ _ _ _ _ _ _ _ _ _ _ _
   | exact spec_l6Mean.mono _ _ _ _ _ _
   | exact LeO.none _
   | refine LeO.ite ?_ ?_
   | refine LeO.bind ?_ (fun _ => ?_)
theorem spec_l6Each.mono : ∀ a0 a1 a2 a3 a4 a5 a6 a7 k, LeO (spec_l6Each.f k a0 a1 a2 a3 a4 a5 a6 a7) (spec_l6Each.f (k + 1) a0 a1 a2 a3 a4 a5 a6 a7) := by
 intro a0 a1 a2 a3 a4 a5 a6 a7 k
 have ih0 := spec_l6Each.mono_l k
 unfold spec_l6Each.f
 repeat' first
   | (with_reducible exact ih0 _ _ _ _ _ _ _ _ _ _ _ _)
   | (with_reducible exact spec_l6Mean.mono _ _ _ _ _ _)
   | (with_reducible exact LeO.refl _)
   | (with_reducible exact LeO.none _)
   | (with_reducible refine LeO.ite ?_ ?_)
   | (with_reducible refine LeO.bind ?_ (fun _ => ?_))
   | exact ih0 _ _ _ _ _ _ _ _ _ _ _ _
   | exact spec_l6Mean.mono _ _ _ _ _ _
   | exact LeO.none _
   | refine LeO.ite ?_ ?_
   | refine LeO.bind ?_ (fun _ => ?_)
def spec_l6Each.T6 : Bool × List (List Nat × List Nat) := (true, [([], []), ([0], [0]), ([], []), ([2], [2]), ([], []), ([3, 4], [3, 4]), ([5], [5]), ([], []), ([6, 7], [6, 7]), ([8], [8]), ([1, 9, 8], [1, 9]), ([0, 1, 2, 3, 4, 5, 6, 7, 8, 9, 10], []), ([11, 10, 10, 0, 1, 2, 3, 4, 5, 6, 7, 8, 9, 10], [10, 11])])
def spec_l6Each.B6 : List Nat := [0, 1, 0, 4, 0, 28, 60, 0, 252, 508, 1023, 2047, 4095]
theorem spec_l6Each.tab6 : rtab .any (opsOf Try.f85 6) = spec_l6Each.T6 := by kernel_rfl
theorem spec_l6Each.bits6 : waitsOk spec_l6Each.T6.2 spec_l6Each.B6 = true := by kernel_rfl
def spec_l6Each.T8 : Bool × List (List Nat × List Nat) := (true, [([], []), ([0], [0]), ([], []), ([2], [2]), ([], []), ([3, 4], [3, 4]), ([5], [5]), ([6], [6]), ([7], [7]), ([1, 8, 7], [1, 8]), ([0, 1, 2, 3, 4, 5, 6, 7, 8, 9], []), ([10, 9, 9, 0, 1, 2, 3, 4, 5, 6, 7, 8, 9], [9, 10])])
def spec_l6Each.B8 : List Nat := [0, 1, 0, 4, 0, 28, 60, 124, 252, 511, 1023, 2047]
theorem spec_l6Each.tab8 : rtab .any (opsOf Try.f85 8) = spec_l6Each.T8 := by kernel_rfl
theorem spec_l6Each.bits8 : waitsOk spec_l6Each.T8.2 spec_l6Each.B8 = true := by kernel_rfl
def spec_l6Each.T10 : Bool × List (List Nat × List Nat) := (true, [([], []), ([0], [0]), ([], []), ([], []), ([], []), ([4], [4]), ([3, 5], [3, 5]), ([], []), ([], []), ([8], [8]), ([7, 9], [7, 9]), ([2, 6, 10], [2, 6, 10]), ([11], [11]), ([1, 12, 11], [1, 12]), ([0, 1, 2, 3, 4, 5, 6, 7, 8, 9, 10, 11, 12, 13], []), ([14, 13, 13, 0, 1, 2, 3, 4, 5, 6, 7, 8, 9, 10, 11, 12, 13], [13, 14])])
def spec_l6Each.B10 : List Nat := [0, 1, 0, 0, 0, 16, 56, 0, 0, 256, 896, 2044, 4092, 8191, 16383, 32767]
theorem spec_l6Each.tab10 : rtab .any (opsOf Try.f85 10) = spec_l6Each.T10 := by kernel_rfl
theorem spec_l6Each.bits10 : waitsOk spec_l6Each.T10.2 spec_l6Each.B10 = true := by kernel_rfl
set_option maxHeartbeats 8000000 in
set_option maxRecDepth 100000 in
theorem spec_l6Each.calls (k : Nat) (a0_0 : Int) (a0_1 : Int) (bP : Option Addr) (bM : Nat) (l0_2 : List (S38)) (a1_0 : Int) (a1_1 : Int) (a1_2 : Int) (a1_3 : Int) (a1_4 : Int) (r1 : Int) (r2 : Int) (r3 : List (S38)) (w : World) (hr0_2 : Kd.C k38 w bP l0_2.length l0_2) (cP : l0_2.length ≤ bM) (h : spec_l6Each.f k a0_0 a0_1 l0_2 a1_0 a1_1 a1_2 a1_3 a1_4 = some (r1, r2, r3)) :
  Calls Try.prog 85 #[.agg #[.int .i64 a0_0, .int .i64 a0_1, .slice bP l0_2.length bM], .agg #[.int .i64 a1_0, .int .i64 a1_1, .int .i64 a1_2, .int .i64 a1_3, .int .i64 a1_4]] w fun e w' => ∃ jI : Value, e = .returned (.agg #[.int .i64 r1, .int .i64 r2, jI]) ∧ Kd.R k38 38 w' w.heap.size (fun _ => True) jI r3 ∧ Below w.heap.size w w' := by
 have hu25 := Try.underlying25
 have hu27 := Try.underlying27
 have hu38 := Try.underlying38
 have bT := Aside0.mk hr0_2
 have dK := Aside0.mk cP
 clear hr0_2 cP
 have HB := Aside0.mk (Below.refl w.heap.size w)
 have H : (spec_l6Each.l0 k 0 a0_0 a0_1 l0_2 a1_0 a1_1 a1_2 a1_3 a1_4 a0_0 a0_1 ([] : List (S38))) = some (r1, r2, r3) := h
 clear h
 have H' := Aside0.mk H
 clear H
 go_enter Try.func85, Try.ntmps85
 go_wp2_with (first | ((with_reducible refine gate_dst (N := 2) rfl ?_); refine box_event rfl (N := 2) rfl (cs := #[.int .i64 a0_0, .int .i64 a0_1, .slice bP l0_2.length bM]) (t := 25) oS ?_; intro aJ hg w3 hbox hb; have n_ := o2_ (below_step (oB HB) hb) (o2_ (hbox) (o2_ ((oG hg (below_size (oB HB)) : w.heap.size ≤ aJ)) (o1_ ((oG hg (below_size (oB HB)) : w.heap.size ≤ aJ))))); clear HB; obtain ⟨HB, aA, hD, gZ⟩ := n_; clear hb hbox hg) | ((with_reducible refine gate_dst (N := 3) rfl ?_); refine box_event rfl (N := 3) rfl (cs := #[.int .i64 a1_0, .int .i64 a1_1, .int .i64 a1_2, .int .i64 a1_3, .int .i64 a1_4]) (t := 27) oS ?_; intro aM hg w4 hbox hb; have n_ := o2_ (blk_below (oP aA) hb) (o2_ (below_step (oB HB) hb) (o2_ (hbox) (o2_ ((oG hg (below_size (oB HB)) : w.heap.size ≤ aM)) (o2_ ((oG hg (below_size (oB HB)) : w.heap.size ≤ aM)) (o2_ ((oL hg (blk_lt (oP aA)))) (o1_ ((oN hg (blk_lt (oP aA)))))))))); clear aA HB; obtain ⟨aA, HB, aC, hE, hA, aV, aX⟩ := n_; clear hb hbox hg) | ((with_reducible refine gate_dst (N := 4) rfl ?_); refine box_event rfl (N := 4) rfl (cs := #[.int .i64 0, .int .i64 0, .slice none 0 0]) (t := 25) oS ?_; intro bD hg w5 hbox hb; have n_ := o2_ (blk_below (oP aA) hb) (o2_ (blk_below (oP aC) hb) (o2_ (below_step (oB HB) hb) (o2_ (hbox) (o2_ ((oG hg (below_size (oB HB)) : w.heap.size ≤ bD)) (o2_ ((oG hg (below_size (oB HB)) : w.heap.size ≤ bD)) (o2_ ((oL hg (blk_lt (oP aA)))) (o2_ ((oN hg (blk_lt (oP aA)))) (o2_ ((oL hg (blk_lt (oP aC)))) (o1_ ((oN hg (blk_lt (oP aC))))))))))))); clear aA aC HB; obtain ⟨aA, aC, HB, aG, hF, hB, aW, aY, bB, bC⟩ := n_; clear hb hbox hg; have jM := aV.out; have jO := aX.out; have jN := aW.out; have jP := aY.out; have cS : w5.cell? ⟨aJ, 0, none⟩ = some (.int .i64 a0_0) := (blk_cell aA.out 0).trans rfl; have cT : w5.cell? ⟨aJ, 1, none⟩ = some (.int .i64 a0_1) := (blk_cell aA.out 1).trans rfl; have cU : w5.cell? ⟨aJ, 2, none⟩ = some (.slice bP l0_2.length bM) := (blk_cell aA.out 2).trans rfl; have cV := blk_frozen aA.out 0; have cW := blk_frozen aA.out 1; have cX := blk_frozen aA.out 2) | ((with_reducible refine gate_dst (N := 5) rfl ?_); refine box_event rfl (N := 5) rfl (cs := #[.int .i64 0, .int .i64 0, .slice none 0 0]) (t := 25) oS ?_; intro aK hg w9 hbox hb; have n_ := o2_ (blk_below (oP aA) hb) (o2_ (blk_below (oP aC) hb) (o2_ (blk_below (oP aG) hb) (o2_ (below_step (oB HB) hb) (o2_ (hbox) (o2_ ((oG hg (below_size (oB HB)) : w.heap.size ≤ aK)) (o2_ ((oG hg (below_size (oB HB)) : w.heap.size ≤ aK)) (o2_ ((oL hg (blk_lt (oP aA)))) (o2_ ((oN hg (blk_lt (oP aA)))) (o2_ ((oL hg (blk_lt (oP aC)))) (o2_ ((oN hg (blk_lt (oP aC)))) (o2_ ((oL hg (blk_lt (oP aG)))) (o1_ ((oN hg (blk_lt (oP aG)))))))))))))))); clear aA aC aG HB; obtain ⟨aA, aC, aG, HB, aE, hG, hC, aQ, aT, aR, aU, aZ, bA⟩ := n_; clear hb hbox hg; have hM := aT.out; have iK := aQ.out; have hN := aU.out; have iL := aR.out; have hO := bA.out; have iM := aZ.out; have cG : w9.cell? ⟨aK, 0, none⟩ = some (.int .i64 0) := (blk_cell aE.out 0).trans rfl; have cH : w9.cell? ⟨aK, 1, none⟩ = some (.int .i64 0) := (blk_cell aE.out 1).trans rfl; have cI : w9.cell? ⟨aK, 2, none⟩ = some (.slice none 0 0) := (blk_cell aE.out 2).trans rfl; have cJ := blk_frozen aE.out 0; have cK := blk_frozen aE.out 1; have cL := blk_frozen aE.out 2))
 go_loopg [6] k (fun kq v6 w' => ∃ (aH : Int) (aI : List (S38)) (aN : Value), v6 = .int .i64 aH ∧ Aside0 (spec_l6Each.l0 kq aH a0_0 a0_1 l0_2 a1_0 a1_1 a1_2 a1_3 a1_4 a0_0 a0_1 aI = some (r1, r2, r3)) ∧ Aside0 (kq ≤ k) ∧ Aside0 (Kd.R k38 38 w' w.heap.size (fun _ => True) aN aI) ∧ Aside0 (w'.heap[aJ]? = some (.cells #[.int .i64 a0_0, .int .i64 a0_1, (.slice bP l0_2.length bM)] 25 (0, 0))) ∧ Aside0 (w'.heap[aM]? = some (.cells #[.int .i64 a1_0, .int .i64 a1_1, .int .i64 a1_2, .int .i64 a1_3, .int .i64 a1_4] 27 (0, 0))) ∧ Aside0 (w'.heap[bD]? = some (.cells #[.int .i64 0, .int .i64 0, (.slice none 0 0)] 25 (0, 0))) ∧ Aside0 (w'.heap[aK]? = some (.cells #[.int .i64 a0_0, .int .i64 a0_1, aN] 25 (0, 0))) ∧ Aside0 (Below w.heap.size w w'))
 case atStart => exact ⟨(0), (([] : List (S38))), (.slice none 0 0), oU, H', ⟨Nat.le_refl _⟩, ⟨oZ⟩, ⟨(oP aA)⟩, ⟨(oP aC)⟩, ⟨(oP aG)⟩, ⟨(blk_put (blk_put (blk_put aE.out 0 _ rfl) 1 _ rfl) 2 _ rfl)⟩, ⟨(oB HB)⟩⟩
 case round =>
  clear H'
  try clear c1
  try clear p2
  try clear c6
  try clear c7
  try clear c8
  try clear c10
  try clear c11
  try clear c12
  try clear cG
  try clear cH
  try clear cI
  try clear cS
  try clear cT
  try clear cU
  try clear cJ
  try clear cK
  try clear cL
  try clear cV
  try clear cW
  try clear cX
  obtain ⟨aH, aI, aN, rfl, HA, HK1, aD, aA, aC, aG, aE, HB⟩ := hrel
  cases gk with
  | zero => exact nomatch (show none = some _ from HA.out)
  | succ k1 =>
   have H := HA.out
   clear HA
   simp only [spec_l6Each.l0] at H
   by_cases dC : aH < (l0_2.length : Int)
   ·rw [if_pos dC] at H
    have dO : decide (aH < (l0_2.length : Int)) = true := decide_eq_true dC
    clear dC
    by_cases cQ : a1_0 = 5
    ·rw [if_pos cQ] at H
     have dP : (a1_0 == 5) = true := beq_iff_eq.mpr cQ
     have dQ : (a1_0 != 5) = false := bne_eq_false_iff_eq.mpr cQ
     clear cQ
     by_cases eA : 0 ≤ aH
     ·rw [if_pos eA] at H
      have hH : decide (0 ≤ aH) = true := decide_eq_true eA
      clear eA
      replace H := Option.bind_eq_some_iff.mp H
      obtain ⟨⟨bU, bV, bW, bX⟩, dD, H⟩ := H
      (try dsimp only at H)
      have jJ := Aside0.mk dD
      clear dD
      by_cases eB : aI.length < 4398046511104
      ·rw [if_pos eB] at H
       have LMc18 := Aside0.mk eB
       clear eB
       obtain ⟨y373, hy373⟩ : ∃ y_ : List (S38), y_ = (aI ++ [(⟨bU, bV, bW, bX⟩ : S38)]) := ⟨_, rfl⟩
       replace H : (spec_l6Each.l0 k1 (wrap64 (aH + 1)) a0_0 a0_1 l0_2 a1_0 a1_1 a1_2 a1_3 a1_4 a0_0 a0_1 y373) = some (r1, r2, r3) := by first | (rw [hy373]; with_reducible exact H) | (have H2_ := (Option.bind_some _ _).symm.trans H; rw [hy373]; with_reducible exact H2_) | (have H2_ := (Option.bind_some _ _).symm.trans H; with_reducible exact H2_) | with_reducible exact H | (rw [hy373]; exact H) | exact H
       have dL := Aside0.mk hy373
       clear hy373
       have H' := Aside0.mk H
       clear H
       have hP := aV.out
       have iN := aX.out
       have hQ := aW.out
       have iO := aY.out
       have hR := aQ.out
       have iP := aT.out
       have eG : wr.cell? ⟨aJ, 0, none⟩ = some (.int .i64 a0_0) := (blk_cell aA.out 0).trans rfl
       have eH : wr.cell? ⟨aJ, 1, none⟩ = some (.int .i64 a0_1) := (blk_cell aA.out 1).trans rfl
       have eI : wr.cell? ⟨aJ, 2, none⟩ = some (.slice bP l0_2.length bM) := (blk_cell aA.out 2).trans rfl
       have fN := blk_frozen aA.out 0
       have fO := blk_frozen aA.out 1
       have fP := blk_frozen aA.out 2
       have hS := bB.out
       have iQ := bC.out
       have hT := aR.out
       have iR := aU.out
       have eJ : wr.cell? ⟨aM, 0, none⟩ = some (.int .i64 a1_0) := (blk_cell aC.out 0).trans rfl
       have eK : wr.cell? ⟨aM, 1, none⟩ = some (.int .i64 a1_1) := (blk_cell aC.out 1).trans rfl
       have eL : wr.cell? ⟨aM, 2, none⟩ = some (.int .i64 a1_2) := (blk_cell aC.out 2).trans rfl
       have eM : wr.cell? ⟨aM, 3, none⟩ = some (.int .i64 a1_3) := (blk_cell aC.out 3).trans rfl
       have eN : wr.cell? ⟨aM, 4, none⟩ = some (.int .i64 a1_4) := (blk_cell aC.out 4).trans rfl
       have fQ := blk_frozen aC.out 0
       have fR := blk_frozen aC.out 1
       have fS := blk_frozen aC.out 2
       have fT := blk_frozen aC.out 3
       have fU := blk_frozen aC.out 4
       try go_wp2
       have n_ := o2_ (Kd.R_drew aD.out) (o2_ (blk_drew aA.out) (o2_ (blk_drew aC.out) (o2_ (blk_drew aG.out) (o2_ (blk_drew aE.out) (o1_ (below_drew1 HB.out))))))
       clear aD aA aC aG aE HB
       obtain ⟨aD, aA, aC, aG, aE, HB⟩ := n_
       have cY : 0 ≤ (aH : Int) := of_decide_eq_true oM
       have dA : aH < (l0_2.length : Int) := of_decide_eq_true oM
       obtain ⟨bN, gU, bE, bF, bG, bH⟩ := at_T38 bT.out aH cY dA
       have hw368_3 := bH
       have hw368_2 := bG
       have hw368_1 := bF
       have hw368_0 := bE
       cases gU
       replace bE := (HB.out.cell (World.block_lt_of_cell? w _ bE)).trans bE
       replace bF := (HB.out.cell (World.block_lt_of_cell? w _ bF)).trans bF
       replace bG := (HB.out.cell (World.block_lt_of_cell? w _ bG)).trans bG
       replace bH := (HB.out.cell (World.block_lt_of_cell? w _ bH)).trans bH
       replace cY := eq_true cY
       replace dA := eq_true dA
       refine start_ (n := 12) (S := fun w' => w'.cell? ⟨aK, 0, none⟩ = some (.int .i64 a0_0) ∧ w'.cell? ⟨aK, 1, none⟩ = some (.int .i64 a0_1) ∧ w'.cell? ⟨aK, 2, none⟩ = some (aN) ∧ w'.cell? ⟨aJ, 0, none⟩ = some (.int .i64 a0_0) ∧ w'.cell? ⟨aJ, 1, none⟩ = some (.int .i64 a0_1) ∧ w'.cell? ⟨aJ, 2, none⟩ = some (.slice (some bN) l0_2.length bM) ∧ w'.cell? (bN.add ((aH).toNat * 4)) = some (.int .i64 ((rd_T38 l0_2 aH).f0)) ∧ w'.cell? ⟨(bN.add ((aH).toNat * 4)).block, (bN.add ((aH).toNat * 4)).off + 1, none⟩ = some (.int .i64 ((rd_T38 l0_2 aH).f1)) ∧ w'.cell? ⟨(bN.add ((aH).toNat * 4)).block, (bN.add ((aH).toNat * 4)).off + 2, none⟩ = some (.int .i64 ((rd_T38 l0_2 aH).f2)) ∧ w'.cell? ⟨(bN.add ((aH).toNat * 4)).block, (bN.add ((aH).toNat * 4)).off + 3, none⟩ = some (.int .i64 ((rd_T38 l0_2 aH).f3))) (ds := [11]) #[false, false, false, false, false, false, false, false, false, false, false, false] oK rfl rfl ⟨(blk_cell aE.out 0).trans rfl, (blk_cell aE.out 1).trans rfl, (blk_cell aE.out 2).trans rfl, (blk_cell aA.out 0).trans rfl, (blk_cell aA.out 1).trans rfl, (blk_cell aA.out 2).trans rfl, ((HB.out.cell (World.block_lt_of_cell? w _ hw368_0)).trans hw368_0), ((HB.out.cell (World.block_lt_of_cell? w _ hw368_1)).trans hw368_1), ((HB.out.cell (World.block_lt_of_cell? w _ hw368_2)).trans hw368_2), ((HB.out.cell (World.block_lt_of_cell? w _ hw368_3)).trans hw368_3)⟩ (fun hHeld => ?_); refine with_tabW spec_l6Each.tab8 spec_l6Each.bits8 (fun HT_ HW_ => ?_)
       generalize wr.drew = jW at aD aA aC aG aE HB bE bF bG bH hHeld ⊢
       refine pure_ (i := 0) (N := some 35) (v := ?_) (a' := ?_) #[true, false, false, false, false, false, false, false, false, false, false, false] rfl rfl (any_of HT_.out oK) (fun _ _ _ h => h) (Or.inl ⟨by rfl, ?_⟩) ?_ ?_
       rotate_left
       ·intro w'
        go_simp
        with_reducible rfl
       rotate_left
       ·exact oT
       refine pure_ (i := 2) (N := some 37) (v := ?_) (a' := ?_) #[true, false, true, false, false, false, false, false, false, false, false, false] rfl rfl (any_of HT_.out oK) (fun _ _ _ h => h) (Or.inl ⟨by rfl, ?_⟩) ?_ ?_
       rotate_left
       ·intro w'
        go_simp
        with_reducible rfl
       rotate_left
       ·exact oT
       refine pure_ (i := 4) (N := some 39) (v := ?_) (a' := ?_) #[true, false, true, false, true, false, false, false, false, false, false, false] rfl rfl (any_of HT_.out oK) (fun _ _ _ h => h) (Or.inl ⟨by rfl, ?_⟩) ?_ ?_
       rotate_left
       ·intro w'
        go_simp
        with_reducible rfl
       rotate_left
       ·exact oT
       refine take_ (i := 1) (N := some 36) (v := ?_) (a' := ?_) #[true, true, true, false, true, false, false, false, false, false, false, false] rfl rfl (take_ofW HT_.out HW_.out oK) (fun _ _ _ h => h) (Or.inl ⟨by rfl, ?_⟩) hHeld ?_ ?_
       rotate_left
       ·rintro w' ⟨s0, s1, s2, s3, s4, s5, s6, s7, s8, s9⟩
        go_simp
        with_reducible rfl
       rotate_left
       ·exact oT
       refine take_ (i := 3) (N := some 38) (v := ?_) (a' := ?_) #[true, true, true, true, true, false, false, false, false, false, false, false] rfl rfl (take_ofW HT_.out HW_.out oK) (fun _ _ _ h => h) (Or.inl ⟨by rfl, ?_⟩) hHeld ?_ ?_
       rotate_left
       ·rintro w' ⟨s0, s1, s2, s3, s4, s5, s6, s7, s8, s9⟩
        go_simp
        with_reducible rfl
       rotate_left
       ·exact oT
       refine pure_ (i := 5) (N := some 40) (v := ?_) (a' := ?_) #[true, true, true, true, true, true, false, false, false, false, false, false] rfl rfl (any_of HT_.out oK) (fun _ _ _ h => h) (Or.inl ⟨by rfl, ?_⟩) ?_ ?_
       rotate_left
       ·intro w'
        go_simp
        with_reducible rfl
       rotate_left
       ·exact oT
       refine take_ (i := 6) (N := some 41) (v := ?_) (a' := ?_) #[true, true, true, true, true, true, true, false, false, false, false, false] rfl rfl (take_ofW HT_.out HW_.out oK) (fun _ _ _ h => h) (Or.inl ⟨by rfl, ?_⟩) hHeld ?_ ?_
       rotate_left
       ·rintro w' ⟨s0, s1, s2, s3, s4, s5, s6, s7, s8, s9⟩
        go_simp
        with_reducible rfl
       rotate_left
       ·exact oT
       refine one_ (i := 7) (N := some 42) #[true, true, true, true, true, true, true, true, false, false, false, false] rfl rfl (one_of HT_.out oK) oD (fun K hK => ?_)
       refine goes_ Try.func99 oK rfl #[.agg #[.int .i64 ((rd_T38 l0_2 aH).f0), .int .i64 ((rd_T38 l0_2 aH).f1), .int .i64 ((rd_T38 l0_2 aH).f2), .int .i64 ((rd_T38 l0_2 aH).f3)]] (by rfl) rfl rfl oA ?_
       with_reducible refine (spec_l6Gray.calls ((rd_T38 l0_2 aH).f0) ((rd_T38 l0_2 aH).f1) ((rd_T38 l0_2 aH).f2) ((rd_T38 l0_2 aH).f3) bU bV bW bX _ jJ.out).mono ?_
       rintro e jX ⟨rfl, hb⟩
       refine ⟨_, rfl, ?_⟩
       have n_ := o2_ (Kd.R_below (oR aD) hb) (o2_ (blk_below (oP aA) hb) (o2_ (blk_below (oP aC) hb) (o2_ (blk_below (oP aG) hb) (o2_ (blk_below (oP aE) hb) (o1_ (below_step (oB HB) hb))))))
       clear aD aA aC aG aE HB
       obtain ⟨aD, aA, aC, aG, aE, HB⟩ := n_
       (try clear hb)
       (try clear hb2)
       (try clear hk)
       (try clear hi)
       refine hK.out _ _ ⟨(blk_cell aE.out 0).trans rfl, (blk_cell aE.out 1).trans rfl, (blk_cell aE.out 2).trans rfl, (blk_cell aA.out 0).trans rfl, (blk_cell aA.out 1).trans rfl, (blk_cell aA.out 2).trans rfl, ((HB.out.cell (World.block_lt_of_cell? w _ hw368_0)).trans hw368_0), ((HB.out.cell (World.block_lt_of_cell? w _ hw368_1)).trans hw368_1), ((HB.out.cell (World.block_lt_of_cell? w _ hw368_2)).trans hw368_2), ((HB.out.cell (World.block_lt_of_cell? w _ hw368_3)).trans hw368_3)⟩ (fun hHeld => ?_)
       clear hK K
       refine norm_ (a' := ?_) ?_ ?_
       rotate_left
       ·show Act.put _ (some 42) _ = _
        exact oT
       refine one_ (i := 8) (N := some 43) #[true, true, true, true, true, true, true, true, true, false, false, false] rfl rfl (one_of HT_.out oK) oD (fun K hK => ?_)
       refine value_ (w1 := ?_) (v := ?_) (by rfl) rfl ?_ ?_
       rotate_left 2
       ·go_simp
        constructor
        ·rfl
        ·rfl
       refine hK.out _ _ ⟨(blk_cell (blk_alloc aE.out _) 0).trans rfl, (blk_cell (blk_alloc aE.out _) 1).trans rfl, (blk_cell (blk_alloc aE.out _) 2).trans rfl, (blk_cell (blk_alloc aA.out _) 0).trans rfl, (blk_cell (blk_alloc aA.out _) 1).trans rfl, (blk_cell (blk_alloc aA.out _) 2).trans rfl, (World.cell?_alloc_lt _ _ _ (World.block_lt_of_cell? _ _ (((HB.out.cell (World.block_lt_of_cell? w _ hw368_0)).trans hw368_0)))).trans (((HB.out.cell (World.block_lt_of_cell? w _ hw368_0)).trans hw368_0)), (World.cell?_alloc_lt _ _ _ (World.block_lt_of_cell? _ _ (((HB.out.cell (World.block_lt_of_cell? w _ hw368_1)).trans hw368_1)))).trans (((HB.out.cell (World.block_lt_of_cell? w _ hw368_1)).trans hw368_1)), (World.cell?_alloc_lt _ _ _ (World.block_lt_of_cell? _ _ (((HB.out.cell (World.block_lt_of_cell? w _ hw368_2)).trans hw368_2)))).trans (((HB.out.cell (World.block_lt_of_cell? w _ hw368_2)).trans hw368_2)), (World.cell?_alloc_lt _ _ _ (World.block_lt_of_cell? _ _ (((HB.out.cell (World.block_lt_of_cell? w _ hw368_3)).trans hw368_3)))).trans (((HB.out.cell (World.block_lt_of_cell? w _ hw368_3)).trans hw368_3))⟩ (fun hHeld => ?_)
       clear hK K
       refine norm_ (a' := ?_) ?_ ?_
       rotate_left
       ·show Act.put _ (some 43) _ = _
        exact oT
       refine one_ (i := 9) (N := some 44) #[true, true, true, true, true, true, true, true, true, true, false, false] rfl rfl (one_of HT_.out oK) oD (fun K hK => ?_)
       refine Kd.R_append_step k38 (w0 := w) w.heap.size (by rfl) (.tmp 36) (.tmp 43) 23 38 (.agg #[(.int .i64 0), (.int .i64 0), (.int .i64 0), (.int .i64 0)]) 32 rfl Try.underlying23 info38 rfl oD (by omega) aN aI (⟨bU, bV, bW, bX⟩ : S38) [.int .i64 bU, .int .i64 bV, .int .i64 bW, .int .i64 bX] (fun _ => True) (fun _ => False) rfl rfl ?aP (fun _ hk => hk.elim) ?aF ?aO ?aB ?aS ?aL ?_
       (case aP => exact k38_mkM _ _ _ (⟨bU, bV, bW, bX⟩ : S38))
       (case aB => exact (oB HB))
       (case aF => exact (fun _ _ => trivial))
       (case aO => exact (oR aD))
       (case aS => exact (below_size (oB HB)))
       (case aL => have := LMc18.out; omega)
       intro jQ jT ho hb hg hat
       rw [← dL.out] at ho
       have n_ := o2_ (blk_grown (oP aA) hg (Kd.R_ne aD.out aA.out oD)) (o2_ (blk_grown (oP aC) hg (Kd.R_ne aD.out aC.out oD)) (o2_ (blk_grown (oP aG) hg (Kd.R_ne aD.out aG.out oD)) (o2_ (blk_grown (oP aE) hg (Kd.R_ne aD.out aE.out oD)) (o2_ (hb) (o1_ (ho))))))
       clear aA aC aG aE HB aD
       obtain ⟨aA, aC, aG, aE, HB, cM⟩ := n_
       clear ho hb hg hat
       obtain ⟨dG, dT, dX⟩ := Kd.R_slice cM.out
       (first | subst dX | (injection dX with f1_ f2_ f3_; have f4_ := f1_.symm; have f5_ := f3_.symm; clear f1_ f2_ f3_; subst f4_; subst f5_))
       refine hK.out _ _ ⟨(blk_cell aE.out 0).trans rfl, (blk_cell aE.out 1).trans rfl, (blk_cell aE.out 2).trans rfl, (blk_cell aA.out 0).trans rfl, (blk_cell aA.out 1).trans rfl, (blk_cell aA.out 2).trans rfl, ((HB.out.cell (World.block_lt_of_cell? w _ hw368_0)).trans hw368_0), ((HB.out.cell (World.block_lt_of_cell? w _ hw368_1)).trans hw368_1), ((HB.out.cell (World.block_lt_of_cell? w _ hw368_2)).trans hw368_2), ((HB.out.cell (World.block_lt_of_cell? w _ hw368_3)).trans hw368_3)⟩ (fun hHeld => ?_)
       clear hK K
       refine norm_ (a' := ?_) ?_ ?_
       rotate_left
       ·show Act.put _ (some 44) _ = _
        exact oT
       refine pure_ (i := 10) (N := some 45) (v := ?_) (a' := ?_) #[true, true, true, true, true, true, true, true, true, true, true, false] rfl rfl (any_of HT_.out oK) (fun _ _ _ h => h) (Or.inl ⟨by rfl, ?_⟩) ?_ ?_
       rotate_left
       ·intro w'
        go_simp
        with_reducible rfl
       rotate_left
       ·exact oT
       refine last_ (i := 11) (N := none) #[true, true, true, true, true, true, true, true, true, true, true, true] rfl rfl (one_of HT_.out oK) oD (fun K hK => ?_)
       have hs30 : jT.cell? ⟨aK, 2, none⟩ = some (aN) := (blk_cell aE.out 2).trans rfl
       have hfs30 := blk_frozen aE.out 2
       have hns30_0 := aQ.out
       have hns30_1 := aR.out
       have hns30_2 := aZ.out
       have hms30_0 := aT.out
       have hms30_1 := aU.out
       have hms30_2 := bA.out
       refine skip_ (w1 := ?_) (by rfl) rfl ?_ ?_
       rotate_left
       ·go_simp
        rfl
       refine hK.out _ _ ?_
       clear hK K
       refine done_ (done_of HT_.out oK) ?_
       try go_wp2
       go_roundg k1
       case measure => have := HK1.out; omega
       case rel => exact ⟨(wrap64 (aH + 1)), (y373), (.slice dG y373.length dT), oU, H', ⟨(by have := HK1.out; omega)⟩, ⟨(by (with_reducible repeat (first | apply Kd.R_alloc | apply Kd.R_drewN | apply Kd.R_drew)); exact Kd.R_mono (Kd.R_far (p := ⟨aK, 2, none⟩) (Kd.R_types cM.out aE.out oD) (fun _ hk => hk.2) (.slice dG y373.length dT)) (fun _ hk => trivial))⟩, ⟨(oP aA)⟩, ⟨(oP aC)⟩, ⟨(oP aG)⟩, ⟨(blk_put aE.out 2 _ rfl)⟩, ⟨(oB HB)⟩⟩
      ·rw [if_neg eB] at H
       exact absurd H (by simp)
     ·rw [if_neg eA] at H
      exact absurd H (by simp)
    ·rw [if_neg cQ] at H
     have dP : (a1_0 == 5) = false := beq_eq_false_iff_ne.mpr cQ
     have dQ : (a1_0 != 5) = true := bne_iff_ne.mpr cQ
     by_cases cR : a1_0 = 6
     ·rw [if_pos cR] at H
      have dR : (a1_0 == 6) = true := beq_iff_eq.mpr cR
      have dS : (a1_0 != 6) = false := bne_eq_false_iff_eq.mpr cR
      clear cR
      by_cases eC : a0_0 = 0
      ·rw [if_pos eC] at H
       exact absurd H (by simp)
      ·rw [if_neg eC] at H
       have hI : (a0_0 == 0) = false := beq_eq_false_iff_ne.mpr eC
       have hJ : (a0_0 != 0) = true := bne_iff_ne.mpr eC
       replace H := Option.bind_eq_some_iff.mp H
       obtain ⟨⟨bY, bZ, cA, cB⟩, dE, H⟩ := H
       (try dsimp only at H)
       have jK := Aside0.mk dE
       clear dE
       by_cases eD : aI.length < 4398046511104
       ·rw [if_pos eD] at H
        have LMc34 := Aside0.mk eD
        clear eD
        obtain ⟨y380, hy380⟩ : ∃ y_ : List (S38), y_ = (aI ++ [(⟨bY, bZ, cA, cB⟩ : S38)]) := ⟨_, rfl⟩
        replace H : (spec_l6Each.l0 k1 (wrap64 (aH + 1)) a0_0 a0_1 l0_2 a1_0 a1_1 a1_2 a1_3 a1_4 a0_0 a0_1 y380) = some (r1, r2, r3) := by first | (rw [hy380]; with_reducible exact H) | (have H2_ := (Option.bind_some _ _).symm.trans H; rw [hy380]; with_reducible exact H2_) | (have H2_ := (Option.bind_some _ _).symm.trans H; with_reducible exact H2_) | with_reducible exact H | (rw [hy380]; exact H) | exact H
        have dM := Aside0.mk hy380
        clear hy380
        have H' := Aside0.mk H
        clear H
        have hU := aV.out
        have iS := aX.out
        have hV := aW.out
        have iT := aY.out
        have hW := aQ.out
        have iU := aT.out
        have eO : wr.cell? ⟨aJ, 0, none⟩ = some (.int .i64 a0_0) := (blk_cell aA.out 0).trans rfl
        have eP : wr.cell? ⟨aJ, 1, none⟩ = some (.int .i64 a0_1) := (blk_cell aA.out 1).trans rfl
        have eQ : wr.cell? ⟨aJ, 2, none⟩ = some (.slice bP l0_2.length bM) := (blk_cell aA.out 2).trans rfl
        have fV := blk_frozen aA.out 0
        have fW := blk_frozen aA.out 1
        have fX := blk_frozen aA.out 2
        have hX := bB.out
        have iV := bC.out
        have hY := aR.out
        have iW := aU.out
        have eR : wr.cell? ⟨aM, 0, none⟩ = some (.int .i64 a1_0) := (blk_cell aC.out 0).trans rfl
        have eS : wr.cell? ⟨aM, 1, none⟩ = some (.int .i64 a1_1) := (blk_cell aC.out 1).trans rfl
        have eT : wr.cell? ⟨aM, 2, none⟩ = some (.int .i64 a1_2) := (blk_cell aC.out 2).trans rfl
        have eU : wr.cell? ⟨aM, 3, none⟩ = some (.int .i64 a1_3) := (blk_cell aC.out 3).trans rfl
        have eV : wr.cell? ⟨aM, 4, none⟩ = some (.int .i64 a1_4) := (blk_cell aC.out 4).trans rfl
        have fY := blk_frozen aC.out 0
        have fZ := blk_frozen aC.out 1
        have gA := blk_frozen aC.out 2
        have gB := blk_frozen aC.out 3
        have gC := blk_frozen aC.out 4
        try go_wp2
        have n_ := o2_ (Kd.R_drew aD.out) (o2_ (blk_drew aA.out) (o2_ (blk_drew aC.out) (o2_ (blk_drew aG.out) (o2_ (blk_drew aE.out) (o1_ (below_drew1 HB.out))))))
        clear aD aA aC aG aE HB
        obtain ⟨aD, aA, aC, aG, aE, HB⟩ := n_
        refine start_ (n := 16) (S := fun w' => w'.cell? ⟨aK, 0, none⟩ = some (.int .i64 a0_0) ∧ w'.cell? ⟨aK, 1, none⟩ = some (.int .i64 a0_1) ∧ w'.cell? ⟨aK, 2, none⟩ = some (aN) ∧ w'.cell? ⟨aJ, 0, none⟩ = some (.int .i64 a0_0) ∧ w'.cell? ⟨aJ, 1, none⟩ = some (.int .i64 a0_1) ∧ w'.cell? ⟨aJ, 2, none⟩ = some (.slice bP l0_2.length bM)) (ds := [15]) #[false, false, false, false, false, false, false, false, false, false, false, false, false, false, false, false] oK rfl rfl ⟨(blk_cell aE.out 0).trans rfl, (blk_cell aE.out 1).trans rfl, (blk_cell aE.out 2).trans rfl, (blk_cell aA.out 0).trans rfl, (blk_cell aA.out 1).trans rfl, (blk_cell aA.out 2).trans rfl⟩ (fun hHeld => ?_); refine with_tabW spec_l6Each.tab10 spec_l6Each.bits10 (fun HT_ HW_ => ?_)
        generalize wr.drew = jY at aD aA aC aG aE HB hHeld ⊢
        refine pure_ (i := 0) (N := some 48) (v := ?_) (a' := ?_) #[true, false, false, false, false, false, false, false, false, false, false, false, false, false, false, false] rfl rfl (any_of HT_.out oK) (fun _ _ _ h => h) (Or.inl ⟨by rfl, ?_⟩) ?_ ?_
        rotate_left
        ·intro w'
         go_simp
         with_reducible rfl
        rotate_left
        ·exact oT
        refine pure_ (i := 3) (N := some 51) (v := ?_) (a' := ?_) #[true, false, false, true, false, false, false, false, false, false, false, false, false, false, false, false] rfl rfl (any_of HT_.out oK) (fun _ _ _ h => h) (Or.inl ⟨by rfl, ?_⟩) ?_ ?_
        rotate_left
        ·intro w'
         go_simp
         with_reducible rfl
        rotate_left
        ·exact oT
        refine pure_ (i := 4) (N := some 52) (v := ?_) (a' := ?_) #[true, false, false, true, true, false, false, false, false, false, false, false, false, false, false, false] rfl rfl (any_of HT_.out oK) (fun _ _ _ h => h) (Or.inl ⟨by rfl, ?_⟩) ?_ ?_
        rotate_left
        ·intro w'
         go_simp
         with_reducible rfl
        rotate_left
        ·exact oT
        refine pure_ (i := 7) (N := some 55) (v := ?_) (a' := ?_) #[true, false, false, true, true, false, false, true, false, false, false, false, false, false, false, false] rfl rfl (any_of HT_.out oK) (fun _ _ _ h => h) (Or.inl ⟨by rfl, ?_⟩) ?_ ?_
        rotate_left
        ·intro w'
         go_simp
         with_reducible rfl
        rotate_left
        ·exact oT
        refine pure_ (i := 8) (N := some 56) (v := ?_) (a' := ?_) #[true, false, false, true, true, false, false, true, true, false, false, false, false, false, false, false] rfl rfl (any_of HT_.out oK) (fun _ _ _ h => h) (Or.inl ⟨by rfl, ?_⟩) ?_ ?_
        rotate_left
        ·intro w'
         go_simp
         with_reducible rfl
        rotate_left
        ·exact oT
        refine take_ (i := 1) (N := some 49) (v := ?_) (a' := ?_) #[true, true, false, true, true, false, false, true, true, false, false, false, false, false, false, false] rfl rfl (take_ofW HT_.out HW_.out oK) (fun _ _ _ h => h) (Or.inl ⟨by rfl, ?_⟩) hHeld ?_ ?_
        rotate_left
        ·rintro w' ⟨s0, s1, s2, s3, s4, s5⟩
         go_simp
         with_reducible rfl
        rotate_left
        ·exact oT
        refine take_ (i := 2) (N := some 50) (v := ?_) (a' := ?_) #[true, true, true, true, true, false, false, true, true, false, false, false, false, false, false, false] rfl rfl (take_ofW HT_.out HW_.out oK) (fun _ _ _ h => h) (Or.inl ⟨by rfl, ?_⟩) hHeld ?_ ?_
        rotate_left
        ·rintro w' ⟨s0, s1, s2, s3, s4, s5⟩
         go_simp
         with_reducible rfl
        rotate_left
        ·exact oT
        refine take_ (i := 5) (N := some 53) (v := ?_) (a' := ?_) #[true, true, true, true, true, true, false, true, true, false, false, false, false, false, false, false] rfl rfl (take_ofW HT_.out HW_.out oK) (fun _ _ _ h => h) (Or.inl ⟨by rfl, ?_⟩) hHeld ?_ ?_
        rotate_left
        ·rintro w' ⟨s0, s1, s2, s3, s4, s5⟩
         go_simp
         with_reducible rfl
        rotate_left
        ·exact oT
        refine pure_ (i := 6) (N := some 54) (v := ?_) (a' := ?_) #[true, true, true, true, true, true, true, true, true, false, false, false, false, false, false, false] rfl rfl (any_of HT_.out oK) (fun _ _ _ h => h) (Or.inl ⟨by rfl, ?_⟩) ?_ ?_
        rotate_left
        ·intro w'
         go_simp
         with_reducible rfl
        rotate_left
        ·exact oT
        refine take_ (i := 9) (N := some 57) (v := ?_) (a' := ?_) #[true, true, true, true, true, true, true, true, true, true, false, false, false, false, false, false] rfl rfl (take_ofW HT_.out HW_.out oK) (fun _ _ _ h => h) (Or.inl ⟨by rfl, ?_⟩) hHeld ?_ ?_
        rotate_left
        ·rintro w' ⟨s0, s1, s2, s3, s4, s5⟩
         go_simp
         with_reducible rfl
        rotate_left
        ·exact oT
        refine pure_ (i := 10) (N := some 58) (v := ?_) (a' := ?_) #[true, true, true, true, true, true, true, true, true, true, true, false, false, false, false, false] rfl rfl (any_of HT_.out oK) (fun _ _ _ h => h) (Or.inl ⟨by rfl, ?_⟩) ?_ ?_
        rotate_left
        ·intro w'
         go_simp
         with_reducible rfl
        rotate_left
        ·exact oT
        refine one_ (i := 11) (N := some 59) #[true, true, true, true, true, true, true, true, true, true, true, true, false, false, false, false] rfl rfl (one_of HT_.out oK) oD (fun K hK => ?_)
        refine goes_ Try.func100 oK rfl #[.agg #[.int .i64 a0_0, .int .i64 a0_1, .slice bP l0_2.length bM], .int .i64 (Int.tmod aH a0_0), .int .i64 (wrap64 (Int.tdiv aH a0_0))] (by rfl) rfl rfl oA ?_
        with_reducible refine (spec_l6Mean.calls k1 a0_0 a0_1 _ _ l0_2 (Int.tmod aH a0_0) (wrap64 (Int.tdiv aH a0_0)) bY bZ cA cB _ ?side1 ?side2 jK.out).mono ?_
        (case side1 => repeat (first | exact (Kd.C_below bT.out HB.out) | (with_reducible refine Kd.C_alloc ?_ _) | (with_reducible refine Kd.C_drewN ?_ _) | (with_reducible refine Kd.C_drew ?_)))
        (case side2 => exact dK.out)
        rintro e jZ ⟨rfl, hb⟩
        refine ⟨_, rfl, ?_⟩
        have n_ := o2_ (Kd.R_below (oR aD) hb) (o2_ (blk_below (oP aA) hb) (o2_ (blk_below (oP aC) hb) (o2_ (blk_below (oP aG) hb) (o2_ (blk_below (oP aE) hb) (o1_ (below_step (oB HB) hb))))))
        clear aD aA aC aG aE HB
        obtain ⟨aD, aA, aC, aG, aE, HB⟩ := n_
        (try clear hb)
        (try clear hb2)
        (try clear hk)
        (try clear hi)
        refine hK.out _ _ ⟨(blk_cell aE.out 0).trans rfl, (blk_cell aE.out 1).trans rfl, (blk_cell aE.out 2).trans rfl, (blk_cell aA.out 0).trans rfl, (blk_cell aA.out 1).trans rfl, (blk_cell aA.out 2).trans rfl⟩ (fun hHeld => ?_)
        clear hK K
        refine norm_ (a' := ?_) ?_ ?_
        rotate_left
        ·show Act.put _ (some 59) _ = _
         exact oT
        refine one_ (i := 12) (N := some 60) #[true, true, true, true, true, true, true, true, true, true, true, true, true, false, false, false] rfl rfl (one_of HT_.out oK) oD (fun K hK => ?_)
        refine value_ (w1 := ?_) (v := ?_) (by rfl) rfl ?_ ?_
        rotate_left 2
        ·go_simp
         constructor
         ·rfl
         ·rfl
        refine hK.out _ _ ⟨(blk_cell (blk_alloc aE.out _) 0).trans rfl, (blk_cell (blk_alloc aE.out _) 1).trans rfl, (blk_cell (blk_alloc aE.out _) 2).trans rfl, (blk_cell (blk_alloc aA.out _) 0).trans rfl, (blk_cell (blk_alloc aA.out _) 1).trans rfl, (blk_cell (blk_alloc aA.out _) 2).trans rfl⟩ (fun hHeld => ?_)
        clear hK K
        refine norm_ (a' := ?_) ?_ ?_
        rotate_left
        ·show Act.put _ (some 60) _ = _
         exact oT
        refine one_ (i := 13) (N := some 61) #[true, true, true, true, true, true, true, true, true, true, true, true, true, true, false, false] rfl rfl (one_of HT_.out oK) oD (fun K hK => ?_)
        refine Kd.R_append_step k38 (w0 := w) w.heap.size (by rfl) (.tmp 49) (.tmp 60) 23 38 (.agg #[(.int .i64 0), (.int .i64 0), (.int .i64 0), (.int .i64 0)]) 32 rfl Try.underlying23 info38 rfl oD (by omega) aN aI (⟨bY, bZ, cA, cB⟩ : S38) [.int .i64 bY, .int .i64 bZ, .int .i64 cA, .int .i64 cB] (fun _ => True) (fun _ => False) rfl rfl ?aP (fun _ hk => hk.elim) ?aF ?aO ?aB ?aS ?aL ?_
        (case aP => exact k38_mkM _ _ _ (⟨bY, bZ, cA, cB⟩ : S38))
        (case aB => exact (oB HB))
        (case aF => exact (fun _ _ => trivial))
        (case aO => exact (oR aD))
        (case aS => exact (below_size (oB HB)))
        (case aL => have := LMc34.out; omega)
        intro jR jU ho hb hg hat
        rw [← dM.out] at ho
        have n_ := o2_ (blk_grown (oP aA) hg (Kd.R_ne aD.out aA.out oD)) (o2_ (blk_grown (oP aC) hg (Kd.R_ne aD.out aC.out oD)) (o2_ (blk_grown (oP aG) hg (Kd.R_ne aD.out aG.out oD)) (o2_ (blk_grown (oP aE) hg (Kd.R_ne aD.out aE.out oD)) (o2_ (hb) (o1_ (ho))))))
        clear aA aC aG aE HB aD
        obtain ⟨aA, aC, aG, aE, HB, cN⟩ := n_
        clear ho hb hg hat
        obtain ⟨dH, dU, dY⟩ := Kd.R_slice cN.out
        (first | subst dY | (injection dY with f1_ f2_ f3_; have f4_ := f1_.symm; have f5_ := f3_.symm; clear f1_ f2_ f3_; subst f4_; subst f5_))
        refine hK.out _ _ ⟨(blk_cell aE.out 0).trans rfl, (blk_cell aE.out 1).trans rfl, (blk_cell aE.out 2).trans rfl, (blk_cell aA.out 0).trans rfl, (blk_cell aA.out 1).trans rfl, (blk_cell aA.out 2).trans rfl⟩ (fun hHeld => ?_)
        clear hK K
        refine norm_ (a' := ?_) ?_ ?_
        rotate_left
        ·show Act.put _ (some 61) _ = _
         exact oT
        refine pure_ (i := 14) (N := some 62) (v := ?_) (a' := ?_) #[true, true, true, true, true, true, true, true, true, true, true, true, true, true, true, false] rfl rfl (any_of HT_.out oK) (fun _ _ _ h => h) (Or.inl ⟨by rfl, ?_⟩) ?_ ?_
        rotate_left
        ·intro w'
         go_simp
         with_reducible rfl
        rotate_left
        ·exact oT
        refine last_ (i := 15) (N := none) #[true, true, true, true, true, true, true, true, true, true, true, true, true, true, true, true] rfl rfl (one_of HT_.out oK) oD (fun K hK => ?_)
        have hs46 : jU.cell? ⟨aK, 2, none⟩ = some (aN) := (blk_cell aE.out 2).trans rfl
        have hfs46 := blk_frozen aE.out 2
        have hns46_0 := aQ.out
        have hns46_1 := aR.out
        have hns46_2 := aZ.out
        have hms46_0 := aT.out
        have hms46_1 := aU.out
        have hms46_2 := bA.out
        refine skip_ (w1 := ?_) (by rfl) rfl ?_ ?_
        rotate_left
        ·go_simp
         rfl
        refine hK.out _ _ ?_
        clear hK K
        refine done_ (done_of HT_.out oK) ?_
        try go_wp2
        go_roundg k1
        case measure => have := HK1.out; omega
        case rel => exact ⟨(wrap64 (aH + 1)), (y380), (.slice dH y380.length dU), oU, H', ⟨(by have := HK1.out; omega)⟩, ⟨(by (with_reducible repeat (first | apply Kd.R_alloc | apply Kd.R_drewN | apply Kd.R_drew)); exact Kd.R_mono (Kd.R_far (p := ⟨aK, 2, none⟩) (Kd.R_types cN.out aE.out oD) (fun _ hk => hk.2) (.slice dH y380.length dU)) (fun _ hk => trivial))⟩, ⟨(oP aA)⟩, ⟨(oP aC)⟩, ⟨(oP aG)⟩, ⟨(blk_put aE.out 2 _ rfl)⟩, ⟨(oB HB)⟩⟩
       ·rw [if_neg eD] at H
        exact absurd H (by simp)
     ·rw [if_neg cR] at H
      have dR : (a1_0 == 6) = false := beq_eq_false_iff_ne.mpr cR
      have dS : (a1_0 != 6) = true := bne_iff_ne.mpr cR
      by_cases eE : 0 ≤ aH
      ·rw [if_pos eE] at H
       have hL : decide (0 ≤ aH) = true := decide_eq_true eE
       clear eE
       replace H := Option.bind_eq_some_iff.mp H
       obtain ⟨⟨cC, cD, cE, cF⟩, dF, H⟩ := H
       (try dsimp only at H)
       have jL := Aside0.mk dF
       clear dF
       by_cases eF : aI.length < 4398046511104
       ·rw [if_pos eF] at H
        have LMc49 := Aside0.mk eF
        clear eF
        obtain ⟨y388, hy388⟩ : ∃ y_ : List (S38), y_ = (aI ++ [(⟨cC, cD, cE, cF⟩ : S38)]) := ⟨_, rfl⟩
        replace H : (spec_l6Each.l0 k1 (wrap64 (aH + 1)) a0_0 a0_1 l0_2 a1_0 a1_1 a1_2 a1_3 a1_4 a0_0 a0_1 y388) = some (r1, r2, r3) := by first | (rw [hy388]; with_reducible exact H) | (have H2_ := (Option.bind_some _ _).symm.trans H; rw [hy388]; with_reducible exact H2_) | (have H2_ := (Option.bind_some _ _).symm.trans H; with_reducible exact H2_) | with_reducible exact H | (rw [hy388]; exact H) | exact H
        have dN := Aside0.mk hy388
        clear hy388
        have H' := Aside0.mk H
        clear H
        have hZ := aV.out
        have iX := aX.out
        have iA := aW.out
        have iY := aY.out
        have iB := aQ.out
        have iZ := aT.out
        have eW : wr.cell? ⟨aJ, 0, none⟩ = some (.int .i64 a0_0) := (blk_cell aA.out 0).trans rfl
        have eX : wr.cell? ⟨aJ, 1, none⟩ = some (.int .i64 a0_1) := (blk_cell aA.out 1).trans rfl
        have eY : wr.cell? ⟨aJ, 2, none⟩ = some (.slice bP l0_2.length bM) := (blk_cell aA.out 2).trans rfl
        have gD := blk_frozen aA.out 0
        have gE := blk_frozen aA.out 1
        have gF := blk_frozen aA.out 2
        have iC := bB.out
        have jA := bC.out
        have iD := aR.out
        have jB := aU.out
        have eZ : wr.cell? ⟨aM, 0, none⟩ = some (.int .i64 a1_0) := (blk_cell aC.out 0).trans rfl
        have fA : wr.cell? ⟨aM, 1, none⟩ = some (.int .i64 a1_1) := (blk_cell aC.out 1).trans rfl
        have fB : wr.cell? ⟨aM, 2, none⟩ = some (.int .i64 a1_2) := (blk_cell aC.out 2).trans rfl
        have fC : wr.cell? ⟨aM, 3, none⟩ = some (.int .i64 a1_3) := (blk_cell aC.out 3).trans rfl
        have fD : wr.cell? ⟨aM, 4, none⟩ = some (.int .i64 a1_4) := (blk_cell aC.out 4).trans rfl
        have gG := blk_frozen aC.out 0
        have gH := blk_frozen aC.out 1
        have gI := blk_frozen aC.out 2
        have gJ := blk_frozen aC.out 3
        have gK := blk_frozen aC.out 4
        try go_wp2
        have n_ := o2_ (Kd.R_drew aD.out) (o2_ (blk_drew aA.out) (o2_ (blk_drew aC.out) (o2_ (blk_drew aG.out) (o2_ (blk_drew aE.out) (o1_ (below_drew1 HB.out))))))
        clear aD aA aC aG aE HB
        obtain ⟨aD, aA, aC, aG, aE, HB⟩ := n_
        have cZ : 0 ≤ (aH : Int) := of_decide_eq_true oM
        have dB : aH < (l0_2.length : Int) := of_decide_eq_true oM
        obtain ⟨bO, gV, bI, bJ, bK, bL⟩ := at_T38 bT.out aH cZ dB
        have hw383_3 := bL
        have hw383_2 := bK
        have hw383_1 := bJ
        have hw383_0 := bI
        cases gV
        replace bI := (HB.out.cell (World.block_lt_of_cell? w _ bI)).trans bI
        replace bJ := (HB.out.cell (World.block_lt_of_cell? w _ bJ)).trans bJ
        replace bK := (HB.out.cell (World.block_lt_of_cell? w _ bK)).trans bK
        replace bL := (HB.out.cell (World.block_lt_of_cell? w _ bL)).trans bL
        replace cZ := eq_true cZ
        replace dB := eq_true dB
        refine start_ (n := 13) (S := fun w' => w'.cell? ⟨aK, 0, none⟩ = some (.int .i64 a0_0) ∧ w'.cell? ⟨aK, 1, none⟩ = some (.int .i64 a0_1) ∧ w'.cell? ⟨aK, 2, none⟩ = some (aN) ∧ w'.cell? ⟨aJ, 0, none⟩ = some (.int .i64 a0_0) ∧ w'.cell? ⟨aJ, 1, none⟩ = some (.int .i64 a0_1) ∧ w'.cell? ⟨aJ, 2, none⟩ = some (.slice (some bO) l0_2.length bM) ∧ w'.cell? ⟨aM, 0, none⟩ = some (.int .i64 a1_0) ∧ w'.cell? ⟨aM, 1, none⟩ = some (.int .i64 a1_1) ∧ w'.cell? ⟨aM, 2, none⟩ = some (.int .i64 a1_2) ∧ w'.cell? ⟨aM, 3, none⟩ = some (.int .i64 a1_3) ∧ w'.cell? ⟨aM, 4, none⟩ = some (.int .i64 a1_4) ∧ w'.cell? (bO.add ((aH).toNat * 4)) = some (.int .i64 ((rd_T38 l0_2 aH).f0)) ∧ w'.cell? ⟨(bO.add ((aH).toNat * 4)).block, (bO.add ((aH).toNat * 4)).off + 1, none⟩ = some (.int .i64 ((rd_T38 l0_2 aH).f1)) ∧ w'.cell? ⟨(bO.add ((aH).toNat * 4)).block, (bO.add ((aH).toNat * 4)).off + 2, none⟩ = some (.int .i64 ((rd_T38 l0_2 aH).f2)) ∧ w'.cell? ⟨(bO.add ((aH).toNat * 4)).block, (bO.add ((aH).toNat * 4)).off + 3, none⟩ = some (.int .i64 ((rd_T38 l0_2 aH).f3))) (ds := [12]) #[false, false, false, false, false, false, false, false, false, false, false, false, false] oK rfl rfl ⟨(blk_cell aE.out 0).trans rfl, (blk_cell aE.out 1).trans rfl, (blk_cell aE.out 2).trans rfl, (blk_cell aA.out 0).trans rfl, (blk_cell aA.out 1).trans rfl, (blk_cell aA.out 2).trans rfl, (blk_cell aC.out 0).trans rfl, (blk_cell aC.out 1).trans rfl, (blk_cell aC.out 2).trans rfl, (blk_cell aC.out 3).trans rfl, (blk_cell aC.out 4).trans rfl, ((HB.out.cell (World.block_lt_of_cell? w _ hw383_0)).trans hw383_0), ((HB.out.cell (World.block_lt_of_cell? w _ hw383_1)).trans hw383_1), ((HB.out.cell (World.block_lt_of_cell? w _ hw383_2)).trans hw383_2), ((HB.out.cell (World.block_lt_of_cell? w _ hw383_3)).trans hw383_3)⟩ (fun hHeld => ?_); refine with_tabW spec_l6Each.tab6 spec_l6Each.bits6 (fun HT_ HW_ => ?_)
        generalize wr.drew = kA at aD aA aC aG aE HB bI bJ bK bL hHeld ⊢
        refine pure_ (i := 0) (N := some 21) (v := ?_) (a' := ?_) #[true, false, false, false, false, false, false, false, false, false, false, false, false] rfl rfl (any_of HT_.out oK) (fun _ _ _ h => h) (Or.inl ⟨by rfl, ?_⟩) ?_ ?_
        rotate_left
        ·intro w'
         go_simp
         with_reducible rfl
        rotate_left
        ·exact oT
        refine pure_ (i := 2) (N := some 23) (v := ?_) (a' := ?_) #[true, false, true, false, false, false, false, false, false, false, false, false, false] rfl rfl (any_of HT_.out oK) (fun _ _ _ h => h) (Or.inl ⟨by rfl, ?_⟩) ?_ ?_
        rotate_left
        ·intro w'
         go_simp
         with_reducible rfl
        rotate_left
        ·exact oT
        refine pure_ (i := 4) (N := some 25) (v := ?_) (a' := ?_) #[true, false, true, false, true, false, false, false, false, false, false, false, false] rfl rfl (any_of HT_.out oK) (fun _ _ _ h => h) (Or.inl ⟨by rfl, ?_⟩) ?_ ?_
        rotate_left
        ·intro w'
         go_simp
         with_reducible rfl
        rotate_left
        ·exact oT
        refine take_ (i := 1) (N := some 22) (v := ?_) (a' := ?_) #[true, true, true, false, true, false, false, false, false, false, false, false, false] rfl rfl (take_ofW HT_.out HW_.out oK) (fun _ _ _ h => h) (Or.inl ⟨by rfl, ?_⟩) hHeld ?_ ?_
        rotate_left
        ·rintro w' ⟨s0, s1, s2, s3, s4, s5, s6, s7, s8, s9, s10, s11, s12, s13, s14⟩
         go_simp
         with_reducible rfl
        rotate_left
        ·exact oT
        refine take_ (i := 3) (N := some 24) (v := ?_) (a' := ?_) #[true, true, true, true, true, false, false, false, false, false, false, false, false] rfl rfl (take_ofW HT_.out HW_.out oK) (fun _ _ _ h => h) (Or.inl ⟨by rfl, ?_⟩) hHeld ?_ ?_
        rotate_left
        ·rintro w' ⟨s0, s1, s2, s3, s4, s5, s6, s7, s8, s9, s10, s11, s12, s13, s14⟩
         go_simp
         with_reducible rfl
        rotate_left
        ·exact oT
        refine pure_ (i := 5) (N := some 26) (v := ?_) (a' := ?_) #[true, true, true, true, true, true, false, false, false, false, false, false, false] rfl rfl (any_of HT_.out oK) (fun _ _ _ h => h) (Or.inl ⟨by rfl, ?_⟩) ?_ ?_
        rotate_left
        ·intro w'
         go_simp
         with_reducible rfl
        rotate_left
        ·exact oT
        refine take_ (i := 6) (N := some 27) (v := ?_) (a' := ?_) #[true, true, true, true, true, true, true, false, false, false, false, false, false] rfl rfl (take_ofW HT_.out HW_.out oK) (fun _ _ _ h => h) (Or.inl ⟨by rfl, ?_⟩) hHeld ?_ ?_
        rotate_left
        ·rintro w' ⟨s0, s1, s2, s3, s4, s5, s6, s7, s8, s9, s10, s11, s12, s13, s14⟩
         go_simp
         with_reducible rfl
        rotate_left
        ·exact oT
        refine take_ (i := 7) (N := some 28) (v := ?_) (a' := ?_) #[true, true, true, true, true, true, true, true, false, false, false, false, false] rfl rfl (take_ofW HT_.out HW_.out oK) (fun _ _ _ h => h) (Or.inl ⟨by rfl, ?_⟩) hHeld ?_ ?_
        rotate_left
        ·rintro w' ⟨s0, s1, s2, s3, s4, s5, s6, s7, s8, s9, s10, s11, s12, s13, s14⟩
         go_simp
         with_reducible rfl
        rotate_left
        ·exact oT
        refine one_ (i := 8) (N := some 29) #[true, true, true, true, true, true, true, true, true, false, false, false, false] rfl rfl (one_of HT_.out oK) oD (fun K hK => ?_)
        refine goes_ Try.func101 oK rfl #[.agg #[.int .i64 ((rd_T38 l0_2 aH).f0), .int .i64 ((rd_T38 l0_2 aH).f1), .int .i64 ((rd_T38 l0_2 aH).f2), .int .i64 ((rd_T38 l0_2 aH).f3)], .agg #[.int .i64 a1_0, .int .i64 a1_1, .int .i64 a1_2, .int .i64 a1_3, .int .i64 a1_4]] (by rfl) rfl rfl oA ?_
        with_reducible refine (spec_l6Flat.calls ((rd_T38 l0_2 aH).f0) ((rd_T38 l0_2 aH).f1) ((rd_T38 l0_2 aH).f2) ((rd_T38 l0_2 aH).f3) a1_0 a1_1 a1_2 a1_3 a1_4 cC cD cE cF _ jL.out).mono ?_
        rintro e kB ⟨rfl, hb⟩
        refine ⟨_, rfl, ?_⟩
        have n_ := o2_ (Kd.R_below (oR aD) hb) (o2_ (blk_below (oP aA) hb) (o2_ (blk_below (oP aC) hb) (o2_ (blk_below (oP aG) hb) (o2_ (blk_below (oP aE) hb) (o1_ (below_step (oB HB) hb))))))
        clear aD aA aC aG aE HB
        obtain ⟨aD, aA, aC, aG, aE, HB⟩ := n_
        (try clear hb)
        (try clear hb2)
        (try clear hk)
        (try clear hi)
        refine hK.out _ _ ⟨(blk_cell aE.out 0).trans rfl, (blk_cell aE.out 1).trans rfl, (blk_cell aE.out 2).trans rfl, (blk_cell aA.out 0).trans rfl, (blk_cell aA.out 1).trans rfl, (blk_cell aA.out 2).trans rfl, (blk_cell aC.out 0).trans rfl, (blk_cell aC.out 1).trans rfl, (blk_cell aC.out 2).trans rfl, (blk_cell aC.out 3).trans rfl, (blk_cell aC.out 4).trans rfl, ((HB.out.cell (World.block_lt_of_cell? w _ hw383_0)).trans hw383_0), ((HB.out.cell (World.block_lt_of_cell? w _ hw383_1)).trans hw383_1), ((HB.out.cell (World.block_lt_of_cell? w _ hw383_2)).trans hw383_2), ((HB.out.cell (World.block_lt_of_cell? w _ hw383_3)).trans hw383_3)⟩ (fun hHeld => ?_)
        clear hK K
        refine norm_ (a' := ?_) ?_ ?_
        rotate_left
        ·show Act.put _ (some 29) _ = _
         exact oT
        refine one_ (i := 9) (N := some 30) #[true, true, true, true, true, true, true, true, true, true, false, false, false] rfl rfl (one_of HT_.out oK) oD (fun K hK => ?_)
        refine value_ (w1 := ?_) (v := ?_) (by rfl) rfl ?_ ?_
        rotate_left 2
        ·go_simp
         constructor
         ·rfl
         ·rfl
        refine hK.out _ _ ⟨(blk_cell (blk_alloc aE.out _) 0).trans rfl, (blk_cell (blk_alloc aE.out _) 1).trans rfl, (blk_cell (blk_alloc aE.out _) 2).trans rfl, (blk_cell (blk_alloc aA.out _) 0).trans rfl, (blk_cell (blk_alloc aA.out _) 1).trans rfl, (blk_cell (blk_alloc aA.out _) 2).trans rfl, (blk_cell (blk_alloc aC.out _) 0).trans rfl, (blk_cell (blk_alloc aC.out _) 1).trans rfl, (blk_cell (blk_alloc aC.out _) 2).trans rfl, (blk_cell (blk_alloc aC.out _) 3).trans rfl, (blk_cell (blk_alloc aC.out _) 4).trans rfl, (World.cell?_alloc_lt _ _ _ (World.block_lt_of_cell? _ _ (((HB.out.cell (World.block_lt_of_cell? w _ hw383_0)).trans hw383_0)))).trans (((HB.out.cell (World.block_lt_of_cell? w _ hw383_0)).trans hw383_0)), (World.cell?_alloc_lt _ _ _ (World.block_lt_of_cell? _ _ (((HB.out.cell (World.block_lt_of_cell? w _ hw383_1)).trans hw383_1)))).trans (((HB.out.cell (World.block_lt_of_cell? w _ hw383_1)).trans hw383_1)), (World.cell?_alloc_lt _ _ _ (World.block_lt_of_cell? _ _ (((HB.out.cell (World.block_lt_of_cell? w _ hw383_2)).trans hw383_2)))).trans (((HB.out.cell (World.block_lt_of_cell? w _ hw383_2)).trans hw383_2)), (World.cell?_alloc_lt _ _ _ (World.block_lt_of_cell? _ _ (((HB.out.cell (World.block_lt_of_cell? w _ hw383_3)).trans hw383_3)))).trans (((HB.out.cell (World.block_lt_of_cell? w _ hw383_3)).trans hw383_3))⟩ (fun hHeld => ?_)
        clear hK K
        refine norm_ (a' := ?_) ?_ ?_
        rotate_left
        ·show Act.put _ (some 30) _ = _
         exact oT
        refine one_ (i := 10) (N := some 31) #[true, true, true, true, true, true, true, true, true, true, true, false, false] rfl rfl (one_of HT_.out oK) oD (fun K hK => ?_)
        refine Kd.R_append_step k38 (w0 := w) w.heap.size (by rfl) (.tmp 22) (.tmp 30) 23 38 (.agg #[(.int .i64 0), (.int .i64 0), (.int .i64 0), (.int .i64 0)]) 32 rfl Try.underlying23 info38 rfl oD (by omega) aN aI (⟨cC, cD, cE, cF⟩ : S38) [.int .i64 cC, .int .i64 cD, .int .i64 cE, .int .i64 cF] (fun _ => True) (fun _ => False) rfl rfl ?aP (fun _ hk => hk.elim) ?aF ?aO ?aB ?aS ?aL ?_
        (case aP => exact k38_mkM _ _ _ (⟨cC, cD, cE, cF⟩ : S38))
        (case aB => exact (oB HB))
        (case aF => exact (fun _ _ => trivial))
        (case aO => exact (oR aD))
        (case aS => exact (below_size (oB HB)))
        (case aL => have := LMc49.out; omega)
        intro jS jV ho hb hg hat
        rw [← dN.out] at ho
        have n_ := o2_ (blk_grown (oP aA) hg (Kd.R_ne aD.out aA.out oD)) (o2_ (blk_grown (oP aC) hg (Kd.R_ne aD.out aC.out oD)) (o2_ (blk_grown (oP aG) hg (Kd.R_ne aD.out aG.out oD)) (o2_ (blk_grown (oP aE) hg (Kd.R_ne aD.out aE.out oD)) (o2_ (hb) (o1_ (ho))))))
        clear aA aC aG aE HB aD
        obtain ⟨aA, aC, aG, aE, HB, cO⟩ := n_
        clear ho hb hg hat
        obtain ⟨dI, dV, dZ⟩ := Kd.R_slice cO.out
        (first | subst dZ | (injection dZ with f1_ f2_ f3_; have f4_ := f1_.symm; have f5_ := f3_.symm; clear f1_ f2_ f3_; subst f4_; subst f5_))
        refine hK.out _ _ ⟨(blk_cell aE.out 0).trans rfl, (blk_cell aE.out 1).trans rfl, (blk_cell aE.out 2).trans rfl, (blk_cell aA.out 0).trans rfl, (blk_cell aA.out 1).trans rfl, (blk_cell aA.out 2).trans rfl, (blk_cell aC.out 0).trans rfl, (blk_cell aC.out 1).trans rfl, (blk_cell aC.out 2).trans rfl, (blk_cell aC.out 3).trans rfl, (blk_cell aC.out 4).trans rfl, ((HB.out.cell (World.block_lt_of_cell? w _ hw383_0)).trans hw383_0), ((HB.out.cell (World.block_lt_of_cell? w _ hw383_1)).trans hw383_1), ((HB.out.cell (World.block_lt_of_cell? w _ hw383_2)).trans hw383_2), ((HB.out.cell (World.block_lt_of_cell? w _ hw383_3)).trans hw383_3)⟩ (fun hHeld => ?_)
        clear hK K
        refine norm_ (a' := ?_) ?_ ?_
        rotate_left
        ·show Act.put _ (some 31) _ = _
         exact oT
        refine pure_ (i := 11) (N := some 32) (v := ?_) (a' := ?_) #[true, true, true, true, true, true, true, true, true, true, true, true, false] rfl rfl (any_of HT_.out oK) (fun _ _ _ h => h) (Or.inl ⟨by rfl, ?_⟩) ?_ ?_
        rotate_left
        ·intro w'
         go_simp
         with_reducible rfl
        rotate_left
        ·exact oT
        refine last_ (i := 12) (N := none) #[true, true, true, true, true, true, true, true, true, true, true, true, true] rfl rfl (one_of HT_.out oK) oD (fun K hK => ?_)
        have hs61 : jV.cell? ⟨aK, 2, none⟩ = some (aN) := (blk_cell aE.out 2).trans rfl
        have hfs61 := blk_frozen aE.out 2
        have hns61_0 := aQ.out
        have hns61_1 := aR.out
        have hns61_2 := aZ.out
        have hms61_0 := aT.out
        have hms61_1 := aU.out
        have hms61_2 := bA.out
        refine skip_ (w1 := ?_) (by rfl) rfl ?_ ?_
        rotate_left
        ·go_simp
         rfl
        refine hK.out _ _ ?_
        clear hK K
        refine done_ (done_of HT_.out oK) ?_
        try go_wp2
        go_roundg k1
        case measure => have := HK1.out; omega
        case rel => exact ⟨(wrap64 (aH + 1)), (y388), (.slice dI y388.length dV), oU, H', ⟨(by have := HK1.out; omega)⟩, ⟨(by (with_reducible repeat (first | apply Kd.R_alloc | apply Kd.R_drewN | apply Kd.R_drew)); exact Kd.R_mono (Kd.R_far (p := ⟨aK, 2, none⟩) (Kd.R_types cO.out aE.out oD) (fun _ hk => hk.2) (.slice dI y388.length dV)) (fun _ hk => trivial))⟩, ⟨(oP aA)⟩, ⟨(oP aC)⟩, ⟨(oP aG)⟩, ⟨(blk_put aE.out 2 _ rfl)⟩, ⟨(oB HB)⟩⟩
       ·rw [if_neg eF] at H
        exact absurd H (by simp)
      ·rw [if_neg eE] at H
       exact absurd H (by simp)
   ·rw [if_neg dC] at H
    have dO : decide (aH < (l0_2.length : Int)) = false := decide_eq_false dC
    clear dC
    simp only [Option.some.injEq, Prod.mk.injEq] at H
    obtain ⟨rfl, rfl, rfl⟩ := H
    have iE := aV.out
    have jC := aX.out
    have iF := aW.out
    have jD := aY.out
    have iG := aQ.out
    have jE := aT.out
    have fE : wr.cell? ⟨aJ, 0, none⟩ = some (.int .i64 a0_0) := (blk_cell aA.out 0).trans rfl
    have fF : wr.cell? ⟨aJ, 1, none⟩ = some (.int .i64 a0_1) := (blk_cell aA.out 1).trans rfl
    have fG : wr.cell? ⟨aJ, 2, none⟩ = some (.slice bP l0_2.length bM) := (blk_cell aA.out 2).trans rfl
    have gL := blk_frozen aA.out 0
    have gM := blk_frozen aA.out 1
    have gN := blk_frozen aA.out 2
    have iH := aU.out
    have jF := aR.out
    have iI := bA.out
    have jG := aZ.out
    have fH : wr.cell? ⟨aK, 0, none⟩ = some (.int .i64 a0_0) := (blk_cell aE.out 0).trans rfl
    have fI : wr.cell? ⟨aK, 1, none⟩ = some (.int .i64 a0_1) := (blk_cell aE.out 1).trans rfl
    have fJ : wr.cell? ⟨aK, 2, none⟩ = some (aN) := (blk_cell aE.out 2).trans rfl
    have gO := blk_frozen aE.out 0
    have gP := blk_frozen aE.out 1
    have gQ := blk_frozen aE.out 2
    have iJ := bC.out
    have jH := bB.out
    have fK : wr.cell? ⟨bD, 0, none⟩ = some (.int .i64 0) := (blk_cell aG.out 0).trans rfl
    have fL : wr.cell? ⟨bD, 1, none⟩ = some (.int .i64 0) := (blk_cell aG.out 1).trans rfl
    have fM : wr.cell? ⟨bD, 2, none⟩ = some (.slice none 0 0) := (blk_cell aG.out 2).trans rfl
    have gR := blk_frozen aG.out 0
    have gS := blk_frozen aG.out 1
    have gT := blk_frozen aG.out 2
    obtain ⟨dJ, dW, gW⟩ := Kd.R_slice aD.out
    subst gW
    go_wp2
    refine bodyPost_ret (results_cell_row rfl _ _ bD 25 #[.int .i64 a0_0, .int .i64 a0_1, .slice dJ aI.length dW] (0, 0) _ rfl (blk_put (blk_put (blk_put aG.out 0 _ rfl) 1 _ rfl) 2 _ rfl) Try.underlying25 rfl oK) rfl ?_
    exact ⟨_, by first | rfl | (simp [errW_none, errW_some] <;> rfl) | (simp [*, errW_none, errW_some] <;> rfl), by (with_reducible repeat (first | apply Kd.R_alloc | apply Kd.R_drewN | apply Kd.R_drew)); exact Kd.R_mono (Kd.R_far (p := ⟨bD, 2, none⟩) (Kd.R_far (p := ⟨bD, 1, none⟩) (Kd.R_far (p := ⟨bD, 0, none⟩) (Kd.R_types aD.out aG.out oD) (fun _ hk => hk.2) (.int .i64 a0_0)) (fun _ hk => hk.2) (.int .i64 a0_1)) (fun _ hk => hk.2) (.slice dJ aI.length dW)) (fun _ hk => trivial), oB HB⟩

end Go.Proofs.Ythnmeogafklhnaa.X
