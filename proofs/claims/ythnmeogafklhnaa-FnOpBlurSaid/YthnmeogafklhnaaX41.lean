/- What functions of the program come to, each with its proof. No condition but what each theorem states. -/
import Derived.Test.YthnmeogafklhnaaX0
import Derived.Test.YthnmeogafklhnaaX39
namespace Go.Proofs.Ythnmeogafklhnaa.X
open Go.RowKit Go.Proofs.YthnmeogafklhnaaW.PrintWords Go.Proofs.YthnmeogafklhnaaW.PrintLast Go.Proofs.YthnmeogafklhnaaW.PrintMore Go.Proofs.Ythnmeogafklhnaa.Hyb
attribute [local go_sem] max2_int min2_int max_two min_two max_three min_three max_four min_four
set_option linter.unusedVariables false
set_option linter.unusedSimpArgs false

/-! ### spec_l6Each: function 85 -/
def spec_l6Each.l0 : Nat → Int → Int → Int → List (S38) → Int → Int → Int → Int → Int → Int → Int → List (S38) → Option (Int × Int × (List (S38)))
 | 0, _, _, _, _, _, _, _, _, _, _, _, _ => none
 | k + 1, x6, x365000, x365001, x365002, x366000, x366001, x366002, x366003, x366004, x368000, x368001, x368002 => if x6 < (x365002.length : Int) then (if x366000 = 5 then (none) else (if x366000 = 6 then (if x365000 = 0 then (none) else ((spec_l6Mean.f k x365000 x365001 x365002 (Int.tmod x6 x365000) (wrap64 (Int.tdiv x6 x365000))).bind fun bG => (if x368002.length < 4398046511104 then (spec_l6Each.l0 k (wrap64 (x6 + 1)) x365000 x365001 x365002 x366000 x366001 x366002 x366003 x366004 x368000 x368001 (x368002 ++ [(⟨bG.1, bG.2.1, bG.2.2.1, bG.2.2.2⟩ : S38)])) else (none)))) else (none))) else (some (x368000, x368001, x368002))
def spec_l6Each.f (k : Nat) (a0_0 : Int) (a0_1 : Int) (l0_2 : List (S38)) (a1_0 : Int) (a1_1 : Int) (a1_2 : Int) (a1_3 : Int) (a1_4 : Int) : Option (Int × Int × (List (S38))) := spec_l6Each.l0 k 0 a0_0 a0_1 l0_2 a1_0 a1_1 a1_2 a1_3 a1_4 a0_0 a0_1 ([] : List (S38))
theorem spec_l6Each.mono_l : ∀ k, (∀ y0 y1 y2 y3 y4 y5 y6 y7 y8 y9 dX dY, LeO (spec_l6Each.l0 k y0 y1 y2 y3 y4 y5 y6 y7 y8 y9 dX dY) (spec_l6Each.l0 (k + 1) y0 y1 y2 y3 y4 y5 y6 y7 y8 y9 dX dY))
 | 0 => (fun _ _ _ _ _ _ _ _ _ _ _ _ r h => nomatch (show none = some r from h))
 | k + 1 => by
  have ih0 := spec_l6Each.mono_l k
  ·intro y0 y1 y2 y3 y4 y5 y6 y7 y8 y9 dX dY
   unfold spec_l6Each.l0
   repeat' first
   | (with_reducible exact ih0 _ _ _ _ _ _ _ _ _ _ _ _)
   | (with_reducible exact spec_l6Mean.mono _ _ _ _ _ _)
   | (with_reducible exact LeO.refl _)
   | (with_reducible exact LeO.none _)
   | (with_reducible refine LeO.ite ?_ ?_)
   | (with_reducible refine LeO.bind ?_ (fun _ => ?_))
   | exact ih0 _ _ _ _ _ _ _ _ _ _ _ _
   | exact spec_l6Mean.mono _ _ _ _ _ _
   | exact LeO.none _
   | refine LeO.ite ?_ ?_
   | refine LeO.bind ?_ (fun _ => ?_)
theorem spec_l6Each.mono : ∀ a0 a1 a2 a3 a4 a5 a6 a7 k, LeO (spec_l6Each.f k a0 a1 a2 a3 a4 a5 a6 a7) (spec_l6Each.f (k + 1) a0 a1 a2 a3 a4 a5 a6 a7) := by
 intro a0 a1 a2 a3 a4 a5 a6 a7 k
 have ih0 := spec_l6Each.mono_l k
 unfold spec_l6Each.f
 repeat' first
   | (with_reducible exact ih0 _ _ _ _ _ _ _ _ _ _ _ _)
   | (with_reducible exact spec_l6Mean.mono _ _ _ _ _ _)
   | (with_reducible exact LeO.refl _)
   | (with_reducible exact LeO.none _)
   | (with_reducible refine LeO.ite ?_ ?_)
   | (with_reducible refine LeO.bind ?_ (fun _ => ?_))
   | exact ih0 _ _ _ _ _ _ _ _ _ _ _ _
   | exact spec_l6Mean.mono _ _ _ _ _ _
   | exact LeO.none _
   | refine LeO.ite ?_ ?_
   | refine LeO.bind ?_ (fun _ => ?_)
def spec_l6Each.T10 : Bool × List (List Nat × List Nat) := (true, [([], []), ([0], [0]), ([], []), ([], []), ([], []), ([4], [4]), ([3, 5], [3, 5]), ([], []), ([], []), ([8], [8]), ([7, 9], [7, 9]), ([2, 6, 10], [2, 6, 10]), ([11], [11]), ([1, 12, 11], [1, 12]), ([0, 1, 2, 3, 4, 5, 6, 7, 8, 9, 10, 11, 12, 13], []), ([14, 13, 13, 0, 1, 2, 3, 4, 5, 6, 7, 8, 9, 10, 11, 12, 13], [13, 14])])
def spec_l6Each.B10 : List Nat := [0, 1, 0, 0, 0, 16, 56, 0, 0, 256, 896, 2044, 4092, 8191, 16383, 32767]
theorem spec_l6Each.tab10 : rtab .any (opsOf Try.f85 10) = spec_l6Each.T10 := by kernel_rfl
theorem spec_l6Each.bits10 : waitsOk spec_l6Each.T10.2 spec_l6Each.B10 = true := by kernel_rfl
set_option maxHeartbeats 8000000 in
set_option maxRecDepth 100000 in
theorem spec_l6Each.calls (k : Nat) (a0_0 : Int) (a0_1 : Int) (bE : Option Addr) (bF : Nat) (l0_2 : List (S38)) (a1_0 : Int) (a1_1 : Int) (a1_2 : Int) (a1_3 : Int) (a1_4 : Int) (r1 : Int) (r2 : Int) (r3 : List (S38)) (w : World) (hr0_2 : Kd.C k38 w bE l0_2.length l0_2) (bS : l0_2.length ≤ bF) (h : spec_l6Each.f k a0_0 a0_1 l0_2 a1_0 a1_1 a1_2 a1_3 a1_4 = some (r1, r2, r3)) :
  Calls Try.prog 85 #[.agg #[.int .i64 a0_0, .int .i64 a0_1, .slice bE l0_2.length bF], .agg #[.int .i64 a1_0, .int .i64 a1_1, .int .i64 a1_2, .int .i64 a1_3, .int .i64 a1_4]] w fun e w' => ∃ fP : Value, e = .returned (.agg #[.int .i64 r1, .int .i64 r2, fP]) ∧ Kd.R k38 38 w' w.heap.size (fun _ => True) fP r3 ∧ Below w.heap.size w w' := by
 have hu25 := Try.underlying25
 have hu27 := Try.underlying27
 have hu38 := Try.underlying38
 have cE := Aside0.mk hr0_2
 have cD := Aside0.mk bS
 clear hr0_2 bS
 have HB := Aside0.mk (Below.refl w.heap.size w)
 have H : (spec_l6Each.l0 k 0 a0_0 a0_1 l0_2 a1_0 a1_1 a1_2 a1_3 a1_4 a0_0 a0_1 ([] : List (S38))) = some (r1, r2, r3) := h
 clear h
 have H' := Aside0.mk H
 clear H
 go_enter Try.func85, Try.ntmps85
 go_wp2_with (first | ((with_reducible refine gate_dst (N := 2) rfl ?_); refine box_event rfl (N := 2) rfl (cs := #[.int .i64 a0_0, .int .i64 a0_1, .slice bE l0_2.length bF]) (t := 25) oS ?_; intro aI hg w3 hbox hb; have n_ := o2_ (below_step (oB HB) hb) (o2_ (hbox) (o2_ ((oG hg (below_size (oB HB)) : w.heap.size ≤ aI)) (o1_ ((oG hg (below_size (oB HB)) : w.heap.size ≤ aI))))); clear HB; obtain ⟨HB, aA, eD, dZ⟩ := n_; clear hb hbox hg) | ((with_reducible refine gate_dst (N := 3) rfl ?_); refine box_event rfl (N := 3) rfl (cs := #[.int .i64 a1_0, .int .i64 a1_1, .int .i64 a1_2, .int .i64 a1_3, .int .i64 a1_4]) (t := 27) oS ?_; intro bA hg w4 hbox hb; have n_ := o2_ (blk_below (oP aA) hb) (o2_ (below_step (oB HB) hb) (o2_ (hbox) (o2_ ((oG hg (below_size (oB HB)) : w.heap.size ≤ bA)) (o2_ ((oG hg (below_size (oB HB)) : w.heap.size ≤ bA)) (o2_ ((oL hg (blk_lt (oP aA)))) (o1_ ((oN hg (blk_lt (oP aA)))))))))); clear aA HB; obtain ⟨aA, HB, aE, eE, eA, aU, aW⟩ := n_; clear hb hbox hg) | ((with_reducible refine gate_dst (N := 4) rfl ?_); refine box_event rfl (N := 4) rfl (cs := #[.int .i64 0, .int .i64 0, .slice none 0 0]) (t := 25) oS ?_; intro aT hg w5 hbox hb; have n_ := o2_ (blk_below (oP aA) hb) (o2_ (blk_below (oP aE) hb) (o2_ (below_step (oB HB) hb) (o2_ (hbox) (o2_ ((oG hg (below_size (oB HB)) : w.heap.size ≤ aT)) (o2_ ((oG hg (below_size (oB HB)) : w.heap.size ≤ aT)) (o2_ ((oL hg (blk_lt (oP aA)))) (o2_ ((oN hg (blk_lt (oP aA)))) (o2_ ((oL hg (blk_lt (oP aE)))) (o1_ ((oN hg (blk_lt (oP aE))))))))))))); clear aA aE HB; obtain ⟨aA, aE, HB, aG, eF, eB, aV, aX, bC, bD⟩ := n_; clear hb hbox hg; have fR := aU.out; have fT := aW.out; have fS := aV.out; have fU := aX.out; have bT : w5.cell? ⟨aI, 0, none⟩ = some (.int .i64 a0_0) := (blk_cell aA.out 0).trans rfl; have bU : w5.cell? ⟨aI, 1, none⟩ = some (.int .i64 a0_1) := (blk_cell aA.out 1).trans rfl; have bV : w5.cell? ⟨aI, 2, none⟩ = some (.slice bE l0_2.length bF) := (blk_cell aA.out 2).trans rfl; have bW := blk_frozen aA.out 0; have bX := blk_frozen aA.out 1; have bY := blk_frozen aA.out 2) | ((with_reducible refine gate_dst (N := 5) rfl ?_); refine box_event rfl (N := 5) rfl (cs := #[.int .i64 0, .int .i64 0, .slice none 0 0]) (t := 25) oS ?_; intro aJ hg w9 hbox hb; have n_ := o2_ (blk_below (oP aA) hb) (o2_ (blk_below (oP aE) hb) (o2_ (blk_below (oP aG) hb) (o2_ (below_step (oB HB) hb) (o2_ (hbox) (o2_ ((oG hg (below_size (oB HB)) : w.heap.size ≤ aJ)) (o2_ ((oG hg (below_size (oB HB)) : w.heap.size ≤ aJ)) (o2_ ((oL hg (blk_lt (oP aA)))) (o2_ ((oN hg (blk_lt (oP aA)))) (o2_ ((oL hg (blk_lt (oP aE)))) (o2_ ((oN hg (blk_lt (oP aE)))) (o2_ ((oL hg (blk_lt (oP aG)))) (o1_ ((oN hg (blk_lt (oP aG)))))))))))))))); clear aA aE aG HB; obtain ⟨aA, aE, aG, HB, aC, eG, eC, aM, aQ, aN, aR, aY, aZ⟩ := n_; clear hb hbox hg; have eN := aQ.out; have fB := aM.out; have eO := aR.out; have fC := aN.out; have eP := aZ.out; have fD := aY.out; have bL : w9.cell? ⟨aJ, 0, none⟩ = some (.int .i64 0) := (blk_cell aC.out 0).trans rfl; have bM : w9.cell? ⟨aJ, 1, none⟩ = some (.int .i64 0) := (blk_cell aC.out 1).trans rfl; have bN : w9.cell? ⟨aJ, 2, none⟩ = some (.slice none 0 0) := (blk_cell aC.out 2).trans rfl; have bO := blk_frozen aC.out 0; have bP := blk_frozen aC.out 1; have bQ := blk_frozen aC.out 2))
 go_loopg [6] k (fun kq v6 w' => ∃ (bB : Int) (aH : List (S38)) (aK : Value), v6 = .int .i64 bB ∧ Aside0 (spec_l6Each.l0 kq bB a0_0 a0_1 l0_2 a1_0 a1_1 a1_2 a1_3 a1_4 a0_0 a0_1 aH = some (r1, r2, r3)) ∧ Aside0 (kq ≤ k) ∧ Aside0 (Kd.R k38 38 w' w.heap.size (fun _ => True) aK aH) ∧ Aside0 (w'.heap[aI]? = some (.cells #[.int .i64 a0_0, .int .i64 a0_1, (.slice bE l0_2.length bF)] 25 (0, 0))) ∧ Aside0 (w'.heap[bA]? = some (.cells #[.int .i64 a1_0, .int .i64 a1_1, .int .i64 a1_2, .int .i64 a1_3, .int .i64 a1_4] 27 (0, 0))) ∧ Aside0 (w'.heap[aT]? = some (.cells #[.int .i64 0, .int .i64 0, (.slice none 0 0)] 25 (0, 0))) ∧ Aside0 (w'.heap[aJ]? = some (.cells #[.int .i64 a0_0, .int .i64 a0_1, aK] 25 (0, 0))) ∧ Aside0 (Below w.heap.size w w'))
 case atStart => exact ⟨(0), (([] : List (S38))), (.slice none 0 0), oU, H', ⟨Nat.le_refl _⟩, ⟨oZ⟩, ⟨(oP aA)⟩, ⟨(oP aE)⟩, ⟨(oP aG)⟩, ⟨(blk_put (blk_put (blk_put aC.out 0 _ rfl) 1 _ rfl) 2 _ rfl)⟩, ⟨(oB HB)⟩⟩
 case round =>
  clear H'
  try clear c1
  try clear p2
  try clear c6
  try clear c7
  try clear c8
  try clear c10
  try clear c11
  try clear c12
  try clear bL
  try clear bM
  try clear bN
  try clear bT
  try clear bU
  try clear bV
  try clear bO
  try clear bP
  try clear bQ
  try clear bW
  try clear bX
  try clear bY
  obtain ⟨bB, aH, aK, rfl, HA, HK1, aD, aA, aE, aG, aC, HB⟩ := hrel
  cases gk with
  | zero => exact nomatch (show none = some _ from HA.out)
  | succ k1 =>
   have H := HA.out
   clear HA
   simp only [spec_l6Each.l0] at H
   by_cases bZ : bB < (l0_2.length : Int)
   ·rw [if_pos bZ] at H
    have cG : decide (bB < (l0_2.length : Int)) = true := decide_eq_true bZ
    clear bZ
    by_cases cL : a1_0 = 5
    ·rw [if_pos cL] at H
     exact nomatch H
    ·rw [if_neg cL] at H
     have eH : (a1_0 == 5) = false := beq_eq_false_iff_ne.mpr cL
     have eI : (a1_0 != 5) = true := bne_iff_ne.mpr cL
     by_cases cH : a1_0 = 6
     ·rw [if_pos cH] at H
      have eJ : (a1_0 == 6) = true := beq_iff_eq.mpr cH
      have eK : (a1_0 != 6) = false := bne_eq_false_iff_eq.mpr cH
      clear cH
      by_cases cM : a0_0 = 0
      ·rw [if_pos cM] at H
       exact absurd H (by simp)
      ·rw [if_neg cM] at H
       have eL : (a0_0 == 0) = false := beq_eq_false_iff_ne.mpr cM
       have eM : (a0_0 != 0) = true := bne_iff_ne.mpr cM
       replace H := Option.bind_eq_some_iff.mp H
       obtain ⟨⟨bH, bI, bJ, bK⟩, cA, H⟩ := H
       (try dsimp only at H)
       have fQ := Aside0.mk cA
       clear cA
       by_cases cN : aH.length < 4398046511104
       ·rw [if_pos cN] at H
        have LMc34 := Aside0.mk cN
        clear cN
        obtain ⟨y380, hy380⟩ : ∃ y_ : List (S38), y_ = (aH ++ [(⟨bH, bI, bJ, bK⟩ : S38)]) := ⟨_, rfl⟩
        replace H : (spec_l6Each.l0 k1 (wrap64 (bB + 1)) a0_0 a0_1 l0_2 a1_0 a1_1 a1_2 a1_3 a1_4 a0_0 a0_1 y380) = some (r1, r2, r3) := by first | (rw [hy380]; with_reducible exact H) | (have H2_ := (Option.bind_some _ _).symm.trans H; rw [hy380]; with_reducible exact H2_) | (have H2_ := (Option.bind_some _ _).symm.trans H; with_reducible exact H2_) | with_reducible exact H | (rw [hy380]; exact H) | exact H
        have cF := Aside0.mk hy380
        clear hy380
        have H' := Aside0.mk H
        clear H
        have eQ := aU.out
        have fE := aW.out
        have eR := aV.out
        have fF := aX.out
        have eS := aM.out
        have fG := aQ.out
        have cO : wr.cell? ⟨aI, 0, none⟩ = some (.int .i64 a0_0) := (blk_cell aA.out 0).trans rfl
        have cP : wr.cell? ⟨aI, 1, none⟩ = some (.int .i64 a0_1) := (blk_cell aA.out 1).trans rfl
        have cQ : wr.cell? ⟨aI, 2, none⟩ = some (.slice bE l0_2.length bF) := (blk_cell aA.out 2).trans rfl
        have dF := blk_frozen aA.out 0
        have dG := blk_frozen aA.out 1
        have dH := blk_frozen aA.out 2
        have eT := bC.out
        have fH := bD.out
        have eU := aN.out
        have fI := aR.out
        have cR : wr.cell? ⟨bA, 0, none⟩ = some (.int .i64 a1_0) := (blk_cell aE.out 0).trans rfl
        have cS : wr.cell? ⟨bA, 1, none⟩ = some (.int .i64 a1_1) := (blk_cell aE.out 1).trans rfl
        have cT : wr.cell? ⟨bA, 2, none⟩ = some (.int .i64 a1_2) := (blk_cell aE.out 2).trans rfl
        have cU : wr.cell? ⟨bA, 3, none⟩ = some (.int .i64 a1_3) := (blk_cell aE.out 3).trans rfl
        have cV : wr.cell? ⟨bA, 4, none⟩ = some (.int .i64 a1_4) := (blk_cell aE.out 4).trans rfl
        have dI := blk_frozen aE.out 0
        have dJ := blk_frozen aE.out 1
        have dK := blk_frozen aE.out 2
        have dL := blk_frozen aE.out 3
        have dM := blk_frozen aE.out 4
        try go_wp2
        have n_ := o2_ (Kd.R_drew aD.out) (o2_ (blk_drew aA.out) (o2_ (blk_drew aE.out) (o2_ (blk_drew aG.out) (o2_ (blk_drew aC.out) (o1_ (below_drew1 HB.out))))))
        clear aD aA aE aG aC HB
        obtain ⟨aD, aA, aE, aG, aC, HB⟩ := n_
        refine start_ (n := 16) (S := fun w' => w'.cell? ⟨aJ, 0, none⟩ = some (.int .i64 a0_0) ∧ w'.cell? ⟨aJ, 1, none⟩ = some (.int .i64 a0_1) ∧ w'.cell? ⟨aJ, 2, none⟩ = some (aK) ∧ w'.cell? ⟨aI, 0, none⟩ = some (.int .i64 a0_0) ∧ w'.cell? ⟨aI, 1, none⟩ = some (.int .i64 a0_1) ∧ w'.cell? ⟨aI, 2, none⟩ = some (.slice bE l0_2.length bF)) (ds := [15]) #[false, false, false, false, false, false, false, false, false, false, false, false, false, false, false, false] oK rfl rfl ⟨(blk_cell aC.out 0).trans rfl, (blk_cell aC.out 1).trans rfl, (blk_cell aC.out 2).trans rfl, (blk_cell aA.out 0).trans rfl, (blk_cell aA.out 1).trans rfl, (blk_cell aA.out 2).trans rfl⟩ (fun hHeld => ?_); refine with_tabW spec_l6Each.tab10 spec_l6Each.bits10 (fun HT_ HW_ => ?_)
        generalize wr.drew = fX at aD aA aE aG aC HB hHeld ⊢
        refine pure_ (i := 0) (N := some 48) (v := ?_) (a' := ?_) #[true, false, false, false, false, false, false, false, false, false, false, false, false, false, false, false] rfl rfl (any_of HT_.out oK) (fun _ _ _ h => h) (Or.inl ⟨by rfl, ?_⟩) ?_ ?_
        rotate_left
        ·intro w'
         go_simp
         with_reducible rfl
        rotate_left
        ·exact oT
        refine pure_ (i := 3) (N := some 51) (v := ?_) (a' := ?_) #[true, false, false, true, false, false, false, false, false, false, false, false, false, false, false, false] rfl rfl (any_of HT_.out oK) (fun _ _ _ h => h) (Or.inl ⟨by rfl, ?_⟩) ?_ ?_
        rotate_left
        ·intro w'
         go_simp
         with_reducible rfl
        rotate_left
        ·exact oT
        refine pure_ (i := 4) (N := some 52) (v := ?_) (a' := ?_) #[true, false, false, true, true, false, false, false, false, false, false, false, false, false, false, false] rfl rfl (any_of HT_.out oK) (fun _ _ _ h => h) (Or.inl ⟨by rfl, ?_⟩) ?_ ?_
        rotate_left
        ·intro w'
         go_simp
         with_reducible rfl
        rotate_left
        ·exact oT
        refine pure_ (i := 7) (N := some 55) (v := ?_) (a' := ?_) #[true, false, false, true, true, false, false, true, false, false, false, false, false, false, false, false] rfl rfl (any_of HT_.out oK) (fun _ _ _ h => h) (Or.inl ⟨by rfl, ?_⟩) ?_ ?_
        rotate_left
        ·intro w'
         go_simp
         with_reducible rfl
        rotate_left
        ·exact oT
        refine pure_ (i := 8) (N := some 56) (v := ?_) (a' := ?_) #[true, false, false, true, true, false, false, true, true, false, false, false, false, false, false, false] rfl rfl (any_of HT_.out oK) (fun _ _ _ h => h) (Or.inl ⟨by rfl, ?_⟩) ?_ ?_
        rotate_left
        ·intro w'
         go_simp
         with_reducible rfl
        rotate_left
        ·exact oT
        refine take_ (i := 1) (N := some 49) (v := ?_) (a' := ?_) #[true, true, false, true, true, false, false, true, true, false, false, false, false, false, false, false] rfl rfl (take_ofW HT_.out HW_.out oK) (fun _ _ _ h => h) (Or.inl ⟨by rfl, ?_⟩) hHeld ?_ ?_
        rotate_left
        ·rintro w' ⟨s0, s1, s2, s3, s4, s5⟩
         go_simp
         with_reducible rfl
        rotate_left
        ·exact oT
        refine take_ (i := 2) (N := some 50) (v := ?_) (a' := ?_) #[true, true, true, true, true, false, false, true, true, false, false, false, false, false, false, false] rfl rfl (take_ofW HT_.out HW_.out oK) (fun _ _ _ h => h) (Or.inl ⟨by rfl, ?_⟩) hHeld ?_ ?_
        rotate_left
        ·rintro w' ⟨s0, s1, s2, s3, s4, s5⟩
         go_simp
         with_reducible rfl
        rotate_left
        ·exact oT
        refine take_ (i := 5) (N := some 53) (v := ?_) (a' := ?_) #[true, true, true, true, true, true, false, true, true, false, false, false, false, false, false, false] rfl rfl (take_ofW HT_.out HW_.out oK) (fun _ _ _ h => h) (Or.inl ⟨by rfl, ?_⟩) hHeld ?_ ?_
        rotate_left
        ·rintro w' ⟨s0, s1, s2, s3, s4, s5⟩
         go_simp
         with_reducible rfl
        rotate_left
        ·exact oT
        refine pure_ (i := 6) (N := some 54) (v := ?_) (a' := ?_) #[true, true, true, true, true, true, true, true, true, false, false, false, false, false, false, false] rfl rfl (any_of HT_.out oK) (fun _ _ _ h => h) (Or.inl ⟨by rfl, ?_⟩) ?_ ?_
        rotate_left
        ·intro w'
         go_simp
         with_reducible rfl
        rotate_left
        ·exact oT
        refine take_ (i := 9) (N := some 57) (v := ?_) (a' := ?_) #[true, true, true, true, true, true, true, true, true, true, false, false, false, false, false, false] rfl rfl (take_ofW HT_.out HW_.out oK) (fun _ _ _ h => h) (Or.inl ⟨by rfl, ?_⟩) hHeld ?_ ?_
        rotate_left
        ·rintro w' ⟨s0, s1, s2, s3, s4, s5⟩
         go_simp
         with_reducible rfl
        rotate_left
        ·exact oT
        refine pure_ (i := 10) (N := some 58) (v := ?_) (a' := ?_) #[true, true, true, true, true, true, true, true, true, true, true, false, false, false, false, false] rfl rfl (any_of HT_.out oK) (fun _ _ _ h => h) (Or.inl ⟨by rfl, ?_⟩) ?_ ?_
        rotate_left
        ·intro w'
         go_simp
         with_reducible rfl
        rotate_left
        ·exact oT
        refine one_ (i := 11) (N := some 59) #[true, true, true, true, true, true, true, true, true, true, true, true, false, false, false, false] rfl rfl (one_of HT_.out oK) oD (fun K hK => ?_)
        refine goes_ Try.func100 oK rfl #[.agg #[.int .i64 a0_0, .int .i64 a0_1, .slice bE l0_2.length bF], .int .i64 (Int.tmod bB a0_0), .int .i64 (wrap64 (Int.tdiv bB a0_0))] (by rfl) rfl rfl oA ?_
        with_reducible refine (spec_l6Mean.calls k1 a0_0 a0_1 _ _ l0_2 (Int.tmod bB a0_0) (wrap64 (Int.tdiv bB a0_0)) bH bI bJ bK _ ?side1 ?side2 fQ.out).mono ?_
        (case side1 => repeat (first | exact (Kd.C_below cE.out HB.out) | (with_reducible refine Kd.C_alloc ?_ _) | (with_reducible refine Kd.C_drewN ?_ _) | (with_reducible refine Kd.C_drew ?_)))
        (case side2 => exact cD.out)
        rintro e fY ⟨rfl, hb⟩
        refine ⟨_, rfl, ?_⟩
        have n_ := o2_ (Kd.R_below (oR aD) hb) (o2_ (blk_below (oP aA) hb) (o2_ (blk_below (oP aE) hb) (o2_ (blk_below (oP aG) hb) (o2_ (blk_below (oP aC) hb) (o1_ (below_step (oB HB) hb))))))
        clear aD aA aE aG aC HB
        obtain ⟨aD, aA, aE, aG, aC, HB⟩ := n_
        (try clear hb)
        (try clear hb2)
        (try clear hk)
        (try clear hi)
        refine hK.out _ _ ⟨(blk_cell aC.out 0).trans rfl, (blk_cell aC.out 1).trans rfl, (blk_cell aC.out 2).trans rfl, (blk_cell aA.out 0).trans rfl, (blk_cell aA.out 1).trans rfl, (blk_cell aA.out 2).trans rfl⟩ (fun hHeld => ?_)
        clear hK K
        refine norm_ (a' := ?_) ?_ ?_
        rotate_left
        ·show Act.put _ (some 59) _ = _
         exact oT
        refine one_ (i := 12) (N := some 60) #[true, true, true, true, true, true, true, true, true, true, true, true, true, false, false, false] rfl rfl (one_of HT_.out oK) oD (fun K hK => ?_)
        refine value_ (w1 := ?_) (v := ?_) (by rfl) rfl ?_ ?_
        rotate_left 2
        ·go_simp
         constructor
         ·rfl
         ·rfl
        refine hK.out _ _ ⟨(blk_cell (blk_alloc aC.out _) 0).trans rfl, (blk_cell (blk_alloc aC.out _) 1).trans rfl, (blk_cell (blk_alloc aC.out _) 2).trans rfl, (blk_cell (blk_alloc aA.out _) 0).trans rfl, (blk_cell (blk_alloc aA.out _) 1).trans rfl, (blk_cell (blk_alloc aA.out _) 2).trans rfl⟩ (fun hHeld => ?_)
        clear hK K
        refine norm_ (a' := ?_) ?_ ?_
        rotate_left
        ·show Act.put _ (some 60) _ = _
         exact oT
        refine one_ (i := 13) (N := some 61) #[true, true, true, true, true, true, true, true, true, true, true, true, true, true, false, false] rfl rfl (one_of HT_.out oK) oD (fun K hK => ?_)
        refine Kd.R_append_step k38 (w0 := w) w.heap.size (by rfl) (.tmp 49) (.tmp 60) 23 38 (.agg #[(.int .i64 0), (.int .i64 0), (.int .i64 0), (.int .i64 0)]) 32 rfl Try.underlying23 info38 rfl oD (by omega) aK aH (⟨bH, bI, bJ, bK⟩ : S38) [.int .i64 bH, .int .i64 bI, .int .i64 bJ, .int .i64 bK] (fun _ => True) (fun _ => False) rfl rfl ?aP (fun _ hk => hk.elim) ?aF ?aO ?aB ?aS ?aL ?_
        (case aP => exact k38_mkM _ _ _ (⟨bH, bI, bJ, bK⟩ : S38))
        (case aB => exact (oB HB))
        (case aF => exact (fun _ _ => trivial))
        (case aO => exact (oR aD))
        (case aS => exact (below_size (oB HB)))
        (case aL => have := LMc34.out; omega)
        intro fV fW ho hb hg hat
        rw [← cF.out] at ho
        have n_ := o2_ (blk_grown (oP aA) hg (Kd.R_ne aD.out aA.out oD)) (o2_ (blk_grown (oP aE) hg (Kd.R_ne aD.out aE.out oD)) (o2_ (blk_grown (oP aG) hg (Kd.R_ne aD.out aG.out oD)) (o2_ (blk_grown (oP aC) hg (Kd.R_ne aD.out aC.out oD)) (o2_ (hb) (o1_ (ho))))))
        clear aA aE aG aC HB aD
        obtain ⟨aA, aE, aG, aC, HB, bR⟩ := n_
        clear ho hb hg hat
        obtain ⟨cB, cI, cK⟩ := Kd.R_slice bR.out
        (first | subst cK | (injection cK with f1_ f2_ f3_; have f4_ := f1_.symm; have f5_ := f3_.symm; clear f1_ f2_ f3_; subst f4_; subst f5_))
        refine hK.out _ _ ⟨(blk_cell aC.out 0).trans rfl, (blk_cell aC.out 1).trans rfl, (blk_cell aC.out 2).trans rfl, (blk_cell aA.out 0).trans rfl, (blk_cell aA.out 1).trans rfl, (blk_cell aA.out 2).trans rfl⟩ (fun hHeld => ?_)
        clear hK K
        refine norm_ (a' := ?_) ?_ ?_
        rotate_left
        ·show Act.put _ (some 61) _ = _
         exact oT
        refine pure_ (i := 14) (N := some 62) (v := ?_) (a' := ?_) #[true, true, true, true, true, true, true, true, true, true, true, true, true, true, true, false] rfl rfl (any_of HT_.out oK) (fun _ _ _ h => h) (Or.inl ⟨by rfl, ?_⟩) ?_ ?_
        rotate_left
        ·intro w'
         go_simp
         with_reducible rfl
        rotate_left
        ·exact oT
        refine last_ (i := 15) (N := none) #[true, true, true, true, true, true, true, true, true, true, true, true, true, true, true, true] rfl rfl (one_of HT_.out oK) oD (fun K hK => ?_)
        have hs46 : fW.cell? ⟨aJ, 2, none⟩ = some (aK) := (blk_cell aC.out 2).trans rfl
        have hfs46 := blk_frozen aC.out 2
        have hns46_0 := aM.out
        have hns46_1 := aN.out
        have hns46_2 := aY.out
        have hms46_0 := aQ.out
        have hms46_1 := aR.out
        have hms46_2 := aZ.out
        refine skip_ (w1 := ?_) (by rfl) rfl ?_ ?_
        rotate_left
        ·go_simp
         rfl
        refine hK.out _ _ ?_
        clear hK K
        refine done_ (done_of HT_.out oK) ?_
        try go_wp2
        go_roundg k1
        case measure => have := HK1.out; omega
        case rel => exact ⟨(wrap64 (bB + 1)), (y380), (.slice cB y380.length cI), oU, H', ⟨(by have := HK1.out; omega)⟩, ⟨(by (with_reducible repeat (first | apply Kd.R_alloc | apply Kd.R_drewN | apply Kd.R_drew)); exact Kd.R_mono (Kd.R_far (p := ⟨aJ, 2, none⟩) (Kd.R_types bR.out aC.out oD) (fun _ hk => hk.2) (.slice cB y380.length cI)) (fun _ hk => trivial))⟩, ⟨(oP aA)⟩, ⟨(oP aE)⟩, ⟨(oP aG)⟩, ⟨(blk_put aC.out 2 _ rfl)⟩, ⟨(oB HB)⟩⟩
       ·rw [if_neg cN] at H
        exact absurd H (by simp)
     ·rw [if_neg cH] at H
      exact nomatch H
   ·rw [if_neg bZ] at H
    have cG : decide (bB < (l0_2.length : Int)) = false := decide_eq_false bZ
    clear bZ
    simp only [Option.some.injEq, Prod.mk.injEq] at H
    obtain ⟨rfl, rfl, rfl⟩ := H
    have eV := aU.out
    have fJ := aW.out
    have eW := aV.out
    have fK := aX.out
    have eX := aM.out
    have fL := aQ.out
    have cW : wr.cell? ⟨aI, 0, none⟩ = some (.int .i64 a0_0) := (blk_cell aA.out 0).trans rfl
    have cX : wr.cell? ⟨aI, 1, none⟩ = some (.int .i64 a0_1) := (blk_cell aA.out 1).trans rfl
    have cY : wr.cell? ⟨aI, 2, none⟩ = some (.slice bE l0_2.length bF) := (blk_cell aA.out 2).trans rfl
    have dN := blk_frozen aA.out 0
    have dO := blk_frozen aA.out 1
    have dP := blk_frozen aA.out 2
    have eY := aR.out
    have fM := aN.out
    have eZ := aZ.out
    have fN := aY.out
    have cZ : wr.cell? ⟨aJ, 0, none⟩ = some (.int .i64 a0_0) := (blk_cell aC.out 0).trans rfl
    have dA : wr.cell? ⟨aJ, 1, none⟩ = some (.int .i64 a0_1) := (blk_cell aC.out 1).trans rfl
    have dB : wr.cell? ⟨aJ, 2, none⟩ = some (aK) := (blk_cell aC.out 2).trans rfl
    have dQ := blk_frozen aC.out 0
    have dR := blk_frozen aC.out 1
    have dS := blk_frozen aC.out 2
    have fA := bD.out
    have fO := bC.out
    have dC : wr.cell? ⟨aT, 0, none⟩ = some (.int .i64 0) := (blk_cell aG.out 0).trans rfl
    have dD : wr.cell? ⟨aT, 1, none⟩ = some (.int .i64 0) := (blk_cell aG.out 1).trans rfl
    have dE : wr.cell? ⟨aT, 2, none⟩ = some (.slice none 0 0) := (blk_cell aG.out 2).trans rfl
    have dT := blk_frozen aG.out 0
    have dU := blk_frozen aG.out 1
    have dV := blk_frozen aG.out 2
    obtain ⟨cC, cJ, dW⟩ := Kd.R_slice aD.out
    subst dW
    go_wp2
    refine bodyPost_ret (results_cell_row rfl _ _ aT 25 #[.int .i64 a0_0, .int .i64 a0_1, .slice cC aH.length cJ] (0, 0) _ rfl (blk_put (blk_put (blk_put aG.out 0 _ rfl) 1 _ rfl) 2 _ rfl) Try.underlying25 rfl oK) rfl ?_
    exact ⟨_, by first | rfl | (simp [errW_none, errW_some] <;> rfl) | (simp [*, errW_none, errW_some] <;> rfl), by (with_reducible repeat (first | apply Kd.R_alloc | apply Kd.R_drewN | apply Kd.R_drew)); exact Kd.R_mono (Kd.R_far (p := ⟨aT, 2, none⟩) (Kd.R_far (p := ⟨aT, 1, none⟩) (Kd.R_far (p := ⟨aT, 0, none⟩) (Kd.R_types aD.out aG.out oD) (fun _ hk => hk.2) (.int .i64 a0_0)) (fun _ hk => hk.2) (.int .i64 a0_1)) (fun _ hk => hk.2) (.slice cC aH.length cJ)) (fun _ hk => trivial), oB HB⟩

end Go.Proofs.Ythnmeogafklhnaa.X
