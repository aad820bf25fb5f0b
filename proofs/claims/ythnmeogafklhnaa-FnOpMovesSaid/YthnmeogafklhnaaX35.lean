/- What functions of the program come to, each with its proof. No condition but what each theorem states. -/
import Derived.Test.YthnmeogafklhnaaX0
namespace Go.Proofs.Ythnmeogafklhnaa.X
open Go.RowKit Go.Proofs.YthnmeogafklhnaaW.PrintWords Go.Proofs.YthnmeogafklhnaaW.PrintLast Go.Proofs.YthnmeogafklhnaaW.PrintMore Go.Proofs.Ythnmeogafklhnaa.Hyb
attribute [local go_sem] max2_int min2_int max_two min_two max_three min_three max_four min_four
set_option linter.unusedVariables false
set_option linter.unusedSimpArgs false

/-! ### spec_l5Flip: function 82 -/
def spec_l5Flip.l0 : Nat → Int → Int → Int → List (S38) → Int → Int → List (S38) → Option (Int × Int × (List (S38)))
 | 0, _, _, _, _, _, _, _ => none
 | k + 1, x4, x330000, x330001, x330002, x332000, x332001, x332002 => if x4 ≥ 0 then (if 0 ≤ (wrap64 (x4 * x330000)) then (if (wrap64 (x4 * x330000)) ≤ (wrap64 ((wrap64 (x4 + 1)) * x330000)) then (if (wrap64 ((wrap64 (x4 + 1)) * x330000)) ≤ (x330002.length : Int) then ((some ((x330002.take ((wrap64 ((wrap64 (x4 + 1)) * x330000)) : Int).toNat).drop ((wrap64 (x4 * x330000)) : Int).toNat : List (S38))).bind fun aM => (if x332002.length + aM.length < 4398046511104 then (spec_l5Flip.l0 k (wrap64 (x4 - 1)) x330000 x330001 x330002 x332000 x332001 (x332002 ++ aM)) else (none))) else (none)) else (none)) else (none)) else (some (x332000, x332001, x332002))
def spec_l5Flip.f (k : Nat) (a0_0 : Int) (a0_1 : Int) (l0_2 : List (S38)) : Option (Int × Int × (List (S38))) := spec_l5Flip.l0 k (wrap64 (a0_1 - 1)) a0_0 a0_1 l0_2 a0_0 a0_1 ([] : List (S38))
theorem spec_l5Flip.mono_l : ∀ k, (∀ y0 y1 y2 y3 y4 y5 y6, LeO (spec_l5Flip.l0 k y0 y1 y2 y3 y4 y5 y6) (spec_l5Flip.l0 (k + 1) y0 y1 y2 y3 y4 y5 y6))
 | 0 => (fun _ _ _ _ _ _ _ r h => nomatch (show none = some r from h))
 | k + 1 => by
  have ih0 := spec_l5Flip.mono_l k
  ·intro y0 y1 y2 y3 y4 y5 y6
   unfold spec_l5Flip.l0
   repeat' first
   | (with_reducible exact ih0 _ _ _ _ _ _ _)
   | (with_reducible exact LeO.refl _)
   | (with_reducible exact LeO.none _)
   | (with_reducible refine LeO.ite ?_ ?_)
   | (with_reducible refine LeO.bind ?_ (fun _ => ?_))
   | exact ih0 _ _ _ _ _ _ _
   | exact LeO.none _
   | refine LeO.ite ?_ ?_
   | refine LeO.bind ?_ (fun _ => ?_)
theorem spec_l5Flip.mono : ∀ a0 a1 a2 k, LeO (spec_l5Flip.f k a0 a1 a2) (spec_l5Flip.f (k + 1) a0 a1 a2) := by
 intro a0 a1 a2 k
 have ih0 := spec_l5Flip.mono_l k
 unfold spec_l5Flip.f
 repeat' first
   | (with_reducible exact ih0 _ _ _ _ _ _ _)
   | (with_reducible exact LeO.refl _)
   | (with_reducible exact LeO.none _)
   | (with_reducible refine LeO.ite ?_ ?_)
   | (with_reducible refine LeO.bind ?_ (fun _ => ?_))
   | exact ih0 _ _ _ _ _ _ _
   | exact LeO.none _
   | refine LeO.ite ?_ ?_
   | refine LeO.bind ?_ (fun _ => ?_)
def spec_l5Flip.T5 : Bool × List (List Nat × List Nat) := (true, [([], []), ([0], [0]), ([], []), ([2], [2]), ([], []), ([], []), ([5], [5]), ([4, 6], [4, 6]), ([], []), ([8], [8]), ([], []), ([10], [10]), ([9, 11], [9, 11]), ([3, 7, 12], [3, 7, 12]), ([1, 13], [1, 13]), ([0, 1, 2, 3, 4, 5, 6, 7, 8, 9, 10, 11, 12, 13, 14], []), ([15, 14, 14, 0, 1, 2, 3, 4, 5, 6, 7, 8, 9, 10, 11, 12, 13, 14], [14, 15])])
def spec_l5Flip.B5 : List Nat := [0, 1, 0, 4, 0, 0, 32, 112, 0, 256, 0, 1024, 3840, 8188, 16383, 32767, 65535]
theorem spec_l5Flip.tab5 : rtab .any (opsOf Try.f82 5) = spec_l5Flip.T5 := by kernel_rfl
theorem spec_l5Flip.bits5 : waitsOk spec_l5Flip.T5.2 spec_l5Flip.B5 = true := by kernel_rfl
set_option maxHeartbeats 8000000 in
set_option maxRecDepth 100000 in
theorem spec_l5Flip.calls (k : Nat) (a0_0 : Int) (a0_1 : Int) (aW : Option Addr) (aV : Nat) (l0_2 : List (S38)) (r1 : Int) (r2 : Int) (r3 : List (S38)) (w : World) (hr0_2 : Kd.C k38 w aW l0_2.length l0_2) (bI : l0_2.length ≤ aV) (h : spec_l5Flip.f k a0_0 a0_1 l0_2 = some (r1, r2, r3)) :
  Calls Try.prog 82 #[.agg #[.int .i64 a0_0, .int .i64 a0_1, .slice aW l0_2.length aV]] w fun e w' => ∃ dS : Value, e = .returned (.agg #[.int .i64 r1, .int .i64 r2, dS]) ∧ Kd.R k38 38 w' w.heap.size (fun _ => True) dS r3 ∧ Below w.heap.size w w' := by
 have hu25 := Try.underlying25
 have bZ := Aside0.mk hr0_2
 have bY := Aside0.mk bI
 clear hr0_2 bI
 have HB := Aside0.mk (Below.refl w.heap.size w)
 have H : (spec_l5Flip.l0 k (wrap64 (a0_1 - 1)) a0_0 a0_1 l0_2 a0_0 a0_1 ([] : List (S38))) = some (r1, r2, r3) := h
 clear h
 have H' := Aside0.mk H
 clear H
 go_enter Try.func82, Try.ntmps82
 go_wp2_with (first | ((with_reducible refine gate_dst (N := 1) rfl ?_); refine box_event rfl (N := 1) rfl (cs := #[.int .i64 a0_0, .int .i64 a0_1, .slice aW l0_2.length aV]) (t := 25) oS ?_; intro aK hg w2 hbox hb; have n_ := o2_ (below_step (oB HB) hb) (o2_ (hbox) (o2_ ((oG hg (below_size (oB HB)) : w.heap.size ≤ aK)) (o1_ ((oG hg (below_size (oB HB)) : w.heap.size ≤ aK))))); clear HB; obtain ⟨HB, aA, dC, cZ⟩ := n_; clear hb hbox hg) | ((with_reducible refine gate_dst (N := 2) rfl ?_); refine box_event rfl (N := 2) rfl (cs := #[.int .i64 0, .int .i64 0, .slice none 0 0]) (t := 25) oS ?_; intro aN hg w3 hbox hb; have n_ := o2_ (blk_below (oP aA) hb) (o2_ (below_step (oB HB) hb) (o2_ (hbox) (o2_ ((oG hg (below_size (oB HB)) : w.heap.size ≤ aN)) (o2_ ((oG hg (below_size (oB HB)) : w.heap.size ≤ aN)) (o2_ ((oL hg (blk_lt (oP aA)))) (o1_ ((oN hg (blk_lt (oP aA)))))))))); clear aA HB; obtain ⟨aA, HB, aG, dD, dA, aX, aY⟩ := n_; clear hb hbox hg; have dT := aX.out; have dW := aY.out; have bJ : w3.cell? ⟨aK, 0, none⟩ = some (.int .i64 a0_0) := (blk_cell aA.out 0).trans rfl; have bK : w3.cell? ⟨aK, 1, none⟩ = some (.int .i64 a0_1) := (blk_cell aA.out 1).trans rfl; have bL : w3.cell? ⟨aK, 2, none⟩ = some (.slice aW l0_2.length aV) := (blk_cell aA.out 2).trans rfl; have bP := blk_frozen aA.out 0; have bQ := blk_frozen aA.out 1; have bR := blk_frozen aA.out 2) | ((with_reducible refine gate_dst (N := 3) rfl ?_); refine box_event rfl (N := 3) rfl (cs := #[.int .i64 0, .int .i64 0, .slice none 0 0]) (t := 25) oS ?_; intro aI hg w6 hbox hb; have n_ := o2_ (blk_below (oP aA) hb) (o2_ (blk_below (oP aG) hb) (o2_ (below_step (oB HB) hb) (o2_ (hbox) (o2_ ((oG hg (below_size (oB HB)) : w.heap.size ≤ aI)) (o2_ ((oG hg (below_size (oB HB)) : w.heap.size ≤ aI)) (o2_ ((oL hg (blk_lt (oP aA)))) (o2_ ((oN hg (blk_lt (oP aA)))) (o2_ ((oL hg (blk_lt (oP aG)))) (o1_ ((oN hg (blk_lt (oP aG))))))))))))); clear aA aG HB; obtain ⟨aA, aG, HB, aC, dE, dB, aP, aT, aQ, aU⟩ := n_; clear hb hbox hg; have dU := aT.out; have dX := aP.out; have dV := aU.out; have dY := aQ.out; have bM : w6.cell? ⟨aI, 0, none⟩ = some (.int .i64 0) := (blk_cell aC.out 0).trans rfl; have bN : w6.cell? ⟨aI, 1, none⟩ = some (.int .i64 0) := (blk_cell aC.out 1).trans rfl; have bO : w6.cell? ⟨aI, 2, none⟩ = some (.slice none 0 0) := (blk_cell aC.out 2).trans rfl; have bS := blk_frozen aC.out 0; have bT := blk_frozen aC.out 1; have bU := blk_frozen aC.out 2; have aZ : w6.cell? ⟨aK, 0, none⟩ = some (.int .i64 a0_0) := (blk_cell aA.out 0).trans rfl; have bA : w6.cell? ⟨aK, 1, none⟩ = some (.int .i64 a0_1) := (blk_cell aA.out 1).trans rfl; have bB : w6.cell? ⟨aK, 2, none⟩ = some (.slice aW l0_2.length aV) := (blk_cell aA.out 2).trans rfl; have bC := blk_frozen aA.out 0; have bD := blk_frozen aA.out 1; have bE := blk_frozen aA.out 2))
 go_loopg [4] k (fun kq v4 w' => ∃ (aH : Int) (aD : List (S38)) (aJ : Value), v4 = .int .i64 aH ∧ Aside0 (spec_l5Flip.l0 kq aH a0_0 a0_1 l0_2 a0_0 a0_1 aD = some (r1, r2, r3)) ∧ Aside0 (kq ≤ k) ∧ Aside0 (Kd.R k38 38 w' w.heap.size (fun _ => True) aJ aD) ∧ Aside0 (w'.heap[aK]? = some (.cells #[.int .i64 a0_0, .int .i64 a0_1, (.slice aW l0_2.length aV)] 25 (0, 0))) ∧ Aside0 (w'.heap[aN]? = some (.cells #[.int .i64 0, .int .i64 0, (.slice none 0 0)] 25 (0, 0))) ∧ Aside0 (w'.heap[aI]? = some (.cells #[.int .i64 a0_0, .int .i64 a0_1, aJ] 25 (0, 0))) ∧ Aside0 (Below w.heap.size w w'))
 case atStart => exact ⟨(wrap64 (a0_1 - 1)), (([] : List (S38))), (.slice none 0 0), oU, H', ⟨Nat.le_refl _⟩, ⟨oZ⟩, ⟨(oP aA)⟩, ⟨(oP aG)⟩, ⟨(blk_put (blk_put (blk_put aC.out 0 _ rfl) 1 _ rfl) 2 _ rfl)⟩, ⟨(oB HB)⟩⟩
 case round =>
  clear H'
  try clear p2
  try clear c4
  try clear p6
  try clear c7
  try clear c8
  try clear aZ
  try clear bA
  try clear bB
  try clear bJ
  try clear bK
  try clear bL
  try clear bM
  try clear bN
  try clear bO
  try clear bC
  try clear bD
  try clear bE
  try clear bP
  try clear bQ
  try clear bR
  try clear bS
  try clear bT
  try clear bU
  obtain ⟨aH, aD, aJ, rfl, HA, HK1, aE, aA, aG, aC, HB⟩ := hrel
  cases gk with
  | zero => exact nomatch (show none = some _ from HA.out)
  | succ k1 =>
   have H := HA.out
   clear HA
   simp only [spec_l5Flip.l0] at H
   by_cases bV : aH ≥ 0
   ·rw [if_pos bV] at H
    have cB : decide (0 ≤ aH) = true := decide_eq_true bV
    clear bV
    obtain ⟨ji12, hji12⟩ : ∃ j_ : Int, (wrap64 (aH * a0_0)) = j_ := ⟨_, rfl⟩
    replace H : (if 0 ≤ (ji12) then (if (ji12) ≤ (wrap64 ((wrap64 (aH + 1)) * a0_0)) then (if (wrap64 ((wrap64 (aH + 1)) * a0_0)) ≤ (l0_2.length : Int) then ((some ((l0_2.take ((wrap64 ((wrap64 (aH + 1)) * a0_0)) : Int).toNat).drop ((ji12) : Int).toNat : List (S38))).bind fun aM => (if aD.length + aM.length < 4398046511104 then (spec_l5Flip.l0 k1 (wrap64 (aH - 1)) a0_0 a0_1 l0_2 a0_0 a0_1 (aD ++ aM)) else (none))) else (none)) else (none)) else (none)) = some (r1, r2, r3) := by first | (rw [hji12] at H; exact H) | (simp only [hji12] at H ⊢; exact H)
    have cW : (IntKind.i64.wrap (aH * a0_0)) = ji12 := (i64_w _).trans hji12
    by_cases cC : 0 ≤ (ji12)
    ·rw [if_pos cC] at H
     have dG := eq_true cC
     have dH : decide (0 ≤ (ji12)) = true := decide_eq_true cC
     clear cC
     by_cases cG : (ji12) ≤ (wrap64 ((wrap64 (aH + 1)) * a0_0))
     ·rw [if_pos cG] at H
      have dI := eq_true cG
      have dJ : decide ((ji12) ≤ (wrap64 ((wrap64 (aH + 1)) * a0_0))) = true := decide_eq_true cG
      by_cases cH : (wrap64 ((wrap64 (aH + 1)) * a0_0)) ≤ (l0_2.length : Int)
      ·rw [if_pos cH] at H
       have dK := eq_true cH
       have dL : decide ((wrap64 ((wrap64 (aH + 1)) * a0_0)) ≤ (l0_2.length : Int)) = true := decide_eq_true cH
       obtain ⟨aM, hy332⟩ : ∃ y_ : List (S38), y_ = ((l0_2.take ((wrap64 ((wrap64 (aH + 1)) * a0_0)) : Int).toNat).drop ((ji12) : Int).toNat) := ⟨_, rfl⟩
       replace H : (if aD.length + aM.length < 4398046511104 then (spec_l5Flip.l0 k1 (wrap64 (aH - 1)) a0_0 a0_1 l0_2 a0_0 a0_1 (aD ++ aM)) else (none)) = some (r1, r2, r3) := by first | (rw [hy332]; with_reducible exact H) | (have H2_ := (Option.bind_some _ _).symm.trans H; rw [hy332]; with_reducible exact H2_) | (have H2_ := (Option.bind_some _ _).symm.trans H; with_reducible exact H2_) | with_reducible exact H | (rw [hy332]; exact H) | exact H
       have bH := Aside0.mk hy332
       clear hy332
       by_cases cI : aD.length + aM.length < 4398046511104
       ·rw [if_pos cI] at H
        have LMc16 := Aside0.mk cI
        clear cI
        obtain ⟨y336, hy336⟩ : ∃ y_ : List (S38), y_ = (aD ++ aM) := ⟨_, rfl⟩
        replace H : (spec_l5Flip.l0 k1 (wrap64 (aH - 1)) a0_0 a0_1 l0_2 a0_0 a0_1 y336) = some (r1, r2, r3) := by first | (rw [hy336]; with_reducible exact H) | (have H2_ := (Option.bind_some _ _).symm.trans H; rw [hy336]; with_reducible exact H2_) | (have H2_ := (Option.bind_some _ _).symm.trans H; with_reducible exact H2_) | with_reducible exact H | (rw [hy336]; exact H) | exact H
        have cA := Aside0.mk hy336
        clear hy336
        have H' := Aside0.mk H
        clear H
        try go_wp2
        have n_ := o2_ (Kd.R_drew aE.out) (o2_ (blk_drew aA.out) (o2_ (blk_drew aG.out) (o2_ (blk_drew aC.out) (o1_ (below_drew1 HB.out)))))
        clear aE aA aG aC HB
        obtain ⟨aE, aA, aG, aC, HB⟩ := n_
        have cY : ((wrap64 ((wrap64 (aH + 1)) * a0_0)) : Int) ≤ ((l0_2.length : Int) : Int) := of_decide_eq_true oM
        obtain ⟨i018, hi018, _, hsz18, _⟩ := info_parts info38
        have hroom18 : l0_2.length ≤ aV := bY.out
        have hC18 : Kd.C k38 _ aW l0_2.length l0_2 := bZ.out
        have ql18 : ((ji12) : Int) ≤ ((wrap64 ((wrap64 (aH + 1)) * a0_0)) : Int) := of_decide_eq_true oM
        have cX : (0 : Int) ≤ ((ji12) : Int) := of_decide_eq_true oM
        have hcut18 := cut_mid (P := Try.prog) 23 38 .i64 .i64 Try.underlying23 hi018 4 hsz18 aW l0_2.length aV (ji12) (wrap64 ((wrap64 (aH + 1)) * a0_0)) cX ql18 cY hroom18
        have hr18 := Kd.C_mid (lo := ((ji12) : Int).toNat) (hi := ((wrap64 ((wrap64 (aH + 1)) * a0_0)) : Int).toNat) (c := aV) hC18 (by omega) (by omega) hroom18
        obtain ⟨A18, hA18⟩ : ∃ A1, A1 = (if aV = ((ji12) : Int).toNat then aW else (aW : Option Addr).map (·.add (((ji12) : Int).toNat * 4))) := ⟨_, rfl⟩
        obtain ⟨c18, hc18⟩ : ∃ c1, c1 = aV - ((ji12) : Int).toNat := ⟨_, rfl⟩
        have hy18 : aM.length = ((wrap64 ((wrap64 (aH + 1)) * a0_0)) : Int).toNat - ((ji12) : Int).toNat := (by rw [bH.out, List.length_drop, List.length_take] <;> omega)
        rw [show ((l0_2).take ((wrap64 ((wrap64 (aH + 1)) * a0_0)) : Int).toNat).drop ((ji12) : Int).toNat = aM from bH.out.symm] at hr18
        replace hr18 : Kd.C k38 _ A18 aM.length aM := (by rw [hA18]; exact hr18)
        rw [← hy18, ← hA18, ← hc18] at hcut18
        have bG := Aside0.mk hr18
        have dF := Aside0.mk (show aM.length ≤ c18 from by rw [hy18, hc18]; exact Nat.sub_le_sub_right (Nat.le_trans (by omega) hroom18) _)
        clear hr18 hC18 hroom18 hi018 hsz18 hc18
        have KY18 := Aside0.mk hy18
        have KA18 := Aside0.mk hA18
        clear hy18 hA18
        replace cY := eq_true cY
        refine start_ (n := 17) (S := fun w' => w'.cell? ⟨aI, 0, none⟩ = some (.int .i64 a0_0) ∧ w'.cell? ⟨aI, 1, none⟩ = some (.int .i64 a0_1) ∧ w'.cell? ⟨aI, 2, none⟩ = some (aJ) ∧ w'.cell? ⟨aK, 0, none⟩ = some (.int .i64 a0_0) ∧ w'.cell? ⟨aK, 1, none⟩ = some (.int .i64 a0_1) ∧ w'.cell? ⟨aK, 2, none⟩ = some (.slice aW l0_2.length aV)) (ds := [16]) #[false, false, false, false, false, false, false, false, false, false, false, false, false, false, false, false, false] oK rfl rfl ⟨(blk_cell aC.out 0).trans rfl, (blk_cell aC.out 1).trans rfl, (blk_cell aC.out 2).trans rfl, (blk_cell aA.out 0).trans rfl, (blk_cell aA.out 1).trans rfl, (blk_cell aA.out 2).trans rfl⟩ (fun hHeld => ?_); refine with_tabW spec_l5Flip.tab5 spec_l5Flip.bits5 (fun HT_ HW_ => ?_)
        generalize wr.drew = eB at aE aA aG aC HB bG hHeld ⊢
        refine pure_ (i := 0) (N := some 17) (v := ?_) (a' := ?_) #[true, false, false, false, false, false, false, false, false, false, false, false, false, false, false, false, false] rfl rfl (any_of HT_.out oK) (fun _ _ _ h => h) (Or.inl ⟨by rfl, ?_⟩) ?_ ?_
        rotate_left
        ·intro w'
         go_simp
         with_reducible rfl
        rotate_left
        ·exact oT
        refine pure_ (i := 2) (N := some 19) (v := ?_) (a' := ?_) #[true, false, true, false, false, false, false, false, false, false, false, false, false, false, false, false, false] rfl rfl (any_of HT_.out oK) (fun _ _ _ h => h) (Or.inl ⟨by rfl, ?_⟩) ?_ ?_
        rotate_left
        ·intro w'
         go_simp
         with_reducible rfl
        rotate_left
        ·exact oT
        refine pure_ (i := 4) (N := some 21) (v := ?_) (a' := ?_) #[true, false, true, false, true, false, false, false, false, false, false, false, false, false, false, false, false] rfl rfl (any_of HT_.out oK) (fun _ _ _ h => h) (Or.inl ⟨by rfl, ?_⟩) ?_ ?_
        rotate_left
        ·intro w'
         go_simp
         with_reducible rfl
        rotate_left
        ·exact oT
        refine pure_ (i := 5) (N := some 22) (v := ?_) (a' := ?_) #[true, false, true, false, true, true, false, false, false, false, false, false, false, false, false, false, false] rfl rfl (any_of HT_.out oK) (fun _ _ _ h => h) (Or.inl ⟨by rfl, ?_⟩) ?_ ?_
        rotate_left
        ·intro w'
         go_simp
         with_reducible rfl
        rotate_left
        ·exact oT
        refine pure_ (i := 8) (N := some 25) (v := ?_) (a' := ?_) #[true, false, true, false, true, true, false, false, true, false, false, false, false, false, false, false, false] rfl rfl (any_of HT_.out oK) (fun _ _ _ h => h) (Or.inl ⟨by rfl, ?_⟩) ?_ ?_
        rotate_left
        ·intro w'
         go_simp
         with_reducible rfl
        rotate_left
        ·exact oT
        refine pure_ (i := 9) (N := some 26) (v := ?_) (a' := ?_) #[true, false, true, false, true, true, false, false, true, true, false, false, false, false, false, false, false] rfl rfl (any_of HT_.out oK) (fun _ _ _ h => h) (Or.inl ⟨by rfl, ?_⟩) ?_ ?_
        rotate_left
        ·intro w'
         go_simp
         with_reducible rfl
        rotate_left
        ·exact oT
        refine pure_ (i := 10) (N := some 27) (v := ?_) (a' := ?_) #[true, false, true, false, true, true, false, false, true, true, true, false, false, false, false, false, false] rfl rfl (any_of HT_.out oK) (fun _ _ _ h => h) (Or.inl ⟨by rfl, ?_⟩) ?_ ?_
        rotate_left
        ·intro w'
         go_simp
         with_reducible rfl
        rotate_left
        ·exact oT
        refine take_ (i := 1) (N := some 18) (v := ?_) (a' := ?_) #[true, true, true, false, true, true, false, false, true, true, true, false, false, false, false, false, false] rfl rfl (take_ofW HT_.out HW_.out oK) (fun _ _ _ h => h) (Or.inl ⟨by rfl, ?_⟩) hHeld ?_ ?_
        rotate_left
        ·rintro w' ⟨s0, s1, s2, s3, s4, s5⟩
         go_simp
         with_reducible rfl
        rotate_left
        ·exact oT
        refine take_ (i := 3) (N := some 20) (v := ?_) (a' := ?_) #[true, true, true, true, true, true, false, false, true, true, true, false, false, false, false, false, false] rfl rfl (take_ofW HT_.out HW_.out oK) (fun _ _ _ h => h) (Or.inl ⟨by rfl, ?_⟩) hHeld ?_ ?_
        rotate_left
        ·rintro w' ⟨s0, s1, s2, s3, s4, s5⟩
         go_simp
         with_reducible rfl
        rotate_left
        ·exact oT
        refine take_ (i := 6) (N := some 23) (v := ?_) (a' := ?_) #[true, true, true, true, true, true, true, false, true, true, true, false, false, false, false, false, false] rfl rfl (take_ofW HT_.out HW_.out oK) (fun _ _ _ h => h) (Or.inl ⟨by rfl, ?_⟩) hHeld ?_ ?_
        rotate_left
        ·rintro w' ⟨s0, s1, s2, s3, s4, s5⟩
         go_simp
         with_reducible rfl
        rotate_left
        ·exact oT
        refine pure_ (i := 7) (N := some 24) (v := ?_) (a' := ?_) #[true, true, true, true, true, true, true, true, true, true, true, false, false, false, false, false, false] rfl rfl (any_of HT_.out oK) (fun _ _ _ h => h) (Or.inl ⟨by rfl, ?_⟩) ?_ ?_
        rotate_left
        ·intro w'
         go_simp
         with_reducible rfl
        rotate_left
        ·exact oT
        refine take_ (i := 11) (N := some 28) (v := ?_) (a' := ?_) #[true, true, true, true, true, true, true, true, true, true, true, true, false, false, false, false, false] rfl rfl (take_ofW HT_.out HW_.out oK) (fun _ _ _ h => h) (Or.inl ⟨by rfl, ?_⟩) hHeld ?_ ?_
        rotate_left
        ·rintro w' ⟨s0, s1, s2, s3, s4, s5⟩
         go_simp
         with_reducible rfl
        rotate_left
        ·exact oT
        refine pure_ (i := 12) (N := some 29) (v := ?_) (a' := ?_) #[true, true, true, true, true, true, true, true, true, true, true, true, true, false, false, false, false] rfl rfl (any_of HT_.out oK) (fun _ _ _ h => h) (Or.inl ⟨by rfl, ?_⟩) ?_ ?_
        rotate_left
        ·intro w'
         go_simp
         with_reducible rfl
        rotate_left
        ·exact oT
        refine pure_ (i := 13) (N := some 30) (v := ?_) (a' := ?_) #[true, true, true, true, true, true, true, true, true, true, true, true, true, true, false, false, false] rfl rfl (any_of HT_.out oK) (fun _ _ _ h => h) (Or.inl ⟨by rfl, ?_⟩) ?_ ?_
        rotate_left
        ·intro w'
         go_simp
         with_reducible rfl
        rotate_left
        ·exact oT
        refine one_ (i := 14) (N := some 31) #[true, true, true, true, true, true, true, true, true, true, true, true, true, true, true, false, false] rfl rfl (one_of HT_.out oK) oD (fun K hK => ?_)
        refine Kd.R_append_rows_step k38 (w0 := w) w.heap.size (by rfl) (.tmp 18) (.tmp 30) 23 38 (.agg #[(.int .i64 0), (.int .i64 0), (.int .i64 0), (.int .i64 0)]) 32 rfl Try.underlying23 info38 rfl oD (by omega) aJ aD aM _ _ _ (fun _ => True) (fun _ => False) rfl rfl ?aO ?aR (fun _ _ h => h) (fun _ h => h.elim) ?aF ?aB ?aS ?aL ?_
        (case aR => repeat (first | exact (Kd.C_below bG.out HB.out) | (with_reducible refine Kd.C_alloc ?_ _) | (with_reducible refine Kd.C_drewN ?_ _) | (with_reducible refine Kd.C_drew ?_)))
        (case aB => exact (oB HB))
        (case aF => exact (fun _ _ => trivial))
        (case aO => exact (oR aE))
        (case aS => exact (below_size (oB HB)))
        (case aL => have := LMc16.out; omega)
        intro dZ eA ho hb hg hat
        rw [← cA.out] at ho
        have n_ := o2_ (blk_grown (oP aA) hg (Kd.R_ne aE.out aA.out oD)) (o2_ (blk_grown (oP aG) hg (Kd.R_ne aE.out aG.out oD)) (o2_ (blk_grown (oP aC) hg (Kd.R_ne aE.out aC.out oD)) (o2_ (hb) (o1_ (ho)))))
        clear aA aG aC HB aE
        obtain ⟨aA, aG, aC, HB, bF⟩ := n_
        clear ho hb hg hat
        obtain ⟨bW, cD, cF⟩ := Kd.R_slice bF.out
        (first | subst cF | (injection cF with f1_ f2_ f3_; have f4_ := f1_.symm; have f5_ := f3_.symm; clear f1_ f2_ f3_; subst f4_; subst f5_))
        refine hK.out _ _ ⟨(blk_cell aC.out 0).trans rfl, (blk_cell aC.out 1).trans rfl, (blk_cell aC.out 2).trans rfl, (blk_cell aA.out 0).trans rfl, (blk_cell aA.out 1).trans rfl, (blk_cell aA.out 2).trans rfl⟩ (fun hHeld => ?_)
        clear hK K
        refine norm_ (a' := ?_) ?_ ?_
        rotate_left
        ·show Act.put _ (some 31) _ = _
         exact oT
        refine pure_ (i := 15) (N := some 32) (v := ?_) (a' := ?_) #[true, true, true, true, true, true, true, true, true, true, true, true, true, true, true, true, false] rfl rfl (any_of HT_.out oK) (fun _ _ _ h => h) (Or.inl ⟨by rfl, ?_⟩) ?_ ?_
        rotate_left
        ·intro w'
         go_simp
         with_reducible rfl
        rotate_left
        ·exact oT
        refine last_ (i := 16) (N := none) #[true, true, true, true, true, true, true, true, true, true, true, true, true, true, true, true, true] rfl rfl (one_of HT_.out oK) oD (fun K hK => ?_)
        have hs21 : eA.cell? ⟨aI, 2, none⟩ = some (aJ) := (blk_cell aC.out 2).trans rfl
        have hfs21 := blk_frozen aC.out 2
        have hns21_0 := aP.out
        have hns21_1 := aQ.out
        have hms21_0 := aT.out
        have hms21_1 := aU.out
        refine skip_ (w1 := ?_) (by rfl) rfl ?_ ?_
        rotate_left
        ·go_simp
         rfl
        refine hK.out _ _ ?_
        clear hK K
        refine done_ (done_of HT_.out oK) ?_
        try go_wp2
        go_roundg k1
        case measure => have := HK1.out; omega
        case rel => exact ⟨(wrap64 (aH - 1)), (y336), (.slice bW y336.length cD), oU, H', ⟨(by have := HK1.out; omega)⟩, ⟨(by (with_reducible repeat (first | apply Kd.R_alloc | apply Kd.R_drewN | apply Kd.R_drew)); exact Kd.R_mono (Kd.R_far (p := ⟨aI, 2, none⟩) (Kd.R_types bF.out aC.out oD) (fun _ hk => hk.2) (.slice bW y336.length cD)) (fun _ hk => trivial))⟩, ⟨(oP aA)⟩, ⟨(oP aG)⟩, ⟨(blk_put aC.out 2 _ rfl)⟩, ⟨(oB HB)⟩⟩
       ·rw [if_neg cI] at H
        exact absurd H (by simp)
      ·rw [if_neg cH] at H
       exact absurd H (by simp)
     ·rw [if_neg cG] at H
      exact absurd H (by simp)
    ·rw [if_neg cC] at H
     exact absurd H (by simp)
   ·rw [if_neg bV] at H
    have cB : decide (0 ≤ aH) = false := decide_eq_false bV
    clear bV
    simp only [Option.some.injEq, Prod.mk.injEq] at H
    obtain ⟨rfl, rfl, rfl⟩ := H
    have dM := aT.out
    have dP := aP.out
    have dN := aU.out
    have dQ := aQ.out
    have cJ : wr.cell? ⟨aI, 0, none⟩ = some (.int .i64 a0_0) := (blk_cell aC.out 0).trans rfl
    have cK : wr.cell? ⟨aI, 1, none⟩ = some (.int .i64 a0_1) := (blk_cell aC.out 1).trans rfl
    have cL : wr.cell? ⟨aI, 2, none⟩ = some (aJ) := (blk_cell aC.out 2).trans rfl
    have cP := blk_frozen aC.out 0
    have cQ := blk_frozen aC.out 1
    have cR := blk_frozen aC.out 2
    have dO := aY.out
    have dR := aX.out
    have cM : wr.cell? ⟨aN, 0, none⟩ = some (.int .i64 0) := (blk_cell aG.out 0).trans rfl
    have cN : wr.cell? ⟨aN, 1, none⟩ = some (.int .i64 0) := (blk_cell aG.out 1).trans rfl
    have cO : wr.cell? ⟨aN, 2, none⟩ = some (.slice none 0 0) := (blk_cell aG.out 2).trans rfl
    have cS := blk_frozen aG.out 0
    have cT := blk_frozen aG.out 1
    have cU := blk_frozen aG.out 2
    obtain ⟨bX, cE, cV⟩ := Kd.R_slice aE.out
    subst cV
    go_wp2
    refine bodyPost_ret (results_cell_row rfl _ _ aN 25 #[.int .i64 a0_0, .int .i64 a0_1, .slice bX aD.length cE] (0, 0) _ rfl (blk_put (blk_put (blk_put aG.out 0 _ rfl) 1 _ rfl) 2 _ rfl) Try.underlying25 rfl oK) rfl ?_
    exact ⟨_, by first | rfl | (simp [errW_none, errW_some] <;> rfl) | (simp [*, errW_none, errW_some] <;> rfl), by (with_reducible repeat (first | apply Kd.R_alloc | apply Kd.R_drewN | apply Kd.R_drew)); exact Kd.R_mono (Kd.R_far (p := ⟨aN, 2, none⟩) (Kd.R_far (p := ⟨aN, 1, none⟩) (Kd.R_far (p := ⟨aN, 0, none⟩) (Kd.R_types aE.out aG.out oD) (fun _ hk => hk.2) (.int .i64 a0_0)) (fun _ hk => hk.2) (.int .i64 a0_1)) (fun _ hk => hk.2) (.slice bX aD.length cE)) (fun _ hk => trivial), oB HB⟩

end Go.Proofs.Ythnmeogafklhnaa.X
