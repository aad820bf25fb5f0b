/- What functions of the program come to, each with its proof. No condition but what each theorem states. -/
import Derived.Test.YthnmeogafklhnaaX0
namespace Go.Proofs.Ythnmeogafklhnaa.X
open Go.RowKit Go.Proofs.YthnmeogafklhnaaW.PrintWords Go.Proofs.YthnmeogafklhnaaW.PrintLast Go.Proofs.YthnmeogafklhnaaW.PrintMore Go.Proofs.Ythnmeogafklhnaa.Hyb
attribute [local go_sem] max2_int min2_int max_two min_two max_three min_three max_four min_four
set_option linter.unusedVariables false
set_option linter.unusedSimpArgs false

/-! ### spec_l3Bytes: function 66 -/
def spec_l3Bytes.l0 : Nat → List Int → Int → Int → Int → List (S38) → Option (List Int)
 | 0, _, _, _, _, _ => none
 | k + 1, x3, x4, x1311000, x1311001, x1311002 => if x4 < (x1311002.length : Int) then (if 0 ≤ x4 then ((some (([((rd_T38 x1311002 x4).f0) % 256, ((rd_T38 x1311002 x4).f1) % 256, ((rd_T38 x1311002 x4).f2) % 256, ((rd_T38 x1311002 x4).f3) % 256] : List Int) : List Int)).bind fun aH => (if x3.length + aH.length < 140737488355328 then (spec_l3Bytes.l0 k (x3 ++ aH) (wrap64 (x4 + 1)) x1311000 x1311001 x1311002) else (none))) else (none)) else (some x3)
def spec_l3Bytes.f (k : Nat) (a0_0 : Int) (a0_1 : Int) (l0_2 : List (S38)) : Option (List Int) := spec_l3Bytes.l0 k (([(a0_0) % 256, (a0_1) % 256] : List Int)) 0 a0_0 a0_1 l0_2
theorem spec_l3Bytes.mono_l : ∀ k, (∀ y0 y1 y2 y3 y4, LeO (spec_l3Bytes.l0 k y0 y1 y2 y3 y4) (spec_l3Bytes.l0 (k + 1) y0 y1 y2 y3 y4))
 | 0 => (fun _ _ _ _ _ r h => nomatch (show none = some r from h))
 | k + 1 => by
  have ih0 := spec_l3Bytes.mono_l k
  ·intro y0 y1 y2 y3 y4
   unfold spec_l3Bytes.l0
   repeat' first
   | (with_reducible exact ih0 _ _ _ _ _)
   | (with_reducible exact LeO.refl _)
   | (with_reducible exact LeO.none _)
   | (with_reducible refine LeO.ite ?_ ?_)
   | (with_reducible refine LeO.bind ?_ (fun _ => ?_))
   | exact ih0 _ _ _ _ _
   | exact LeO.none _
   | refine LeO.ite ?_ ?_
   | refine LeO.bind ?_ (fun _ => ?_)
theorem spec_l3Bytes.mono : ∀ a0 a1 a2 k, LeO (spec_l3Bytes.f k a0 a1 a2) (spec_l3Bytes.f (k + 1) a0 a1 a2) := by
 intro a0 a1 a2 k
 have ih0 := spec_l3Bytes.mono_l k
 unfold spec_l3Bytes.f
 repeat' first
   | (with_reducible exact ih0 _ _ _ _ _)
   | (with_reducible exact LeO.refl _)
   | (with_reducible exact LeO.none _)
   | (with_reducible refine LeO.ite ?_ ?_)
   | (with_reducible refine LeO.bind ?_ (fun _ => ?_))
   | exact ih0 _ _ _ _ _
   | exact LeO.none _
   | refine LeO.ite ?_ ?_
   | refine LeO.bind ?_ (fun _ => ?_)
set_option maxHeartbeats 8000000 in
set_option maxRecDepth 100000 in
theorem spec_l3Bytes.calls (k : Nat) (a0_0 : Int) (a0_1 : Int) (aU : Option Addr) (aW : Nat) (l0_2 : List (S38)) (r : List Int) (w : World) (hr0_2 : Kd.C k38 w aU l0_2.length l0_2) (bB : l0_2.length ≤ aW) (h : spec_l3Bytes.f k a0_0 a0_1 l0_2 = some r) :
  Calls Try.prog 66 #[.agg #[.int .i64 a0_0, .int .i64 a0_1, .slice aU l0_2.length aW]] w fun e w' => ∃ cU : Value, e = .returned (cU) ∧ Kd.R (Kd.int .u8) 5 w' w.heap.size (fun _ => True) cU r ∧ Below w.heap.size w w' := by
 have hu25 := Try.underlying25
 have hu38 := Try.underlying38
 have bL := Aside0.mk hr0_2
 have cR := Aside0.mk bB
 clear hr0_2 bB
 have HB := Aside0.mk (Below.refl w.heap.size w)
 have H : (spec_l3Bytes.l0 k (([(a0_0) % 256, (a0_1) % 256] : List Int)) 0 a0_0 a0_1 l0_2) = some r := h
 clear h
 obtain ⟨y1311, hy1311⟩ : ∃ y_ : List Int, y_ = (([(a0_0) % 256, (a0_1) % 256] : List Int)) := ⟨_, rfl⟩
 replace H : (spec_l3Bytes.l0 k y1311 0 a0_0 a0_1 l0_2) = some r := by first | (rw [hy1311]; with_reducible exact H) | (have H2_ := (Option.bind_some _ _).symm.trans H; rw [hy1311]; with_reducible exact H2_) | (have H2_ := (Option.bind_some _ _).symm.trans H; with_reducible exact H2_) | with_reducible exact H | (rw [hy1311]; exact H) | exact H
 have aX := Aside0.mk hy1311
 clear hy1311
 have H' := Aside0.mk H
 clear H
 go_enter Try.func66, Try.ntmps66
 go_wp2_with (first | ((with_reducible refine gate_dst (N := 1) rfl ?_); refine box_event rfl (N := 1) rfl (cs := #[.int .i64 a0_0, .int .i64 a0_1, .slice aU l0_2.length aW]) (t := 25) oS ?_; intro aE hg w2 hbox hb; have n_ := o2_ (below_step (oB HB) hb) (o2_ (hbox) (o2_ ((oG hg (below_size (oB HB)) : w.heap.size ≤ aE)) (o1_ ((oG hg (below_size (oB HB)) : w.heap.size ≤ aE))))); clear HB; obtain ⟨HB, aA, cF, cD⟩ := n_; clear hb hbox hg; have bF : w2.cell? ⟨aE, 0, none⟩ = some (.int .i64 a0_0) := (blk_cell aA.out 0).trans rfl; have bG : w2.cell? ⟨aE, 1, none⟩ = some (.int .i64 a0_1) := (blk_cell aA.out 1).trans rfl; have bH : w2.cell? ⟨aE, 2, none⟩ = some (.slice aU l0_2.length aW) := (blk_cell aA.out 2).trans rfl; have bI := blk_frozen aA.out 0; have bJ := blk_frozen aA.out 1; have bK := blk_frozen aA.out 2) | ((with_reducible refine gate_dst (N := 12) rfl ?_); refine Kd.R_lit (Kd.int .u8) _ 5 ?hg (N := 12) ?hd (xs := ([(a0_0) % 256, (a0_1) % 256] : List Int)) (inner := [.int .u8 ((a0_0) % 256), .int .u8 ((a0_1) % 256)]) (ok := fun _ => True) (okp := fun _ => True) ?hr ?hp (fun _ hk => hk) trivial (Below.refl _ _) (Nat.le_refl _) (by simp) ?_; (case hd => rfl); (case hg => rfl); (case hr => first | (go_simp; done) | (go_simp; rfl)); (case hp => exact (Reps.one (show Kd.M (Kd.int .u8) _ _ _ ((a0_0) % 256) [.int .u8 ((a0_0) % 256)] from rfl) (Reps.one (show Kd.M (Kd.int .u8) _ _ _ ((a0_1) % 256) [.int .u8 ((a0_1) % 256)] from rfl) (Reps.none _ _)))); intro cV w4 ho5 hb hg_ hnew_; clear hg_ hnew_; (first | rw [← aX.out] at ho5 | (simp only [Int.reduceToNat] at ho5; rw [← aX.out] at ho5)); have n_ := o2_ (Kd.R_lower ho5 (below_size (oB HB))) (o2_ (blk_below (oP aA) hb) (o1_ (below_step (oB HB) hb))); clear aA HB; obtain ⟨bC, aA, HB⟩ := n_; clear hb ho5))
 go_loopg [3, 4] k (fun kq v3 v4 w' => ∃ (aT : List Int) (aC : Int), v4 = .int .i64 aC ∧ Aside0 (spec_l3Bytes.l0 kq aT aC a0_0 a0_1 l0_2 = some r) ∧ Aside0 (kq ≤ k) ∧ Aside0 (Kd.R (Kd.int .u8) 5 w' w.heap.size (fun _ => True) v3 aT) ∧ Aside0 (w'.heap[aE]? = some (.cells #[.int .i64 a0_0, .int .i64 a0_1, (.slice aU l0_2.length aW)] 25 (0, 0))) ∧ Aside0 (Below w.heap.size w w'))
 case atStart => exact ⟨(y1311), (0), oU, H', ⟨Nat.le_refl _⟩, ⟨(oR bC)⟩, ⟨(oP aA)⟩, ⟨(oB HB)⟩⟩
 case round =>
  clear H'
  try clear p2
  try clear bF
  try clear bG
  try clear bH
  try clear bI
  try clear bJ
  try clear bK
  obtain ⟨aT, aC, rfl, HA, HK1, aI, aA, HB⟩ := hrel
  cases gk with
  | zero => exact nomatch (show none = some _ from HA.out)
  | succ k1 =>
   have H := HA.out
   clear HA
   simp only [spec_l3Bytes.l0] at H
   by_cases c6 : aC < (l0_2.length : Int)
   ·rw [if_pos c6] at H
    have cI : decide (aC < (l0_2.length : Int)) = true := decide_eq_true c6
    clear c6
    by_cases c7 : 0 ≤ aC
    ·rw [if_pos c7] at H
     have cY : decide (0 ≤ aC) = true := decide_eq_true c7
     clear c7
     obtain ⟨aH, hy1316⟩ : ∃ y_ : List Int, y_ = (([((rd_T38 l0_2 aC).f0) % 256, ((rd_T38 l0_2 aC).f1) % 256, ((rd_T38 l0_2 aC).f2) % 256, ((rd_T38 l0_2 aC).f3) % 256] : List Int)) := ⟨_, rfl⟩
     replace H : (if aT.length + aH.length < 140737488355328 then (spec_l3Bytes.l0 k1 (aT ++ aH) (wrap64 (aC + 1)) a0_0 a0_1 l0_2) else (none)) = some r := by first | (rw [hy1316]; with_reducible exact H) | (have H2_ := (Option.bind_some _ _).symm.trans H; rw [hy1316]; with_reducible exact H2_) | (have H2_ := (Option.bind_some _ _).symm.trans H; with_reducible exact H2_) | with_reducible exact H | (rw [hy1316]; exact H) | exact H
     have aY := Aside0.mk hy1316
     clear hy1316
     by_cases c8 : aT.length + aH.length < 140737488355328
     ·rw [if_pos c8] at H
      have LMc8 := Aside0.mk c8
      clear c8
      obtain ⟨y1319, hy1319⟩ : ∃ y_ : List Int, y_ = (aT ++ aH) := ⟨_, rfl⟩
      replace H : (spec_l3Bytes.l0 k1 y1319 (wrap64 (aC + 1)) a0_0 a0_1 l0_2) = some r := by first | (rw [hy1319]; with_reducible exact H) | (have H2_ := (Option.bind_some _ _).symm.trans H; rw [hy1319]; with_reducible exact H2_) | (have H2_ := (Option.bind_some _ _).symm.trans H; with_reducible exact H2_) | with_reducible exact H | (rw [hy1319]; exact H) | exact H
      have bE := Aside0.mk hy1319
      clear hy1319
      have H' := Aside0.mk H
      clear H
      have cL : wr.cell? ⟨aE, 0, none⟩ = some (.int .i64 a0_0) := (blk_cell aA.out 0).trans rfl
      have cM : wr.cell? ⟨aE, 1, none⟩ = some (.int .i64 a0_1) := (blk_cell aA.out 1).trans rfl
      have cN : wr.cell? ⟨aE, 2, none⟩ = some (.slice aU l0_2.length aW) := (blk_cell aA.out 2).trans rfl
      have cO := blk_frozen aA.out 0
      have cP := blk_frozen aA.out 1
      have cQ := blk_frozen aA.out 2
      have aZ : 0 ≤ (aC : Int) := of_decide_eq_true oM
      have bA : aC < (l0_2.length : Int) := of_decide_eq_true oM
      obtain ⟨cH, bM, aJ, aK, aM, aN⟩ := at_T38 bL.out aC aZ bA
      cases bM
      replace aJ := (HB.out.cell (World.block_lt_of_cell? w _ aJ)).trans aJ
      replace aK := (HB.out.cell (World.block_lt_of_cell? w _ aK)).trans aK
      replace aM := (HB.out.cell (World.block_lt_of_cell? w _ aM)).trans aM
      replace aN := (HB.out.cell (World.block_lt_of_cell? w _ aN)).trans aN
      replace aZ := eq_true aZ
      replace bA := eq_true bA
      go_wp2_with (first | ((with_reducible refine gate_dst (N := 5) rfl ?_); refine box_event rfl (N := 5) rfl (cs := #[.int .i64 0, .int .i64 0, .int .i64 0, .int .i64 0]) (t := 38) oS ?_; intro aD hg cB hbox hb; have n_ := o2_ (Kd.R_below (oR aI) hb) (o2_ (blk_below (oP aA) hb) (o2_ (below_step (oB HB) hb) (o2_ (hbox) (o2_ ((oG hg (below_size (oB HB)) : w.heap.size ≤ aD)) (o2_ ((oG hg (below_size (oB HB)) : w.heap.size ≤ aD)) (o2_ ((oL hg (blk_lt (oP aA)))) (o1_ ((oN hg (blk_lt (oP aA))))))))))); clear aI aA HB; obtain ⟨aI, aA, HB, aG, cG, cE, aP, aQ⟩ := n_; clear hb hbox hg; have cS := aQ.out; have cT := aP.out; have bN : cB.cell? ⟨aD, 0, none⟩ = some (.int .i64 0) := (blk_cell aG.out 0).trans rfl; have bO : cB.cell? ⟨aD, 1, none⟩ = some (.int .i64 0) := (blk_cell aG.out 1).trans rfl; have bP : cB.cell? ⟨aD, 2, none⟩ = some (.int .i64 0) := (blk_cell aG.out 2).trans rfl; have bQ : cB.cell? ⟨aD, 3, none⟩ = some (.int .i64 0) := (blk_cell aG.out 3).trans rfl; have bU := blk_frozen aG.out 0; have bV := blk_frozen aG.out 1; have bW := blk_frozen aG.out 2; have bX := blk_frozen aG.out 3) | ((with_reducible refine gate_dst (N := 38) rfl ?_); refine Kd.R_lit (Kd.int .u8) _ 5 ?hg (N := 38) ?hd (xs := ([((rd_T38 l0_2 aC).f0) % 256, ((rd_T38 l0_2 aC).f1) % 256, ((rd_T38 l0_2 aC).f2) % 256, ((rd_T38 l0_2 aC).f3) % 256] : List Int)) (inner := [.int .u8 (((rd_T38 l0_2 aC).f0) % 256), .int .u8 (((rd_T38 l0_2 aC).f1) % 256), .int .u8 (((rd_T38 l0_2 aC).f2) % 256), .int .u8 (((rd_T38 l0_2 aC).f3) % 256)]) (ok := fun _ => True) (okp := fun _ => True) ?hr ?hp (fun _ hk => hk) trivial (Below.refl _ _) (Nat.le_refl _) (by simp) ?_; (case hd => rfl); (case hg => rfl); (case hr => first | (go_simp; done) | (go_simp; rfl)); (case hp => exact (Reps.one (show Kd.M (Kd.int .u8) _ _ _ (((rd_T38 l0_2 aC).f0) % 256) [.int .u8 (((rd_T38 l0_2 aC).f0) % 256)] from rfl) (Reps.one (show Kd.M (Kd.int .u8) _ _ _ (((rd_T38 l0_2 aC).f1) % 256) [.int .u8 (((rd_T38 l0_2 aC).f1) % 256)] from rfl) (Reps.one (show Kd.M (Kd.int .u8) _ _ _ (((rd_T38 l0_2 aC).f2) % 256) [.int .u8 (((rd_T38 l0_2 aC).f2) % 256)] from rfl) (Reps.one (show Kd.M (Kd.int .u8) _ _ _ (((rd_T38 l0_2 aC).f3) % 256) [.int .u8 (((rd_T38 l0_2 aC).f3) % 256)] from rfl) (Reps.none _ _)))))); intro cW cZ ho14 hb hg_ hnew_; clear hg_ hnew_; (first | rw [← aY.out] at ho14 | (simp only [Int.reduceToNat] at ho14; rw [← aY.out] at ho14)); have n_ := o2_ (Kd.R_elder' (by (with_reducible repeat (first | apply Kd.R_alloc | apply Kd.R_drewN | apply Kd.R_drew)); exact (Kd.R_mono (Kd.R_far (p := ⟨aD, 3, none⟩) (Kd.R_far (p := ⟨aD, 2, none⟩) (Kd.R_far (p := ⟨aD, 1, none⟩) (Kd.R_far (p := ⟨aD, 0, none⟩) (Kd.R_types aI.out aG.out oD) (fun _ hk => hk.2) (.int .i64 ((rd_T38 l0_2 aC).f0))) (fun _ hk => hk.2) (.int .i64 ((rd_T38 l0_2 aC).f1))) (fun _ hk => hk.2) (.int .i64 ((rd_T38 l0_2 aC).f2))) (fun _ hk => hk.2) (.int .i64 ((rd_T38 l0_2 aC).f3))) (fun _ h_ => h_.1))) (Kd.R_base ho14) hb) (o2_ (Kd.R_lower (Kd.R_new' ho14 (Kd.R_lt (by (with_reducible repeat (first | apply Kd.R_alloc | apply Kd.R_drewN | apply Kd.R_drew)); exact (Kd.R_mono (Kd.R_far (p := ⟨aD, 3, none⟩) (Kd.R_far (p := ⟨aD, 2, none⟩) (Kd.R_far (p := ⟨aD, 1, none⟩) (Kd.R_far (p := ⟨aD, 0, none⟩) (Kd.R_types aI.out aG.out oD) (fun _ hk => hk.2) (.int .i64 ((rd_T38 l0_2 aC).f0))) (fun _ hk => hk.2) (.int .i64 ((rd_T38 l0_2 aC).f1))) (fun _ hk => hk.2) (.int .i64 ((rd_T38 l0_2 aC).f2))) (fun _ hk => hk.2) (.int .i64 ((rd_T38 l0_2 aC).f3))) (fun _ h_ => h_.1))))) (below_size (oB HB))) (o2_ (blk_below (oP aA) hb) (o1_ (below_step (oB HB) hb)))); clear aI aA HB; obtain ⟨aI, aV, aA, HB⟩ := n_; clear hb ho14; obtain ⟨cC, cJ, cK⟩ := Kd.R_slice aV.out; subst cK) | ((with_reducible refine gate_builtin (b := .append) (xs := #[.tmp 25, .tmp 38]) rfl ?_); at_builtin; refine Kd.R_append_rows (Kd.int .u8) (w0 := w) w.heap.size rfl (.tmp 25) (.tmp 38) 22 5 (.int .u8 0) 1 rfl Try.underlying22 info5 rfl oD (by omega) u3 aT aH _ _ _ (fun k_ => some k_ ≠ (.slice cC aH.length cJ : Value).ownBlock) (fun _ => False) rfl rfl ?aO ?aR (fun _ _ h => h) (fun _ h => h.elim) ?aF ?aB ?aS ?aL ?_; (case aR => repeat (first | exact (Kd.R_reads' aV.out).2.2 | (with_reducible refine Kd.C_alloc ?_ _) | (with_reducible refine Kd.C_drewN ?_ _) | (with_reducible refine Kd.C_drew ?_))); (case aB => exact (oB HB)); (case aF => exact (fun k_ hk => Kd.fresh' (Kd.R_lt (oR aV)) k_ hk)); (case aO => exact (by (with_reducible repeat (first | apply Kd.R_alloc | apply Kd.R_drewN | apply Kd.R_drew)); exact Kd.R_mono aI.out (fun _ hk => hk.2))); (case aS => exact (below_size (oB HB))); (case aL => have := LMc8.out; omega); intro cX dA ho hb hg hat; rw [← bE.out] at ho; have n_ := o2_ (blk_grown (oP aA) hg (Kd.R_ne aI.out aA.out oD)) (o2_ (hb) (o1_ (ho))); clear aA HB aI; obtain ⟨aA, HB, bD⟩ := n_; clear ho hb hg hat))
      go_roundg k1
      case measure => have := HK1.out; omega
      case rel => exact ⟨(y1319), (wrap64 (aC + 1)), oU, H', ⟨(by have := HK1.out; omega)⟩, ⟨(by (with_reducible repeat (first | apply Kd.R_alloc | apply Kd.R_drewN | apply Kd.R_drew)); exact Kd.R_mono bD.out (fun _ hk => trivial))⟩, ⟨(oP aA)⟩, ⟨(oB HB)⟩⟩
     ·rw [if_neg c8] at H
      exact absurd H (by simp)
    ·rw [if_neg c7] at H
     exact absurd H (by simp)
   ·rw [if_neg c6] at H
    have cI : decide (aC < (l0_2.length : Int)) = false := decide_eq_false c6
    clear c6
    obtain rfl := Option.some.inj H
    have bR : wr.cell? ⟨aE, 0, none⟩ = some (.int .i64 a0_0) := (blk_cell aA.out 0).trans rfl
    have bS : wr.cell? ⟨aE, 1, none⟩ = some (.int .i64 a0_1) := (blk_cell aA.out 1).trans rfl
    have bT : wr.cell? ⟨aE, 2, none⟩ = some (.slice aU l0_2.length aW) := (blk_cell aA.out 2).trans rfl
    have bY := blk_frozen aA.out 0
    have bZ := blk_frozen aA.out 1
    have cA := blk_frozen aA.out 2
    go_wp2
    go_ret
    exact ⟨_, by first | rfl | (simp [errW_none, errW_some] <;> rfl) | (simp [*, errW_none, errW_some] <;> rfl), by (with_reducible repeat (first | apply Kd.R_alloc | apply Kd.R_drewN | apply Kd.R_drew)); exact aI.out, oB HB⟩

end Go.Proofs.Ythnmeogafklhnaa.X
