/- What functions of the program come to, each with its proof. No condition but what each theorem states. -/
import Derived.Test.YtfnkaccncmjnaaaX0
namespace Go.Proofs.Ytfnkaccncmjnaaa.X
open Go.RowKit Go.Proofs.YtfnkaccncmjnaaaW.PrintWords Go.Proofs.YtfnkaccncmjnaaaW.PrintLast Go.Proofs.YtfnkaccncmjnaaaW.PrintMore Go.Proofs.Ytfnkaccncmjnaaa.Hyb
attribute [local go_sem] max2_int min2_int max_two min_two max_three min_three max_four min_four
set_option linter.unusedVariables false
set_option linter.unusedSimpArgs false

/-! ### spec_l3Bytes: function 63 -/
def spec_l3Bytes.l0 : Nat → List Int → Int → Int → Int → List (S59) → Option (List Int)
 | 0, _, _, _, _, _ => none
 | k + 1, x3, x4, x519000, x519001, x519002 => if x4 < (x519002.length : Int) then (if 0 ≤ x4 then ((some (([((rd_T59 x519002 x4).f0) % 256, ((rd_T59 x519002 x4).f1) % 256, ((rd_T59 x519002 x4).f2) % 256, ((rd_T59 x519002 x4).f3) % 256] : List Int) : List Int)).bind fun aN => (if x3.length + aN.length < 140737488355328 then (spec_l3Bytes.l0 k (x3 ++ aN) (wrap64 (x4 + 1)) x519000 x519001 x519002) else (none))) else (none)) else (some x3)
def spec_l3Bytes.f (k : Nat) (a0_0 : Int) (a0_1 : Int) (l0_2 : List (S59)) : Option (List Int) := spec_l3Bytes.l0 k (([(a0_0) % 256, (a0_1) % 256] : List Int)) 0 a0_0 a0_1 l0_2
theorem spec_l3Bytes.mono_l : ∀ k, (∀ y0 y1 y2 y3 y4, LeO (spec_l3Bytes.l0 k y0 y1 y2 y3 y4) (spec_l3Bytes.l0 (k + 1) y0 y1 y2 y3 y4))
 | 0 => (fun _ _ _ _ _ r h => nomatch (show none = some r from h))
 | k + 1 => by
  have ih0 := spec_l3Bytes.mono_l k
  ·intro y0 y1 y2 y3 y4
   unfold spec_l3Bytes.l0
   repeat' first
   | (with_reducible exact ih0 _ _ _ _ _)
   | (with_reducible exact LeO.refl _)
   | (with_reducible exact LeO.none _)
   | (with_reducible refine LeO.ite ?_ ?_)
   | (with_reducible refine LeO.bind ?_ (fun _ => ?_))
   | exact ih0 _ _ _ _ _
   | exact LeO.none _
   | refine LeO.ite ?_ ?_
   | refine LeO.bind ?_ (fun _ => ?_)
theorem spec_l3Bytes.mono : ∀ a0 a1 a2 k, LeO (spec_l3Bytes.f k a0 a1 a2) (spec_l3Bytes.f (k + 1) a0 a1 a2) := by
 intro a0 a1 a2 k
 have ih0 := spec_l3Bytes.mono_l k
 unfold spec_l3Bytes.f
 repeat' first
   | (with_reducible exact ih0 _ _ _ _ _)
   | (with_reducible exact LeO.refl _)
   | (with_reducible exact LeO.none _)
   | (with_reducible refine LeO.ite ?_ ?_)
   | (with_reducible refine LeO.bind ?_ (fun _ => ?_))
   | exact ih0 _ _ _ _ _
   | exact LeO.none _
   | refine LeO.ite ?_ ?_
   | refine LeO.bind ?_ (fun _ => ?_)
set_option maxHeartbeats 8000000 in
set_option maxRecDepth 100000 in
theorem spec_l3Bytes.calls (k : Nat) (a0_0 : Int) (a0_1 : Int) (aQ : Option Addr) (aT : Nat) (l0_2 : List (S59)) (r : List Int) (w : World) (hr0_2 : Kd.C k59 w aQ l0_2.length l0_2) (aZ : l0_2.length ≤ aT) (h : spec_l3Bytes.f k a0_0 a0_1 l0_2 = some r) :
  Calls Try.prog 63 #[.agg #[.int .i64 a0_0, .int .i64 a0_1, .slice aQ l0_2.length aT]] w fun e w' => ∃ cU : Value, e = .returned (cU) ∧ Kd.R (Kd.int .u8) 5 w' w.heap.size (fun _ => True) cU r ∧ Below w.heap.size w w' := by
 have hu83 := Try.underlying83
 have hu59 := Try.underlying59
 have bK := Aside0.mk hr0_2
 have cQ := Aside0.mk aZ
 clear hr0_2 aZ
 have HB := Aside0.mk (Below.refl w.heap.size w)
 have H : (spec_l3Bytes.l0 k (([(a0_0) % 256, (a0_1) % 256] : List Int)) 0 a0_0 a0_1 l0_2) = some r := h
 clear h
 obtain ⟨y519, hy519⟩ : ∃ y_ : List Int, y_ = (([(a0_0) % 256, (a0_1) % 256] : List Int)) := ⟨_, rfl⟩
 replace H : (spec_l3Bytes.l0 k y519 0 a0_0 a0_1 l0_2) = some r := by first | (rw [hy519]; with_reducible exact H) | (have H2_ := (Option.bind_some _ _).symm.trans H; rw [hy519]; with_reducible exact H2_) | (have H2_ := (Option.bind_some _ _).symm.trans H; with_reducible exact H2_) | with_reducible exact H | (rw [hy519]; exact H) | exact H
 have aX := Aside0.mk hy519
 clear hy519
 have H' := Aside0.mk H
 clear H
 go_enter Try.func63, Try.ntmps63
 go_wp2_with (first | ((with_reducible refine gate_dst (N := 1) rfl ?_); refine box_event rfl (N := 1) rfl (cs := #[.int .i64 a0_0, .int .i64 a0_1, .slice aQ l0_2.length aT]) (t := 83) oS ?_; intro aE hg w2 hbox hb; have n_ := o2_ (below_step (oB HB) hb) (o2_ (hbox) (o2_ ((oG hg (below_size (oB HB)) : w.heap.size ≤ aE)) (o1_ ((oG hg (below_size (oB HB)) : w.heap.size ≤ aE))))); clear HB; obtain ⟨HB, aA, cO, cM⟩ := n_; clear hb hbox hg; have bA : w2.cell? ⟨aE, 0, none⟩ = some (.int .i64 a0_0) := (blk_cell aA.out 0).trans rfl; have bB : w2.cell? ⟨aE, 1, none⟩ = some (.int .i64 a0_1) := (blk_cell aA.out 1).trans rfl; have bC : w2.cell? ⟨aE, 2, none⟩ = some (.slice aQ l0_2.length aT) := (blk_cell aA.out 2).trans rfl; have bD := blk_frozen aA.out 0; have bE := blk_frozen aA.out 1; have bF := blk_frozen aA.out 2) | ((with_reducible refine gate_dst (N := 12) rfl ?_); refine Kd.R_lit (Kd.int .u8) _ 5 ?hg (N := 12) ?hd (xs := ([(a0_0) % 256, (a0_1) % 256] : List Int)) (inner := [.int .u8 ((a0_0) % 256), .int .u8 ((a0_1) % 256)]) (ok := fun _ => True) (okp := fun _ => True) ?hr ?hp (fun _ hk => hk) trivial (Below.refl _ _) (Nat.le_refl _) (by simp) ?_; (case hd => rfl); (case hg => rfl); (case hr => first | (go_simp; done) | (go_simp; rfl)); (case hp => exact (Reps.one (show Kd.M (Kd.int .u8) _ _ _ ((a0_0) % 256) [.int .u8 ((a0_0) % 256)] from rfl) (Reps.one (show Kd.M (Kd.int .u8) _ _ _ ((a0_1) % 256) [.int .u8 ((a0_1) % 256)] from rfl) (Reps.none _ _)))); intro cW w4 ho5 hb hg_ hnew_; clear hg_ hnew_; (first | rw [← aX.out] at ho5 | (simp only [Int.reduceToNat] at ho5; rw [← aX.out] at ho5)); have n_ := o2_ (Kd.R_lower ho5 (below_size (oB HB))) (o2_ (blk_below (oP aA) hb) (o1_ (below_step (oB HB) hb))); clear aA HB; obtain ⟨bI, aA, HB⟩ := n_; clear hb ho5))
 go_loopg [3, 4] k (fun kq v3 v4 w' => ∃ (aP : List Int) (aC : Int), v4 = .int .i64 aC ∧ Aside0 (spec_l3Bytes.l0 kq aP aC a0_0 a0_1 l0_2 = some r) ∧ Aside0 (kq ≤ k) ∧ Aside0 (Kd.R (Kd.int .u8) 5 w' w.heap.size (fun _ => True) v3 aP) ∧ Aside0 (w'.heap[aE]? = some (.cells #[.int .i64 a0_0, .int .i64 a0_1, (.slice aQ l0_2.length aT)] 83 (0, 0))) ∧ Aside0 (Below w.heap.size w w'))
 case atStart => exact ⟨(y519), (0), oU, H', ⟨Nat.le_refl _⟩, ⟨(oR bI)⟩, ⟨(oP aA)⟩, ⟨(oB HB)⟩⟩
 case round =>
  clear H'
  try clear p2
  try clear bA
  try clear bB
  try clear bC
  try clear bD
  try clear bE
  try clear bF
  obtain ⟨aP, aC, rfl, HA, HK1, aH, aA, HB⟩ := hrel
  cases gk with
  | zero => exact nomatch (show none = some _ from HA.out)
  | succ k1 =>
   have H := HA.out
   clear HA
   simp only [spec_l3Bytes.l0] at H
   by_cases c6 : aC < (l0_2.length : Int)
   ·rw [if_pos c6] at H
    have cC : decide (aC < (l0_2.length : Int)) = true := decide_eq_true c6
    clear c6
    by_cases c7 : 0 ≤ aC
    ·rw [if_pos c7] at H
     have cV : decide (0 ≤ aC) = true := decide_eq_true c7
     clear c7
     obtain ⟨aN, hy524⟩ : ∃ y_ : List Int, y_ = (([((rd_T59 l0_2 aC).f0) % 256, ((rd_T59 l0_2 aC).f1) % 256, ((rd_T59 l0_2 aC).f2) % 256, ((rd_T59 l0_2 aC).f3) % 256] : List Int)) := ⟨_, rfl⟩
     replace H : (if aP.length + aN.length < 140737488355328 then (spec_l3Bytes.l0 k1 (aP ++ aN) (wrap64 (aC + 1)) a0_0 a0_1 l0_2) else (none)) = some r := by first | (rw [hy524]; with_reducible exact H) | (have H2_ := (Option.bind_some _ _).symm.trans H; rw [hy524]; with_reducible exact H2_) | (have H2_ := (Option.bind_some _ _).symm.trans H; with_reducible exact H2_) | with_reducible exact H | (rw [hy524]; exact H) | exact H
     have aY := Aside0.mk hy524
     clear hy524
     by_cases c8 : aP.length + aN.length < 140737488355328
     ·rw [if_pos c8] at H
      have LMc8 := Aside0.mk c8
      clear c8
      obtain ⟨y527, hy527⟩ : ∃ y_ : List Int, y_ = (aP ++ aN) := ⟨_, rfl⟩
      replace H : (spec_l3Bytes.l0 k1 y527 (wrap64 (aC + 1)) a0_0 a0_1 l0_2) = some r := by first | (rw [hy527]; with_reducible exact H) | (have H2_ := (Option.bind_some _ _).symm.trans H; rw [hy527]; with_reducible exact H2_) | (have H2_ := (Option.bind_some _ _).symm.trans H; with_reducible exact H2_) | with_reducible exact H | (rw [hy527]; exact H) | exact H
      have bL := Aside0.mk hy527
      clear hy527
      have H' := Aside0.mk H
      clear H
      have cG : wr.cell? ⟨aE, 0, none⟩ = some (.int .i64 a0_0) := (blk_cell aA.out 0).trans rfl
      have cH : wr.cell? ⟨aE, 1, none⟩ = some (.int .i64 a0_1) := (blk_cell aA.out 1).trans rfl
      have cI : wr.cell? ⟨aE, 2, none⟩ = some (.slice aQ l0_2.length aT) := (blk_cell aA.out 2).trans rfl
      have cJ := blk_frozen aA.out 0
      have cK := blk_frozen aA.out 1
      have cL := blk_frozen aA.out 2
      have bG : 0 ≤ (aC : Int) := of_decide_eq_true oM
      have bH : aC < (l0_2.length : Int) := of_decide_eq_true oM
      obtain ⟨cR, cE, aI, aJ, aK, aM⟩ := at_T59 bK.out aC bG bH
      cases cE
      replace aI := (HB.out.cell (World.block_lt_of_cell? w _ aI)).trans aI
      replace aJ := (HB.out.cell (World.block_lt_of_cell? w _ aJ)).trans aJ
      replace aK := (HB.out.cell (World.block_lt_of_cell? w _ aK)).trans aK
      replace aM := (HB.out.cell (World.block_lt_of_cell? w _ aM)).trans aM
      replace bG := eq_true bG
      replace bH := eq_true bH
      go_wp2_with (first | ((with_reducible refine gate_dst (N := 5) rfl ?_); refine box_event rfl (N := 5) rfl (cs := #[.int .i64 0, .int .i64 0, .int .i64 0, .int .i64 0]) (t := 59) oS ?_; intro aD hg cA hbox hb; have n_ := o2_ (Kd.R_below (oR aH) hb) (o2_ (blk_below (oP aA) hb) (o2_ (below_step (oB HB) hb) (o2_ (hbox) (o2_ ((oG hg (below_size (oB HB)) : w.heap.size ≤ aD)) (o2_ ((oG hg (below_size (oB HB)) : w.heap.size ≤ aD)) (o2_ ((oL hg (blk_lt (oP aA)))) (o1_ ((oN hg (blk_lt (oP aA))))))))))); clear aH aA HB; obtain ⟨aH, aA, HB, aG, cP, cN, aU, aV⟩ := n_; clear hb hbox hg; have cS := aV.out; have cT := aU.out; have bM : cA.cell? ⟨aD, 0, none⟩ = some (.int .i64 0) := (blk_cell aG.out 0).trans rfl; have bN : cA.cell? ⟨aD, 1, none⟩ = some (.int .i64 0) := (blk_cell aG.out 1).trans rfl; have bO : cA.cell? ⟨aD, 2, none⟩ = some (.int .i64 0) := (blk_cell aG.out 2).trans rfl; have bP : cA.cell? ⟨aD, 3, none⟩ = some (.int .i64 0) := (blk_cell aG.out 3).trans rfl; have bT := blk_frozen aG.out 0; have bU := blk_frozen aG.out 1; have bV := blk_frozen aG.out 2; have bW := blk_frozen aG.out 3) | ((with_reducible refine gate_dst (N := 38) rfl ?_); refine Kd.R_lit (Kd.int .u8) _ 5 ?hg (N := 38) ?hd (xs := ([((rd_T59 l0_2 aC).f0) % 256, ((rd_T59 l0_2 aC).f1) % 256, ((rd_T59 l0_2 aC).f2) % 256, ((rd_T59 l0_2 aC).f3) % 256] : List Int)) (inner := [.int .u8 (((rd_T59 l0_2 aC).f0) % 256), .int .u8 (((rd_T59 l0_2 aC).f1) % 256), .int .u8 (((rd_T59 l0_2 aC).f2) % 256), .int .u8 (((rd_T59 l0_2 aC).f3) % 256)]) (ok := fun _ => True) (okp := fun _ => True) ?hr ?hp (fun _ hk => hk) trivial (Below.refl _ _) (Nat.le_refl _) (by simp) ?_; (case hd => rfl); (case hg => rfl); (case hr => first | (go_simp; done) | (go_simp; rfl)); (case hp => exact (Reps.one (show Kd.M (Kd.int .u8) _ _ _ (((rd_T59 l0_2 aC).f0) % 256) [.int .u8 (((rd_T59 l0_2 aC).f0) % 256)] from rfl) (Reps.one (show Kd.M (Kd.int .u8) _ _ _ (((rd_T59 l0_2 aC).f1) % 256) [.int .u8 (((rd_T59 l0_2 aC).f1) % 256)] from rfl) (Reps.one (show Kd.M (Kd.int .u8) _ _ _ (((rd_T59 l0_2 aC).f2) % 256) [.int .u8 (((rd_T59 l0_2 aC).f2) % 256)] from rfl) (Reps.one (show Kd.M (Kd.int .u8) _ _ _ (((rd_T59 l0_2 aC).f3) % 256) [.int .u8 (((rd_T59 l0_2 aC).f3) % 256)] from rfl) (Reps.none _ _)))))); intro cX cZ ho14 hb hg_ hnew_; clear hg_ hnew_; (first | rw [← aY.out] at ho14 | (simp only [Int.reduceToNat] at ho14; rw [← aY.out] at ho14)); have n_ := o2_ (Kd.R_elder' (by (with_reducible repeat (first | apply Kd.R_alloc | apply Kd.R_drewN | apply Kd.R_drew)); exact (Kd.R_mono (Kd.R_far (p := ⟨aD, 3, none⟩) (Kd.R_far (p := ⟨aD, 2, none⟩) (Kd.R_far (p := ⟨aD, 1, none⟩) (Kd.R_far (p := ⟨aD, 0, none⟩) (Kd.R_types aH.out aG.out oD) (fun _ hk => hk.2) (.int .i64 ((rd_T59 l0_2 aC).f0))) (fun _ hk => hk.2) (.int .i64 ((rd_T59 l0_2 aC).f1))) (fun _ hk => hk.2) (.int .i64 ((rd_T59 l0_2 aC).f2))) (fun _ hk => hk.2) (.int .i64 ((rd_T59 l0_2 aC).f3))) (fun _ h_ => h_.1))) (Kd.R_base ho14) hb) (o2_ (Kd.R_lower (Kd.R_new' ho14 (Kd.R_lt (by (with_reducible repeat (first | apply Kd.R_alloc | apply Kd.R_drewN | apply Kd.R_drew)); exact (Kd.R_mono (Kd.R_far (p := ⟨aD, 3, none⟩) (Kd.R_far (p := ⟨aD, 2, none⟩) (Kd.R_far (p := ⟨aD, 1, none⟩) (Kd.R_far (p := ⟨aD, 0, none⟩) (Kd.R_types aH.out aG.out oD) (fun _ hk => hk.2) (.int .i64 ((rd_T59 l0_2 aC).f0))) (fun _ hk => hk.2) (.int .i64 ((rd_T59 l0_2 aC).f1))) (fun _ hk => hk.2) (.int .i64 ((rd_T59 l0_2 aC).f2))) (fun _ hk => hk.2) (.int .i64 ((rd_T59 l0_2 aC).f3))) (fun _ h_ => h_.1))))) (below_size (oB HB))) (o2_ (blk_below (oP aA) hb) (o1_ (below_step (oB HB) hb)))); clear aH aA HB; obtain ⟨aH, aW, aA, HB⟩ := n_; clear hb ho14; obtain ⟨cB, cD, cF⟩ := Kd.R_slice aW.out; subst cF) | ((with_reducible refine gate_builtin (b := .append) (xs := #[.tmp 25, .tmp 38]) rfl ?_); at_builtin; refine Kd.R_append_rows (Kd.int .u8) (w0 := w) w.heap.size rfl (.tmp 25) (.tmp 38) 24 5 (.int .u8 0) 1 rfl Try.underlying24 info5 rfl oD (by omega) u3 aP aN _ _ _ (fun k_ => some k_ ≠ (.slice cB aN.length cD : Value).ownBlock) (fun _ => False) rfl rfl ?aO ?aR (fun _ _ h => h) (fun _ h => h.elim) ?aF ?aB ?aS ?aL ?_; (case aR => repeat (first | exact (Kd.R_reads' aW.out).2.2 | (with_reducible refine Kd.C_alloc ?_ _) | (with_reducible refine Kd.C_drewN ?_ _) | (with_reducible refine Kd.C_drew ?_))); (case aB => exact (oB HB)); (case aF => exact (fun k_ hk => Kd.fresh' (Kd.R_lt (oR aW)) k_ hk)); (case aO => exact (by (with_reducible repeat (first | apply Kd.R_alloc | apply Kd.R_drewN | apply Kd.R_drew)); exact Kd.R_mono aH.out (fun _ hk => hk.2))); (case aS => exact (below_size (oB HB))); (case aL => have := LMc8.out; omega); intro cY dA ho hb hg hat; rw [← bL.out] at ho; have n_ := o2_ (blk_grown (oP aA) hg (Kd.R_ne aH.out aA.out oD)) (o2_ (hb) (o1_ (ho))); clear aA HB aH; obtain ⟨aA, HB, bJ⟩ := n_; clear ho hb hg hat))
      go_roundg k1
      case measure => have := HK1.out; omega
      case rel => exact ⟨(y527), (wrap64 (aC + 1)), oU, H', ⟨(by have := HK1.out; omega)⟩, ⟨(by (with_reducible repeat (first | apply Kd.R_alloc | apply Kd.R_drewN | apply Kd.R_drew)); exact Kd.R_mono bJ.out (fun _ hk => trivial))⟩, ⟨(oP aA)⟩, ⟨(oB HB)⟩⟩
     ·rw [if_neg c8] at H
      exact absurd H (by simp)
    ·rw [if_neg c7] at H
     exact absurd H (by simp)
   ·rw [if_neg c6] at H
    have cC : decide (aC < (l0_2.length : Int)) = false := decide_eq_false c6
    clear c6
    obtain rfl := Option.some.inj H
    have bQ : wr.cell? ⟨aE, 0, none⟩ = some (.int .i64 a0_0) := (blk_cell aA.out 0).trans rfl
    have bR : wr.cell? ⟨aE, 1, none⟩ = some (.int .i64 a0_1) := (blk_cell aA.out 1).trans rfl
    have bS : wr.cell? ⟨aE, 2, none⟩ = some (.slice aQ l0_2.length aT) := (blk_cell aA.out 2).trans rfl
    have bX := blk_frozen aA.out 0
    have bY := blk_frozen aA.out 1
    have bZ := blk_frozen aA.out 2
    go_wp2
    go_ret
    exact ⟨_, by first | rfl | (simp [errW_none, errW_some] <;> rfl) | (simp [*, errW_none, errW_some] <;> rfl), by (with_reducible repeat (first | apply Kd.R_alloc | apply Kd.R_drewN | apply Kd.R_drew)); exact aH.out, oB HB⟩

end Go.Proofs.Ytfnkaccncmjnaaa.X
