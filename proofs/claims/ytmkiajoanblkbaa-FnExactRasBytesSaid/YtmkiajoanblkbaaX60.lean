/- What functions of the program come to, each with its proof. No condition but what each theorem states. -/
import Derived.Test.YtmkiajoanblkbaaX0
namespace Go.Proofs.Ytmkiajoanblkbaa.X
open Go.RowKit Go.Proofs.YtmkiajoanblkbaaW.PrintWords Go.Proofs.YtmkiajoanblkbaaW.PrintLast Go.Proofs.YtmkiajoanblkbaaW.PrintMore Go.Proofs.Ytmkiajoanblkbaa.Hyb
attribute [local go_sem] max2_int min2_int max_two min_two max_three min_three max_four min_four
set_option linter.unusedVariables false
set_option linter.unusedSimpArgs false

/-! ### impl_pixBytes: function 61 -/
def impl_pixBytes.f (l0 : List Int) (a1_0 : Int) (a1_1 : Int) (a1_2 : Int) (a1_3 : Int) : Option (List Int) := (some (([(a1_0) % 256, (a1_1) % 256, (a1_2) % 256, (a1_3) % 256] : List Int) : List Int)).bind fun aC => (if l0.length + aC.length < 140737488355328 then (some (l0 ++ aC)) else (none))
set_option maxHeartbeats 8000000 in
set_option maxRecDepth 100000 in
theorem impl_pixBytes.calls (P0_ : Nat → Prop) (aE : Value) (l0 : List Int) (a1_0 : Int) (a1_1 : Int) (a1_2 : Int) (a1_3 : Int) (r : List Int) (w0 w : World) (hB : Below w0.heap.size w0 w) (ho0 : Kd.R (Kd.int .u8) 5 w w0.heap.size P0_ aE l0) (h : impl_pixBytes.f l0 a1_0 a1_1 a1_2 a1_3 = some r) :
  Calls Try.prog 61 #[aE, .agg #[.int .i64 a1_0, .int .i64 a1_1, .int .i64 a1_2, .int .i64 a1_3]] w fun e w' => ∃ aZ : Value, e = .returned (aZ) ∧ Kd.R (Kd.int .u8) 5 w' w0.heap.size (fun k_ => (P0_ k_ ∨ w.heap.size ≤ k_)) aZ r ∧ Below w0.heap.size w0 w' ∧ Kept w w' (fun k_ => P0_ k_) := by
 have hu39 := Try.underlying39
 have aI := Aside0.mk (show Kd.R (Kd.int .u8) 5 w w0.heap.size (fun k_ => (P0_ k_ ∨ w.heap.size ≤ k_)) aE l0 from Kd.R_mono ho0 (fun k_ hk => (.inl hk)))
 have HK := Aside0.mk (Kept.refl w (fun k_ => P0_ k_))
 have HW0 := Aside0.mk hB.size
 have HB := Aside0.mk hB
 clear hB
 have H : ((some (([(a1_0) % 256, (a1_1) % 256, (a1_2) % 256, (a1_3) % 256] : List Int) : List Int)).bind fun aC => (if l0.length + aC.length < 140737488355328 then (some (l0 ++ aC)) else (none))) = some r := h
 clear h
 obtain ⟨aC, hy668⟩ : ∃ y_ : List Int, y_ = (([(a1_0) % 256, (a1_1) % 256, (a1_2) % 256, (a1_3) % 256] : List Int)) := ⟨_, rfl⟩
 replace H : (if l0.length + aC.length < 140737488355328 then (some (l0 ++ aC)) else (none)) = some r := by first | (rw [hy668]; with_reducible exact H) | (have H2_ := (Option.bind_some _ _).symm.trans H; rw [hy668]; with_reducible exact H2_) | (have H2_ := (Option.bind_some _ _).symm.trans H; with_reducible exact H2_) | with_reducible exact H | (rw [hy668]; exact H) | exact H
 have aJ := Aside0.mk hy668
 clear hy668
 by_cases c3 : l0.length + aC.length < 140737488355328
 ·rw [if_pos c3] at H
  have LMc3 := Aside0.mk c3
  clear c3
  obtain ⟨y671, hy671⟩ : ∃ y_ : List Int, y_ = (l0 ++ aC) := ⟨_, rfl⟩
  replace H : (some y671) = some r := by first | (rw [hy671]; with_reducible exact H) | (have H2_ := (Option.bind_some _ _).symm.trans H; rw [hy671]; with_reducible exact H2_) | (have H2_ := (Option.bind_some _ _).symm.trans H; with_reducible exact H2_) | with_reducible exact H | (rw [hy671]; exact H) | exact H
  have aM := Aside0.mk hy671
  clear hy671
  obtain rfl := Option.some.inj H
  go_enter Try.func61, Try.ntmps61
  go_wp2_with (first | ((with_reducible refine gate_dst (N := 3) rfl ?_); refine box_event rfl (N := 3) rfl (cs := #[.int .i64 a1_0, .int .i64 a1_1, .int .i64 a1_2, .int .i64 a1_3]) (t := 39) oS ?_; intro aD hg w4 hbox hb; have n_ := o2_ (Kd.R_below (oR aI) hb) (o2_ (Kept.below (S := (fun k_ => P0_ k_)) (by repeat (first | (with_reducible first | exact HK.out | apply Kept.alloc | apply Kept.drewN | apply Kept.drew) | exact HK.out)) hb) (o2_ (below_step (oB HB) hb) (o2_ (hbox) (o2_ ((by rw [hg]; exact (by first | exact HK.out.1 | exact (show Kept w _ (fun k_ => P0_ k_) from by repeat (first | (with_reducible first | exact HK.out | apply Kept.alloc | apply Kept.drewN | apply Kept.drew) | exact HK.out)).1) : w.heap.size ≤ aD)) (o1_ ((oG hg (below_size (oB HB)) : w0.heap.size ≤ aD))))))); clear aI HK HB; obtain ⟨aI, HK, HB, aA, aG, aY⟩ := n_; clear hb hbox hg; have aN : w4.cell? ⟨aD, 0, none⟩ = some (.int .i64 a1_0) := (blk_cell aA.out 0).trans rfl; have aP : w4.cell? ⟨aD, 1, none⟩ = some (.int .i64 a1_1) := (blk_cell aA.out 1).trans rfl; have aQ : w4.cell? ⟨aD, 2, none⟩ = some (.int .i64 a1_2) := (blk_cell aA.out 2).trans rfl; have aT : w4.cell? ⟨aD, 3, none⟩ = some (.int .i64 a1_3) := (blk_cell aA.out 3).trans rfl; have aU := blk_frozen aA.out 0; have aV := blk_frozen aA.out 1; have aW := blk_frozen aA.out 2; have aX := blk_frozen aA.out 3) | ((with_reducible refine gate_dst (N := 18) rfl ?_); refine Kd.R_lit (Kd.int .u8) _ 5 ?hg (N := 18) ?hd (xs := ([(a1_0) % 256, (a1_1) % 256, (a1_2) % 256, (a1_3) % 256] : List Int)) (inner := [.int .u8 ((a1_0) % 256), .int .u8 ((a1_1) % 256), .int .u8 ((a1_2) % 256), .int .u8 ((a1_3) % 256)]) (ok := fun _ => True) (okp := fun _ => True) ?hr ?hp (fun _ hk => hk) trivial (Below.refl _ _) (Nat.le_refl _) (by simp) ?_; (case hd => rfl); (case hg => rfl); (case hr => first | (go_simp; done) | (go_simp; rfl)); (case hp => exact (Reps.one (show Kd.M (Kd.int .u8) _ _ _ ((a1_0) % 256) [.int .u8 ((a1_0) % 256)] from rfl) (Reps.one (show Kd.M (Kd.int .u8) _ _ _ ((a1_1) % 256) [.int .u8 ((a1_1) % 256)] from rfl) (Reps.one (show Kd.M (Kd.int .u8) _ _ _ ((a1_2) % 256) [.int .u8 ((a1_2) % 256)] from rfl) (Reps.one (show Kd.M (Kd.int .u8) _ _ _ ((a1_3) % 256) [.int .u8 ((a1_3) % 256)] from rfl) (Reps.none _ _)))))); intro bD w6 ho7 hb hg_ hnew_; clear hg_ hnew_; (first | rw [← aJ.out] at ho7 | (simp only [Int.reduceToNat] at ho7; rw [← aJ.out] at ho7)); have n_ := o2_ (Kd.R_elder' (oR aI) (Kd.R_base ho7) hb) (o2_ (Kd.R_lower (Kd.R_new' (Kd.R_newM (M := fun k_ => (P0_ k_ ∨ w.heap.size ≤ k_)) ho7 (by first | exact HK.out.1 | exact (show Kept w _ (fun k_ => P0_ k_) from by repeat (first | (with_reducible first | exact HK.out | apply Kept.alloc | apply Kept.drewN | apply Kept.drew | refine Kept.setCell ?_ (.inr aG.out) _) | exact HK.out)).1) (fun k_ h_ => .inr h_)) (Kd.R_lt (oR aI))) (below_size (oB HB))) (o2_ (Kept.below (S := (fun k_ => P0_ k_)) (by repeat (first | (with_reducible first | exact HK.out | apply Kept.alloc | apply Kept.drewN | apply Kept.drew | refine Kept.setCell ?_ (.inr aG.out) _) | exact HK.out)) hb) (o1_ (below_step (oB HB) hb)))); clear aI HK HB; obtain ⟨aI, aH, HK, HB⟩ := n_; clear hb ho7; obtain ⟨bA, bB, bC⟩ := Kd.R_slice aH.out; subst bC) | ((with_reducible refine gate_builtin (b := .append) (xs := #[.tmp 5, .tmp 18]) rfl ?_); at_builtin; refine Kd.R_append_rows (Kd.int .u8) (w0 := w0) w0.heap.size rfl (.tmp 5) (.tmp 18) 22 5 (.int .u8 0) 1 rfl Try.underlying22 info5 rfl oD (by omega) aE l0 aC _ _ _ (fun k_ => (P0_ k_ ∨ w.heap.size ≤ k_) ∧ some k_ ≠ (.slice bA aC.length bB : Value).ownBlock) (fun _ => False) rfl rfl ?aO ?aR (fun _ _ h => h) (fun _ h => h.elim) ?aF ?aB ?aS ?aL ?_; (case aR => repeat (first | exact (Kd.R_reads' aH.out).2.2 | (with_reducible refine Kd.C_alloc ?_ _) | (with_reducible refine Kd.C_drewN ?_ _) | (with_reducible refine Kd.C_drew ?_))); (case aB => exact (oB HB)); (case aF => exact (fun k_ hk => ⟨(.inr (Nat.le_trans (by first | exact HK.out.1 | exact (show Kept w _ (fun k_ => P0_ k_) from by repeat (first | (with_reducible first | exact HK.out | apply Kept.alloc | apply Kept.drewN | apply Kept.drew | refine Kept.setCell ?_ (.inr aG.out) _) | exact HK.out)).1) hk)), Kd.fresh' (Kd.R_lt (oR aH)) k_ hk⟩)); (case aO => exact (oR aI)); (case aS => exact (below_size (oB HB))); (case aL => have := LMc3.out; omega); intro bE w8 ho hb hg hat; rw [← aM.out] at ho; have n_ := o2_ (hb) (o2_ (Kept.of_grown (S := (fun k_ => P0_ k_)) hg (by repeat (first | (with_reducible first | exact HK.out | apply Kept.alloc | apply Kept.drewN | apply Kept.drew | refine Kept.setCell ?_ (.inr aG.out) _) | exact HK.out)) (fun k_ e_ => (aI.out.1 k_ e_).1)) (o1_ (ho))); clear HB HK aI; obtain ⟨HB, HK, aK⟩ := n_; clear ho hb hg hat))
  go_ret
  exact ⟨_, by first | rfl | (simp [errW_none, errW_some] <;> rfl) | (simp [*, errW_none, errW_some] <;> rfl), by (with_reducible repeat (first | apply Kd.R_alloc | apply Kd.R_drewN | apply Kd.R_drew)); exact Kd.R_mono aK.out (fun _ hk => hk.1), oB HB, by repeat (first | (with_reducible first | exact HK.out | apply Kept.alloc | apply Kept.drewN | apply Kept.drew | refine Kept.setCell ?_ (.inr aG.out) _) | exact HK.out)⟩
 ·rw [if_neg c3] at H
  exact absurd H (by simp)

end Go.Proofs.Ytmkiajoanblkbaa.X
