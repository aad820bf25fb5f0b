/- What functions of the program come to, each with its proof. No condition but what each theorem states. -/
import Derived.Test.YthnmeogafklhnaaX0
namespace Go.Proofs.Ythnmeogafklhnaa.X
open Go.RowKit Go.Proofs.YthnmeogafklhnaaW.PrintWords Go.Proofs.YthnmeogafklhnaaW.PrintLast Go.Proofs.YthnmeogafklhnaaW.PrintMore Go.Proofs.Ythnmeogafklhnaa.Hyb
attribute [local go_sem] max2_int min2_int max_two min_two max_three min_three max_four min_four
set_option linter.unusedVariables false
set_option linter.unusedSimpArgs false

/-! ### impl_pixBytes: function 65 -/
def impl_pixBytes.f (l0 : List Int) (a1_0 : Int) (a1_1 : Int) (a1_2 : Int) (a1_3 : Int) : Option (List Int) := (some (([(a1_0) % 256, (a1_1) % 256, (a1_2) % 256, (a1_3) % 256] : List Int) : List Int)).bind fun aA => (if l0.length + aA.length < 140737488355328 then (some (l0 ++ aA)) else (none))
set_option maxHeartbeats 8000000 in
set_option maxRecDepth 100000 in
theorem impl_pixBytes.calls (P0_ : Nat → Prop) (aG : Value) (l0 : List Int) (a1_0 : Int) (a1_1 : Int) (a1_2 : Int) (a1_3 : Int) (r : List Int) (w0 w : World) (hB : Below w0.heap.size w0 w) (ho0 : Kd.R (Kd.int .u8) 5 w w0.heap.size P0_ aG l0) (h : impl_pixBytes.f l0 a1_0 a1_1 a1_2 a1_3 = some r) :
  Calls Try.prog 65 #[aG, .agg #[.int .i64 a1_0, .int .i64 a1_1, .int .i64 a1_2, .int .i64 a1_3]] w fun e w' => ∃ aZ : Value, e = .returned (aZ) ∧ Kd.R (Kd.int .u8) 5 w' w0.heap.size (fun k_ => (P0_ k_ ∨ w.heap.size ≤ k_)) aZ r ∧ Below w0.heap.size w0 w' ∧ Kept w w' (fun k_ => P0_ k_) := by
 have hu38 := Try.underlying38
 have aJ := Aside0.mk (show Kd.R (Kd.int .u8) 5 w w0.heap.size (fun k_ => (P0_ k_ ∨ w.heap.size ≤ k_)) aG l0 from Kd.R_mono ho0 (fun k_ hk => (.inl hk)))
 have HK := Aside0.mk (Kept.refl w (fun k_ => P0_ k_))
 have HW0 := Aside0.mk hB.size
 have HB := Aside0.mk hB
 clear hB
 have H : ((some (([(a1_0) % 256, (a1_1) % 256, (a1_2) % 256, (a1_3) % 256] : List Int) : List Int)).bind fun aA => (if l0.length + aA.length < 140737488355328 then (some (l0 ++ aA)) else (none))) = some r := h
 clear h
 obtain ⟨aA, hy1395⟩ : ∃ y_ : List Int, y_ = (([(a1_0) % 256, (a1_1) % 256, (a1_2) % 256, (a1_3) % 256] : List Int)) := ⟨_, rfl⟩
 replace H : (if l0.length + aA.length < 140737488355328 then (some (l0 ++ aA)) else (none)) = some r := by first | (rw [hy1395]; with_reducible exact H) | (have H2_ := (Option.bind_some _ _).symm.trans H; rw [hy1395]; with_reducible exact H2_) | (have H2_ := (Option.bind_some _ _).symm.trans H; with_reducible exact H2_) | with_reducible exact H | (rw [hy1395]; exact H) | exact H
 have aI := Aside0.mk hy1395
 clear hy1395
 by_cases c3 : l0.length + aA.length < 140737488355328
 ·rw [if_pos c3] at H
  have LMc3 := Aside0.mk c3
  clear c3
  obtain ⟨y1398, hy1398⟩ : ∃ y_ : List Int, y_ = (l0 ++ aA) := ⟨_, rfl⟩
  replace H : (some y1398) = some r := by first | (rw [hy1398]; with_reducible exact H) | (have H2_ := (Option.bind_some _ _).symm.trans H; rw [hy1398]; with_reducible exact H2_) | (have H2_ := (Option.bind_some _ _).symm.trans H; with_reducible exact H2_) | with_reducible exact H | (rw [hy1398]; exact H) | exact H
  have aM := Aside0.mk hy1398
  clear hy1398
  obtain rfl := Option.some.inj H
  go_enter Try.func65, Try.ntmps65
  go_wp2_with (first | ((with_reducible refine gate_dst (N := 3) rfl ?_); refine box_event rfl (N := 3) rfl (cs := #[.int .i64 a1_0, .int .i64 a1_1, .int .i64 a1_2, .int .i64 a1_3]) (t := 38) oS ?_; intro aD hg w4 hbox hb; have n_ := o2_ (Kd.R_below (oR aJ) hb) (o2_ (Kept.below (S := (fun k_ => P0_ k_)) (by repeat (first | (with_reducible first | exact HK.out | apply Kept.alloc | apply Kept.drewN | apply Kept.drew) | exact HK.out)) hb) (o2_ (below_step (oB HB) hb) (o2_ (hbox) (o2_ ((by rw [hg]; exact (by first | exact HK.out.1 | exact (show Kept w _ (fun k_ => P0_ k_) from by repeat (first | (with_reducible first | exact HK.out | apply Kept.alloc | apply Kept.drewN | apply Kept.drew) | exact HK.out)).1) : w.heap.size ≤ aD)) (o1_ ((oG hg (below_size (oB HB)) : w0.heap.size ≤ aD))))))); clear aJ HK HB; obtain ⟨aJ, HK, HB, aC, aE, aN⟩ := n_; clear hb hbox hg; have aP : w4.cell? ⟨aD, 0, none⟩ = some (.int .i64 a1_0) := (blk_cell aC.out 0).trans rfl; have aQ : w4.cell? ⟨aD, 1, none⟩ = some (.int .i64 a1_1) := (blk_cell aC.out 1).trans rfl; have aT : w4.cell? ⟨aD, 2, none⟩ = some (.int .i64 a1_2) := (blk_cell aC.out 2).trans rfl; have aU : w4.cell? ⟨aD, 3, none⟩ = some (.int .i64 a1_3) := (blk_cell aC.out 3).trans rfl; have aV := blk_frozen aC.out 0; have aW := blk_frozen aC.out 1; have aX := blk_frozen aC.out 2; have aY := blk_frozen aC.out 3) | ((with_reducible refine gate_dst (N := 18) rfl ?_); refine Kd.R_lit (Kd.int .u8) _ 5 ?hg (N := 18) ?hd (xs := ([(a1_0) % 256, (a1_1) % 256, (a1_2) % 256, (a1_3) % 256] : List Int)) (inner := [.int .u8 ((a1_0) % 256), .int .u8 ((a1_1) % 256), .int .u8 ((a1_2) % 256), .int .u8 ((a1_3) % 256)]) (ok := fun _ => True) (okp := fun _ => True) ?hr ?hp (fun _ hk => hk) trivial (Below.refl _ _) (Nat.le_refl _) (by simp) ?_; (case hd => rfl); (case hg => rfl); (case hr => first | (go_simp; done) | (go_simp; rfl)); (case hp => exact (Reps.one (show Kd.M (Kd.int .u8) _ _ _ ((a1_0) % 256) [.int .u8 ((a1_0) % 256)] from rfl) (Reps.one (show Kd.M (Kd.int .u8) _ _ _ ((a1_1) % 256) [.int .u8 ((a1_1) % 256)] from rfl) (Reps.one (show Kd.M (Kd.int .u8) _ _ _ ((a1_2) % 256) [.int .u8 ((a1_2) % 256)] from rfl) (Reps.one (show Kd.M (Kd.int .u8) _ _ _ ((a1_3) % 256) [.int .u8 ((a1_3) % 256)] from rfl) (Reps.none _ _)))))); intro bA w6 ho7 hb hg_ hnew_; clear hg_ hnew_; (first | rw [← aI.out] at ho7 | (simp only [Int.reduceToNat] at ho7; rw [← aI.out] at ho7)); have n_ := o2_ (Kd.R_elder' (oR aJ) (Kd.R_base ho7) hb) (o2_ (Kd.R_lower (Kd.R_new' (Kd.R_newM (M := fun k_ => (P0_ k_ ∨ w.heap.size ≤ k_)) ho7 (by first | exact HK.out.1 | exact (show Kept w _ (fun k_ => P0_ k_) from by repeat (first | (with_reducible first | exact HK.out | apply Kept.alloc | apply Kept.drewN | apply Kept.drew | refine Kept.setCell ?_ (.inr aE.out) _) | exact HK.out)).1) (fun k_ h_ => .inr h_)) (Kd.R_lt (oR aJ))) (below_size (oB HB))) (o2_ (Kept.below (S := (fun k_ => P0_ k_)) (by repeat (first | (with_reducible first | exact HK.out | apply Kept.alloc | apply Kept.drewN | apply Kept.drew | refine Kept.setCell ?_ (.inr aE.out) _) | exact HK.out)) hb) (o1_ (below_step (oB HB) hb)))); clear aJ HK HB; obtain ⟨aJ, aH, HK, HB⟩ := n_; clear hb ho7; obtain ⟨bC, bD, bE⟩ := Kd.R_slice aH.out; subst bE) | ((with_reducible refine gate_builtin (b := .append) (xs := #[.tmp 5, .tmp 18]) rfl ?_); at_builtin; refine Kd.R_append_rows (Kd.int .u8) (w0 := w0) w0.heap.size rfl (.tmp 5) (.tmp 18) 22 5 (.int .u8 0) 1 rfl Try.underlying22 info5 rfl oD (by omega) aG l0 aA _ _ _ (fun k_ => (P0_ k_ ∨ w.heap.size ≤ k_) ∧ some k_ ≠ (.slice bC aA.length bD : Value).ownBlock) (fun _ => False) rfl rfl ?aO ?aR (fun _ _ h => h) (fun _ h => h.elim) ?aF ?aB ?aS ?aL ?_; (case aR => repeat (first | exact (Kd.R_reads' aH.out).2.2 | (with_reducible refine Kd.C_alloc ?_ _) | (with_reducible refine Kd.C_drewN ?_ _) | (with_reducible refine Kd.C_drew ?_))); (case aB => exact (oB HB)); (case aF => exact (fun k_ hk => ⟨(.inr (Nat.le_trans (by first | exact HK.out.1 | exact (show Kept w _ (fun k_ => P0_ k_) from by repeat (first | (with_reducible first | exact HK.out | apply Kept.alloc | apply Kept.drewN | apply Kept.drew | refine Kept.setCell ?_ (.inr aE.out) _) | exact HK.out)).1) hk)), Kd.fresh' (Kd.R_lt (oR aH)) k_ hk⟩)); (case aO => exact (oR aJ)); (case aS => exact (below_size (oB HB))); (case aL => have := LMc3.out; omega); intro bB w8 ho hb hg hat; rw [← aM.out] at ho; have n_ := o2_ (hb) (o2_ (Kept.of_grown (S := (fun k_ => P0_ k_)) hg (by repeat (first | (with_reducible first | exact HK.out | apply Kept.alloc | apply Kept.drewN | apply Kept.drew | refine Kept.setCell ?_ (.inr aE.out) _) | exact HK.out)) (fun k_ e_ => (aJ.out.1 k_ e_).1)) (o1_ (ho))); clear HB HK aJ; obtain ⟨HB, HK, aK⟩ := n_; clear ho hb hg hat))
  go_ret
  exact ⟨_, by first | rfl | (simp [errW_none, errW_some] <;> rfl) | (simp [*, errW_none, errW_some] <;> rfl), by (with_reducible repeat (first | apply Kd.R_alloc | apply Kd.R_drewN | apply Kd.R_drew)); exact Kd.R_mono aK.out (fun _ hk => hk.1), oB HB, by repeat (first | (with_reducible first | exact HK.out | apply Kept.alloc | apply Kept.drewN | apply Kept.drew | refine Kept.setCell ?_ (.inr aE.out) _) | exact HK.out)⟩
 ·rw [if_neg c3] at H
  exact absurd H (by simp)

end Go.Proofs.Ythnmeogafklhnaa.X
