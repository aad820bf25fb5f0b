/- What functions of the program come to, each with its proof. No condition but what each theorem states. -/
import Derived.Test.YtfnkaccncmjnaaaX0
import Derived.Test.YtfnkaccncmjnaaaX52
import Derived.Test.YtfnkaccncmjnaaaX53
namespace Go.Proofs.Ytfnkaccncmjnaaa.X
open Go.RowKit Go.Proofs.YtfnkaccncmjnaaaW.PrintWords Go.Proofs.YtfnkaccncmjnaaaW.PrintLast Go.Proofs.YtfnkaccncmjnaaaW.PrintMore Go.Proofs.Ytfnkaccncmjnaaa.Hyb
attribute [local go_sem] max2_int min2_int max_two min_two max_three min_three max_four min_four
set_option linter.unusedVariables false
set_option linter.unusedSimpArgs false

/-! ### spec_RasBytes: function 56 -/
def spec_RasBytes.f (k : Nat) (a0_0 : Int) (a0_1 : Int) (l0_2 : List (S59)) : Option (List Int) := (spec_RasOk.f k a0_0 a0_1 l0_2).bind fun aG => (if aG = true then ((spec_l3Bytes.f k a0_0 a0_1 l0_2).bind fun aH => (some aH)) else (some (([] : List Int))))
theorem spec_RasBytes.mono : ∀ a0 a1 a2 k, LeO (spec_RasBytes.f k a0 a1 a2) (spec_RasBytes.f (k + 1) a0 a1 a2) := by
 intro a0 a1 a2 k
 unfold spec_RasBytes.f
 repeat' first
   | (with_reducible exact spec_RasOk.mono _ _ _ _)
   | (with_reducible exact spec_l3Bytes.mono _ _ _ _)
   | (with_reducible exact LeO.refl _)
   | (with_reducible exact LeO.none _)
   | (with_reducible refine LeO.ite ?_ ?_)
   | (with_reducible refine LeO.bind ?_ (fun _ => ?_))
   | exact spec_RasOk.mono _ _ _ _
   | exact spec_l3Bytes.mono _ _ _ _
   | exact LeO.none _
   | refine LeO.ite ?_ ?_
   | refine LeO.bind ?_ (fun _ => ?_)
set_option maxHeartbeats 8000000 in
set_option maxRecDepth 100000 in
theorem spec_RasBytes.calls (k : Nat) (a0_0 : Int) (a0_1 : Int) (aC : Option Addr) (aD : Nat) (l0_2 : List (S59)) (r : List Int) (w : World) (hr0_2 : Kd.C k59 w aC l0_2.length l0_2) (aJ : l0_2.length ≤ aD) (h : spec_RasBytes.f k a0_0 a0_1 l0_2 = some r) :
  Calls Try.prog 56 #[.agg #[.int .i64 a0_0, .int .i64 a0_1, .slice aC l0_2.length aD]] w fun e w' => ∃ bJ : Value, e = .returned (bJ) ∧ Kd.R (Kd.int .u8) 5 w' w.heap.size (fun _ => True) bJ r ∧ Below w.heap.size w w' := by
 have hu83 := Try.underlying83
 have aF := Aside0.mk hr0_2
 have aE := Aside0.mk aJ
 clear hr0_2 aJ
 have HB := Aside0.mk (Below.refl w.heap.size w)
 have H : ((spec_RasOk.f k a0_0 a0_1 l0_2).bind fun aG => (if aG = true then ((spec_l3Bytes.f k a0_0 a0_1 l0_2).bind fun aH => (some aH)) else (some (([] : List Int))))) = some r := h
 clear h
 replace H := Option.bind_eq_some_iff.mp H
 obtain ⟨aG, bH, H⟩ := H
 (try dsimp only at H)
 have A2 := Aside0.mk bH
 clear bH
 by_cases c3 : aG = true
 ·subst c3
  rw [if_pos rfl] at H
  replace H := Option.bind_eq_some_iff.mp H
  obtain ⟨aH, bI, H⟩ := H
  (try dsimp only at H)
  have A4 := Aside0.mk bI
  clear bI
  obtain rfl := Option.some.inj H
  go_enter Try.func56, Try.ntmps56
  go_wp2_with (first | ((with_reducible refine gate_dst (N := 1) rfl ?_); refine box_event rfl (N := 1) rfl (cs := #[.int .i64 a0_0, .int .i64 a0_1, .slice aC l0_2.length aD]) (t := 83) oS ?_; intro aB hg w5 hbox hb; have n_ := o2_ (below_step (oB HB) hb) (o2_ (hbox) (o2_ ((oG hg (below_size (oB HB)) : w.heap.size ≤ aB)) (o1_ ((oG hg (below_size (oB HB)) : w.heap.size ≤ aB))))); clear HB; obtain ⟨HB, aA, aL, aK⟩ := n_; clear hb hbox hg; have aU : w5.cell? ⟨aB, 0, none⟩ = some (.int .i64 a0_0) := (blk_cell aA.out 0).trans rfl; have aV : w5.cell? ⟨aB, 1, none⟩ = some (.int .i64 a0_1) := (blk_cell aA.out 1).trans rfl; have aW : w5.cell? ⟨aB, 2, none⟩ = some (.slice aC l0_2.length aD) := (blk_cell aA.out 2).trans rfl; have bA := blk_frozen aA.out 0; have bB := blk_frozen aA.out 1; have bC := blk_frozen aA.out 2) | ((with_reducible refine gate_callee (f := 62) rfl ?_); refine goesL_ (some 4) rfl rfl Try.func62 oK rfl #[.agg #[.int .i64 a0_0, .int .i64 a0_1, .slice aC l0_2.length aD]] rfl oA ?_; (with_reducible refine (spec_RasOk.calls k a0_0 a0_1 _ _ l0_2 true _ ?side1 ?side2 A2.out).mono ?_); (case side1 => repeat (first | exact (Kd.C_below aF.out HB.out) | (with_reducible refine Kd.C_alloc ?_ _) | (with_reducible refine Kd.C_drewN ?_ _) | (with_reducible refine Kd.C_drew ?_))); (case side2 => exact aE.out); rintro e w7 ⟨rfl, hb⟩; refine ⟨_, rfl, ?_⟩; have n_ := o2_ (blk_below (oP aA) hb) (o1_ (below_step (oB HB) hb)); clear aA HB; obtain ⟨aA, HB⟩ := n_; (try clear hb); (try clear hb2); (try clear hk); (try clear hi); have aX : w7.cell? ⟨aB, 0, none⟩ = some (.int .i64 a0_0) := (blk_cell aA.out 0).trans rfl; have aY : w7.cell? ⟨aB, 1, none⟩ = some (.int .i64 a0_1) := (blk_cell aA.out 1).trans rfl; have aZ : w7.cell? ⟨aB, 2, none⟩ = some (.slice aC l0_2.length aD) := (blk_cell aA.out 2).trans rfl; have bD := blk_frozen aA.out 0; have bE := blk_frozen aA.out 1; have bF := blk_frozen aA.out 2) | ((with_reducible refine gate_callee (f := 63) rfl ?_); refine goesL_ (some 8) rfl rfl Try.func63 oK rfl #[.agg #[.int .i64 a0_0, .int .i64 a0_1, .slice aC l0_2.length aD]] rfl oA ?_; (with_reducible refine (spec_l3Bytes.calls k a0_0 a0_1 _ _ l0_2 aH _ ?side1 ?side2 A4.out).mono ?_); (case side1 => repeat (first | exact (Kd.C_below aF.out HB.out) | (with_reducible refine Kd.C_alloc ?_ _) | (with_reducible refine Kd.C_drewN ?_ _) | (with_reducible refine Kd.C_drew ?_))); (case side2 => exact aE.out); rintro e w9 ⟨bK, rfl, ho0, hb⟩; refine ⟨_, rfl, ?_⟩; have n_ := o2_ (Kd.R_lower ho0 (below_size (oB HB))) (o2_ (blk_below (oP aA) hb) (o1_ (below_step (oB HB) hb))); clear aA HB; obtain ⟨aM, aA, HB⟩ := n_; (try clear hb); (try clear hb2); (try clear hk); (try clear hi); (try clear ho0)))
  go_ret
  exact ⟨_, by first | rfl | (simp [errW_none, errW_some] <;> rfl) | (simp [*, errW_none, errW_some] <;> rfl), by (with_reducible repeat (first | apply Kd.R_alloc | apply Kd.R_drewN | apply Kd.R_drew)); exact aM.out, oB HB⟩
 ·replace c3 := Bool.eq_false_iff.mpr c3
  subst c3
  rw [if_neg (show ¬ (false = true) by decide)] at H
  obtain ⟨y535, hy535⟩ : ∃ y_ : List Int, y_ = (([] : List Int)) := ⟨_, rfl⟩
  replace H : (some y535) = some r := by first | (rw [hy535]; with_reducible exact H) | (have H2_ := (Option.bind_some _ _).symm.trans H; rw [hy535]; with_reducible exact H2_) | (have H2_ := (Option.bind_some _ _).symm.trans H; with_reducible exact H2_) | with_reducible exact H | (rw [hy535]; exact H) | exact H
  have aI := Aside0.mk hy535
  clear hy535
  obtain rfl := Option.some.inj H
  go_enter Try.func56, Try.ntmps56
  go_wp2_with (first | ((with_reducible refine gate_dst (N := 1) rfl ?_); refine box_event rfl (N := 1) rfl (cs := #[.int .i64 a0_0, .int .i64 a0_1, .slice aC l0_2.length aD]) (t := 83) oS ?_; intro aB hg bG hbox hb; have n_ := o2_ (below_step (oB HB) hb) (o2_ (hbox) (o2_ ((oG hg (below_size (oB HB)) : w.heap.size ≤ aB)) (o1_ ((oG hg (below_size (oB HB)) : w.heap.size ≤ aB))))); clear HB; obtain ⟨HB, aA, aL, aK⟩ := n_; clear hb hbox hg; have aO : bG.cell? ⟨aB, 0, none⟩ = some (.int .i64 a0_0) := (blk_cell aA.out 0).trans rfl; have aP : bG.cell? ⟨aB, 1, none⟩ = some (.int .i64 a0_1) := (blk_cell aA.out 1).trans rfl; have aQ : bG.cell? ⟨aB, 2, none⟩ = some (.slice aC l0_2.length aD) := (blk_cell aA.out 2).trans rfl; have aR := blk_frozen aA.out 0; have aS := blk_frozen aA.out 1; have aT := blk_frozen aA.out 2) | ((with_reducible refine gate_callee (f := 62) rfl ?_); refine goesL_ (some 4) rfl rfl Try.func62 oK rfl #[.agg #[.int .i64 a0_0, .int .i64 a0_1, .slice aC l0_2.length aD]] rfl oA ?_; (with_reducible refine (spec_RasOk.calls k a0_0 a0_1 _ _ l0_2 false _ ?side1 ?side2 A2.out).mono ?_); (case side1 => repeat (first | exact (Kd.C_below aF.out HB.out) | (with_reducible refine Kd.C_alloc ?_ _) | (with_reducible refine Kd.C_drewN ?_ _) | (with_reducible refine Kd.C_drew ?_))); (case side2 => exact aE.out); rintro e bM ⟨rfl, hb⟩; refine ⟨_, rfl, ?_⟩; replace HB := o1_ (below_step (oB HB) hb); (try clear hb); (try clear hb2); (try clear hk); (try clear hi)) | ((with_reducible refine gate_dst (N := 6) rfl ?_); refine Kd.R_lit (Kd.int .u8) _ 5 ?hg (N := 6) ?hd (xs := ([] : List Int)) (inner := []) (ok := fun _ => True) (okp := fun _ => True) ?hr ?hp (fun _ hk => hk) trivial (Below.refl _ _) (Nat.le_refl _) (by simp) ?_; (case hd => rfl); (case hg => rfl); (case hr => first | (go_simp; done) | (go_simp; rfl)); (case hp => exact (Reps.none _ _)); intro bL bN ho14 hb hg_ hnew_; clear hg_ hnew_; (first | rw [← aI.out] at ho14 | (simp only [Int.reduceToNat] at ho14; rw [← aI.out] at ho14)); have n_ := o2_ (Kd.R_lower ho14 (below_size (oB HB))) (o1_ (below_step (oB HB) hb)); clear HB; obtain ⟨aN, HB⟩ := n_; clear hb ho14))
  go_ret
  exact ⟨_, by first | rfl | (simp [errW_none, errW_some] <;> rfl) | (simp [*, errW_none, errW_some] <;> rfl), by (with_reducible repeat (first | apply Kd.R_alloc | apply Kd.R_drewN | apply Kd.R_drew)); exact aN.out, oB HB⟩

end Go.Proofs.Ytfnkaccncmjnaaa.X
