/- What functions of the program come to, each with its proof. No condition but what each theorem states. -/
import Derived.Test.YtfnkaccncmjnaaaX0
namespace Go.Proofs.Ytfnkaccncmjnaaa.X
open Go.RowKit Go.Proofs.YtfnkaccncmjnaaaW.PrintWords Go.Proofs.YtfnkaccncmjnaaaW.PrintLast Go.Proofs.YtfnkaccncmjnaaaW.PrintMore Go.Proofs.Ytfnkaccncmjnaaa.Hyb
attribute [local go_sem] max2_int min2_int max_two min_two max_three min_three max_four min_four
set_option linter.unusedVariables false
set_option linter.unusedSimpArgs false

/-! ### impl_BitOk: function 59 -/
def impl_BitOk.f (a0_0 : Int) (a0_1 : Int) : Option (Bool) := if a0_1 ≥ 1 then (if a0_1 ≤ 12 then (if a0_0 ≥ 0 then (if 0 ≤ a0_1 then (some (decide (a0_0 < (shl .i64 1 a0_1)))) else (none)) else (some false)) else (some false)) else (some false)
set_option maxHeartbeats 8000000 in
set_option maxRecDepth 100000 in
theorem impl_BitOk.calls (a0_0 : Int) (a0_1 : Int) (r : Bool) (w : World) (h : impl_BitOk.f a0_0 a0_1 = some r) :
  Calls Try.prog 59 #[.agg #[.int .i64 a0_0, .int .i64 a0_1]] w fun e w' => e = .returned (.bool r) ∧ Below w.heap.size w w' := by
 have hu36 := Try.underlying36
 have HB := Aside0.mk (Below.refl w.heap.size w)
 have H : (if a0_1 ≥ 1 then (if a0_1 ≤ 12 then (if a0_0 ≥ 0 then (if 0 ≤ a0_1 then (some (decide (a0_0 < (shl .i64 1 a0_1)))) else (none)) else (some false)) else (some false)) else (some false)) = some r := h
 clear h
 by_cases c2 : a0_1 ≥ 1
 ·rw [if_pos c2] at H
  have aY : decide (1 ≤ a0_1) = true := decide_eq_true c2
  clear c2
  by_cases c3 : a0_1 ≤ 12
  ·rw [if_pos c3] at H
   have aZ : decide (a0_1 ≤ 12) = true := decide_eq_true c3
   clear c3
   by_cases c4 : a0_0 ≥ 0
   ·rw [if_pos c4] at H
    have bA : decide (0 ≤ a0_0) = true := decide_eq_true c4
    clear c4
    by_cases c5 : 0 ≤ a0_1
    ·rw [if_pos c5] at H
     have bF := eq_true c5
     have bG : decide (0 ≤ a0_1) = true := decide_eq_true c5
     clear c5
     obtain ⟨ji6, hji6⟩ : ∃ j_ : Int, (shl .i64 1 a0_1) = j_ := ⟨_, rfl⟩
     replace H : (some (decide (a0_0 < (ji6)))) = some r := by first | (rw [hji6] at H; exact H) | (simp only [hji6] at H ⊢; exact H)
     have aU : (IntKind.i64.wrap (1 * 2 ^ min a0_1.toNat 64)) = ji6 := hji6
     have aV : a0_1 ≤ 64 → (IntKind.i64.wrap (1 * 2 ^ a0_1.toNat)) = ji6 := shl_small hji6
     have bB : (IntKind.i64.wrap (2 ^ min a0_1.toNat 64)) = ji6 := by have h_ := aU; rw [Int.one_mul] at h_; exact h_
     have bC : a0_1 ≤ 64 → (IntKind.i64.wrap (2 ^ a0_1.toNat)) = ji6 := fun hle_ => by have h_ := aV hle_; rw [Int.one_mul] at h_; exact h_
     have bE : (wrap64 (1 * 2 ^ min a0_1.toNat 64)) = ji6 := (i64_w _).symm.trans aU
     have bD : a0_1 ≤ 64 → (wrap64 (1 * 2 ^ a0_1.toNat)) = ji6 := fun h_ => (i64_w _).symm.trans (aV h_)
     obtain rfl := Option.some.inj H
     go_enter Try.func59, Try.ntmps59
     go_wp2_with (first | ((with_reducible refine gate_dst (N := 1) rfl ?_); refine box_event rfl (N := 1) rfl (cs := #[.int .i64 a0_0, .int .i64 a0_1]) (t := 36) oS ?_; intro aB hg w7 hbox hb; have n_ := o2_ (below_step (oB HB) hb) (o2_ (hbox) (o2_ ((oG hg (below_size (oB HB)) : w.heap.size ≤ aB)) (o1_ ((oG hg (below_size (oB HB)) : w.heap.size ≤ aB))))); clear HB; obtain ⟨HB, aA, aD, aC⟩ := n_; clear hb hbox hg; have aQ : w7.cell? ⟨aB, 0, none⟩ = some (.int .i64 a0_0) := (blk_cell aA.out 0).trans rfl; have aR : w7.cell? ⟨aB, 1, none⟩ = some (.int .i64 a0_1) := (blk_cell aA.out 1).trans rfl; have aS := blk_frozen aA.out 0; have aT := blk_frozen aA.out 1))
     repeat (go_quiet (first | ((with_reducible refine gate_dst (N := 1) rfl ?_); refine box_event rfl (N := 1) rfl (cs := #[.int .i64 a0_0, .int .i64 a0_1]) (t := 36) oS ?_; intro aB hg w7 hbox hb; have n_ := o2_ (below_step (oB HB) hb) (o2_ (hbox) (o2_ ((oG hg (below_size (oB HB)) : w.heap.size ≤ aB)) (o1_ ((oG hg (below_size (oB HB)) : w.heap.size ≤ aB))))); clear HB; obtain ⟨HB, aA, aD, aC⟩ := n_; clear hb hbox hg; have aQ : w7.cell? ⟨aB, 0, none⟩ = some (.int .i64 a0_0) := (blk_cell aA.out 0).trans rfl; have aR : w7.cell? ⟨aB, 1, none⟩ = some (.int .i64 a0_1) := (blk_cell aA.out 1).trans rfl; have aS := blk_frozen aA.out 0; have aT := blk_frozen aA.out 1)); try go_wp2_with (first | ((with_reducible refine gate_dst (N := 1) rfl ?_); refine box_event rfl (N := 1) rfl (cs := #[.int .i64 a0_0, .int .i64 a0_1]) (t := 36) oS ?_; intro aB hg w7 hbox hb; have n_ := o2_ (below_step (oB HB) hb) (o2_ (hbox) (o2_ ((oG hg (below_size (oB HB)) : w.heap.size ≤ aB)) (o1_ ((oG hg (below_size (oB HB)) : w.heap.size ≤ aB))))); clear HB; obtain ⟨HB, aA, aD, aC⟩ := n_; clear hb hbox hg; have aQ : w7.cell? ⟨aB, 0, none⟩ = some (.int .i64 a0_0) := (blk_cell aA.out 0).trans rfl; have aR : w7.cell? ⟨aB, 1, none⟩ = some (.int .i64 a0_1) := (blk_cell aA.out 1).trans rfl; have aS := blk_frozen aA.out 0; have aT := blk_frozen aA.out 1)))
     go_ret
     exact ⟨by first | rfl | (simp [errW_none, errW_some] <;> rfl) | (simp only [← hji6]; first | rfl | (simp [errW_none, errW_some] <;> rfl)) | (simp [*, errW_none, errW_some] <;> rfl), oB HB⟩
    ·rw [if_neg c5] at H
     exact absurd H (by simp)
   ·rw [if_neg c4] at H
    have bA : decide (0 ≤ a0_0) = false := decide_eq_false c4
    clear c4
    obtain rfl := Option.some.inj H
    go_enter Try.func59, Try.ntmps59
    go_wp2_with (first | ((with_reducible refine gate_dst (N := 1) rfl ?_); refine box_event rfl (N := 1) rfl (cs := #[.int .i64 a0_0, .int .i64 a0_1]) (t := 36) oS ?_; intro aB hg w9 hbox hb; have n_ := o2_ (below_step (oB HB) hb) (o2_ (hbox) (o2_ ((oG hg (below_size (oB HB)) : w.heap.size ≤ aB)) (o1_ ((oG hg (below_size (oB HB)) : w.heap.size ≤ aB))))); clear HB; obtain ⟨HB, aA, aD, aC⟩ := n_; clear hb hbox hg; have aE : w9.cell? ⟨aB, 0, none⟩ = some (.int .i64 a0_0) := (blk_cell aA.out 0).trans rfl; have aF : w9.cell? ⟨aB, 1, none⟩ = some (.int .i64 a0_1) := (blk_cell aA.out 1).trans rfl; have aK := blk_frozen aA.out 0; have aL := blk_frozen aA.out 1))
    repeat (go_quiet (first | ((with_reducible refine gate_dst (N := 1) rfl ?_); refine box_event rfl (N := 1) rfl (cs := #[.int .i64 a0_0, .int .i64 a0_1]) (t := 36) oS ?_; intro aB hg w9 hbox hb; have n_ := o2_ (below_step (oB HB) hb) (o2_ (hbox) (o2_ ((oG hg (below_size (oB HB)) : w.heap.size ≤ aB)) (o1_ ((oG hg (below_size (oB HB)) : w.heap.size ≤ aB))))); clear HB; obtain ⟨HB, aA, aD, aC⟩ := n_; clear hb hbox hg; have aE : w9.cell? ⟨aB, 0, none⟩ = some (.int .i64 a0_0) := (blk_cell aA.out 0).trans rfl; have aF : w9.cell? ⟨aB, 1, none⟩ = some (.int .i64 a0_1) := (blk_cell aA.out 1).trans rfl; have aK := blk_frozen aA.out 0; have aL := blk_frozen aA.out 1)); try go_wp2_with (first | ((with_reducible refine gate_dst (N := 1) rfl ?_); refine box_event rfl (N := 1) rfl (cs := #[.int .i64 a0_0, .int .i64 a0_1]) (t := 36) oS ?_; intro aB hg w9 hbox hb; have n_ := o2_ (below_step (oB HB) hb) (o2_ (hbox) (o2_ ((oG hg (below_size (oB HB)) : w.heap.size ≤ aB)) (o1_ ((oG hg (below_size (oB HB)) : w.heap.size ≤ aB))))); clear HB; obtain ⟨HB, aA, aD, aC⟩ := n_; clear hb hbox hg; have aE : w9.cell? ⟨aB, 0, none⟩ = some (.int .i64 a0_0) := (blk_cell aA.out 0).trans rfl; have aF : w9.cell? ⟨aB, 1, none⟩ = some (.int .i64 a0_1) := (blk_cell aA.out 1).trans rfl; have aK := blk_frozen aA.out 0; have aL := blk_frozen aA.out 1)))
    go_ret
    exact ⟨by first | rfl | (simp [errW_none, errW_some] <;> rfl) | (simp [*, errW_none, errW_some] <;> rfl), oB HB⟩
  ·rw [if_neg c3] at H
   have aZ : decide (a0_1 ≤ 12) = false := decide_eq_false c3
   clear c3
   obtain rfl := Option.some.inj H
   go_enter Try.func59, Try.ntmps59
   go_wp2_with (first | ((with_reducible refine gate_dst (N := 1) rfl ?_); refine box_event rfl (N := 1) rfl (cs := #[.int .i64 a0_0, .int .i64 a0_1]) (t := 36) oS ?_; intro aB hg aW hbox hb; have n_ := o2_ (below_step (oB HB) hb) (o2_ (hbox) (o2_ ((oG hg (below_size (oB HB)) : w.heap.size ≤ aB)) (o1_ ((oG hg (below_size (oB HB)) : w.heap.size ≤ aB))))); clear HB; obtain ⟨HB, aA, aD, aC⟩ := n_; clear hb hbox hg; have aG : aW.cell? ⟨aB, 0, none⟩ = some (.int .i64 a0_0) := (blk_cell aA.out 0).trans rfl; have aH : aW.cell? ⟨aB, 1, none⟩ = some (.int .i64 a0_1) := (blk_cell aA.out 1).trans rfl; have aM := blk_frozen aA.out 0; have aN := blk_frozen aA.out 1))
   repeat (go_quiet (first | ((with_reducible refine gate_dst (N := 1) rfl ?_); refine box_event rfl (N := 1) rfl (cs := #[.int .i64 a0_0, .int .i64 a0_1]) (t := 36) oS ?_; intro aB hg aW hbox hb; have n_ := o2_ (below_step (oB HB) hb) (o2_ (hbox) (o2_ ((oG hg (below_size (oB HB)) : w.heap.size ≤ aB)) (o1_ ((oG hg (below_size (oB HB)) : w.heap.size ≤ aB))))); clear HB; obtain ⟨HB, aA, aD, aC⟩ := n_; clear hb hbox hg; have aG : aW.cell? ⟨aB, 0, none⟩ = some (.int .i64 a0_0) := (blk_cell aA.out 0).trans rfl; have aH : aW.cell? ⟨aB, 1, none⟩ = some (.int .i64 a0_1) := (blk_cell aA.out 1).trans rfl; have aM := blk_frozen aA.out 0; have aN := blk_frozen aA.out 1)); try go_wp2_with (first | ((with_reducible refine gate_dst (N := 1) rfl ?_); refine box_event rfl (N := 1) rfl (cs := #[.int .i64 a0_0, .int .i64 a0_1]) (t := 36) oS ?_; intro aB hg aW hbox hb; have n_ := o2_ (below_step (oB HB) hb) (o2_ (hbox) (o2_ ((oG hg (below_size (oB HB)) : w.heap.size ≤ aB)) (o1_ ((oG hg (below_size (oB HB)) : w.heap.size ≤ aB))))); clear HB; obtain ⟨HB, aA, aD, aC⟩ := n_; clear hb hbox hg; have aG : aW.cell? ⟨aB, 0, none⟩ = some (.int .i64 a0_0) := (blk_cell aA.out 0).trans rfl; have aH : aW.cell? ⟨aB, 1, none⟩ = some (.int .i64 a0_1) := (blk_cell aA.out 1).trans rfl; have aM := blk_frozen aA.out 0; have aN := blk_frozen aA.out 1)))
   go_ret
   exact ⟨by first | rfl | (simp [errW_none, errW_some] <;> rfl) | (simp [*, errW_none, errW_some] <;> rfl), oB HB⟩
 ·rw [if_neg c2] at H
  have aY : decide (1 ≤ a0_1) = false := decide_eq_false c2
  clear c2
  obtain rfl := Option.some.inj H
  go_enter Try.func59, Try.ntmps59
  go_wp2_with (first | ((with_reducible refine gate_dst (N := 1) rfl ?_); refine box_event rfl (N := 1) rfl (cs := #[.int .i64 a0_0, .int .i64 a0_1]) (t := 36) oS ?_; intro aB hg aX hbox hb; have n_ := o2_ (below_step (oB HB) hb) (o2_ (hbox) (o2_ ((oG hg (below_size (oB HB)) : w.heap.size ≤ aB)) (o1_ ((oG hg (below_size (oB HB)) : w.heap.size ≤ aB))))); clear HB; obtain ⟨HB, aA, aD, aC⟩ := n_; clear hb hbox hg; have aI : aX.cell? ⟨aB, 0, none⟩ = some (.int .i64 a0_0) := (blk_cell aA.out 0).trans rfl; have aJ : aX.cell? ⟨aB, 1, none⟩ = some (.int .i64 a0_1) := (blk_cell aA.out 1).trans rfl; have aO := blk_frozen aA.out 0; have aP := blk_frozen aA.out 1))
  repeat (go_quiet (first | ((with_reducible refine gate_dst (N := 1) rfl ?_); refine box_event rfl (N := 1) rfl (cs := #[.int .i64 a0_0, .int .i64 a0_1]) (t := 36) oS ?_; intro aB hg aX hbox hb; have n_ := o2_ (below_step (oB HB) hb) (o2_ (hbox) (o2_ ((oG hg (below_size (oB HB)) : w.heap.size ≤ aB)) (o1_ ((oG hg (below_size (oB HB)) : w.heap.size ≤ aB))))); clear HB; obtain ⟨HB, aA, aD, aC⟩ := n_; clear hb hbox hg; have aI : aX.cell? ⟨aB, 0, none⟩ = some (.int .i64 a0_0) := (blk_cell aA.out 0).trans rfl; have aJ : aX.cell? ⟨aB, 1, none⟩ = some (.int .i64 a0_1) := (blk_cell aA.out 1).trans rfl; have aO := blk_frozen aA.out 0; have aP := blk_frozen aA.out 1)); try go_wp2_with (first | ((with_reducible refine gate_dst (N := 1) rfl ?_); refine box_event rfl (N := 1) rfl (cs := #[.int .i64 a0_0, .int .i64 a0_1]) (t := 36) oS ?_; intro aB hg aX hbox hb; have n_ := o2_ (below_step (oB HB) hb) (o2_ (hbox) (o2_ ((oG hg (below_size (oB HB)) : w.heap.size ≤ aB)) (o1_ ((oG hg (below_size (oB HB)) : w.heap.size ≤ aB))))); clear HB; obtain ⟨HB, aA, aD, aC⟩ := n_; clear hb hbox hg; have aI : aX.cell? ⟨aB, 0, none⟩ = some (.int .i64 a0_0) := (blk_cell aA.out 0).trans rfl; have aJ : aX.cell? ⟨aB, 1, none⟩ = some (.int .i64 a0_1) := (blk_cell aA.out 1).trans rfl; have aO := blk_frozen aA.out 0; have aP := blk_frozen aA.out 1)))
  go_ret
  exact ⟨by first | rfl | (simp [errW_none, errW_some] <;> rfl) | (simp [*, errW_none, errW_some] <;> rfl), oB HB⟩

end Go.Proofs.Ytfnkaccncmjnaaa.X
