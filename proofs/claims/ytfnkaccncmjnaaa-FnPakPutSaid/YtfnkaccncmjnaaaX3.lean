/- What functions of the program come to, each with its proof. No condition but what each theorem states. -/
import Derived.Test.YtfnkaccncmjnaaaX0
import Derived.Test.YtfnkaccncmjnaaaX2
namespace Go.Proofs.Ytfnkaccncmjnaaa.X
open Go.RowKit Go.Proofs.YtfnkaccncmjnaaaW.PrintWords Go.Proofs.YtfnkaccncmjnaaaW.PrintLast Go.Proofs.YtfnkaccncmjnaaaW.PrintMore Go.Proofs.Ytfnkaccncmjnaaa.Hyb
attribute [local go_sem] max2_int min2_int max_two min_two max_three min_three max_four min_four
set_option linter.unusedVariables false
set_option linter.unusedSimpArgs false

/-! ### spec_BitOk: function 24 -/
def spec_BitOk.f (a0_0 : Int) (a0_1 : Int) : Option (Bool) := (spec_l1In.f a0_1 1 12).bind fun aN => (if aN = true then (if 0 ≤ a0_1 then ((spec_l1In.f a0_0 0 (wrap64 ((shl .i64 1 a0_1) - 1))).bind fun aC => (some aC)) else (none)) else (some false))
set_option maxHeartbeats 8000000 in
set_option maxRecDepth 100000 in
theorem spec_BitOk.calls (a0_0 : Int) (a0_1 : Int) (r : Bool) (w : World) (h : spec_BitOk.f a0_0 a0_1 = some r) :
  Calls Try.prog 24 #[.agg #[.int .i64 a0_0, .int .i64 a0_1]] w fun e w' => e = .returned (.bool r) ∧ Below w.heap.size w w' := by
 have hu36 := Try.underlying36
 have HB := Aside0.mk (Below.refl w.heap.size w)
 have H : ((spec_l1In.f a0_1 1 12).bind fun aN => (if aN = true then (if 0 ≤ a0_1 then ((spec_l1In.f a0_0 0 (wrap64 ((shl .i64 1 a0_1) - 1))).bind fun aC => (some aC)) else (none)) else (some false))) = some r := h
 clear h
 replace H := Option.bind_eq_some_iff.mp H
 obtain ⟨aN, aQ, H⟩ := H
 (try dsimp only at H)
 have A2 := Aside0.mk aQ
 clear aQ
 by_cases c3 : aN = true
 ·subst c3
  rw [if_pos rfl] at H
  by_cases c4 : 0 ≤ a0_1
  ·rw [if_pos c4] at H
   have aW := eq_true c4
   have aX : decide (0 ≤ a0_1) = true := decide_eq_true c4
   clear c4
   obtain ⟨ji5, hji5⟩ : ∃ j_ : Int, (shl .i64 1 a0_1) = j_ := ⟨_, rfl⟩
   replace H : ((spec_l1In.f a0_0 0 (wrap64 ((ji5) - 1))).bind fun aC => (some aC)) = some r := by first | (rw [hji5] at H; exact H) | (simp only [hji5] at H ⊢; exact H)
   (try rw [hji5] at A2)
   have aO : (IntKind.i64.wrap (1 * 2 ^ min a0_1.toNat 64)) = ji5 := hji5
   have aP : a0_1 ≤ 64 → (IntKind.i64.wrap (1 * 2 ^ a0_1.toNat)) = ji5 := shl_small hji5
   have aS : (IntKind.i64.wrap (2 ^ min a0_1.toNat 64)) = ji5 := by have h_ := aO; rw [Int.one_mul] at h_; exact h_
   have aT : a0_1 ≤ 64 → (IntKind.i64.wrap (2 ^ a0_1.toNat)) = ji5 := fun hle_ => by have h_ := aP hle_; rw [Int.one_mul] at h_; exact h_
   have aV : (wrap64 (1 * 2 ^ min a0_1.toNat 64)) = ji5 := (i64_w _).symm.trans aO
   have aU : a0_1 ≤ 64 → (wrap64 (1 * 2 ^ a0_1.toNat)) = ji5 := fun h_ => (i64_w _).symm.trans (aP h_)
   replace H := Option.bind_eq_some_iff.mp H
   obtain ⟨aC, aR, H⟩ := H
   (try dsimp only at H)
   have A6 := Aside0.mk aR
   clear aR
   obtain rfl := Option.some.inj H
   go_enter Try.func24, Try.ntmps24
   go_wp2_with (first | ((with_reducible refine gate_dst (N := 1) rfl ?_); refine box_event rfl (N := 1) rfl (cs := #[.int .i64 a0_0, .int .i64 a0_1]) (t := 36) oS ?_; intro aB hg w7 hbox hb; have n_ := o2_ (below_step (oB HB) hb) (o2_ (hbox) (o2_ ((oG hg (below_size (oB HB)) : w.heap.size ≤ aB)) (o1_ ((oG hg (below_size (oB HB)) : w.heap.size ≤ aB))))); clear HB; obtain ⟨HB, aA, aE, aD⟩ := n_; clear hb hbox hg; have aJ : w7.cell? ⟨aB, 0, none⟩ = some (.int .i64 a0_0) := (blk_cell aA.out 0).trans rfl; have aK : w7.cell? ⟨aB, 1, none⟩ = some (.int .i64 a0_1) := (blk_cell aA.out 1).trans rfl; have aL := blk_frozen aA.out 0; have aM := blk_frozen aA.out 1) | (go_at_call 43; (with_reducible refine (spec_l1In.calls a0_1 1 12 true _ A2.out).mono ?_); rintro e w' ⟨rfl, ⟨nd, rfl⟩⟩; (try first | exact ⟨rfl, _, World.drewN_drewN _ _ _⟩ | exact ⟨rfl, _, Eq.trans (World.drewN_drewN _ _ _) (congrArg (World.drewN _) (Nat.add_assoc _ _ _))⟩)) | (go_at_call 43; (with_reducible refine (spec_l1In.calls a0_0 0 (wrap64 ((ji5) - 1)) aC _ A6.out).mono ?_); rintro e w' ⟨rfl, ⟨nd, rfl⟩⟩; (try first | exact ⟨rfl, _, World.drewN_drewN _ _ _⟩ | exact ⟨rfl, _, Eq.trans (World.drewN_drewN _ _ _) (congrArg (World.drewN _) (Nat.add_assoc _ _ _))⟩)))
   repeat (go_quiet (first | ((with_reducible refine gate_dst (N := 1) rfl ?_); refine box_event rfl (N := 1) rfl (cs := #[.int .i64 a0_0, .int .i64 a0_1]) (t := 36) oS ?_; intro aB hg w7 hbox hb; have n_ := o2_ (below_step (oB HB) hb) (o2_ (hbox) (o2_ ((oG hg (below_size (oB HB)) : w.heap.size ≤ aB)) (o1_ ((oG hg (below_size (oB HB)) : w.heap.size ≤ aB))))); clear HB; obtain ⟨HB, aA, aE, aD⟩ := n_; clear hb hbox hg; have aJ : w7.cell? ⟨aB, 0, none⟩ = some (.int .i64 a0_0) := (blk_cell aA.out 0).trans rfl; have aK : w7.cell? ⟨aB, 1, none⟩ = some (.int .i64 a0_1) := (blk_cell aA.out 1).trans rfl; have aL := blk_frozen aA.out 0; have aM := blk_frozen aA.out 1) | (go_at_call 43; (with_reducible refine (spec_l1In.calls a0_1 1 12 true _ A2.out).mono ?_); rintro e w' ⟨rfl, ⟨nd, rfl⟩⟩; (try first | exact ⟨rfl, _, World.drewN_drewN _ _ _⟩ | exact ⟨rfl, _, Eq.trans (World.drewN_drewN _ _ _) (congrArg (World.drewN _) (Nat.add_assoc _ _ _))⟩)) | (go_at_call 43; (with_reducible refine (spec_l1In.calls a0_0 0 (wrap64 ((ji5) - 1)) aC _ A6.out).mono ?_); rintro e w' ⟨rfl, ⟨nd, rfl⟩⟩; (try first | exact ⟨rfl, _, World.drewN_drewN _ _ _⟩ | exact ⟨rfl, _, Eq.trans (World.drewN_drewN _ _ _) (congrArg (World.drewN _) (Nat.add_assoc _ _ _))⟩))); try go_wp2_with (first | ((with_reducible refine gate_dst (N := 1) rfl ?_); refine box_event rfl (N := 1) rfl (cs := #[.int .i64 a0_0, .int .i64 a0_1]) (t := 36) oS ?_; intro aB hg w7 hbox hb; have n_ := o2_ (below_step (oB HB) hb) (o2_ (hbox) (o2_ ((oG hg (below_size (oB HB)) : w.heap.size ≤ aB)) (o1_ ((oG hg (below_size (oB HB)) : w.heap.size ≤ aB))))); clear HB; obtain ⟨HB, aA, aE, aD⟩ := n_; clear hb hbox hg; have aJ : w7.cell? ⟨aB, 0, none⟩ = some (.int .i64 a0_0) := (blk_cell aA.out 0).trans rfl; have aK : w7.cell? ⟨aB, 1, none⟩ = some (.int .i64 a0_1) := (blk_cell aA.out 1).trans rfl; have aL := blk_frozen aA.out 0; have aM := blk_frozen aA.out 1) | (go_at_call 43; (with_reducible refine (spec_l1In.calls a0_1 1 12 true _ A2.out).mono ?_); rintro e w' ⟨rfl, ⟨nd, rfl⟩⟩; (try first | exact ⟨rfl, _, World.drewN_drewN _ _ _⟩ | exact ⟨rfl, _, Eq.trans (World.drewN_drewN _ _ _) (congrArg (World.drewN _) (Nat.add_assoc _ _ _))⟩)) | (go_at_call 43; (with_reducible refine (spec_l1In.calls a0_0 0 (wrap64 ((ji5) - 1)) aC _ A6.out).mono ?_); rintro e w' ⟨rfl, ⟨nd, rfl⟩⟩; (try first | exact ⟨rfl, _, World.drewN_drewN _ _ _⟩ | exact ⟨rfl, _, Eq.trans (World.drewN_drewN _ _ _) (congrArg (World.drewN _) (Nat.add_assoc _ _ _))⟩))))
   go_ret
   exact ⟨by first | rfl | (simp [errW_none, errW_some] <;> rfl) | (simp only [← hji5]; first | rfl | (simp [errW_none, errW_some] <;> rfl)) | (simp [*, errW_none, errW_some] <;> rfl), oB HB⟩
  ·rw [if_neg c4] at H
   exact absurd H (by simp)
 ·replace c3 := Bool.eq_false_iff.mpr c3
  subst c3
  rw [if_neg (show ¬ (false = true) by decide)] at H
  obtain rfl := Option.some.inj H
  go_enter Try.func24, Try.ntmps24
  go_wp2_with (first | ((with_reducible refine gate_dst (N := 1) rfl ?_); refine box_event rfl (N := 1) rfl (cs := #[.int .i64 a0_0, .int .i64 a0_1]) (t := 36) oS ?_; intro aB hg w9 hbox hb; have n_ := o2_ (below_step (oB HB) hb) (o2_ (hbox) (o2_ ((oG hg (below_size (oB HB)) : w.heap.size ≤ aB)) (o1_ ((oG hg (below_size (oB HB)) : w.heap.size ≤ aB))))); clear HB; obtain ⟨HB, aA, aE, aD⟩ := n_; clear hb hbox hg; have aF : w9.cell? ⟨aB, 0, none⟩ = some (.int .i64 a0_0) := (blk_cell aA.out 0).trans rfl; have aG : w9.cell? ⟨aB, 1, none⟩ = some (.int .i64 a0_1) := (blk_cell aA.out 1).trans rfl; have aH := blk_frozen aA.out 0; have aI := blk_frozen aA.out 1) | (go_at_call 43; (with_reducible refine (spec_l1In.calls a0_1 1 12 false _ A2.out).mono ?_); rintro e w' ⟨rfl, ⟨nd, rfl⟩⟩; (try first | exact ⟨rfl, _, World.drewN_drewN _ _ _⟩ | exact ⟨rfl, _, Eq.trans (World.drewN_drewN _ _ _) (congrArg (World.drewN _) (Nat.add_assoc _ _ _))⟩)))
  repeat (go_quiet (first | ((with_reducible refine gate_dst (N := 1) rfl ?_); refine box_event rfl (N := 1) rfl (cs := #[.int .i64 a0_0, .int .i64 a0_1]) (t := 36) oS ?_; intro aB hg w9 hbox hb; have n_ := o2_ (below_step (oB HB) hb) (o2_ (hbox) (o2_ ((oG hg (below_size (oB HB)) : w.heap.size ≤ aB)) (o1_ ((oG hg (below_size (oB HB)) : w.heap.size ≤ aB))))); clear HB; obtain ⟨HB, aA, aE, aD⟩ := n_; clear hb hbox hg; have aF : w9.cell? ⟨aB, 0, none⟩ = some (.int .i64 a0_0) := (blk_cell aA.out 0).trans rfl; have aG : w9.cell? ⟨aB, 1, none⟩ = some (.int .i64 a0_1) := (blk_cell aA.out 1).trans rfl; have aH := blk_frozen aA.out 0; have aI := blk_frozen aA.out 1) | (go_at_call 43; (with_reducible refine (spec_l1In.calls a0_1 1 12 false _ A2.out).mono ?_); rintro e w' ⟨rfl, ⟨nd, rfl⟩⟩; (try first | exact ⟨rfl, _, World.drewN_drewN _ _ _⟩ | exact ⟨rfl, _, Eq.trans (World.drewN_drewN _ _ _) (congrArg (World.drewN _) (Nat.add_assoc _ _ _))⟩))); try go_wp2_with (first | ((with_reducible refine gate_dst (N := 1) rfl ?_); refine box_event rfl (N := 1) rfl (cs := #[.int .i64 a0_0, .int .i64 a0_1]) (t := 36) oS ?_; intro aB hg w9 hbox hb; have n_ := o2_ (below_step (oB HB) hb) (o2_ (hbox) (o2_ ((oG hg (below_size (oB HB)) : w.heap.size ≤ aB)) (o1_ ((oG hg (below_size (oB HB)) : w.heap.size ≤ aB))))); clear HB; obtain ⟨HB, aA, aE, aD⟩ := n_; clear hb hbox hg; have aF : w9.cell? ⟨aB, 0, none⟩ = some (.int .i64 a0_0) := (blk_cell aA.out 0).trans rfl; have aG : w9.cell? ⟨aB, 1, none⟩ = some (.int .i64 a0_1) := (blk_cell aA.out 1).trans rfl; have aH := blk_frozen aA.out 0; have aI := blk_frozen aA.out 1) | (go_at_call 43; (with_reducible refine (spec_l1In.calls a0_1 1 12 false _ A2.out).mono ?_); rintro e w' ⟨rfl, ⟨nd, rfl⟩⟩; (try first | exact ⟨rfl, _, World.drewN_drewN _ _ _⟩ | exact ⟨rfl, _, Eq.trans (World.drewN_drewN _ _ _) (congrArg (World.drewN _) (Nat.add_assoc _ _ _))⟩))))
  go_ret
  exact ⟨by first | rfl | (simp [errW_none, errW_some] <;> rfl) | (simp [*, errW_none, errW_some] <;> rfl), oB HB⟩

end Go.Proofs.Ytfnkaccncmjnaaa.X
