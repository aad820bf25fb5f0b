/- What functions of the program come to, each with its proof. No condition but what each theorem states. -/
import Derived.Test.YthnmeogafklhnaaX0
import Derived.Test.YthnmeogafklhnaaX12
namespace Go.Proofs.Ythnmeogafklhnaa.X
open Go.RowKit Go.Proofs.YthnmeogafklhnaaW.PrintWords Go.Proofs.YthnmeogafklhnaaW.PrintLast Go.Proofs.YthnmeogafklhnaaW.PrintMore Go.Proofs.Ythnmeogafklhnaa.Hyb
attribute [local go_sem] max2_int min2_int max_two min_two max_three min_three max_four min_four
set_option linter.unusedVariables false
set_option linter.unusedSimpArgs false

/-! ### impl_PixOk: function 53 -/
def impl_PixOk.f (a0_0 : Int) (a0_1 : Int) (a0_2 : Int) (a0_3 : Int) : Option (Bool) := (impl_partOk.f a0_0).bind fun aE => (if aE = true then ((impl_partOk.f a0_1).bind fun aF => (if aF = true then ((impl_partOk.f a0_2).bind fun aG => (if aG = true then ((impl_partOk.f a0_3).bind fun aH => (some aH)) else (some false))) else (some false))) else (some false))
set_option maxHeartbeats 8000000 in
set_option maxRecDepth 100000 in
theorem impl_PixOk.calls (a0_0 : Int) (a0_1 : Int) (a0_2 : Int) (a0_3 : Int) (r : Bool) (w : World) (h : impl_PixOk.f a0_0 a0_1 a0_2 a0_3 = some r) :
  Calls Try.prog 53 #[.agg #[.int .i64 a0_0, .int .i64 a0_1, .int .i64 a0_2, .int .i64 a0_3]] w fun e w' => e = .returned (.bool r) ∧ Below w.heap.size w w' := by
 have hu38 := Try.underlying38
 have HB := Aside0.mk (Below.refl w.heap.size w)
 have H : ((impl_partOk.f a0_0).bind fun aE => (if aE = true then ((impl_partOk.f a0_1).bind fun aF => (if aF = true then ((impl_partOk.f a0_2).bind fun aG => (if aG = true then ((impl_partOk.f a0_3).bind fun aH => (some aH)) else (some false))) else (some false))) else (some false))) = some r := h
 clear h
 replace H := Option.bind_eq_some_iff.mp H
 obtain ⟨aE, bR, H⟩ := H
 (try dsimp only at H)
 have A2 := Aside0.mk bR
 clear bR
 by_cases c3 : aE = true
 ·subst c3
  rw [if_pos rfl] at H
  replace H := Option.bind_eq_some_iff.mp H
  obtain ⟨aF, bS, H⟩ := H
  (try dsimp only at H)
  have A4 := Aside0.mk bS
  clear bS
  by_cases c5 : aF = true
  ·subst c5
   rw [if_pos rfl] at H
   replace H := Option.bind_eq_some_iff.mp H
   obtain ⟨aG, bT, H⟩ := H
   (try dsimp only at H)
   have A6 := Aside0.mk bT
   clear bT
   by_cases c7 : aG = true
   ·subst c7
    rw [if_pos rfl] at H
    replace H := Option.bind_eq_some_iff.mp H
    obtain ⟨aH, bU, H⟩ := H
    (try dsimp only at H)
    have A8 := Aside0.mk bU
    clear bU
    obtain rfl := Option.some.inj H
    go_enter Try.func53, Try.ntmps53
    go_wp2_with (first | ((with_reducible refine gate_dst (N := 1) rfl ?_); refine box_event rfl (N := 1) rfl (cs := #[.int .i64 a0_0, .int .i64 a0_1, .int .i64 a0_2, .int .i64 a0_3]) (t := 38) oS ?_; intro aB hg w9 hbox hb; have n_ := o2_ (below_step (oB HB) hb) (o2_ (hbox) (o2_ ((oG hg (below_size (oB HB)) : w.heap.size ≤ aB)) (o1_ ((oG hg (below_size (oB HB)) : w.heap.size ≤ aB))))); clear HB; obtain ⟨HB, aA, aD, aC⟩ := n_; clear hb hbox hg; have aI : w9.cell? ⟨aB, 0, none⟩ = some (.int .i64 a0_0) := (blk_cell aA.out 0).trans rfl; have aJ : w9.cell? ⟨aB, 1, none⟩ = some (.int .i64 a0_1) := (blk_cell aA.out 1).trans rfl; have aK : w9.cell? ⟨aB, 2, none⟩ = some (.int .i64 a0_2) := (blk_cell aA.out 2).trans rfl; have aL : w9.cell? ⟨aB, 3, none⟩ = some (.int .i64 a0_3) := (blk_cell aA.out 3).trans rfl; have aY := blk_frozen aA.out 0; have aZ := blk_frozen aA.out 1; have bA := blk_frozen aA.out 2; have bB := blk_frozen aA.out 3) | ((with_reducible refine gate_callee (f := 51) rfl ?_); refine goesL_ (some 5) rfl rfl Try.func51 oK rfl #[.int .i64 a0_0] rfl oA ?_; (with_reducible refine (impl_partOk.calls a0_0 true _ A2.out).mono ?_); rintro e w' ⟨rfl, ⟨nd, rfl⟩⟩; refine ⟨_, rfl, ?_⟩) | (go_at_call 51; (with_reducible refine (impl_partOk.calls a0_1 true _ A4.out).mono ?_); rintro e w' ⟨rfl, ⟨nd, rfl⟩⟩) | (go_at_call 51; (with_reducible refine (impl_partOk.calls a0_2 true _ A6.out).mono ?_); rintro e w' ⟨rfl, ⟨nd, rfl⟩⟩) | (go_at_call 51; (with_reducible refine (impl_partOk.calls a0_3 aH _ A8.out).mono ?_); rintro e w' ⟨rfl, ⟨nd, rfl⟩⟩))
    go_ret
    exact ⟨by first | rfl | (simp [errW_none, errW_some] <;> rfl) | (simp [*, errW_none, errW_some] <;> rfl), oB HB⟩
   ·replace c7 := Bool.eq_false_iff.mpr c7
    subst c7
    rw [if_neg (show ¬ (false = true) by decide)] at H
    obtain rfl := Option.some.inj H
    go_enter Try.func53, Try.ntmps53
    go_wp2_with (first | ((with_reducible refine gate_dst (N := 1) rfl ?_); refine box_event rfl (N := 1) rfl (cs := #[.int .i64 a0_0, .int .i64 a0_1, .int .i64 a0_2, .int .i64 a0_3]) (t := 38) oS ?_; intro aB hg bO hbox hb; have n_ := o2_ (below_step (oB HB) hb) (o2_ (hbox) (o2_ ((oG hg (below_size (oB HB)) : w.heap.size ≤ aB)) (o1_ ((oG hg (below_size (oB HB)) : w.heap.size ≤ aB))))); clear HB; obtain ⟨HB, aA, aD, aC⟩ := n_; clear hb hbox hg; have aM : bO.cell? ⟨aB, 0, none⟩ = some (.int .i64 a0_0) := (blk_cell aA.out 0).trans rfl; have aN : bO.cell? ⟨aB, 1, none⟩ = some (.int .i64 a0_1) := (blk_cell aA.out 1).trans rfl; have aO : bO.cell? ⟨aB, 2, none⟩ = some (.int .i64 a0_2) := (blk_cell aA.out 2).trans rfl; have aP : bO.cell? ⟨aB, 3, none⟩ = some (.int .i64 a0_3) := (blk_cell aA.out 3).trans rfl; have bC := blk_frozen aA.out 0; have bD := blk_frozen aA.out 1; have bE := blk_frozen aA.out 2; have bF := blk_frozen aA.out 3) | ((with_reducible refine gate_callee (f := 51) rfl ?_); refine goesL_ (some 5) rfl rfl Try.func51 oK rfl #[.int .i64 a0_0] rfl oA ?_; (with_reducible refine (impl_partOk.calls a0_0 true _ A2.out).mono ?_); rintro e w' ⟨rfl, ⟨nd, rfl⟩⟩; refine ⟨_, rfl, ?_⟩) | (go_at_call 51; (with_reducible refine (impl_partOk.calls a0_1 true _ A4.out).mono ?_); rintro e w' ⟨rfl, ⟨nd, rfl⟩⟩) | (go_at_call 51; (with_reducible refine (impl_partOk.calls a0_2 false _ A6.out).mono ?_); rintro e w' ⟨rfl, ⟨nd, rfl⟩⟩))
    go_ret
    exact ⟨by first | rfl | (simp [errW_none, errW_some] <;> rfl) | (simp [*, errW_none, errW_some] <;> rfl), oB HB⟩
  ·replace c5 := Bool.eq_false_iff.mpr c5
   subst c5
   rw [if_neg (show ¬ (false = true) by decide)] at H
   obtain rfl := Option.some.inj H
   go_enter Try.func53, Try.ntmps53
   go_wp2_with (first | ((with_reducible refine gate_dst (N := 1) rfl ?_); refine box_event rfl (N := 1) rfl (cs := #[.int .i64 a0_0, .int .i64 a0_1, .int .i64 a0_2, .int .i64 a0_3]) (t := 38) oS ?_; intro aB hg bP hbox hb; have n_ := o2_ (below_step (oB HB) hb) (o2_ (hbox) (o2_ ((oG hg (below_size (oB HB)) : w.heap.size ≤ aB)) (o1_ ((oG hg (below_size (oB HB)) : w.heap.size ≤ aB))))); clear HB; obtain ⟨HB, aA, aD, aC⟩ := n_; clear hb hbox hg; have aQ : bP.cell? ⟨aB, 0, none⟩ = some (.int .i64 a0_0) := (blk_cell aA.out 0).trans rfl; have aR : bP.cell? ⟨aB, 1, none⟩ = some (.int .i64 a0_1) := (blk_cell aA.out 1).trans rfl; have aS : bP.cell? ⟨aB, 2, none⟩ = some (.int .i64 a0_2) := (blk_cell aA.out 2).trans rfl; have aT : bP.cell? ⟨aB, 3, none⟩ = some (.int .i64 a0_3) := (blk_cell aA.out 3).trans rfl; have bG := blk_frozen aA.out 0; have bH := blk_frozen aA.out 1; have bI := blk_frozen aA.out 2; have bJ := blk_frozen aA.out 3) | ((with_reducible refine gate_callee (f := 51) rfl ?_); refine goesL_ (some 5) rfl rfl Try.func51 oK rfl #[.int .i64 a0_0] rfl oA ?_; (with_reducible refine (impl_partOk.calls a0_0 true _ A2.out).mono ?_); rintro e w' ⟨rfl, ⟨nd, rfl⟩⟩; refine ⟨_, rfl, ?_⟩) | (go_at_call 51; (with_reducible refine (impl_partOk.calls a0_1 false _ A4.out).mono ?_); rintro e w' ⟨rfl, ⟨nd, rfl⟩⟩))
   go_ret
   exact ⟨by first | rfl | (simp [errW_none, errW_some] <;> rfl) | (simp [*, errW_none, errW_some] <;> rfl), oB HB⟩
 ·replace c3 := Bool.eq_false_iff.mpr c3
  subst c3
  rw [if_neg (show ¬ (false = true) by decide)] at H
  obtain rfl := Option.some.inj H
  go_enter Try.func53, Try.ntmps53
  go_wp2_with (first | ((with_reducible refine gate_dst (N := 1) rfl ?_); refine box_event rfl (N := 1) rfl (cs := #[.int .i64 a0_0, .int .i64 a0_1, .int .i64 a0_2, .int .i64 a0_3]) (t := 38) oS ?_; intro aB hg bQ hbox hb; have n_ := o2_ (below_step (oB HB) hb) (o2_ (hbox) (o2_ ((oG hg (below_size (oB HB)) : w.heap.size ≤ aB)) (o1_ ((oG hg (below_size (oB HB)) : w.heap.size ≤ aB))))); clear HB; obtain ⟨HB, aA, aD, aC⟩ := n_; clear hb hbox hg; have aU : bQ.cell? ⟨aB, 0, none⟩ = some (.int .i64 a0_0) := (blk_cell aA.out 0).trans rfl; have aV : bQ.cell? ⟨aB, 1, none⟩ = some (.int .i64 a0_1) := (blk_cell aA.out 1).trans rfl; have aW : bQ.cell? ⟨aB, 2, none⟩ = some (.int .i64 a0_2) := (blk_cell aA.out 2).trans rfl; have aX : bQ.cell? ⟨aB, 3, none⟩ = some (.int .i64 a0_3) := (blk_cell aA.out 3).trans rfl; have bK := blk_frozen aA.out 0; have bL := blk_frozen aA.out 1; have bM := blk_frozen aA.out 2; have bN := blk_frozen aA.out 3) | ((with_reducible refine gate_callee (f := 51) rfl ?_); refine goesL_ (some 5) rfl rfl Try.func51 oK rfl #[.int .i64 a0_0] rfl oA ?_; (with_reducible refine (impl_partOk.calls a0_0 false _ A2.out).mono ?_); rintro e w' ⟨rfl, ⟨nd, rfl⟩⟩; refine ⟨_, rfl, ?_⟩))
  go_ret
  exact ⟨by first | rfl | (simp [errW_none, errW_some] <;> rfl) | (simp [*, errW_none, errW_some] <;> rfl), oB HB⟩

end Go.Proofs.Ythnmeogafklhnaa.X
