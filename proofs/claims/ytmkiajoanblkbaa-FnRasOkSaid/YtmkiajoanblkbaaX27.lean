/- What functions of the program come to, each with its proof. No condition but what each theorem states. -/
import Derived.Test.YtmkiajoanblkbaaX0
import Derived.Test.YtmkiajoanblkbaaX11
import Derived.Test.YtmkiajoanblkbaaX14
import Derived.Test.YtmkiajoanblkbaaX26
namespace Go.Proofs.Ytmkiajoanblkbaa.X
open Go.RowKit Go.Proofs.YtmkiajoanblkbaaW.PrintWords Go.Proofs.YtmkiajoanblkbaaW.PrintLast Go.Proofs.YtmkiajoanblkbaaW.PrintMore Go.Proofs.Ytmkiajoanblkbaa.Hyb
attribute [local go_sem] max2_int min2_int max_two min_two max_three min_three max_four min_four
set_option linter.unusedVariables false
set_option linter.unusedSimpArgs false

/-! ### spec_DrawRasOk: function 20 -/
def spec_DrawRasOk.f (k : Nat) (l0 : List Int) : Option (Int × Int × (List (S39))) := (spec_l20Open.f l0).bind fun aF => ((spec_l20Ras.f k aF.1 aF.2 2).bind fun aC => (some (aC.1, aC.2.1, aC.2.2.1)))
theorem spec_DrawRasOk.mono : ∀ a0 k, LeO (spec_DrawRasOk.f k a0) (spec_DrawRasOk.f (k + 1) a0) := by
 intro a0 k
 unfold spec_DrawRasOk.f
 repeat' first
   | (with_reducible exact spec_l20Ras.mono _ _ _ _)
   | (with_reducible exact LeO.refl _)
   | (with_reducible exact LeO.none _)
   | (with_reducible refine LeO.ite ?_ ?_)
   | (with_reducible refine LeO.bind ?_ (fun _ => ?_))
   | exact spec_l20Ras.mono _ _ _ _
   | exact LeO.none _
   | refine LeO.ite ?_ ?_
   | refine LeO.bind ?_ (fun _ => ?_)
set_option maxHeartbeats 8000000 in
set_option maxRecDepth 100000 in
theorem spec_DrawRasOk.calls (k : Nat) (A0 : Option Addr) (c0 : Nat) (l0 : List Int) (r1 : Int) (r2 : Int) (r3 : List (S39)) (w : World) (hr0 : Kd.C (Kd.int .u8) w A0 l0.length l0) (bA : l0.length ≤ c0) (h : spec_DrawRasOk.f k l0 = some (r1, r2, r3)) :
  Calls Try.prog 20 #[.slice A0 l0.length c0] w fun e w' => ∃ bB : Value, e = .returned (.agg #[.int .i64 r1, .int .i64 r2, bB]) ∧ Kd.Q k39 39 w' w.heap.size (fun _ => True) bB r3 ∧ Below w.heap.size w w' := by
 have hu36 := Try.underlying36
 have bD := Aside0.mk hr0
 have bC := Aside0.mk bA
 clear hr0 bA
 have HB := Aside0.mk (Below.refl w.heap.size w)
 have H : ((spec_l20Open.f l0).bind fun aF => ((spec_l20Ras.f k aF.1 aF.2 2).bind fun aC => (some (aC.1, aC.2.1, aC.2.2.1)))) = some (r1, r2, r3) := h
 clear h
 replace H := Option.bind_eq_some_iff.mp H
 obtain ⟨⟨aL, aM⟩, aU, H⟩ := H
 (try dsimp only at H)
 have A2 := Aside0.mk aU
 clear aU
 replace H := Option.bind_eq_some_iff.mp H
 obtain ⟨⟨aI, aJ, aK, aT⟩, aV, H⟩ := H
 (try dsimp only at H)
 have A3 := Aside0.mk aV
 clear aV
 simp only [Option.some.injEq, Prod.mk.injEq] at H
 obtain ⟨rfl, rfl, rfl⟩ := H
 go_enter Try.func20, Try.ntmps20
 go_wp2_with (first | ((with_reducible refine gate_dst (N := 2) rfl ?_); refine box_event rfl (N := 2) rfl (cs := #[.int .i64 0, .int .i64 0, .slice none 0 0]) (t := 36) oS ?_; intro aB hg w4 hbox hb; have n_ := o2_ (below_step (oB HB) hb) (o2_ (hbox) (o2_ ((oG hg (below_size (oB HB)) : w.heap.size ≤ aB)) (o1_ ((oG hg (below_size (oB HB)) : w.heap.size ≤ aB))))); clear HB; obtain ⟨HB, aA, aY, aX⟩ := n_; clear hb hbox hg) | ((with_reducible refine gate_callee (f := 45) rfl ?_); refine goesL_ (some 4) rfl rfl Try.func45 oK rfl #[.slice A0 l0.length c0] rfl oA ?_; (with_reducible refine (spec_l20Open.calls _ _ l0 aL aM w _ ?side1 ?side2 ?side3 A2.out).mono ?_); (case side1 => exact oB HB); (case side2 => exact bD.out); (case side3 => exact bC.out); rintro e w5 ⟨g343, rfl, hi, hb, hb2⟩; refine ⟨_, rfl, ?_⟩; have n_ := o2_ (blk_below (oP aA) hb2) (o2_ (hb) (o2_ (hi) (o2_ (IsS82.ne_blk hi (blk_below (oP aA) hb2) oD) (o1_ (Ne.symm (IsS82.ne_blk hi (blk_below (oP aA) hb2) oD)))))); clear aA HB; obtain ⟨aA, HB, aD, aG, aE⟩ := n_; (try clear hb); (try clear hb2); (try clear hk); (try clear hi)) | ((with_reducible refine gate_callee (f := 50) rfl ?_); refine goesL_ (some 5) rfl rfl Try.func50 oK rfl #[.pointer (some ⟨g343, 0, none⟩), .int .i64 2] rfl oA ?_; (with_reducible refine (spec_l20Ras.calls k g343 aL aM 2 aI aJ aK aT w _ ?side1 ?side2 A3.out).mono ?_); (case side1 => exact oI82 aD); (case side2 => exact oH HB (IsS82.ge aD.out)); rintro e w6 ⟨bH, rfl, ho0, hi, hb, hk⟩; refine ⟨_, rfl, ?_⟩; have n_ := o2_ (oJ hk aA aE) (o2_ (Kd.Q_lower ho0 (below_size (oH HB (IsS82.ge aD.out)))) (o2_ (hb) (o1_ (hi)))); clear aA HB aD; obtain ⟨aA, aH, HB, aD⟩ := n_; (try clear hb); (try clear hb2); (try clear hk); (try clear hi); (try clear ho0); have bF := aE.out; have bG := aG.out; have aN : w6.cell? ⟨aB, 0, none⟩ = some (.int .i64 0) := (blk_cell aA.out 0).trans rfl; have aO : w6.cell? ⟨aB, 1, none⟩ = some (.int .i64 0) := (blk_cell aA.out 1).trans rfl; have aP : w6.cell? ⟨aB, 2, none⟩ = some (.slice none 0 0) := (blk_cell aA.out 2).trans rfl; have aQ := blk_frozen aA.out 0; have aR := blk_frozen aA.out 1; have aS := blk_frozen aA.out 2; obtain ⟨aW, aZ, bE, _⟩ := Kd.Q_slice aH.out; subst bE))
 refine bodyPost_ret (results_cell_row rfl _ _ aB 36 #[.int .i64 aI, .int .i64 aJ, .slice aW aK.length aZ] (0, 0) _ rfl (blk_put (blk_put (blk_put aA.out 0 _ rfl) 1 _ rfl) 2 _ rfl) Try.underlying36 rfl oK) rfl ?_
 exact ⟨_, by first | rfl | (simp [errW_none, errW_some] <;> rfl) | (simp [*, errW_none, errW_some] <;> rfl), by (with_reducible repeat (first | apply Kd.Q_alloc | apply Kd.Q_drewN | apply Kd.Q_drew)); exact Kd.Q_mono (Kd.Q_far (p := ⟨aB, 2, none⟩) (Kd.Q_far (p := ⟨aB, 1, none⟩) (Kd.Q_far (p := ⟨aB, 0, none⟩) (Kd.Q_types aH.out aA.out oD) (fun _ hk => hk.2) (.int .i64 aI)) (fun _ hk => hk.2) (.int .i64 aJ)) (fun _ hk => hk.2) (.slice aW aK.length aZ)) (fun _ hk => trivial), oH HB (IsS82.ge aD.out)⟩

end Go.Proofs.Ytmkiajoanblkbaa.X
