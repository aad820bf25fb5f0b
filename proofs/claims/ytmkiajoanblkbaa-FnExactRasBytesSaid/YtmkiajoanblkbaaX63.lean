/- What functions of the program come to, each with its proof. No condition but what each theorem states. -/
import Derived.Test.YtmkiajoanblkbaaX0
import Derived.Test.YtmkiajoanblkbaaX62
namespace Go.Proofs.Ytmkiajoanblkbaa.X
open Go.RowKit Go.Proofs.YtmkiajoanblkbaaW.PrintWords Go.Proofs.YtmkiajoanblkbaaW.PrintLast Go.Proofs.YtmkiajoanblkbaaW.PrintMore Go.Proofs.Ytmkiajoanblkbaa.Hyb
attribute [local go_sem] max2_int min2_int max_two min_two max_three min_three max_four min_four
set_option linter.unusedVariables false
set_option linter.unusedSimpArgs false

/-! ### laws_markRasRaster: function 41 -/
def laws_markRasRaster.f (k : Nat) (a0_0 : Int) (a0_1 : Int) (l0_2 : List (S39)) (a1 : Int) : Option (Int × (List (S39))) := (laws_markPixPixS.f k l0_2 a1).bind fun aD => (some (aD.1, aD.2))
theorem laws_markRasRaster.mono : ∀ a0 a1 a2 a3 k, LeO (laws_markRasRaster.f k a0 a1 a2 a3) (laws_markRasRaster.f (k + 1) a0 a1 a2 a3) := by
 intro a0 a1 a2 a3 k
 unfold laws_markRasRaster.f
 repeat' first
   | (with_reducible exact laws_markPixPixS.mono _ _ _)
   | (with_reducible exact LeO.refl _)
   | (with_reducible exact LeO.none _)
   | (with_reducible refine LeO.ite ?_ ?_)
   | (with_reducible refine LeO.bind ?_ (fun _ => ?_))
   | exact laws_markPixPixS.mono _ _ _
   | exact LeO.none _
   | refine LeO.ite ?_ ?_
   | refine LeO.bind ?_ (fun _ => ?_)
set_option maxHeartbeats 8000000 in
set_option maxRecDepth 100000 in
theorem laws_markRasRaster.calls (k : Nat) (a0_0 : Int) (a0_1 : Int) (P0_2_ : Nat → Prop) (aC : Value) (l0_2 : List (S39)) (a1 : Int) (r1 : Int) (r2 : List (S39)) (w0 w : World) (hB : Below w0.heap.size w0 w) (ho0_2 : Kd.R k39 39 w w0.heap.size P0_2_ aC l0_2) (h : laws_markRasRaster.f k a0_0 a0_1 l0_2 a1 = some (r1, r2)) :
  Calls Try.prog 41 #[.agg #[.int .i64 a0_0, .int .i64 a0_1, aC], .int .i64 a1] w fun e w' => e = .returned (.int .i64 r1) ∧ Kd.R k39 39 w' w0.heap.size (fun k_ => (P0_2_ k_ ∨ w.heap.size ≤ k_)) aC r2 ∧ Below w0.heap.size w0 w' ∧ Kept w w' (fun k_ => P0_2_ k_) := by
 have hu36 := Try.underlying36
 have aA := Aside0.mk (show Kd.R k39 39 w w0.heap.size (fun k_ => (P0_2_ k_ ∨ w.heap.size ≤ k_)) aC l0_2 from Kd.R_mono ho0_2 (fun k_ hk => (.inl hk)))
 have HK := Aside0.mk (Kept.refl w (fun k_ => P0_2_ k_))
 have HW0 := Aside0.mk hB.size
 have HB := Aside0.mk hB
 clear hB
 have H : ((laws_markPixPixS.f k l0_2 a1).bind fun aD => (some (aD.1, aD.2))) = some (r1, r2) := h
 clear h
 replace H := Option.bind_eq_some_iff.mp H
 obtain ⟨⟨aO, aP⟩, aQ, H⟩ := H
 (try dsimp only at H)
 have A3 := Aside0.mk aQ
 clear aQ
 simp only [Option.some.injEq, Prod.mk.injEq] at H
 obtain ⟨rfl, rfl⟩ := H
 obtain ⟨aG, aH, aS⟩ := Kd.R_slice aA.out
 subst aS
 go_enter Try.func41, Try.ntmps41
 go_wp2_with (first | ((with_reducible refine gate_dst (N := 2) rfl ?_); refine box_event rfl (N := 2) rfl (cs := #[.int .i64 a0_0, .int .i64 a0_1, .slice aG l0_2.length aH]) (t := 36) oS ?_; intro aE hg w5 hbox hb; have n_ := o2_ (Kd.R_below (oR aA) hb) (o2_ (Kept.below (S := (fun k_ => P0_2_ k_)) (by repeat (first | (with_reducible first | exact HK.out | apply Kept.alloc | apply Kept.drewN | apply Kept.drew) | exact HK.out)) hb) (o2_ (below_step (oB HB) hb) (o2_ (hbox) (o2_ ((by rw [hg]; exact (by first | exact HK.out.1 | exact (show Kept w _ (fun k_ => P0_2_ k_) from by repeat (first | (with_reducible first | exact HK.out | apply Kept.alloc | apply Kept.drewN | apply Kept.drew) | exact HK.out)).1) : w.heap.size ≤ aE)) (o1_ ((oG hg (below_size (oB HB)) : w0.heap.size ≤ aE))))))); clear aA HK HB; obtain ⟨aA, HK, HB, aB, aF, aR⟩ := n_; clear hb hbox hg; have aI : w5.cell? ⟨aE, 0, none⟩ = some (.int .i64 a0_0) := (blk_cell aB.out 0).trans rfl; have aJ : w5.cell? ⟨aE, 1, none⟩ = some (.int .i64 a0_1) := (blk_cell aB.out 1).trans rfl; have aK : w5.cell? ⟨aE, 2, none⟩ = some (.slice aG l0_2.length aH) := (blk_cell aB.out 2).trans rfl; have aL := blk_frozen aB.out 0; have aM := blk_frozen aB.out 1; have aN := blk_frozen aB.out 2) | ((with_reducible refine gate_callee (f := 62) rfl ?_); refine goesL_ (some 8) rfl rfl Try.func62 oK rfl #[.slice aG l0_2.length aH, .int .i64 a1] rfl oA ?_; (with_reducible refine (laws_markPixPixS.calls k (fun k_ => some k_ = (.slice aG l0_2.length aH : Value).ownBlock) (.slice aG l0_2.length aH) l0_2 a1 aO aP w0 _ ?side1 ?side2 A3.out).mono ?_); (case side1 => exact oB HB); (case side2 => exact Kd.R_tight rfl aA.out); rintro e w7 ⟨rfl, hy0, hb, hkp⟩; refine ⟨_, rfl, ?_⟩; have n_ := o2_ (Kd.R_reok rfl hy0 (fun k_ e_ => aA.out.1 k_ e_)) (o2_ (Kept.then_ (S := (fun k_ => P0_2_ k_)) (by repeat (first | (with_reducible first | exact HK.out | apply Kept.alloc | apply Kept.drewN | apply Kept.drew | refine Kept.setCell ?_ (.inr aF.out) _) | exact HK.out)) hkp (fun k_ hs_ => (fun e_ => (aA.out.1 k_ e_.symm)) hs_)) (o1_ (hb))); clear aA HK HB; obtain ⟨aA, HK, HB⟩ := n_; (try clear hb); (try clear hkp); (try clear hy0)))
 go_ret
 exact ⟨by first | rfl | (simp [errW_none, errW_some] <;> rfl) | (simp [*, errW_none, errW_some] <;> rfl), by (with_reducible repeat (first | apply Kd.R_alloc | apply Kd.R_drewN | apply Kd.R_drew)); exact aA.out, oB HB, by repeat (first | (with_reducible first | exact HK.out | apply Kept.alloc | apply Kept.drewN | apply Kept.drew | refine Kept.setCell ?_ (.inr aF.out) _) | exact HK.out)⟩

end Go.Proofs.Ytmkiajoanblkbaa.X
