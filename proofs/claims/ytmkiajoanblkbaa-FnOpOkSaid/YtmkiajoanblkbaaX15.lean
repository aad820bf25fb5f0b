/- What functions of the program come to, each with its proof. No condition but what each theorem states. -/
import Derived.Test.YtmkiajoanblkbaaX0
import Derived.Test.YtmkiajoanblkbaaX11
import Derived.Test.YtmkiajoanblkbaaX13
import Derived.Test.YtmkiajoanblkbaaX14
namespace Go.Proofs.Ytmkiajoanblkbaa.X
open Go.RowKit Go.Proofs.YtmkiajoanblkbaaW.PrintWords Go.Proofs.YtmkiajoanblkbaaW.PrintLast Go.Proofs.YtmkiajoanblkbaaW.PrintMore Go.Proofs.Ytmkiajoanblkbaa.Hyb
attribute [local go_sem] max2_int min2_int max_two min_two max_three min_three max_four min_four
set_option linter.unusedVariables false
set_option linter.unusedSimpArgs false

/-! ### spec_DrawOpOk: function 16 -/
def spec_DrawOpOk.f (k : Nat) (l0 : List Int) : Option (Int × Int × Int × Int × Int) := (spec_l20Open.f l0).bind fun aF => ((spec_l20Op.f k aF.1 aF.2 2).bind fun aB => (some (aB.1, aB.2.1, aB.2.2.1, aB.2.2.2.1, aB.2.2.2.2.1)))
theorem spec_DrawOpOk.mono : ∀ a0 k, LeO (spec_DrawOpOk.f k a0) (spec_DrawOpOk.f (k + 1) a0) := by
 intro a0 k
 unfold spec_DrawOpOk.f
 repeat' first
   | (with_reducible exact spec_l20Op.mono _ _ _ _)
   | (with_reducible exact LeO.refl _)
   | (with_reducible exact LeO.none _)
   | (with_reducible refine LeO.ite ?_ ?_)
   | (with_reducible refine LeO.bind ?_ (fun _ => ?_))
   | exact spec_l20Op.mono _ _ _ _
   | exact LeO.none _
   | refine LeO.ite ?_ ?_
   | refine LeO.bind ?_ (fun _ => ?_)
set_option maxHeartbeats 8000000 in
set_option maxRecDepth 100000 in
theorem spec_DrawOpOk.calls (k : Nat) (A0 : Option Addr) (c0 : Nat) (l0 : List Int) (r1 : Int) (r2 : Int) (r3 : Int) (r4 : Int) (r5 : Int) (w : World) (hr0 : Kd.C (Kd.int .u8) w A0 l0.length l0) (bD : l0.length ≤ c0) (h : spec_DrawOpOk.f k l0 = some (r1, r2, r3, r4, r5)) :
  Calls Try.prog 16 #[.slice A0 l0.length c0] w fun e w' => e = .returned (.agg #[.int .i64 r1, .int .i64 r2, .int .i64 r3, .int .i64 r4, .int .i64 r5]) ∧ Below w.heap.size w w' := by
 have hu29 := Try.underlying29
 have bF := Aside0.mk hr0
 have bE := Aside0.mk bD
 clear hr0 bD
 have HB := Aside0.mk (Below.refl w.heap.size w)
 have H : ((spec_l20Open.f l0).bind fun aF => ((spec_l20Op.f k aF.1 aF.2 2).bind fun aB => (some (aB.1, aB.2.1, aB.2.2.1, aB.2.2.2.1, aB.2.2.2.2.1)))) = some (r1, r2, r3, r4, r5) := h
 clear h
 replace H := Option.bind_eq_some_iff.mp H
 obtain ⟨⟨aH, aI⟩, aZ, H⟩ := H
 (try dsimp only at H)
 have A2 := Aside0.mk aZ
 clear aZ
 replace H := Option.bind_eq_some_iff.mp H
 obtain ⟨⟨aJ, aK, aL, aM, aN, aY⟩, bA, H⟩ := H
 (try dsimp only at H)
 have A3 := Aside0.mk bA
 clear bA
 simp only [Option.some.injEq, Prod.mk.injEq] at H
 obtain ⟨rfl, rfl, rfl, rfl, rfl⟩ := H
 go_enter Try.func16, Try.ntmps16
 go_wp2_with (first | ((with_reducible refine gate_dst (N := 2) rfl ?_); refine box_event rfl (N := 2) rfl (cs := #[.int .i64 0, .int .i64 0, .int .i64 0, .int .i64 0, .int .i64 0]) (t := 29) oS ?_; intro aC hg w4 hbox hb; have n_ := o2_ (below_step (oB HB) hb) (o2_ (hbox) (o2_ ((oG hg (below_size (oB HB)) : w.heap.size ≤ aC)) (o1_ ((oG hg (below_size (oB HB)) : w.heap.size ≤ aC))))); clear HB; obtain ⟨HB, aA, bC, bB⟩ := n_; clear hb hbox hg) | ((with_reducible refine gate_callee (f := 45) rfl ?_); refine goesL_ (some 4) rfl rfl Try.func45 oK rfl #[.slice A0 l0.length c0] rfl oA ?_; (with_reducible refine (spec_l20Open.calls _ _ l0 aH aI w _ ?side1 ?side2 ?side3 A2.out).mono ?_); (case side1 => exact oB HB); (case side2 => exact bF.out); (case side3 => exact bE.out); rintro e w5 ⟨g208, rfl, hi, hb, hb2⟩; refine ⟨_, rfl, ?_⟩; have n_ := o2_ (blk_below (oP aA) hb2) (o2_ (hb) (o2_ (hi) (o2_ (IsS82.ne_blk hi (blk_below (oP aA) hb2) oD) (o1_ (Ne.symm (IsS82.ne_blk hi (blk_below (oP aA) hb2) oD)))))); clear aA HB; obtain ⟨aA, HB, aE, aG, aD⟩ := n_; (try clear hb); (try clear hb2); (try clear hk); (try clear hi)) | ((with_reducible refine gate_callee (f := 44) rfl ?_); refine goesL_ (some 5) rfl rfl Try.func44 oK rfl #[.pointer (some ⟨g208, 0, none⟩), .int .i64 2] rfl oA ?_; (with_reducible refine (spec_l20Op.calls k g208 aH aI 2 aJ aK aL aM aN aY w _ ?side1 ?side2 A3.out).mono ?_); (case side1 => exact oI82 aE); (case side2 => exact oH HB (IsS82.ge aE.out)); rintro e w6 ⟨rfl, hi, hb, hk⟩; refine ⟨_, rfl, ?_⟩; have n_ := o2_ (oJ hk aA aD) (o2_ (hb) (o1_ (hi))); clear aA HB aE; obtain ⟨aA, HB, aE⟩ := n_; (try clear hb); (try clear hb2); (try clear hk); (try clear hi); have bG := aD.out; have bH := aG.out; have aO : w6.cell? ⟨aC, 0, none⟩ = some (.int .i64 0) := (blk_cell aA.out 0).trans rfl; have aP : w6.cell? ⟨aC, 1, none⟩ = some (.int .i64 0) := (blk_cell aA.out 1).trans rfl; have aQ : w6.cell? ⟨aC, 2, none⟩ = some (.int .i64 0) := (blk_cell aA.out 2).trans rfl; have aR : w6.cell? ⟨aC, 3, none⟩ = some (.int .i64 0) := (blk_cell aA.out 3).trans rfl; have aS : w6.cell? ⟨aC, 4, none⟩ = some (.int .i64 0) := (blk_cell aA.out 4).trans rfl; have aT := blk_frozen aA.out 0; have aU := blk_frozen aA.out 1; have aV := blk_frozen aA.out 2; have aW := blk_frozen aA.out 3; have aX := blk_frozen aA.out 4))
 refine bodyPost_ret (results_cell_row rfl _ _ aC 29 #[.int .i64 aJ, .int .i64 aK, .int .i64 aL, .int .i64 aM, .int .i64 aN] (0, 0) _ rfl (blk_put (blk_put (blk_put (blk_put (blk_put aA.out 0 _ rfl) 1 _ rfl) 2 _ rfl) 3 _ rfl) 4 _ rfl) Try.underlying29 rfl oK) rfl ?_
 exact ⟨by first | rfl | (simp [errW_none, errW_some] <;> rfl) | (simp [*, errW_none, errW_some] <;> rfl), oH HB (IsS82.ge aE.out)⟩

end Go.Proofs.Ytmkiajoanblkbaa.X
