/- What functions of the program come to, each with its proof. No condition but what each theorem states. -/
import Derived.Test.YtjkaalcocgioaaaX0
import Derived.Test.YtjkaalcocgioaaaX18
import Derived.Test.YtjkaalcocgioaaaX19
import Derived.Test.YtjkaalcocgioaaaX20
import Derived.Test.YtjkaalcocgioaaaX21
namespace Go.Proofs.Ytjkaalcocgioaaa.X
open Go.RowKit Go.Proofs.YtjkaalcocgioaaaW.PrintWords Go.Proofs.YtjkaalcocgioaaaW.PrintLast Go.Proofs.YtjkaalcocgioaaaW.PrintMore Go.Proofs.Ytjkaalcocgioaaa.Hyb
attribute [local go_sem] max2_int min2_int max_two min_two max_three min_three max_four min_four
set_option linter.unusedVariables false
set_option linter.unusedSimpArgs false

/-! ### spec_DrawOpsFold: function 10 -/
mutual
def spec_DrawOpsFold.l0 : Nat → List (S25) → Int → List Int → Int → Int → Int → Int → Int → Int → Option ((List (S25)))
 | 0, _, _, _, _, _, _, _, _, _ => none
 | k + 1, x4, x6, x235000, x235001, x245000, x245001, x245002, x245003, x245004 => if x6 > 0 then ((spec_l20Rd_pick.f k x235000 x235001 2).bind fun cP => (if cP.1 = 0 then ((spec_l20Op.f k x235000 cP.2 0).bind fun aU => (if x4.length < 3518437208883 then (spec_DrawOpsFold.l0 k (x4 ++ [(⟨aU.1, aU.2.1, aU.2.2.1, aU.2.2.2.1, aU.2.2.2.2.1⟩ : S25)]) (wrap64 (x6 - 1)) x235000 aU.2.2.2.2.2 aU.1 aU.2.1 aU.2.2.1 aU.2.2.2.1 aU.2.2.2.2.1) else (none))) else (if x4.length < 3518437208883 then (spec_DrawOpsFold.l0 k (x4 ++ [(⟨x245000, x245001, x245002, x245003, x245004⟩ : S25)]) (wrap64 (x6 - 1)) x235000 cP.2 x245000 x245001 x245002 x245003 x245004) else (none)))) else ((spec_l20Rd_odd.f k x235000 x235001 6).bind fun cQ => (if cQ.1 = true then ((spec_l20Op.f k x235000 cQ.2 1).bind fun bH => (if x4.length < 3518437208883 then (spec_DrawOpsFold.j1 k (x4 ++ [(⟨bH.1, bH.2.1, bH.2.2.1, bH.2.2.2.1, bH.2.2.2.2.1⟩ : S25)]) x235000 bH.2.2.2.2.2) else (none))) else (spec_DrawOpsFold.j1 k x4 x235000 cQ.2)))
def spec_DrawOpsFold.j1 : Nat → List (S25) → List Int → Int → Option ((List (S25)))
 | 0, _, _, _ => none
 | k + 1, x4, x235000, x235001 => (spec_l20Rd_odd.f k x235000 x235001 9).bind fun eG => (if eG.1 = true then (spec_DrawOpsFold.l1 k x4) else (some x4))
def spec_DrawOpsFold.l1 : Nat → List (S25) → Option ((List (S25)))
 | 0, _ => none
 | k + 1, x4 => if (x4.length : Int) < 5 then (if x4.length < 3518437208883 then (spec_DrawOpsFold.l1 k (x4 ++ [(⟨4, 0, 0, 0, 0⟩ : S25)])) else (none)) else (some x4)
end
def spec_DrawOpsFold.f (k : Nat) (l0 : List Int) : Option ((List (S25))) := (spec_l20Open.f l0).bind fun aW => ((spec_l20Op.f k aW.1 aW.2 0).bind fun aT => ((spec_l20Rd_pick.f k aW.1 aT.2.2.2.2.2 6).bind fun aZ => (spec_DrawOpsFold.l0 k (([] : List (S25))) aZ.1 aW.1 aZ.2 aT.1 aT.2.1 aT.2.2.1 aT.2.2.2.1 aT.2.2.2.2.1)))
theorem spec_DrawOpsFold.mono_l : ∀ k, (∀ y0 y1 y2 y3 y4 y5 y6 y7 y8, LeO (spec_DrawOpsFold.l0 k y0 y1 y2 y3 y4 y5 y6 y7 y8) (spec_DrawOpsFold.l0 (k + 1) y0 y1 y2 y3 y4 y5 y6 y7 y8)) ∧ (∀ y0 y1 y2, LeO (spec_DrawOpsFold.j1 k y0 y1 y2) (spec_DrawOpsFold.j1 (k + 1) y0 y1 y2)) ∧ (∀ y0, LeO (spec_DrawOpsFold.l1 k y0) (spec_DrawOpsFold.l1 (k + 1) y0))
 | 0 => ⟨(fun _ _ _ _ _ _ _ _ _ r h => nomatch (show none = some r from h)), (fun _ _ _ r h => nomatch (show none = some r from h)), (fun _ r h => nomatch (show none = some r from h))⟩
 | k + 1 => by
  obtain ⟨ih0, ih1, ih2⟩ := spec_DrawOpsFold.mono_l k
  refine ⟨?_, ?_, ?_⟩
  ·intro y0 y1 y2 y3 y4 y5 y6 y7 y8
   unfold spec_DrawOpsFold.l0
   repeat' first
   | (with_reducible exact ih0 _ _ _ _ _ _ _ _ _)
   | (with_reducible exact ih1 _ _ _)
   | (with_reducible exact ih2 _)
   | (with_reducible exact spec_l20Op.mono _ _ _ _)
   | (with_reducible exact spec_l20Rd_odd.mono _ _ _ _)
   | (with_reducible exact spec_l20Rd_pick.mono _ _ _ _)
   | (with_reducible exact LeO.refl _)
   | (with_reducible exact LeO.none _)
   | (with_reducible refine LeO.ite ?_ ?_)
   | (with_reducible refine LeO.bind ?_ (fun _ => ?_))
   | exact ih0 _ _ _ _ _ _ _ _ _
   | exact ih1 _ _ _
   | exact ih2 _
   | exact spec_l20Op.mono _ _ _ _
   | exact spec_l20Rd_odd.mono _ _ _ _
   | exact spec_l20Rd_pick.mono _ _ _ _
   | exact LeO.none _
   | refine LeO.ite ?_ ?_
   | refine LeO.bind ?_ (fun _ => ?_)
  ·intro y0 y1 y2
   unfold spec_DrawOpsFold.j1
   repeat' first
   | (with_reducible exact ih0 _ _ _ _ _ _ _ _ _)
   | (with_reducible exact ih1 _ _ _)
   | (with_reducible exact ih2 _)
   | (with_reducible exact spec_l20Op.mono _ _ _ _)
   | (with_reducible exact spec_l20Rd_odd.mono _ _ _ _)
   | (with_reducible exact spec_l20Rd_pick.mono _ _ _ _)
   | (with_reducible exact LeO.refl _)
   | (with_reducible exact LeO.none _)
   | (with_reducible refine LeO.ite ?_ ?_)
   | (with_reducible refine LeO.bind ?_ (fun _ => ?_))
   | exact ih0 _ _ _ _ _ _ _ _ _
   | exact ih1 _ _ _
   | exact ih2 _
   | exact spec_l20Op.mono _ _ _ _
   | exact spec_l20Rd_odd.mono _ _ _ _
   | exact spec_l20Rd_pick.mono _ _ _ _
   | exact LeO.none _
   | refine LeO.ite ?_ ?_
   | refine LeO.bind ?_ (fun _ => ?_)
  ·intro y0
   unfold spec_DrawOpsFold.l1
   repeat' first
   | (with_reducible exact ih0 _ _ _ _ _ _ _ _ _)
   | (with_reducible exact ih1 _ _ _)
   | (with_reducible exact ih2 _)
   | (with_reducible exact spec_l20Op.mono _ _ _ _)
   | (with_reducible exact spec_l20Rd_odd.mono _ _ _ _)
   | (with_reducible exact spec_l20Rd_pick.mono _ _ _ _)
   | (with_reducible exact LeO.refl _)
   | (with_reducible exact LeO.none _)
   | (with_reducible refine LeO.ite ?_ ?_)
   | (with_reducible refine LeO.bind ?_ (fun _ => ?_))
   | exact ih0 _ _ _ _ _ _ _ _ _
   | exact ih1 _ _ _
   | exact ih2 _
   | exact spec_l20Op.mono _ _ _ _
   | exact spec_l20Rd_odd.mono _ _ _ _
   | exact spec_l20Rd_pick.mono _ _ _ _
   | exact LeO.none _
   | refine LeO.ite ?_ ?_
   | refine LeO.bind ?_ (fun _ => ?_)
theorem spec_DrawOpsFold.mono : ∀ a0 k, LeO (spec_DrawOpsFold.f k a0) (spec_DrawOpsFold.f (k + 1) a0) := by
 intro a0 k
 obtain ⟨ih0, ih1, ih2⟩ := spec_DrawOpsFold.mono_l k
 unfold spec_DrawOpsFold.f
 repeat' first
   | (with_reducible exact ih0 _ _ _ _ _ _ _ _ _)
   | (with_reducible exact ih1 _ _ _)
   | (with_reducible exact ih2 _)
   | (with_reducible exact spec_l20Op.mono _ _ _ _)
   | (with_reducible exact spec_l20Rd_odd.mono _ _ _ _)
   | (with_reducible exact spec_l20Rd_pick.mono _ _ _ _)
   | (with_reducible exact LeO.refl _)
   | (with_reducible exact LeO.none _)
   | (with_reducible refine LeO.ite ?_ ?_)
   | (with_reducible refine LeO.bind ?_ (fun _ => ?_))
   | exact ih0 _ _ _ _ _ _ _ _ _
   | exact ih1 _ _ _
   | exact ih2 _
   | exact spec_l20Op.mono _ _ _ _
   | exact spec_l20Rd_odd.mono _ _ _ _
   | exact spec_l20Rd_pick.mono _ _ _ _
   | exact LeO.none _
   | refine LeO.ite ?_ ?_
   | refine LeO.bind ?_ (fun _ => ?_)
set_option maxHeartbeats 8000000 in
set_option maxRecDepth 100000 in
theorem spec_DrawOpsFold.calls (k : Nat) (A0 : Option Addr) (c0 : Nat) (l0 : List Int) (r : List (S25)) (w : World) (hr0 : Kd.C (Kd.int .u8) w A0 l0.length l0) (fD : l0.length ≤ c0) (h : spec_DrawOpsFold.f k l0 = some r) :
  Calls Try.prog 10 #[.slice A0 l0.length c0] w fun e w' => ∃ fK : Value, e = .returned (fK) ∧ Kd.R k25 25 w' w.heap.size (fun _ => True) fK r ∧ Below w.heap.size w w' := by
 have hu25 := Try.underlying25
 have fQ := Aside0.mk hr0
 have fP := Aside0.mk fD
 clear hr0 fD
 have HB := Aside0.mk (Below.refl w.heap.size w)
 have H : ((spec_l20Open.f l0).bind fun aW => ((spec_l20Op.f k aW.1 aW.2 0).bind fun aT => ((spec_l20Rd_pick.f k aW.1 aT.2.2.2.2.2 6).bind fun aZ => (spec_DrawOpsFold.l0 k (([] : List (S25))) aZ.1 aW.1 aZ.2 aT.1 aT.2.1 aT.2.2.1 aT.2.2.2.1 aT.2.2.2.2.1)))) = some r := h
 clear h
 replace H := Option.bind_eq_some_iff.mp H
 obtain ⟨⟨aQ, dB⟩, eX, H⟩ := H
 (try dsimp only at H)
 have A2 := Aside0.mk eX
 clear eX
 obtain ⟨y235, hy235⟩ : ∃ y_ : List (S25), y_ = (([] : List (S25))) := ⟨_, rfl⟩
 replace H : ((spec_l20Op.f k aQ dB 0).bind fun aT => ((spec_l20Rd_pick.f k aQ aT.2.2.2.2.2 6).bind fun aZ => (spec_DrawOpsFold.l0 k y235 aZ.1 aQ aZ.2 aT.1 aT.2.1 aT.2.2.1 aT.2.2.2.1 aT.2.2.2.2.1))) = some r := by first | (rw [hy235]; with_reducible exact H) | (have H2_ := (Option.bind_some _ _).symm.trans H; rw [hy235]; with_reducible exact H2_) | (have H2_ := (Option.bind_some _ _).symm.trans H; with_reducible exact H2_) | with_reducible exact H | (rw [hy235]; exact H) | exact H
 have dI := Aside0.mk hy235
 clear hy235
 replace H := Option.bind_eq_some_iff.mp H
 obtain ⟨⟨dC, dD, dE, dF, dG, cU⟩, eY, H⟩ := H
 (try dsimp only at H)
 have A3 := Aside0.mk eY
 clear eY
 replace H := Option.bind_eq_some_iff.mp H
 obtain ⟨⟨eK, eL⟩, fA, H⟩ := H
 (try dsimp only at H)
 have A4 := Aside0.mk fA
 clear fA
 have H' := Aside0.mk H
 clear H
 go_enter Try.func10, Try.ntmps10
 go_wp2_with (first | ((with_reducible refine gate_callee (f := 23) rfl ?_); refine goesL_ (some 8) rfl rfl Try.func23 oK rfl #[.slice A0 l0.length c0] rfl oA ?_; (with_reducible refine (spec_l20Open.calls _ _ l0 aQ dB w _ ?side1 ?side2 ?side3 A2.out).mono ?_); (case side1 => exact oB HB); (case side2 => exact fQ.out); (case side3 => exact fP.out); rintro e w5 ⟨g234, rfl, hi, hb, hb2⟩; refine ⟨_, rfl, ?_⟩; have n_ := o2_ (hb) (o1_ (hi)); clear HB; obtain ⟨HB, aA⟩ := n_; (try clear hb); (try clear hb2); (try clear hk); (try clear hi)) | ((with_reducible refine gate_dst (N := 9) rfl ?_); refine Kd.R_lit k25 _ 25 ?hg (N := 9) ?hd (xs := ([] : List (S25))) (inner := []) (ok := fun _ => True) (okp := fun _ => True) ?hr ?hp (fun _ hk => hk) trivial (Below.refl _ _) (Nat.le_refl _) (by simp) ?_; (case hd => rfl); (case hg => rfl); (case hr => first | (go_simp; done) | (go_simp; rfl)); (case hp => exact (Reps.none _ _)); intro fS w6 ho7 hb hg_ hnew_; clear hg_ hnew_; (first | rw [← dI.out] at ho7 | (simp only [Int.reduceToNat] at ho7; rw [← dI.out] at ho7)); have n_ := o2_ (Kd.R_lower ho7 (below_size (oH HB (IsS59.ge aA.out)))) (o2_ (IsS59.below (oI59 aA) hb) (o1_ (below_step (oH HB (IsS59.ge aA.out)) hb))); clear aA HB; obtain ⟨aV, aA, HB⟩ := n_; clear hb ho7) | ((with_reducible refine gate_callee (f := 24) rfl ?_); refine goesL_ (some 11) rfl rfl Try.func24 oK rfl #[.pointer (some ⟨g234, 0, none⟩), .int .i64 0] rfl oA ?_; (with_reducible refine (spec_l20Op.calls k g234 aQ dB 0 dC dD dE dF dG cU w _ ?side1 ?side2 A3.out).mono ?_); (case side1 => exact oI59 aA); (case side2 => exact oH HB (IsS59.ge aA.out)); rintro e w8 ⟨rfl, hi, hb, hk⟩; refine ⟨_, rfl, ?_⟩; have n_ := o2_ (Kd.R_mono (Kd.R_keep (IsS59.apart (show IsS59 w _ g234 aQ dB from oI59 aA) (oR aV) oD) hk (fun _ h => h.2)) (fun _ h => h.1)) (o2_ (hb) (o1_ (hi))); clear aV HB aA; obtain ⟨aV, HB, aA⟩ := n_; (try clear hb); (try clear hb2); (try clear hk); (try clear hi)) | ((with_reducible refine gate_dst (N := 5) rfl ?_); refine box_event rfl (N := 5) rfl (cs := #[.int .i64 0, .int .i64 0, .int .i64 0, .int .i64 0, .int .i64 0]) (t := 25) oS ?_; intro aD hg w9 hbox hb; have n_ := o2_ (Kd.R_below (Kd.R_elderB (oR aV) aD (Nat.le_of_eq hg.symm)) hb) (o2_ (IsS59.below (oI59 aA) hb) (o2_ (below_step (oH HB (IsS59.ge aA.out)) hb) (o2_ (hbox) (o2_ ((oG hg (below_size (oH HB (IsS59.ge aA.out))) : w.heap.size ≤ aD)) (o2_ ((oG hg (below_size (oH HB (IsS59.ge aA.out))) : w.heap.size ≤ aD)) (o2_ ((by rw [hg]; exact Nat.ne_of_lt (IsS59.lt (show IsS59 w _ g234 aQ cU from oI59 aA)) : g234 ≠ aD)) (o1_ ((by rw [hg]; exact Nat.ne_of_gt (IsS59.lt (show IsS59 w _ g234 aQ cU from oI59 aA)) : aD ≠ g234))))))))); clear aV aA HB; obtain ⟨aV, aA, HB, aC, fC, fB, aX, aM⟩ := n_; clear hb hbox hg; have fE := aM.out; have fH := aX.out; have bI : w9.cell? ⟨aD, 0, none⟩ = some (.int .i64 0) := (blk_cell aC.out 0).trans rfl; have bJ : w9.cell? ⟨aD, 1, none⟩ = some (.int .i64 0) := (blk_cell aC.out 1).trans rfl; have bK : w9.cell? ⟨aD, 2, none⟩ = some (.int .i64 0) := (blk_cell aC.out 2).trans rfl; have bL : w9.cell? ⟨aD, 3, none⟩ = some (.int .i64 0) := (blk_cell aC.out 3).trans rfl; have bM : w9.cell? ⟨aD, 4, none⟩ = some (.int .i64 0) := (blk_cell aC.out 4).trans rfl; have bN := blk_frozen aC.out 0; have bO := blk_frozen aC.out 1; have bP := blk_frozen aC.out 2; have bQ := blk_frozen aC.out 3; have bR := blk_frozen aC.out 4) | ((with_reducible refine gate_callee (f := 25) rfl ?_); refine goesL_ (some 13) rfl rfl Try.func25 oK rfl #[.pointer (some ⟨g234, 0, none⟩), .int .i64 6] rfl oA ?_; (with_reducible refine (spec_l20Rd_pick.calls k g234 aQ cU 6 eK eL w _ ?side1 ?side2 A4.out).mono ?_); (case side1 => exact oI59 aA); (case side2 => exact oH HB (IsS59.ge aA.out)); rintro e fX ⟨rfl, hi, hb, hk⟩; refine ⟨_, rfl, ?_⟩; have n_ := o2_ (Kd.R_mono (Kd.R_keep (IsS59.apart (show IsS59 w _ g234 aQ cU from oI59 aA) (by (with_reducible repeat (first | apply Kd.R_alloc | apply Kd.R_drewN | apply Kd.R_drew)); exact (Kd.R_mono (Kd.R_far (p := ⟨aD, 4, none⟩) (Kd.R_far (p := ⟨aD, 3, none⟩) (Kd.R_far (p := ⟨aD, 2, none⟩) (Kd.R_far (p := ⟨aD, 1, none⟩) (Kd.R_far (p := ⟨aD, 0, none⟩) (Kd.R_mono aV.out (fun k_ hk => (⟨hk, hk.2⟩ : _ ∧ k_ ≠ aD))) (fun _ hk => hk.2) (.int .i64 dC)) (fun _ hk => hk.2) (.int .i64 dD)) (fun _ hk => hk.2) (.int .i64 dE)) (fun _ hk => hk.2) (.int .i64 dF)) (fun _ hk => hk.2) (.int .i64 dG)) (fun _ h_ => h_.1))) oD) hk (fun _ h => h.2)) (fun _ h => h.1)) (o2_ (KeepBut.blk hk (g' := aD) (o := .cells #[.int .i64 dC, .int .i64 dD, .int .i64 dE, .int .i64 dF, .int .i64 dG] 25 (0, 0)) (blk_put (blk_put (blk_put (blk_put (blk_put aC.out 0 _ rfl) 1 _ rfl) 2 _ rfl) 3 _ rfl) 4 _ rfl) aM.out (by simp)) (o2_ (hb) (o1_ (hi)))); clear aV aC HB aA; obtain ⟨aV, aC, HB, aA⟩ := n_; (try clear hb); (try clear hb2); (try clear hk); (try clear hi)))
 try simp only [Act.put, List.setIfInBounds_toArray, List.set_cons_zero, List.set_cons_succ]
 go_loopg [4, 6] k (fun kq v4 v6 w' => ∃ (aY : List (S25)) (bG : Int) (aN : Int) (aE : Int) (aG : Int) (aH : Int) (aI : Int) (aJ : Int), v6 = .int .i64 bG ∧ Aside0 (spec_DrawOpsFold.l0 kq aY bG aQ aN aE aG aH aI aJ = some r) ∧ Aside0 (kq ≤ k) ∧ Aside0 (Kd.R k25 25 w' w.heap.size (fun k_ => k_ ≠ aD) v4 aY) ∧ Aside0 (w'.heap[aD]? = some (.cells #[.int .i64 aE, .int .i64 aG, .int .i64 aH, .int .i64 aI, .int .i64 aJ] 25 (0, 0))) ∧ Aside0 (IsS59 w w' g234 aQ aN) ∧ Aside0 (Below w.heap.size w w'))
 case atStart => exact ⟨(y235), (eK), (eL), (dC), (dD), (dE), (dF), (dG), oU, H', ⟨Nat.le_refl _⟩, ⟨(by (with_reducible repeat (first | apply Kd.R_alloc | apply Kd.R_drewN | apply Kd.R_drew)); exact Kd.R_mono aV.out (fun _ hk => hk.2))⟩, ⟨(oP aC)⟩, ⟨(oI59 aA)⟩, ⟨(oH HB (IsS59.ge aA.out))⟩⟩
 case round =>
  clear H'
  try clear c1
  try clear c2
  try clear p2
  try clear c10
  try clear bI
  try clear bJ
  try clear bK
  try clear bL
  try clear bM
  try clear bN
  try clear bO
  try clear bP
  try clear bQ
  try clear bR
  obtain ⟨aY, bG, aN, aE, aG, aH, aI, aJ, rfl, HA, HK1, aK, aC, aA, HB⟩ := hrel
  cases gk with
  | zero => exact nomatch (show none = some _ from HA.out)
  | succ k1 =>
   have H := HA.out
   clear HA
   simp only [spec_DrawOpsFold.l0] at H
   by_cases dJ : bG > 0
   ·rw [if_pos dJ] at H
    have cR : decide (0 < bG) = true := decide_eq_true dJ
    clear dJ
    replace H := Option.bind_eq_some_iff.mp H
    obtain ⟨⟨bS, cO⟩, dS, H⟩ := H
    (try dsimp only at H)
    have eW := Aside0.mk dS
    clear dS
    by_cases dA : bS = 0
    ·rw [if_pos dA] at H
     have cS : (bS == 0) = true := beq_iff_eq.mpr dA
     have cT : (bS != 0) = false := bne_eq_false_iff_eq.mpr dA
     clear dA
     replace H := Option.bind_eq_some_iff.mp H
     obtain ⟨⟨bB, bC, bD, bE, bF, dL⟩, dT, H⟩ := H
     (try dsimp only at H)
     have fL := Aside0.mk dT
     clear dT
     by_cases dN : aY.length < 3518437208883
     ·rw [if_pos dN] at H
      have LMc17 := Aside0.mk dN
      clear dN
      obtain ⟨y255, hy255⟩ : ∃ y_ : List (S25), y_ = (aY ++ [(⟨bB, bC, bD, bE, bF⟩ : S25)]) := ⟨_, rfl⟩
      replace H : (spec_DrawOpsFold.l0 k1 y255 (wrap64 (bG - 1)) aQ dL bB bC bD bE bF) = some r := by first | (rw [hy255]; with_reducible exact H) | (have H2_ := (Option.bind_some _ _).symm.trans H; rw [hy255]; with_reducible exact H2_) | (have H2_ := (Option.bind_some _ _).symm.trans H; with_reducible exact H2_) | with_reducible exact H | (rw [hy255]; exact H) | exact H
      have eC := Aside0.mk hy255
      clear hy255
      have H' := Aside0.mk H
      clear H
      go_wp2_with (first | ((with_reducible refine gate_callee (f := 25) rfl ?_); refine goesL_ (some 19) rfl rfl Try.func25 oK rfl #[.pointer (some ⟨g234, 0, none⟩), .int .i64 2] rfl oA ?_; (with_reducible refine (spec_l20Rd_pick.calls k1 g234 aQ aN 2 bS cO w _ ?side1 ?side2 eW.out).mono ?_); (case side1 => exact oI59 aA); (case side2 => exact oH HB (IsS59.ge aA.out)); rintro e fY ⟨rfl, hi, hb, hk⟩; refine ⟨_, rfl, ?_⟩; have n_ := o2_ (Kd.R_mono (Kd.R_keep (IsS59.apart (show IsS59 w _ g234 aQ aN from oI59 aA) (oR aK) oD) hk (fun _ h => h.2)) (fun _ h => h.1)) (o2_ (oJ hk aC aM) (o2_ (hb) (o1_ (hi)))); clear aK aC HB aA; obtain ⟨aK, aC, HB, aA⟩ := n_; (try clear hb); (try clear hb2); (try clear hk); (try clear hi)) | ((with_reducible refine gate_callee (f := 24) rfl ?_); refine goesL_ (some 22) rfl rfl Try.func24 oK rfl #[.pointer (some ⟨g234, 0, none⟩), .int .i64 0] rfl oA ?_; (with_reducible refine (spec_l20Op.calls k1 g234 aQ cO 0 bB bC bD bE bF dL w _ ?side1 ?side2 fL.out).mono ?_); (case side1 => exact oI59 aA); (case side2 => exact oH HB (IsS59.ge aA.out)); rintro e eO ⟨rfl, hi, hb, hk⟩; refine ⟨_, rfl, ?_⟩; have n_ := o2_ (Kd.R_mono (Kd.R_keep (IsS59.apart (show IsS59 w _ g234 aQ cO from oI59 aA) (oR aK) oD) hk (fun _ h => h.2)) (fun _ h => h.1)) (o2_ (oJ hk aC aM) (o2_ (hb) (o1_ (hi)))); clear aK aC HB aA; obtain ⟨aK, aC, HB, aA⟩ := n_; (try clear hb); (try clear hb2); (try clear hk); (try clear hi); have fF := aM.out; have fI := aX.out; have bT : eO.cell? ⟨aD, 0, none⟩ = some (.int .i64 aE) := (blk_cell aC.out 0).trans rfl; have bU : eO.cell? ⟨aD, 1, none⟩ = some (.int .i64 aG) := (blk_cell aC.out 1).trans rfl; have bV : eO.cell? ⟨aD, 2, none⟩ = some (.int .i64 aH) := (blk_cell aC.out 2).trans rfl; have bW : eO.cell? ⟨aD, 3, none⟩ = some (.int .i64 aI) := (blk_cell aC.out 3).trans rfl; have bX : eO.cell? ⟨aD, 4, none⟩ = some (.int .i64 aJ) := (blk_cell aC.out 4).trans rfl; have cD := blk_frozen aC.out 0; have cE := blk_frozen aC.out 1; have cF := blk_frozen aC.out 2; have cG := blk_frozen aC.out 3; have cH := blk_frozen aC.out 4) | ((with_reducible refine gate_builtin (b := .append) (xs := #[.tmp 23, .tmp 25]) rfl ?_); at_builtin; refine Kd.R_append k25 (w0 := w) w.heap.size rfl (.tmp 23) (.tmp 25) 23 25 (.agg #[(.int .i64 0), (.int .i64 0), (.int .i64 0), (.int .i64 0), (.int .i64 0)]) 40 rfl Try.underlying23 info25 rfl oD (by omega) u4 aY (⟨bB, bC, bD, bE, bF⟩ : S25) [.int .i64 bB, .int .i64 bC, .int .i64 bD, .int .i64 bE, .int .i64 bF] (fun k_ => k_ ≠ aD) (fun _ => False) rfl oS ?aP (fun _ hk => hk.elim) ?aF ?aO ?aB ?aS ?aL ?_; (case aP => exact k25_mkM _ _ _ (⟨bB, bC, bD, bE, bF⟩ : S25)); (case aB => exact (oH HB (IsS59.ge aA.out))); (case aF => exact (fun k_ hk => Kd.freshB (g := aD) (o := .cells #[.int .i64 bB, .int .i64 bC, .int .i64 bD, .int .i64 bE, .int .i64 bF] 25 (0, 0)) (blk_put (blk_put (blk_put (blk_put (blk_put aC.out 0 _ rfl) 1 _ rfl) 2 _ rfl) 3 _ rfl) 4 _ rfl) k_ hk)); (case aO => exact (by (with_reducible repeat (first | apply Kd.R_alloc | apply Kd.R_drewN | apply Kd.R_drew)); exact Kd.R_mono (Kd.R_far (p := ⟨aD, 4, none⟩) (Kd.R_far (p := ⟨aD, 3, none⟩) (Kd.R_far (p := ⟨aD, 2, none⟩) (Kd.R_far (p := ⟨aD, 1, none⟩) (Kd.R_far (p := ⟨aD, 0, none⟩) (Kd.R_mono aK.out (fun k_ hk => (⟨hk, hk⟩ : _ ∧ k_ ≠ aD))) (fun _ hk => hk.2) (.int .i64 bB)) (fun _ hk => hk.2) (.int .i64 bC)) (fun _ hk => hk.2) (.int .i64 bD)) (fun _ hk => hk.2) (.int .i64 bE)) (fun _ hk => hk.2) (.int .i64 bF)) (fun _ hk => hk.1))); (case aS => exact (below_size (oH HB (IsS59.ge aA.out)))); (case aL => have := LMc17.out; omega); intro fT fZ ho hb hg hat; rw [← eC.out] at ho; have n_ := o2_ (blk_grown (g := aD) (o := .cells #[.int .i64 bB, .int .i64 bC, .int .i64 bD, .int .i64 bE, .int .i64 bF] 25 (0, 0)) (blk_put (blk_put (blk_put (blk_put (blk_put aC.out 0 _ rfl) 1 _ rfl) 2 _ rfl) 3 _ rfl) 4 _ rfl) hg (Kd.R_away aK.out (fun _ hk => hk))) (o2_ (IsS59.grownF aA.out (oI59 aA) hg (IsS59.own_ne aA.out aK.out oD)) (o2_ (hb) (o1_ (ho)))); clear aC aA HB aK; obtain ⟨aC, aA, HB, dY⟩ := n_; clear ho hb hg hat))
      go_roundg k1
      case measure => have := HK1.out; omega
      case rel => exact ⟨(y255), (wrap64 (bG - 1)), (dL), (bB), (bC), (bD), (bE), (bF), oU, H', ⟨(by have := HK1.out; omega)⟩, ⟨(oR dY)⟩, ⟨(oP aC)⟩, ⟨(oI59 aA)⟩, ⟨(oH HB (IsS59.ge aA.out))⟩⟩
     ·rw [if_neg dN] at H
      exact absurd H (by simp)
    ·rw [if_neg dA] at H
     have cS : (bS == 0) = false := beq_eq_false_iff_ne.mpr dA
     have cT : (bS != 0) = true := bne_iff_ne.mpr dA
     by_cases dO : aY.length < 3518437208883
     ·rw [if_pos dO] at H
      have LMc23 := Aside0.mk dO
      clear dO
      obtain ⟨y258, hy258⟩ : ∃ y_ : List (S25), y_ = (aY ++ [(⟨aE, aG, aH, aI, aJ⟩ : S25)]) := ⟨_, rfl⟩
      replace H : (spec_DrawOpsFold.l0 k1 y258 (wrap64 (bG - 1)) aQ cO aE aG aH aI aJ) = some r := by first | (rw [hy258]; with_reducible exact H) | (have H2_ := (Option.bind_some _ _).symm.trans H; rw [hy258]; with_reducible exact H2_) | (have H2_ := (Option.bind_some _ _).symm.trans H; with_reducible exact H2_) | with_reducible exact H | (rw [hy258]; exact H) | exact H
      have eD := Aside0.mk hy258
      clear hy258
      have H' := Aside0.mk H
      clear H
      go_wp2_with (first | ((with_reducible refine gate_callee (f := 25) rfl ?_); refine goesL_ (some 19) rfl rfl Try.func25 oK rfl #[.pointer (some ⟨g234, 0, none⟩), .int .i64 2] rfl oA ?_; (with_reducible refine (spec_l20Rd_pick.calls k1 g234 aQ aN 2 bS cO w _ ?side1 ?side2 eW.out).mono ?_); (case side1 => exact oI59 aA); (case side2 => exact oH HB (IsS59.ge aA.out)); rintro e eP ⟨rfl, hi, hb, hk⟩; refine ⟨_, rfl, ?_⟩; have n_ := o2_ (Kd.R_mono (Kd.R_keep (IsS59.apart (show IsS59 w _ g234 aQ aN from oI59 aA) (oR aK) oD) hk (fun _ h => h.2)) (fun _ h => h.1)) (o2_ (oJ hk aC aM) (o2_ (hb) (o1_ (hi)))); clear aK aC HB aA; obtain ⟨aK, aC, HB, aA⟩ := n_; (try clear hb); (try clear hb2); (try clear hk); (try clear hi); have fG := aM.out; have fJ := aX.out; have bY : eP.cell? ⟨aD, 0, none⟩ = some (.int .i64 aE) := (blk_cell aC.out 0).trans rfl; have bZ : eP.cell? ⟨aD, 1, none⟩ = some (.int .i64 aG) := (blk_cell aC.out 1).trans rfl; have cA : eP.cell? ⟨aD, 2, none⟩ = some (.int .i64 aH) := (blk_cell aC.out 2).trans rfl; have cB : eP.cell? ⟨aD, 3, none⟩ = some (.int .i64 aI) := (blk_cell aC.out 3).trans rfl; have cC : eP.cell? ⟨aD, 4, none⟩ = some (.int .i64 aJ) := (blk_cell aC.out 4).trans rfl; have cI := blk_frozen aC.out 0; have cJ := blk_frozen aC.out 1; have cK := blk_frozen aC.out 2; have cL := blk_frozen aC.out 3; have cM := blk_frozen aC.out 4) | ((with_reducible refine gate_builtin (b := .append) (xs := #[.tmp 23, .tmp 25]) rfl ?_); at_builtin; refine Kd.R_append k25 (w0 := w) w.heap.size rfl (.tmp 23) (.tmp 25) 23 25 (.agg #[(.int .i64 0), (.int .i64 0), (.int .i64 0), (.int .i64 0), (.int .i64 0)]) 40 rfl Try.underlying23 info25 rfl oD (by omega) u4 aY (⟨aE, aG, aH, aI, aJ⟩ : S25) [.int .i64 aE, .int .i64 aG, .int .i64 aH, .int .i64 aI, .int .i64 aJ] (fun k_ => k_ ≠ aD) (fun _ => False) rfl rfl ?aP (fun _ hk => hk.elim) ?aF ?aO ?aB ?aS ?aL ?_; (case aP => exact k25_mkM _ _ _ (⟨aE, aG, aH, aI, aJ⟩ : S25)); (case aB => exact (oH HB (IsS59.ge aA.out))); (case aF => exact (fun k_ hk => Kd.freshB (oP aC) k_ hk)); (case aO => exact (oR aK)); (case aS => exact (below_size (oH HB (IsS59.ge aA.out)))); (case aL => have := LMc23.out; omega); intro fU gA ho hb hg hat; rw [← eD.out] at ho; have n_ := o2_ (blk_grown (oP aC) hg (Kd.R_away aK.out (fun _ hk => hk))) (o2_ (IsS59.grownF aA.out (oI59 aA) hg (IsS59.own_ne aA.out aK.out oD)) (o2_ (hb) (o1_ (ho)))); clear aC aA HB aK; obtain ⟨aC, aA, HB, dZ⟩ := n_; clear ho hb hg hat))
      go_roundg k1
      case measure => have := HK1.out; omega
      case rel => exact ⟨(y258), (wrap64 (bG - 1)), (cO), (aE), (aG), (aH), (aI), (aJ), oU, H', ⟨(by have := HK1.out; omega)⟩, ⟨(oR dZ)⟩, ⟨(oP aC)⟩, ⟨(oI59 aA)⟩, ⟨(oH HB (IsS59.ge aA.out))⟩⟩
     ·rw [if_neg dO] at H
      exact absurd H (by simp)
   ·rw [if_neg dJ] at H
    have cR : decide (0 < bG) = false := decide_eq_false dJ
    clear dJ
    replace H := Option.bind_eq_some_iff.mp H
    obtain ⟨⟨eM, dH⟩, dU, H⟩ := H
    (try dsimp only at H)
    have fM := Aside0.mk dU
    clear dU
    have dK := Aside0.mk H
    clear H
    go_upto_if 28 with (first | ((with_reducible refine gate_callee (f := 26) rfl ?_); refine goesL_ (some 28) rfl rfl Try.func26 oK rfl #[.pointer (some ⟨g234, 0, none⟩), .int .i64 6] rfl oA ?_; (with_reducible refine (spec_l20Rd_odd.calls k1 g234 aQ aN 6 eM dH w _ ?side1 ?side2 fM.out).mono ?_); (case side1 => exact oI59 aA); (case side2 => exact oH HB (IsS59.ge aA.out)); rintro e gB ⟨rfl, hi, hb, hk⟩; refine ⟨_, rfl, ?_⟩; have n_ := o2_ (Kd.R_mono (Kd.R_keep (IsS59.apart (show IsS59 w _ g234 aQ aN from oI59 aA) (oR aK) oD) hk (fun _ h => h.2)) (fun _ h => h.1)) (o2_ (oJ hk aC aM) (o2_ (hb) (o1_ (hi)))); clear aK aC HB aA; obtain ⟨aK, aC, HB, aA⟩ := n_; (try clear hb); (try clear hb2); (try clear hk); (try clear hi)))
    (try simp only [Act.put, List.setIfInBounds_toArray, List.set_cons_zero, List.set_cons_succ])
    go_cut [4] (fun v4 wc => ∃ (kq : Nat) (cN : List (S25)) (aR : Int), Aside0 (spec_DrawOpsFold.j1 kq cN aQ aR = some r) ∧ Aside0 (kq ≤ k1) ∧ Aside0 (Kd.R k25 25 wc w.heap.size (fun k_ => k_ ≠ aD) v4 cN) ∧ Aside0 (wc.heap[aD]? = some (.cells #[.int .i64 aE, .int .i64 aG, .int .i64 aH, .int .i64 aI, .int .i64 aJ] 25 (0, 0))) ∧ Aside0 (IsS59 w wc g234 aQ aR) ∧ Aside0 (Below w.heap.size w wc))
    case first =>
     have H := dK.out
     clear dK
     by_cases dP : eM = true
     ·subst dP
      rw [if_pos rfl] at H
      replace H := Option.bind_eq_some_iff.mp H
      obtain ⟨⟨cV, cW, cX, cY, cZ, dM⟩, dV, H⟩ := H
      (try dsimp only at H)
      have fN := Aside0.mk dV
      clear dV
      by_cases dQ : aY.length < 3518437208883
      ·rw [if_pos dQ] at H
       have LMc33 := Aside0.mk dQ
       clear dQ
       obtain ⟨y269, hy269⟩ : ∃ y_ : List (S25), y_ = (aY ++ [(⟨cV, cW, cX, cY, cZ⟩ : S25)]) := ⟨_, rfl⟩
       replace H : (spec_DrawOpsFold.j1 k1 y269 aQ dM) = some r := by first | (rw [hy269]; with_reducible exact H) | (have H2_ := (Option.bind_some _ _).symm.trans H; rw [hy269]; with_reducible exact H2_) | (have H2_ := (Option.bind_some _ _).symm.trans H; with_reducible exact H2_) | with_reducible exact H | (rw [hy269]; exact H) | exact H
       have eE := Aside0.mk hy269
       clear hy269
       have H' := Aside0.mk H
       clear H
       go_wp2_with (first | ((with_reducible refine gate_callee (f := 24) rfl ?_); refine goesL_ (some 31) rfl rfl Try.func24 oK rfl #[.pointer (some ⟨g234, 0, none⟩), .int .i64 1] rfl oA ?_; (with_reducible refine (spec_l20Op.calls k1 g234 aQ dH 1 cV cW cX cY cZ dM w _ ?side1 ?side2 fN.out).mono ?_); (case side1 => exact oI59 aA); (case side2 => exact oH HB (IsS59.ge aA.out)); rintro e gC ⟨rfl, hi, hb, hk⟩; refine ⟨_, rfl, ?_⟩; have n_ := o2_ (Kd.R_mono (Kd.R_keep (IsS59.apart (show IsS59 w _ g234 aQ dH from oI59 aA) (oR aK) oD) hk (fun _ h => h.2)) (fun _ h => h.1)) (o2_ (oJ hk aC aM) (o2_ (hb) (o1_ (hi)))); clear aK aC HB aA; obtain ⟨aK, aC, HB, aA⟩ := n_; (try clear hb); (try clear hb2); (try clear hk); (try clear hi)) | ((with_reducible refine gate_builtin (b := .append) (xs := #[.tmp 29, .tmp 32]) rfl ?_); at_builtin; refine Kd.R_append k25 (w0 := w) w.heap.size rfl (.tmp 29) (.tmp 32) 23 25 (.agg #[(.int .i64 0), (.int .i64 0), (.int .i64 0), (.int .i64 0), (.int .i64 0)]) 40 rfl Try.underlying23 info25 rfl oD (by omega) u4 aY (⟨cV, cW, cX, cY, cZ⟩ : S25) [.int .i64 cV, .int .i64 cW, .int .i64 cX, .int .i64 cY, .int .i64 cZ] (fun k_ => k_ ≠ aD) (fun _ => False) rfl rfl ?aP (fun _ hk => hk.elim) ?aF ?aO ?aB ?aS ?aL ?_; (case aP => exact k25_mkM _ _ _ (⟨cV, cW, cX, cY, cZ⟩ : S25)); (case aB => exact (oH HB (IsS59.ge aA.out))); (case aF => exact (fun k_ hk => Kd.freshB (oP aC) k_ hk)); (case aO => exact (oR aK)); (case aS => exact (below_size (oH HB (IsS59.ge aA.out)))); (case aL => have := LMc33.out; omega); intro fV gD ho hb hg hat; rw [← eE.out] at ho; have n_ := o2_ (blk_grown (oP aC) hg (Kd.R_away aK.out (fun _ hk => hk))) (o2_ (IsS59.grownF aA.out (oI59 aA) hg (IsS59.own_ne aA.out aK.out oD)) (o2_ (hb) (o1_ (ho)))); clear aC aA HB aK; obtain ⟨aC, aA, HB, eA⟩ := n_; clear ho hb hg hat))
       go_meet
       case rel => exact ⟨_, (y269), (dM), H', ⟨(by have := HK1.out; first | omega | exact Nat.le_refl _)⟩, ⟨(oR eA)⟩, ⟨(oP aC)⟩, ⟨(oI59 aA)⟩, ⟨(oH HB (IsS59.ge aA.out))⟩⟩
      ·rw [if_neg dQ] at H
       exact absurd H (by simp)
     ·replace dP := Bool.eq_false_iff.mpr dP
      subst dP
      rw [if_neg (show ¬ (false = true) by decide)] at H
      have H' := Aside0.mk H
      clear H
      go_wp2
      go_meet
      case rel => exact ⟨_, (aY), (dH), H', ⟨(by have := HK1.out; first | omega | exact Nat.le_refl _)⟩, ⟨(oR aK)⟩, ⟨(oP aC)⟩, ⟨(oI59 aA)⟩, ⟨(oH HB (IsS59.ge aA.out))⟩⟩
    case rest =>
     clear dK
     try clear c1
     try clear c2
     try clear p2
     try clear c3
     try clear p6
     try clear c10
     try clear dJ
     try clear cR
     try clear dA
     try clear cS
     try clear cT
     try clear dN
     try clear c20
     try clear dO
     try clear c24
     try clear c25
     try clear c26
     try clear dP
     try clear dQ
     try clear bI
     try clear bJ
     try clear bK
     try clear bL
     try clear bM
     try clear bT
     try clear bU
     try clear bV
     try clear bW
     try clear bX
     try clear bY
     try clear bZ
     try clear cA
     try clear cB
     try clear cC
     try clear bN
     try clear bO
     try clear bP
     try clear bQ
     try clear bR
     try clear cD
     try clear cE
     try clear cF
     try clear cG
     try clear cH
     try clear cI
     try clear cJ
     try clear cK
     try clear cL
     try clear cM
     try clear p2
     obtain ⟨kq, cN, aR, HA, dX, aK, aC, aA, HB⟩ := hcut
     cases kq with
     | zero => exact nomatch (show none = some _ from HA.out)
     | succ kj28 =>
      have H := HA.out
      clear HA
      simp only [spec_DrawOpsFold.j1] at H
      replace H := Option.bind_eq_some_iff.mp H
      obtain ⟨⟨eV, eN⟩, dW, H⟩ := H
      (try dsimp only at H)
      have eZ := Aside0.mk dW
      clear dW
      by_cases eH : eV = true
      ·subst eH
       rw [if_pos rfl] at H
       have H' := Aside0.mk H
       clear H
       go_wp2_with (first | ((with_reducible refine gate_callee (f := 26) rfl ?_); refine goesL_ (some 35) rfl rfl Try.func26 oK rfl #[.pointer (some ⟨g234, 0, none⟩), .int .i64 9] rfl oA ?_; (with_reducible refine (spec_l20Rd_odd.calls kj28 g234 aQ aR 9 true eN w _ ?side1 ?side2 eZ.out).mono ?_); (case side1 => exact oI59 aA); (case side2 => exact oH HB (IsS59.ge aA.out)); rintro e gE ⟨rfl, hi, hb, hk⟩; refine ⟨_, rfl, ?_⟩; have n_ := o2_ (Kd.R_mono (Kd.R_keep (IsS59.apart (show IsS59 w _ g234 aQ aR from oI59 aA) (oR aK) oD) hk (fun _ h => h.2)) (fun _ h => h.1)) (o2_ (oJ hk aC aM) (o2_ (hb) (o1_ (hi)))); clear aK aC HB aA; obtain ⟨aK, aC, HB, aA⟩ := n_; (try clear hb); (try clear hb2); (try clear hk); (try clear hi)))
       try simp only [Act.put, List.setIfInBounds_toArray, List.set_cons_zero, List.set_cons_succ]
       go_loopg [4] kj28 (fun kq v4 w' => ∃ (bA : List (S25)), Aside0 (spec_DrawOpsFold.l1 kq bA = some r) ∧ Aside0 (kq ≤ kj28) ∧ Aside0 (Kd.R k25 25 w' w.heap.size (fun k_ => k_ ≠ aD) v4 bA) ∧ Aside0 (w'.heap[aD]? = some (.cells #[.int .i64 aE, .int .i64 aG, .int .i64 aH, .int .i64 aI, .int .i64 aJ] 25 (0, 0))) ∧ Aside0 (Below w.heap.size w w'))
       case atStart => exact ⟨(cN), H', ⟨Nat.le_refl _⟩, ⟨(oR aK)⟩, ⟨(oP aC)⟩, ⟨(oH HB (IsS59.ge aA.out))⟩⟩
       case round =>
        clear H'
        try clear c1
        try clear c2
        try clear p2
        try clear c3
        try clear p6
        try clear c10
        try clear dJ
        try clear cR
        try clear dA
        try clear cS
        try clear cT
        try clear dN
        try clear c20
        try clear dO
        try clear c24
        try clear c25
        try clear c26
        try clear dP
        try clear dQ
        try clear eH
        try clear bI
        try clear bJ
        try clear bK
        try clear bL
        try clear bM
        try clear bT
        try clear bU
        try clear bV
        try clear bW
        try clear bX
        try clear bY
        try clear bZ
        try clear cA
        try clear cB
        try clear cC
        try clear bN
        try clear bO
        try clear bP
        try clear bQ
        try clear bR
        try clear cD
        try clear cE
        try clear cF
        try clear cG
        try clear cH
        try clear cI
        try clear cJ
        try clear cK
        try clear cL
        try clear cM
        try clear p2
        try clear p6
        obtain ⟨bA, HA, HK3, aK, aC, HB⟩ := hrel
        cases gk with
        | zero => exact nomatch (show none = some _ from HA.out)
        | succ k3 =>
         have H := HA.out
         clear HA
         simp only [spec_DrawOpsFold.l1] at H
         by_cases dR : (bA.length : Int) < 5
         ·rw [if_pos dR] at H
          have eI : decide ((bA.length : Int) < 5) = true := decide_eq_true dR
          have eJ : decide (bA.length < 5) = true := decide_eq_true (by omega)
          clear dR
          by_cases eQ : bA.length < 3518437208883
          ·rw [if_pos eQ] at H
           have LMc40 := Aside0.mk eQ
           clear eQ
           obtain ⟨y274, hy274⟩ : ∃ y_ : List (S25), y_ = (bA ++ [(⟨4, 0, 0, 0, 0⟩ : S25)]) := ⟨_, rfl⟩
           replace H : (spec_DrawOpsFold.l1 k3 y274) = some r := by first | (rw [hy274]; with_reducible exact H) | (have H2_ := (Option.bind_some _ _).symm.trans H; rw [hy274]; with_reducible exact H2_) | (have H2_ := (Option.bind_some _ _).symm.trans H; with_reducible exact H2_) | with_reducible exact H | (rw [hy274]; exact H) | exact H
           have eF := Aside0.mk hy274
           clear hy274
           have H' := Aside0.mk H
           clear H
           obtain ⟨eR, eS, eT⟩ := Kd.R_slice aK.out
           subst eT
           go_wp2_with (first | ((with_reducible refine gate_builtin (b := .append) (xs := #[.tmp 39, .tmp 41]) rfl ?_); at_builtin; refine Kd.R_append k25 (w0 := w) w.heap.size rfl (.tmp 39) (.tmp 41) 23 25 (.agg #[(.int .i64 0), (.int .i64 0), (.int .i64 0), (.int .i64 0), (.int .i64 0)]) 40 rfl Try.underlying23 info25 rfl oD (by omega) (.slice eR bA.length eS) bA (⟨4, 0, 0, 0, 0⟩ : S25) [.int .i64 4, .int .i64 0, .int .i64 0, .int .i64 0, .int .i64 0] (fun k_ => k_ ≠ aD) (fun _ => False) rfl rfl ?aP (fun _ hk => hk.elim) ?aF ?aO ?aB ?aS ?aL ?_; (case aP => exact k25_mkM _ _ _ (⟨4, 0, 0, 0, 0⟩ : S25)); (case aB => exact (oB HB)); (case aF => exact (fun k_ hk => Kd.freshB (oP aC) k_ hk)); (case aO => exact (oR aK)); (case aS => exact (below_size (oB HB))); (case aL => have := LMc40.out; omega); intro fW gF ho hb hg hat; rw [← eF.out] at ho; have n_ := o2_ (blk_grown (oP aC) hg (Kd.R_away aK.out (fun _ hk => hk))) (o2_ (hb) (o1_ (ho))); clear aC HB aK; obtain ⟨aC, HB, eB⟩ := n_; clear ho hb hg hat))
           go_roundg k3
           case measure => have := HK1.out; have := dX.out; have := HK3.out; omega
           case rel => exact ⟨(y274), H', ⟨(by have := HK1.out; have := dX.out; have := HK3.out; omega)⟩, ⟨(oR eB)⟩, ⟨(oP aC)⟩, ⟨(oB HB)⟩⟩
          ·rw [if_neg eQ] at H
           exact absurd H (by simp)
         ·rw [if_neg dR] at H
          have eI : decide ((bA.length : Int) < 5) = false := decide_eq_false dR
          have eJ : decide (bA.length < 5) = false := decide_eq_false (by omega)
          clear dR
          obtain rfl := Option.some.inj H
          obtain ⟨fO, fR, eU⟩ := Kd.R_slice aK.out
          subst eU
          go_wp2
          go_ret
          exact ⟨_, by first | rfl | (simp [errW_none, errW_some] <;> rfl) | (simp [*, errW_none, errW_some] <;> rfl), by (with_reducible repeat (first | apply Kd.R_alloc | apply Kd.R_drewN | apply Kd.R_drew)); exact Kd.R_mono aK.out (fun _ hk => trivial), oB HB⟩
      ·replace eH := Bool.eq_false_iff.mpr eH
       subst eH
       rw [if_neg (show ¬ (false = true) by decide)] at H
       obtain rfl := Option.some.inj H
       go_wp2_with (first | ((with_reducible refine gate_callee (f := 26) rfl ?_); refine goesL_ (some 35) rfl rfl Try.func26 oK rfl #[.pointer (some ⟨g234, 0, none⟩), .int .i64 9] rfl oA ?_; (with_reducible refine (spec_l20Rd_odd.calls kj28 g234 aQ aR 9 false eN w _ ?side1 ?side2 eZ.out).mono ?_); (case side1 => exact oI59 aA); (case side2 => exact oH HB (IsS59.ge aA.out)); rintro e gG ⟨rfl, hi, hb, hk⟩; refine ⟨_, rfl, ?_⟩; have n_ := o2_ (Kd.R_mono (Kd.R_keep (IsS59.apart (show IsS59 w _ g234 aQ aR from oI59 aA) (oR aK) oD) hk (fun _ h => h.2)) (fun _ h => h.1)) (o2_ (hb) (o1_ (hi))); clear aK HB aA; obtain ⟨aK, HB, aA⟩ := n_; (try clear hb); (try clear hb2); (try clear hk); (try clear hi)))
       go_ret
       exact ⟨_, by first | rfl | (simp [errW_none, errW_some] <;> rfl) | (simp [*, errW_none, errW_some] <;> rfl), by (with_reducible repeat (first | apply Kd.R_alloc | apply Kd.R_drewN | apply Kd.R_drew)); exact Kd.R_mono aK.out (fun _ hk => trivial), oH HB (IsS59.ge aA.out)⟩

end Go.Proofs.Ytjkaalcocgioaaa.X
