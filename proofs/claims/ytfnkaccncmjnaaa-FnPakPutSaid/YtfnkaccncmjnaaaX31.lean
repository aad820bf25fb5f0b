/- What functions of the program come to, each with its proof. No condition but what each theorem states. -/
import Derived.Test.YtfnkaccncmjnaaaX0
import Derived.Test.YtfnkaccncmjnaaaX18
import Derived.Test.YtfnkaccncmjnaaaX19
namespace Go.Proofs.Ytfnkaccncmjnaaa.X
open Go.RowKit Go.Proofs.YtfnkaccncmjnaaaW.PrintWords Go.Proofs.YtfnkaccncmjnaaaW.PrintLast Go.Proofs.YtfnkaccncmjnaaaW.PrintMore Go.Proofs.Ytfnkaccncmjnaaa.Hyb
attribute [local go_sem] max2_int min2_int max_two min_two max_three min_three max_four min_four
set_option linter.unusedVariables false
set_option linter.unusedSimpArgs false

/-! ### spec_l20Bytes: function 46 -/
def spec_l20Bytes.l0 : Nat → List Int → Int → List Int → Int → Option (List Int × Int)
 | 0, _, _, _, _ => none
 | k + 1, x5, x6, x1000, x1001 => if x6 > 0 then ((spec_l20Rd_pick.f k x1000 x1001 256).bind fun aV => ((spec_l20Rd_pick.f k x1000 aV.2 4).bind fun aW => ((some (([aV.1, aW.1, 255] : List Int) : List Int)).bind fun aH => ((spec_l20Rd_pick.f k x1000 aW.2 3).bind fun aC => (if 0 ≤ aC.1 then (if aC.1 < (aH.length : Int) then (if x5.length < 140737488355328 then (spec_l20Bytes.l0 k (x5 ++ [(rd aH aC.1) % 256]) (wrap64 (x6 - 1)) x1000 aC.2) else (none)) else (none)) else (none)))))) else (some (x5, x1001))
def spec_l20Bytes.f (k : Nat) (s0_0 : List Int) (s0_1 : Int) (a1 : Int) : Option (List Int × Int) := (spec_l20Rd_pick.f k s0_0 s0_1 (wrap64 (a1 + 1))).bind fun aE => (spec_l20Bytes.l0 k (([] : List Int)) aE.1 s0_0 aE.2)
theorem spec_l20Bytes.mono_l : ∀ k, (∀ y0 y1 y2 y3, LeO (spec_l20Bytes.l0 k y0 y1 y2 y3) (spec_l20Bytes.l0 (k + 1) y0 y1 y2 y3))
 | 0 => (fun _ _ _ _ r h => nomatch (show none = some r from h))
 | k + 1 => by
  have ih0 := spec_l20Bytes.mono_l k
  ·intro y0 y1 y2 y3
   unfold spec_l20Bytes.l0
   repeat' first
   | (with_reducible exact ih0 _ _ _ _)
   | (with_reducible exact spec_l20Rd_pick.mono _ _ _ _)
   | (with_reducible exact LeO.refl _)
   | (with_reducible exact LeO.none _)
   | (with_reducible refine LeO.ite ?_ ?_)
   | (with_reducible refine LeO.bind ?_ (fun _ => ?_))
   | exact ih0 _ _ _ _
   | exact spec_l20Rd_pick.mono _ _ _ _
   | exact LeO.none _
   | refine LeO.ite ?_ ?_
   | refine LeO.bind ?_ (fun _ => ?_)
theorem spec_l20Bytes.mono : ∀ a0 a1 a2 k, LeO (spec_l20Bytes.f k a0 a1 a2) (spec_l20Bytes.f (k + 1) a0 a1 a2) := by
 intro a0 a1 a2 k
 have ih0 := spec_l20Bytes.mono_l k
 unfold spec_l20Bytes.f
 repeat' first
   | (with_reducible exact ih0 _ _ _ _)
   | (with_reducible exact spec_l20Rd_pick.mono _ _ _ _)
   | (with_reducible exact LeO.refl _)
   | (with_reducible exact LeO.none _)
   | (with_reducible refine LeO.ite ?_ ?_)
   | (with_reducible refine LeO.bind ?_ (fun _ => ?_))
   | exact ih0 _ _ _ _
   | exact spec_l20Rd_pick.mono _ _ _ _
   | exact LeO.none _
   | refine LeO.ite ?_ ?_
   | refine LeO.bind ?_ (fun _ => ?_)
set_option maxHeartbeats 8000000 in
set_option maxRecDepth 100000 in
theorem spec_l20Bytes.calls (k : Nat) (g : Nat) (s0_0 : List Int) (s0_1 : Int) (a1 : Int) (r1 : List Int) (r2 : Int) (w0 w : World) (hI : IsS89 w0 w g s0_0 s0_1) (hB : Below w0.heap.size w0 w) (h : spec_l20Bytes.f k s0_0 s0_1 a1 = some (r1, r2)) :
  Calls Try.prog 46 #[.pointer (some ⟨g, 0, none⟩), .int .i64 a1] w fun e w' => ∃ bT : Value, e = .returned (bT) ∧ Kd.R (Kd.int .u8) 5 w' w.heap.size (fun _ => True) bT r1 ∧ IsS89 w0 w' g s0_0 r2 ∧ Below w0.heap.size w0 w' ∧ KeepBut w w' g none := by
 have aA := Aside0.mk hI
 have HK := Aside0.mk (KeepBut.refl w g none)
 have HL := Aside0.mk hB.size
 clear hI
 have HW0 := Aside0.mk hB.size
 have HB := Aside0.mk hB
 clear hB
 have H : ((spec_l20Rd_pick.f k s0_0 s0_1 (wrap64 (a1 + 1))).bind fun aE => (spec_l20Bytes.l0 k (([] : List Int)) aE.1 s0_0 aE.2)) = some (r1, r2) := h
 clear h
 obtain ⟨y296, hy296⟩ : ∃ y_ : List Int, y_ = (([] : List Int)) := ⟨_, rfl⟩
 replace H : ((spec_l20Rd_pick.f k s0_0 s0_1 (wrap64 (a1 + 1))).bind fun aE => (spec_l20Bytes.l0 k y296 aE.1 s0_0 aE.2)) = some (r1, r2) := by first | (rw [hy296]; with_reducible exact H) | (have H2_ := (Option.bind_some _ _).symm.trans H; rw [hy296]; with_reducible exact H2_) | (have H2_ := (Option.bind_some _ _).symm.trans H; with_reducible exact H2_) | with_reducible exact H | (rw [hy296]; exact H) | exact H
 have aT := Aside0.mk hy296
 clear hy296
 replace H := Option.bind_eq_some_iff.mp H
 obtain ⟨⟨bE, bF⟩, bN, H⟩ := H
 (try dsimp only at H)
 have A3 := Aside0.mk bN
 clear bN
 have H' := Aside0.mk H
 clear H
 go_enter Try.func46, Try.ntmps46
 go_wp2_with (first | ((with_reducible refine gate_dst (N := 7) rfl ?_); refine Kd.R_lit (Kd.int .u8) _ 5 ?hg (N := 7) ?hd (xs := ([] : List Int)) (inner := []) (ok := fun _ => True) (okp := fun _ => True) ?hr ?hp (fun _ hk => hk) trivial (Below.refl _ _) (Nat.le_refl _) (by simp) ?_; (case hd => rfl); (case hg => rfl); (case hr => first | (go_simp; done) | (go_simp; rfl)); (case hp => exact (Reps.none _ _)); intro bX w4 ho5 hb hg_ hnew_; clear hg_ hnew_; (first | rw [← aT.out] at ho5 | (simp only [Int.reduceToNat] at ho5; rw [← aT.out] at ho5)); have n_ := o2_ (Kd.R_lower ho5 (keep_size (w := w) (g := g) (row := none) (oE HK))) (o2_ (IsS89.below (oI89 aA) hb) (o2_ (KeepBut.trans (oE HK) (KeepBut.of_below hb g none) (.inl rfl)) (o1_ (below_step (oH HB (IsS89.ge aA.out)) hb)))); clear aA HK HB; obtain ⟨aM, aA, HK, HB⟩ := n_; clear hb ho5) | ((with_reducible refine gate_callee (f := 40) rfl ?_); refine goesL_ (some 11) rfl rfl Try.func40 oK rfl #[.pointer (some ⟨g, 0, none⟩), .int .i64 (wrap64 (a1 + 1))] rfl oA ?_; (with_reducible refine (spec_l20Rd_pick.calls k g s0_0 s0_1 (wrap64 (a1 + 1)) bE bF w0 _ ?side1 ?side2 A3.out).mono ?_); (case side1 => exact oI89 aA); (case side2 => exact oH HB (IsS89.ge aA.out)); rintro e w6 ⟨rfl, hi, hb, hk⟩; refine ⟨_, rfl, ?_⟩; have n_ := o2_ (Kd.R_mono (Kd.R_keep (IsS89.apart (show IsS89 w0 _ g s0_0 s0_1 from oI89 aA) (oR aM) oD) hk (fun _ h => h.2)) (fun _ h => h.1)) (o2_ (KeepBut.trans (oE HK) hk (.inl rfl)) (o2_ (hb) (o1_ (hi)))); clear aM HK HB aA; obtain ⟨aM, HK, HB, aA⟩ := n_; (try clear hb); (try clear hb2); (try clear hk); (try clear hi)))
 go_loopg [5, 6] k (fun kq v5 v6 w' => ∃ (aK : List Int) (aI : Int) (aD : Int), v6 = .int .i64 aI ∧ Aside0 (spec_l20Bytes.l0 kq aK aI s0_0 aD = some (r1, r2)) ∧ Aside0 (kq ≤ k) ∧ Aside0 (Kd.R (Kd.int .u8) 5 w' w.heap.size (fun _ => True) v5 aK) ∧ Aside0 (IsS89 w0 w' g s0_0 aD) ∧ Aside0 (KeepBut w w' g none) ∧ Aside0 (Below w0.heap.size w0 w'))
 case atStart => exact ⟨(y296), (bE), (bF), oU, H', ⟨Nat.le_refl _⟩, ⟨(oR aM)⟩, ⟨(oI89 aA)⟩, ⟨(oE HK)⟩, ⟨(oH HB (IsS89.ge aA.out))⟩⟩
 case round =>
  clear H'
  try clear p2
  try clear c4
  try clear p6
  obtain ⟨aK, aI, aD, rfl, HA, HK1, aB, aA, HK, HB⟩ := hrel
  cases gk with
  | zero => exact nomatch (show none = some _ from HA.out)
  | succ k1 =>
   have H := HA.out
   clear HA
   simp only [spec_l20Bytes.l0] at H
   by_cases c7 : aI > 0
   ·rw [if_pos c7] at H
    have bK : decide (0 < aI) = true := decide_eq_true c7
    clear c7
    replace H := Option.bind_eq_some_iff.mp H
    obtain ⟨⟨aN, aZ⟩, bO, H⟩ := H
    (try dsimp only at H)
    have A8 := Aside0.mk bO
    clear bO
    replace H := Option.bind_eq_some_iff.mp H
    obtain ⟨⟨aQ, aR⟩, bP, H⟩ := H
    (try dsimp only at H)
    have A9 := Aside0.mk bP
    clear bP
    obtain ⟨aH, hy305⟩ : ∃ y_ : List Int, y_ = (([aN, aQ, 255] : List Int)) := ⟨_, rfl⟩
    replace H : ((spec_l20Rd_pick.f k1 s0_0 aR 3).bind fun aC => (if 0 ≤ aC.1 then (if aC.1 < (aH.length : Int) then (if aK.length < 140737488355328 then (spec_l20Bytes.l0 k1 (aK ++ [(rd aH aC.1) % 256]) (wrap64 (aI - 1)) s0_0 aC.2) else (none)) else (none)) else (none))) = some (r1, r2) := by first | (rw [hy305]; with_reducible exact H) | (have H2_ := (Option.bind_some _ _).symm.trans H; rw [hy305]; with_reducible exact H2_) | (have H2_ := (Option.bind_some _ _).symm.trans H; with_reducible exact H2_) | with_reducible exact H | (rw [hy305]; exact H) | exact H
    have aU := Aside0.mk hy305
    clear hy305
    replace H := Option.bind_eq_some_iff.mp H
    obtain ⟨⟨aG, bA⟩, bB, H⟩ := H
    (try dsimp only at H)
    have bU := Aside0.mk bB
    clear bB
    by_cases bG : 0 ≤ aG
    ·rw [if_pos bG] at H
     have bR : decide (0 ≤ aG) = true := decide_eq_true bG
     clear bG
     by_cases bH : aG < (aH.length : Int)
     ·rw [if_pos bH] at H
      have bS : decide (aG < (aH.length : Int)) = true := decide_eq_true bH
      clear bH
      by_cases bI : aK.length < 140737488355328
      ·rw [if_pos bI] at H
       have LMc13 := Aside0.mk bI
       clear bI
       obtain ⟨y311, hy311⟩ : ∃ y_ : List Int, y_ = (aK ++ [(rd aH aG) % 256]) := ⟨_, rfl⟩
       replace H : (spec_l20Bytes.l0 k1 y311 (wrap64 (aI - 1)) s0_0 bA) = some (r1, r2) := by first | (rw [hy311]; with_reducible exact H) | (have H2_ := (Option.bind_some _ _).symm.trans H; rw [hy311]; with_reducible exact H2_) | (have H2_ := (Option.bind_some _ _).symm.trans H; with_reducible exact H2_) | with_reducible exact H | (rw [hy311]; exact H) | exact H
       have bD := Aside0.mk hy311
       clear hy311
       have H' := Aside0.mk H
       clear H
       go_wp2_with (first | ((with_reducible refine gate_callee (f := 40) rfl ?_); refine goesL_ (some 18) rfl rfl Try.func40 oK rfl #[.pointer (some ⟨g, 0, none⟩), .int .i64 256] rfl oA ?_; (with_reducible refine (spec_l20Rd_pick.calls k1 g s0_0 aD 256 aN aZ w0 _ ?side1 ?side2 A8.out).mono ?_); (case side1 => exact oI89 aA); (case side2 => exact oH HB (IsS89.ge aA.out)); rintro e cA ⟨rfl, hi, hb, hk⟩; refine ⟨_, rfl, ?_⟩; have n_ := o2_ (Kd.R_mono (Kd.R_keep (IsS89.apart (show IsS89 w0 _ g s0_0 aD from oI89 aA) (oR aB) oD) hk (fun _ h => h.2)) (fun _ h => h.1)) (o2_ (KeepBut.trans (oE HK) hk (.inl rfl)) (o2_ (hb) (o1_ (hi)))); clear aB HK HB aA; obtain ⟨aB, HK, HB, aA⟩ := n_; (try clear hb); (try clear hb2); (try clear hk); (try clear hi)) | ((with_reducible refine gate_callee (f := 40) rfl ?_); refine goesL_ (some 20) rfl rfl Try.func40 oK rfl #[.pointer (some ⟨g, 0, none⟩), .int .i64 4] rfl oA ?_; (with_reducible refine (spec_l20Rd_pick.calls k1 g s0_0 aZ 4 aQ aR w0 _ ?side1 ?side2 A9.out).mono ?_); (case side1 => exact oI89 aA); (case side2 => exact oH HB (IsS89.ge aA.out)); rintro e cB ⟨rfl, hi, hb, hk⟩; refine ⟨_, rfl, ?_⟩; have n_ := o2_ (Kd.R_mono (Kd.R_keep (IsS89.apart (show IsS89 w0 _ g s0_0 aZ from oI89 aA) (oR aB) oD) hk (fun _ h => h.2)) (fun _ h => h.1)) (o2_ (KeepBut.trans (oE HK) hk (.inl rfl)) (o2_ (hb) (o1_ (hi)))); clear aB HK HB aA; obtain ⟨aB, HK, HB, aA⟩ := n_; (try clear hb); (try clear hb2); (try clear hk); (try clear hi)) | ((with_reducible refine gate_dst (N := 21) rfl ?_); refine Kd.R_lit (Kd.int .i64) _ 3 ?hg (N := 21) ?hd (xs := ([aN, aQ, 255] : List Int)) (inner := [.int .i64 aN, .int .i64 aQ, .int .i64 255]) (ok := fun _ => True) (okp := fun _ => True) ?hr ?hp (fun _ hk => hk) trivial (Below.refl _ _) (Nat.le_refl _) (by simp) ?_; (case hd => rfl); (case hg => rfl); (case hr => first | (go_simp; done) | (go_simp; rfl)); (case hp => exact (Reps.one (show Kd.M (Kd.int .i64) _ _ _ aN [.int .i64 aN] from rfl) (Reps.one (show Kd.M (Kd.int .i64) _ _ _ aQ [.int .i64 aQ] from rfl) (Reps.one (show Kd.M (Kd.int .i64) _ _ _ 255 [.int .i64 255] from rfl) (Reps.none _ _))))); intro bY cC ho17 hb hg_ hnew_; clear hg_ hnew_; (first | rw [← aU.out] at ho17 | (simp only [Int.reduceToNat] at ho17; rw [← aU.out] at ho17)); have n_ := o2_ (Kd.R_below (oR aB) hb) (o2_ (Kd.R_lower ho17 (keep_size (w := w) (g := g) (row := none) (oE HK))) (o2_ (IsS89.below (oI89 aA) hb) (o2_ (KeepBut.trans (oE HK) (KeepBut.of_below hb g none) (.inl rfl)) (o1_ (below_step (oH HB (IsS89.ge aA.out)) hb))))); clear aB aA HK HB; obtain ⟨aB, aJ, aA, HK, HB⟩ := n_; clear hb ho17) | ((with_reducible refine gate_callee (f := 40) rfl ?_); refine goesL_ (some 23) rfl rfl Try.func40 oK rfl #[.pointer (some ⟨g, 0, none⟩), .int .i64 3] rfl oA ?_; (with_reducible refine (spec_l20Rd_pick.calls k1 g s0_0 aR 3 aG bA w0 _ ?side1 ?side2 bU.out).mono ?_); (case side1 => exact oI89 aA); (case side2 => exact oH HB (IsS89.ge aA.out)); rintro e cD ⟨rfl, hi, hb, hk⟩; refine ⟨_, rfl, ?_⟩; have n_ := o2_ (Kd.R_mono (Kd.R_keep (IsS89.apart (show IsS89 w0 _ g s0_0 aR from oI89 aA) (oR aB) oD) hk (fun _ h => h.2)) (fun _ h => h.1)) (o2_ (Kd.R_mono (Kd.R_keep (IsS89.apart (show IsS89 w0 _ g s0_0 aR from oI89 aA) (oR aJ) oD) hk (fun _ h => h.2)) (fun _ h => h.1)) (o2_ (KeepBut.trans (oE HK) hk (.inl rfl)) (o2_ (hb) (o1_ (hi))))); clear aB aJ HK HB aA; obtain ⟨aB, aJ, HK, HB, aA⟩ := n_; (try clear hb); (try clear hb2); (try clear hk); (try clear hi); obtain ⟨bV, bW, bM⟩ := Kd.R_slice aJ.out; subst bM; have aX : 0 ≤ (aG : Int) := of_decide_eq_true oM; have aY : aG < (aH.length : Int) := of_decide_eq_true oM; obtain ⟨bQ, bL, bJ⟩ := Kd.at_int (Kd.R_reads' aJ.out).2.2 aG aX aY; cases bL; replace aX := eq_true aX; replace aY := eq_true aY) | ((with_reducible refine gate_builtin (b := .append) (xs := #[.tmp 16, .tmp 27]) rfl ?_); at_builtin; refine Kd.R_append (Kd.int .u8) w.heap.size rfl (.tmp 16) (.tmp 27) 24 5 (.int .u8 0) 1 rfl Try.underlying24 info5 rfl oD (by omega) u5 aK ((rd aH aG) % 256) [.int .u8 ((rd aH aG) % 256)] (fun _ => True) (fun _ => False) rfl rfl ?aP (fun _ hk => hk.elim) ?aF ?aO (Below.refl _ _) ?aS ?aL ?_; (case aP => exact rfl); (case aF => exact (fun _ _ => trivial)); (case aO => exact (oR aB)); (case aS => exact (keep_size (w := w) (g := g) (row := none) (oE HK))); (case aL => have := LMc13.out; omega); intro bZ cE ho hb hg hat; rw [← bD.out] at ho; have n_ := o2_ (IsS89.grownF aA.out (oI89 aA) hg (IsS89.own_ne aA.out aB.out oD)) (o2_ (below_weaken (oH HB (IsS89.ge aA.out)) HL.out hb) (o2_ (KeepBut.trans (oE HK) (KeepBut.of_grown hg g) (Kd.R_base2 aB.out)) (o1_ (ho)))); clear aA HB HK aB; obtain ⟨aA, HB, HK, bC⟩ := n_; clear ho hb hg hat))
       go_roundg k1
       case measure => have := HK1.out; omega
       case rel => exact ⟨(y311), (wrap64 (aI - 1)), (bA), oU, H', ⟨(by have := HK1.out; omega)⟩, ⟨(oR bC)⟩, ⟨(oI89 aA)⟩, ⟨(oE HK)⟩, ⟨(oH HB (IsS89.ge aA.out))⟩⟩
      ·rw [if_neg bI] at H
       exact absurd H (by simp)
     ·rw [if_neg bH] at H
      exact absurd H (by simp)
    ·rw [if_neg bG] at H
     exact absurd H (by simp)
   ·rw [if_neg c7] at H
    have bK : decide (0 < aI) = false := decide_eq_false c7
    clear c7
    simp only [Option.some.injEq, Prod.mk.injEq] at H
    obtain ⟨rfl, rfl⟩ := H
    go_wp2
    go_ret
    exact ⟨_, by first | rfl | (simp [errW_none, errW_some] <;> rfl) | (simp [*, errW_none, errW_some] <;> rfl), by (with_reducible repeat (first | apply Kd.R_alloc | apply Kd.R_drewN | apply Kd.R_drew)); exact aB.out, oI89 aA, oH HB (IsS89.ge aA.out), oE HK⟩

end Go.Proofs.Ytfnkaccncmjnaaa.X
