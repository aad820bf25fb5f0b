/- What functions of the program come to, each with its proof. No condition but what each theorem states. -/
import Derived.Test.YtjkaalcocgioaaaX0
import Derived.Test.YtjkaalcocgioaaaX1
import Derived.Test.YtjkaalcocgioaaaX14
namespace Go.Proofs.Ytjkaalcocgioaaa.X
open Go.RowKit Go.Proofs.YtjkaalcocgioaaaW.PrintWords Go.Proofs.YtjkaalcocgioaaaW.PrintLast Go.Proofs.YtjkaalcocgioaaaW.PrintMore Go.Proofs.Ytjkaalcocgioaaa.Hyb
attribute [local go_sem] max2_int min2_int max_two min_two max_three min_three max_four min_four
set_option linter.unusedVariables false
set_option linter.unusedSimpArgs false

attribute [local go_sem high] eqA25
/-! ### laws_FnFoldCrop: function 3 -/
def laws_FnFoldCrop.l0 : Nat → List Int → Int → Int → Int → Int → List (S25) → Int → Option (Bool)
 | 0, _, _, _, _, _, _, _ => none
 | k + 1, x0, x3, x4, x5, x6, x7, x8 => if x8 < (1 + ((x0.length : Int) % 5)) then (if (wrap64 (x8 + 1)) = 0 then (none) else (if (mn x3 2) = 0 then (none) else (if (wrap64 (x8 + 2)) = 0 then (none) else (if (mn x4 2) = 0 then (none) else (if x7.length < 3518437208883 then (laws_FnFoldCrop.l0 k x0 (wrap64 (x3 - (Int.tmod (wrap64 ((x0.length : Int) / (wrap64 (x8 + 1)))) (mn x3 2)))) (wrap64 (x4 - (Int.tmod (wrap64 ((x0.length : Int) / (wrap64 (x8 + 2)))) (mn x4 2)))) (wrap64 (x5 + (Int.tmod (wrap64 ((x0.length : Int) / (wrap64 (x8 + 1)))) (mn x3 2)))) (wrap64 (x6 + (Int.tmod (wrap64 ((x0.length : Int) / (wrap64 (x8 + 2)))) (mn x4 2)))) (x7 ++ [(⟨1, Int.tmod (wrap64 ((x0.length : Int) / (wrap64 (x8 + 1)))) (mn x3 2), Int.tmod (wrap64 ((x0.length : Int) / (wrap64 (x8 + 2)))) (mn x4 2), wrap64 (x3 - (Int.tmod (wrap64 ((x0.length : Int) / (wrap64 (x8 + 1)))) (mn x3 2))), wrap64 (x4 - (Int.tmod (wrap64 ((x0.length : Int) / (wrap64 (x8 + 2)))) (mn x4 2)))⟩ : S25)]) (wrap64 (x8 + 1))) else (none)))))) else ((impl_OpsFold.f k x7).bind fun aD => (if (aD.length : Int) = 1 then (if 0 < (aD.length : Int) then (some (((rd_T25 aD 0).f0) == 1 && (((rd_T25 aD 0).f1) == x5 && (((rd_T25 aD 0).f2) == x6 && (((rd_T25 aD 0).f3) == x3 && (((rd_T25 aD 0).f4) == x4)))))) else (none)) else (none)))
def laws_FnFoldCrop.f (k : Nat) (l0 : List Int) : Option (Bool) := if (l0.length : Int) > 1048576 then (some true) else (laws_FnFoldCrop.l0 k l0 6 6 0 0 (([] : List (S25))) 0)
theorem laws_FnFoldCrop.mono_l : ∀ k, (∀ y0 y1 y2 y3 y4 y5 y6, LeO (laws_FnFoldCrop.l0 k y0 y1 y2 y3 y4 y5 y6) (laws_FnFoldCrop.l0 (k + 1) y0 y1 y2 y3 y4 y5 y6))
 | 0 => (fun _ _ _ _ _ _ _ r h => nomatch (show none = some r from h))
 | k + 1 => by
  have ih0 := laws_FnFoldCrop.mono_l k
  ·intro y0 y1 y2 y3 y4 y5 y6
   unfold laws_FnFoldCrop.l0
   repeat' first
   | (with_reducible exact ih0 _ _ _ _ _ _ _)
   | (with_reducible exact impl_OpsFold.mono _ _)
   | (with_reducible exact LeO.refl _)
   | (with_reducible exact LeO.none _)
   | (with_reducible refine LeO.ite ?_ ?_)
   | (with_reducible refine LeO.bind ?_ (fun _ => ?_))
   | exact ih0 _ _ _ _ _ _ _
   | exact impl_OpsFold.mono _ _
   | exact LeO.none _
   | refine LeO.ite ?_ ?_
   | refine LeO.bind ?_ (fun _ => ?_)
theorem laws_FnFoldCrop.mono : ∀ a0 k, LeO (laws_FnFoldCrop.f k a0) (laws_FnFoldCrop.f (k + 1) a0) := by
 intro a0 k
 have ih0 := laws_FnFoldCrop.mono_l k
 unfold laws_FnFoldCrop.f
 repeat' first
   | (with_reducible exact ih0 _ _ _ _ _ _ _)
   | (with_reducible exact impl_OpsFold.mono _ _)
   | (with_reducible exact LeO.refl _)
   | (with_reducible exact LeO.none _)
   | (with_reducible refine LeO.ite ?_ ?_)
   | (with_reducible refine LeO.bind ?_ (fun _ => ?_))
   | exact ih0 _ _ _ _ _ _ _
   | exact impl_OpsFold.mono _ _
   | exact LeO.none _
   | refine LeO.ite ?_ ?_
   | refine LeO.bind ?_ (fun _ => ?_)
set_option maxHeartbeats 8000000 in
set_option maxRecDepth 100000 in
theorem laws_FnFoldCrop.calls (k : Nat) (A0 : Option Addr) (c0 : Nat) (l0 : List Int) (r : Bool) (w : World) (hr0 : Kd.C (Kd.int .u8) w A0 l0.length l0) (bH : l0.length ≤ c0) (h : laws_FnFoldCrop.f k l0 = some r) :
  Calls Try.prog 3 #[.slice A0 l0.length c0] w fun e w' => e = .returned (.bool r) ∧ Below w.heap.size w w' := by
 have hu25 := Try.underlying25
 have cK := Aside0.mk hr0
 have cJ := Aside0.mk bH
 clear hr0 bH
 have HB := Aside0.mk (Below.refl w.heap.size w)
 have H : (if (l0.length : Int) > 1048576 then (some true) else (laws_FnFoldCrop.l0 k l0 6 6 0 0 (([] : List (S25))) 0)) = some r := h
 clear h
 by_cases c2 : (l0.length : Int) > 1048576
 ·rw [if_pos c2] at H
  have bC : decide (1048576 < (l0.length : Int)) = true := decide_eq_true c2
  have bD : decide (1048576 < l0.length) = true := decide_eq_true (by omega)
  clear c2
  obtain rfl := Option.some.inj H
  go_enter Try.func3, Try.ntmps3
  go_wp2
  go_ret
  exact ⟨by first | rfl | (simp [errW_none, errW_some] <;> rfl) | (simp [*, errW_none, errW_some] <;> rfl), oB HB⟩
 ·rw [if_neg c2] at H
  have bC : decide (1048576 < (l0.length : Int)) = false := decide_eq_false c2
  have bD : decide (1048576 < l0.length) = false := decide_eq_false (by omega)
  clear c2
  obtain ⟨y128, hy128⟩ : ∃ y_ : List (S25), y_ = (([] : List (S25))) := ⟨_, rfl⟩
  replace H : (laws_FnFoldCrop.l0 k l0 6 6 0 0 y128 0) = some r := by first | (rw [hy128]; with_reducible exact H) | (have H2_ := (Option.bind_some _ _).symm.trans H; rw [hy128]; with_reducible exact H2_) | (have H2_ := (Option.bind_some _ _).symm.trans H; with_reducible exact H2_) | with_reducible exact H | (rw [hy128]; exact H) | exact H
  have aU := Aside0.mk hy128
  clear hy128
  have H' := Aside0.mk H
  clear H
  go_enter Try.func3, Try.ntmps3
  go_wp2_with (first | ((with_reducible refine gate_dst (N := 15) rfl ?_); refine Kd.R_lit k25 _ 25 ?hg (N := 15) ?hd (xs := ([] : List (S25))) (inner := []) (ok := fun _ => True) (okp := fun _ => True) ?hr ?hp (fun _ hk => hk) trivial (Below.refl _ _) (Nat.le_refl _) (by simp) ?_; (case hd => rfl); (case hg => rfl); (case hr => first | (go_simp; done) | (go_simp; rfl)); (case hp => exact (Reps.none _ _)); intro cG w3 ho4 hb hg_ hnew_; clear hg_ hnew_; (first | rw [← aU.out] at ho4 | (simp only [Int.reduceToNat] at ho4; rw [← aU.out] at ho4)); have n_ := o2_ (Kd.R_lower ho4 (below_size (oB HB))) (o1_ (below_step (oB HB) hb)); clear HB; obtain ⟨aY, HB⟩ := n_; clear hb ho4))
  go_loopg [3, 4, 5, 6, 7, 8] k (fun kq v3 v4 v5 v6 v7 v8 w' => ∃ (aE : Int) (aC : Int) (aN : Int) (aQ : Int) (aG : List (S25)) (aA : Int), v3 = .int .i64 aE ∧ v4 = .int .i64 aC ∧ v5 = .int .i64 aN ∧ v6 = .int .i64 aQ ∧ v8 = .int .i64 aA ∧ Aside0 (laws_FnFoldCrop.l0 kq l0 aE aC aN aQ aG aA = some r) ∧ Aside0 (kq ≤ k) ∧ Aside0 (Kd.R k25 25 w' w.heap.size (fun _ => True) v7 aG) ∧ Aside0 (Below w.heap.size w w'))
  case atStart => exact ⟨(6), (6), (0), (0), (y128), (0), oU, oU, oU, oU, oU, H', ⟨Nat.le_refl _⟩, ⟨(oR aY)⟩, ⟨(oB HB)⟩⟩
  case round =>
   clear H'
   try clear c2
   try clear bC
   try clear bD
   try clear p2
   try clear c3
   obtain ⟨aE, aC, aN, aQ, aG, aA, rfl, rfl, rfl, rfl, rfl, HA, HK1, aR, HB⟩ := hrel
   cases gk with
   | zero => exact nomatch (show none = some _ from HA.out)
   | succ k1 =>
    have H := HA.out
    clear HA
    simp only [laws_FnFoldCrop.l0] at H
    by_cases c5 : aA < (1 + ((l0.length : Int) % 5))
    ·rw [if_pos c5] at H
     have bJ : decide (aA < (1 + ((l0.length : Int) % 5))) = true := decide_eq_true c5
     clear c5
     by_cases c6 : (wrap64 (aA + 1)) = 0
     ·rw [if_pos c6] at H
      exact absurd H (by simp)
     ·rw [if_neg c6] at H
      have bZ : ((wrap64 (aA + 1)) == 0) = false := beq_eq_false_iff_ne.mpr c6
      have cA : ((wrap64 (aA + 1)) != 0) = true := bne_iff_ne.mpr c6
      obtain ⟨ji7, hji7⟩ : ∃ j_ : Int, (mn aE 2) = j_ := ⟨_, rfl⟩
      replace H : (if (ji7) = 0 then (none) else (if (wrap64 (aA + 2)) = 0 then (none) else (if (mn aC 2) = 0 then (none) else (if aG.length < 3518437208883 then (laws_FnFoldCrop.l0 k1 l0 (wrap64 (aE - (Int.tmod (wrap64 ((l0.length : Int) / (wrap64 (aA + 1)))) (ji7)))) (wrap64 (aC - (Int.tmod (wrap64 ((l0.length : Int) / (wrap64 (aA + 2)))) (mn aC 2)))) (wrap64 (aN + (Int.tmod (wrap64 ((l0.length : Int) / (wrap64 (aA + 1)))) (ji7)))) (wrap64 (aQ + (Int.tmod (wrap64 ((l0.length : Int) / (wrap64 (aA + 2)))) (mn aC 2)))) (aG ++ [(⟨1, Int.tmod (wrap64 ((l0.length : Int) / (wrap64 (aA + 1)))) (ji7), Int.tmod (wrap64 ((l0.length : Int) / (wrap64 (aA + 2)))) (mn aC 2), wrap64 (aE - (Int.tmod (wrap64 ((l0.length : Int) / (wrap64 (aA + 1)))) (ji7))), wrap64 (aC - (Int.tmod (wrap64 ((l0.length : Int) / (wrap64 (aA + 2)))) (mn aC 2)))⟩ : S25)]) (wrap64 (aA + 1))) else (none))))) = some r := by first | (rw [hji7] at H; exact H) | (simp only [hji7] at H ⊢; exact H)
      have bW : (if 2 < aE then 2 else aE) = ji7 := hji7
      by_cases c8 : (ji7) = 0
      ·rw [if_pos c8] at H
       exact absurd H (by simp)
      ·rw [if_neg c8] at H
       have cB : ((ji7) == 0) = false := beq_eq_false_iff_ne.mpr c8
       have cC : ((ji7) != 0) = true := bne_iff_ne.mpr c8
       by_cases c9 : (wrap64 (aA + 2)) = 0
       ·rw [if_pos c9] at H
        exact absurd H (by simp)
       ·rw [if_neg c9] at H
        have cD : ((wrap64 (aA + 2)) == 0) = false := beq_eq_false_iff_ne.mpr c9
        have cE : ((wrap64 (aA + 2)) != 0) = true := bne_iff_ne.mpr c9
        obtain ⟨ji10, hji10⟩ : ∃ j_ : Int, (mn aC 2) = j_ := ⟨_, rfl⟩
        replace H : (if (ji10) = 0 then (none) else (if aG.length < 3518437208883 then (laws_FnFoldCrop.l0 k1 l0 (wrap64 (aE - (Int.tmod (wrap64 ((l0.length : Int) / (wrap64 (aA + 1)))) (ji7)))) (wrap64 (aC - (Int.tmod (wrap64 ((l0.length : Int) / (wrap64 (aA + 2)))) (ji10)))) (wrap64 (aN + (Int.tmod (wrap64 ((l0.length : Int) / (wrap64 (aA + 1)))) (ji7)))) (wrap64 (aQ + (Int.tmod (wrap64 ((l0.length : Int) / (wrap64 (aA + 2)))) (ji10)))) (aG ++ [(⟨1, Int.tmod (wrap64 ((l0.length : Int) / (wrap64 (aA + 1)))) (ji7), Int.tmod (wrap64 ((l0.length : Int) / (wrap64 (aA + 2)))) (ji10), wrap64 (aE - (Int.tmod (wrap64 ((l0.length : Int) / (wrap64 (aA + 1)))) (ji7))), wrap64 (aC - (Int.tmod (wrap64 ((l0.length : Int) / (wrap64 (aA + 2)))) (ji10)))⟩ : S25)]) (wrap64 (aA + 1))) else (none))) = some r := by first | (rw [hji10] at H; exact H) | (simp only [hji10] at H ⊢; exact H)
        have bO : (if 2 < aC then 2 else aC) = ji10 := hji10
        by_cases bE : (ji10) = 0
        ·rw [if_pos bE] at H
         exact absurd H (by simp)
        ·rw [if_neg bE] at H
         have bQ : ((ji10) == 0) = false := beq_eq_false_iff_ne.mpr bE
         have bR : ((ji10) != 0) = true := bne_iff_ne.mpr bE
         by_cases bF : aG.length < 3518437208883
         ·rw [if_pos bF] at H
          have LMc12 := Aside0.mk bF
          clear bF
          obtain ⟨y131, hy131⟩ : ∃ y_ : List (S25), y_ = (aG ++ [(⟨1, Int.tmod (wrap64 ((l0.length : Int) / (wrap64 (aA + 1)))) (ji7), Int.tmod (wrap64 ((l0.length : Int) / (wrap64 (aA + 2)))) (ji10), wrap64 (aE - (Int.tmod (wrap64 ((l0.length : Int) / (wrap64 (aA + 1)))) (ji7))), wrap64 (aC - (Int.tmod (wrap64 ((l0.length : Int) / (wrap64 (aA + 2)))) (ji10)))⟩ : S25)]) := ⟨_, rfl⟩
          replace H : (laws_FnFoldCrop.l0 k1 l0 (wrap64 (aE - (Int.tmod (wrap64 ((l0.length : Int) / (wrap64 (aA + 1)))) (ji7)))) (wrap64 (aC - (Int.tmod (wrap64 ((l0.length : Int) / (wrap64 (aA + 2)))) (ji10)))) (wrap64 (aN + (Int.tmod (wrap64 ((l0.length : Int) / (wrap64 (aA + 1)))) (ji7)))) (wrap64 (aQ + (Int.tmod (wrap64 ((l0.length : Int) / (wrap64 (aA + 2)))) (ji10)))) y131 (wrap64 (aA + 1))) = some r := by first | (rw [hy131]; with_reducible exact H) | (have H2_ := (Option.bind_some _ _).symm.trans H; rw [hy131]; with_reducible exact H2_) | (have H2_ := (Option.bind_some _ _).symm.trans H; with_reducible exact H2_) | with_reducible exact H | (rw [hy131]; exact H) | exact H
          have bA := Aside0.mk hy131
          clear hy131
          have H' := Aside0.mk H
          clear H
          go_wp2_with (first | ((with_reducible refine gate_builtin (b := .append) (xs := #[.tmp 52, .tmp 58]) rfl ?_); at_builtin; refine Kd.R_append k25 (w0 := w) w.heap.size rfl (.tmp 52) (.tmp 58) 23 25 (.agg #[(.int .i64 0), (.int .i64 0), (.int .i64 0), (.int .i64 0), (.int .i64 0)]) 40 rfl Try.underlying23 info25 rfl oD (by omega) u7 aG (⟨1, Int.tmod (wrap64 ((l0.length : Int) / (wrap64 (aA + 1)))) (ji7), Int.tmod (wrap64 ((l0.length : Int) / (wrap64 (aA + 2)))) (ji10), wrap64 (aE - (Int.tmod (wrap64 ((l0.length : Int) / (wrap64 (aA + 1)))) (ji7))), wrap64 (aC - (Int.tmod (wrap64 ((l0.length : Int) / (wrap64 (aA + 2)))) (ji10)))⟩ : S25) [.int .i64 1, .int .i64 (Int.tmod (wrap64 ((l0.length : Int) / (wrap64 (aA + 1)))) (ji7)), .int .i64 (Int.tmod (wrap64 ((l0.length : Int) / (wrap64 (aA + 2)))) (ji10)), .int .i64 (wrap64 (aE - (Int.tmod (wrap64 ((l0.length : Int) / (wrap64 (aA + 1)))) (ji7)))), .int .i64 (wrap64 (aC - (Int.tmod (wrap64 ((l0.length : Int) / (wrap64 (aA + 2)))) (ji10))))] (fun _ => True) (fun _ => False) rfl rfl ?aP (fun _ hk => hk.elim) ?aF ?aO ?aB ?aS ?aL ?_; (case aP => exact k25_mkM _ _ _ (⟨1, Int.tmod (wrap64 ((l0.length : Int) / (wrap64 (aA + 1)))) (ji7), Int.tmod (wrap64 ((l0.length : Int) / (wrap64 (aA + 2)))) (ji10), wrap64 (aE - (Int.tmod (wrap64 ((l0.length : Int) / (wrap64 (aA + 1)))) (ji7))), wrap64 (aC - (Int.tmod (wrap64 ((l0.length : Int) / (wrap64 (aA + 2)))) (ji10)))⟩ : S25)); (case aB => exact (oB HB)); (case aF => exact (fun _ _ => trivial)); (case aO => exact (oR aR)); (case aS => exact (below_size (oB HB))); (case aL => have := LMc12.out; omega); intro cH cL ho hb hg hat; rw [← bA.out] at ho; have n_ := o2_ (hb) (o1_ (ho)); clear HB aR; obtain ⟨HB, aZ⟩ := n_; clear ho hb hg hat))
          go_roundg k1
          case measure => have := HK1.out; omega
          case rel => exact ⟨(wrap64 (aE - (Int.tmod (wrap64 ((l0.length : Int) / (wrap64 (aA + 1)))) (ji7)))), (wrap64 (aC - (Int.tmod (wrap64 ((l0.length : Int) / (wrap64 (aA + 2)))) (ji10)))), (wrap64 (aN + (Int.tmod (wrap64 ((l0.length : Int) / (wrap64 (aA + 1)))) (ji7)))), (wrap64 (aQ + (Int.tmod (wrap64 ((l0.length : Int) / (wrap64 (aA + 2)))) (ji10)))), (y131), (wrap64 (aA + 1)), (by first | rfl | (simp; done) | (simp only [← hji7] <;> (first | rfl | simp)) | (simp [*]; done)), (by first | rfl | (simp; done) | (simp only [← hji10] <;> (first | rfl | simp)) | (simp [*]; done)), (by first | rfl | (simp; done) | (simp only [← hji7] <;> (first | rfl | simp)) | (simp [*]; done)), (by first | rfl | (simp; done) | (simp only [← hji10] <;> (first | rfl | simp)) | (simp [*]; done)), oU, H', ⟨(by have := HK1.out; omega)⟩, ⟨(oR aZ)⟩, ⟨(oB HB)⟩⟩
         ·rw [if_neg bF] at H
          exact absurd H (by simp)
    ·rw [if_neg c5] at H
     have bJ : decide (aA < (1 + ((l0.length : Int) % 5))) = false := decide_eq_false c5
     clear c5
     replace H := Option.bind_eq_some_iff.mp H
     obtain ⟨aD, aX, H⟩ := H
     (try dsimp only at H)
     have bX := Aside0.mk aX
     clear aX
     by_cases bB : (aD.length : Int) = 1
     ·rw [if_pos bB] at H
      have bS : ((aD.length : Int) == 1) = true := beq_iff_eq.mpr bB
      have bT : ((aD.length : Int) != 1) = false := bne_eq_false_iff_eq.mpr bB
      clear bB
      by_cases bG : 0 < (aD.length : Int)
      ·rw [if_pos bG] at H
       have bU : decide (0 < (aD.length : Int)) = true := decide_eq_true bG
       have bV : decide (0 < aD.length) = true := decide_eq_true (by omega)
       clear bG
       obtain rfl := Option.some.inj H
       obtain ⟨bI, bK, bM⟩ := Kd.R_slice aR.out
       subst bM
       go_wp2_with (first | ((with_reducible refine gate_callee (f := 8) rfl ?_); refine goesL_ (some 61) rfl rfl Try.func8 oK rfl #[.slice bI aG.length bK] rfl oA ?_; (with_reducible refine (impl_OpsFold.calls k1 _ _ aG aD _ ?side1 ?side2 bX.out).mono ?_); (case side1 => repeat (first | exact (Kd.R_reads' aR.out).2.2 | (with_reducible refine Kd.C_alloc ?_ _) | (with_reducible refine Kd.C_drewN ?_ _) | (with_reducible refine Kd.C_drew ?_))); (case side2 => exact (Kd.R_reads' aR.out).2.1); rintro e cM ⟨cI, rfl, ho0, hb⟩; refine ⟨_, rfl, ?_⟩; have n_ := o2_ (Kd.R_lower (Kd.R_new' ho0 (Kd.R_lt (oR aR))) (below_size (oB HB))) (o1_ (below_step (oB HB) hb)); clear HB; obtain ⟨aT, HB⟩ := n_; (try clear hb); (try clear hb2); (try clear hk); (try clear hi); (try clear ho0); obtain ⟨bY, cF, bN⟩ := Kd.R_slice aT.out; subst bN; have aV : 0 ≤ (0 : Int) := (by omega); have aW : 0 < (aD.length : Int) := of_decide_eq_true oM; obtain ⟨bP, bL, aH, aI, aJ, aK, aM⟩ := at_T25 (Kd.R_reads' aT.out).2.2 0 aV aW; cases bL; have qi137 : (0 < aD.length) = True := eq_true (by omega); (try rw [show ((0 : Int)).toNat = 0 from rfl] at aH); (try rw [show 0 * 5 = 0 from rfl] at aH); (try rw [Addr.add_zero'] at aH); (try rw [show ((0 : Int)).toNat = 0 from rfl] at aI); (try rw [show 0 * 5 = 0 from rfl] at aI); (try rw [Addr.add_zero'] at aI); (try rw [show ((0 : Int)).toNat = 0 from rfl] at aJ); (try rw [show 0 * 5 = 0 from rfl] at aJ); (try rw [Addr.add_zero'] at aJ); (try rw [show ((0 : Int)).toNat = 0 from rfl] at aK); (try rw [show 0 * 5 = 0 from rfl] at aK); (try rw [Addr.add_zero'] at aK); (try rw [show ((0 : Int)).toNat = 0 from rfl] at aM); (try rw [show 0 * 5 = 0 from rfl] at aM); (try rw [Addr.add_zero'] at aM); replace aV := eq_true aV; replace aW := eq_true aW))
       go_ret
       exact ⟨by first | rfl | (simp [errW_none, errW_some] <;> rfl) | (simp [*, errW_none, errW_some] <;> rfl), oB HB⟩
      ·rw [if_neg bG] at H
       exact absurd H (by simp)
     ·rw [if_neg bB] at H
      exact absurd H (by simp)

/-- THE ONE PURE STATEMENT of laws_FnFoldCrop: yours. -/
def laws_FnFoldCrop.Pure : Prop := ∀ (l0 : List Int), l0.length ≤ maxLen → l0.length * 1 ≤ 140737488351232 → (∀ x ∈ l0, (Lit.int .u8 x).wf = true) → ∃ k, laws_FnFoldCrop.f k l0 = some true
theorem laws_FnFoldCrop.walk (P : laws_FnFoldCrop.Pure) (a0 : Option Addr) (len0 cap0 : Nat) (z0 : List Int) (w : World) (w0 : (a0 = none ∧ len0 = 0 ∧ cap0 = 0 ∧ z0 = []) ∨ ∃ x, a0 = some x ∧ len0 ≤ cap0 ∧ cap0 ≤ maxLen ∧ z0.length = cap0 ∧ (∀ i, i < z0.length → w.cell? (x.add i) = some (.int .u8 (z0.getD i 0))) ∧ ∀ n ∈ z0, (Lit.int .u8 n).wf = true) (y0 : len0 * 1 ≤ 140737488351232) :
  Calls Try.prog 3 #[.slice a0 len0 cap0] w fun e w' => e = .returned (.bool true) ∧ Below w.heap.size w w' := by
 obtain ⟨l0, rfl, hr0, hm0, hw0, bH⟩ := ReadsInt.ofRowC w0
 obtain ⟨k, h⟩ := P l0 hm0 y0 hw0
 refine (laws_FnFoldCrop.calls k _ _ l0 true w (Kd.C_of_reads (d := (0 : Int)) (h1 := fun _ => rfl) hr0) bH h).mono ?_
 rintro e w' ⟨rfl, hd⟩
 exact ⟨rfl, hd⟩

end Go.Proofs.Ytjkaalcocgioaaa.X
