/- What functions of the program come to, each with its proof. No condition but what each theorem states. -/
import Derived.Test.YtjkaalcocgioaaaX0
import Derived.Test.YtjkaalcocgioaaaX28
import Derived.Test.YtjkaalcocgioaaaX29
import Derived.Test.YtjkaalcocgioaaaX30
namespace Go.Proofs.Ytjkaalcocgioaaa.X
open Go.RowKit Go.Proofs.YtjkaalcocgioaaaW.PrintWords Go.Proofs.YtjkaalcocgioaaaW.PrintLast Go.Proofs.YtjkaalcocgioaaaW.PrintMore Go.Proofs.Ytjkaalcocgioaaa.Hyb
attribute [local go_sem] max2_int min2_int max_two min_two max_three min_three max_four min_four
set_option linter.unusedVariables false
set_option linter.unusedSimpArgs false

/-! ### spec_l6Fold: function 30 -/
def spec_l6Fold.l0 : Nat → List (S25) → Int → Option ((List (S25)) × Bool)
 | 0, _, _ => none
 | k + 1, x0, x4 => if x4 < (x0.length : Int) then ((spec_l6Four.f k x0 x4).bind fun bE => (if bE = true then ((spec_l6Put.f x0 x4 4 (([] : List (S25)))).bind fun aW => (some (aW, true))) else (if (wrap64 (x4 + 1)) < (x0.length : Int) then (if 0 ≤ x4 then (if 0 ≤ (wrap64 (x4 + 1)) then ((spec_l6Pair.f k ((rd_T25 x0 x4).f0) ((rd_T25 x0 x4).f1) ((rd_T25 x0 x4).f2) ((rd_T25 x0 x4).f3) ((rd_T25 x0 x4).f4) ((rd_T25 x0 (wrap64 (x4 + 1))).f0) ((rd_T25 x0 (wrap64 (x4 + 1))).f1) ((rd_T25 x0 (wrap64 (x4 + 1))).f2) ((rd_T25 x0 (wrap64 (x4 + 1))).f3) ((rd_T25 x0 (wrap64 (x4 + 1))).f4)).bind fun aO => (if aO.2 = true then ((spec_l6Put.f x0 x4 2 aO.1).bind fun aX => (some (aX, true))) else (spec_l6Fold.l0 k x0 (wrap64 (x4 + 1))))) else (none)) else (none)) else (spec_l6Fold.l0 k x0 (wrap64 (x4 + 1)))))) else (some (x0, false))
def spec_l6Fold.f (k : Nat) (l0 : List (S25)) : Option ((List (S25)) × Bool) := spec_l6Fold.l0 k l0 0
theorem spec_l6Fold.mono_l : ∀ k, (∀ y0 y1, LeO (spec_l6Fold.l0 k y0 y1) (spec_l6Fold.l0 (k + 1) y0 y1))
 | 0 => (fun _ _ r h => nomatch (show none = some r from h))
 | k + 1 => by
  have ih0 := spec_l6Fold.mono_l k
  ·intro y0 y1
   unfold spec_l6Fold.l0
   repeat' first
   | (with_reducible exact ih0 _ _)
   | (with_reducible exact spec_l6Four.mono _ _ _)
   | (with_reducible exact spec_l6Pair.mono _ _ _ _ _ _ _ _ _ _ _)
   | (with_reducible exact LeO.refl _)
   | (with_reducible exact LeO.none _)
   | (with_reducible refine LeO.ite ?_ ?_)
   | (with_reducible refine LeO.bind ?_ (fun _ => ?_))
   | exact ih0 _ _
   | exact spec_l6Four.mono _ _ _
   | exact spec_l6Pair.mono _ _ _ _ _ _ _ _ _ _ _
   | exact LeO.none _
   | refine LeO.ite ?_ ?_
   | refine LeO.bind ?_ (fun _ => ?_)
theorem spec_l6Fold.mono : ∀ a0 k, LeO (spec_l6Fold.f k a0) (spec_l6Fold.f (k + 1) a0) := by
 intro a0 k
 have ih0 := spec_l6Fold.mono_l k
 unfold spec_l6Fold.f
 repeat' first
   | (with_reducible exact ih0 _ _)
   | (with_reducible exact spec_l6Four.mono _ _ _)
   | (with_reducible exact spec_l6Pair.mono _ _ _ _ _ _ _ _ _ _ _)
   | (with_reducible exact LeO.refl _)
   | (with_reducible exact LeO.none _)
   | (with_reducible refine LeO.ite ?_ ?_)
   | (with_reducible refine LeO.bind ?_ (fun _ => ?_))
   | exact ih0 _ _
   | exact spec_l6Four.mono _ _ _
   | exact spec_l6Pair.mono _ _ _ _ _ _ _ _ _ _ _
   | exact LeO.none _
   | refine LeO.ite ?_ ?_
   | refine LeO.bind ?_ (fun _ => ?_)
def spec_l6Fold.T7 : Bool × List (List Nat × List Nat) := (true, [([], []), ([], []), ([0, 1], [0, 1]), ([2], [2]), ([], []), ([], []), ([5], [5]), ([4, 6], [4, 6]), ([7], [7]), ([3, 8], [3, 8]), ([9], [9]), ([10], [10]), ([10], [10]), ([11, 9, 0, 1, 2, 3, 4, 5, 6, 7, 8, 9, 10, 11], [11]), ([12, 13, 0, 1, 2, 3, 4, 5, 6, 7, 8, 9, 10, 11, 12, 13], [12])])
def spec_l6Fold.B7 : List Nat := [0, 0, 3, 7, 0, 0, 32, 112, 240, 511, 1023, 2047, 2047, 4095, 16383]
theorem spec_l6Fold.tab7 : rtab .any (opsOf Try.f30 7) = spec_l6Fold.T7 := by kernel_rfl
theorem spec_l6Fold.bits7 : waitsOk spec_l6Fold.T7.2 spec_l6Fold.B7 = true := by kernel_rfl
set_option maxHeartbeats 8000000 in
set_option maxRecDepth 100000 in
theorem spec_l6Fold.calls (k : Nat) (P0_ : Nat → Prop) (aN : Value) (l0 : List (S25)) (r1 : List (S25)) (r2 : Bool) (w0 w : World) (hB : Below w0.heap.size w0 w) (ho0 : Kd.R k25 25 w w0.heap.size P0_ aN l0) (h : spec_l6Fold.f k l0 = some (r1, r2)) :
  Calls Try.prog 30 #[aN] w fun e w' => ∃ cN : Value, e = .returned (.tuple #[cN, .bool r2]) ∧ Kd.R k25 25 w' w0.heap.size (fun k_ => (P0_ k_ ∨ w.heap.size ≤ k_)) cN r1 ∧ Below w0.heap.size w0 w' ∧ Kept w w' (fun k_ => P0_ k_) := by
 have hu25 := Try.underlying25
 have cR := Aside0.mk (show Kd.R k25 25 w w0.heap.size (fun k_ => (P0_ k_ ∨ w.heap.size ≤ k_)) aN l0 from Kd.R_mono ho0 (fun k_ hk => (.inl hk)))
 have HK := Aside0.mk (Kept.refl w (fun k_ => P0_ k_))
 have HW0 := Aside0.mk hB.size
 have HB := Aside0.mk hB
 clear hB
 have H : (spec_l6Fold.l0 k l0 0) = some (r1, r2) := h
 clear h
 have H' := Aside0.mk H
 clear H
 go_enter Try.func30, Try.ntmps30
 go_wp2
 go_loopg [4] k (fun kq v4 w' => ∃ (aA : Int), v4 = .int .i64 aA ∧ Aside0 (spec_l6Fold.l0 kq l0 aA = some (r1, r2)) ∧ Aside0 (kq ≤ k) ∧ Aside0 (Kd.R k25 25 w' w0.heap.size (fun k_ => (P0_ k_ ∨ w.heap.size ≤ k_)) aN l0) ∧ Aside0 (Kept w w' (fun k_ => P0_ k_)) ∧ Aside0 (Below w0.heap.size w0 w'))
 case atStart => exact ⟨(0), oU, H', ⟨Nat.le_refl _⟩, ⟨(oR cR)⟩, ⟨(by repeat (first | (with_reducible first | exact HK.out | apply Kept.alloc | apply Kept.drewN | apply Kept.drew) | exact HK.out))⟩, ⟨(oB HB)⟩⟩
 case round =>
  clear H'
  obtain ⟨aA, rfl, HA, HK1, aC, HK, HB⟩ := hrel
  cases gk with
  | zero => exact nomatch (show none = some _ from HA.out)
  | succ k1 =>
   have H := HA.out
   clear HA
   simp only [spec_l6Fold.l0] at H
   by_cases c2 : aA < (l0.length : Int)
   ·rw [if_pos c2] at H
    have bV : decide (aA < (l0.length : Int)) = true := decide_eq_true c2
    clear c2
    replace H := Option.bind_eq_some_iff.mp H
    obtain ⟨bE, cH, H⟩ := H
    (try dsimp only at H)
    have A3 := Aside0.mk cH
    clear cH
    by_cases c4 : bE = true
    ·subst c4
     rw [if_pos rfl] at H
     obtain ⟨y347, hy347⟩ : ∃ y_ : List (S25), y_ = (([] : List (S25))) := ⟨_, rfl⟩
     replace H : ((spec_l6Put.f l0 aA 4 y347).bind fun aW => (some (aW, true))) = some (r1, r2) := by first | (rw [hy347]; with_reducible exact H) | (have H2_ := (Option.bind_some _ _).symm.trans H; rw [hy347]; with_reducible exact H2_) | (have H2_ := (Option.bind_some _ _).symm.trans H; with_reducible exact H2_) | with_reducible exact H | (rw [hy347]; exact H) | exact H
     have aZ := Aside0.mk hy347
     clear hy347
     replace H := Option.bind_eq_some_iff.mp H
     obtain ⟨aW, cI, H⟩ := H
     (try dsimp only at H)
     have A5 := Aside0.mk cI
     clear cI
     simp only [Option.some.injEq, Prod.mk.injEq] at H
     obtain ⟨rfl, rfl⟩ := H
     obtain ⟨cJ, cM, cU⟩ := Kd.R_slice aC.out
     subst cU
     go_wp2_with (first | ((with_reducible refine gate_callee (f := 42) rfl ?_); refine goesL_ (some 15) rfl rfl Try.func42 oK rfl #[.slice cJ l0.length cM, .int .i64 aA] rfl oA ?_; (with_reducible refine (spec_l6Four.calls k1 _ _ l0 aA true _ ?side1 ?side2 A3.out).mono ?_); (case side1 => repeat (first | exact (Kd.R_reads' aC.out).2.2 | (with_reducible refine Kd.C_alloc ?_ _) | (with_reducible refine Kd.C_drewN ?_ _) | (with_reducible refine Kd.C_drew ?_))); (case side2 => exact (Kd.R_reads' aC.out).2.1); rintro e w' ⟨rfl, ⟨nd, rfl⟩⟩; refine ⟨_, rfl, ?_⟩) | ((with_reducible refine gate_dst (N := 18) rfl ?_); refine Kd.R_lit k25 _ 25 ?hg (N := 18) ?hd (xs := ([] : List (S25))) (inner := []) (ok := fun _ => True) (okp := fun _ => True) ?hr ?hp (fun _ hk => hk) trivial (Below.refl _ _) (Nat.le_refl _) (by simp) ?_; (case hd => rfl); (case hg => rfl); (case hr => first | (go_simp; done) | (go_simp; rfl)); (case hp => exact (Reps.none _ _)); intro cW w7 ho8 hb hg_ hnew_; clear hg_ hnew_; (first | rw [← aZ.out] at ho8 | (simp only [Int.reduceToNat] at ho8; rw [← aZ.out] at ho8)); have n_ := o2_ (Kd.R_elder' (oR aC) (Kd.R_base ho8) hb) (o2_ (Kd.R_lower (Kd.R_new' (Kd.R_newM (M := fun k_ => (P0_ k_ ∨ w.heap.size ≤ k_)) ho8 (by first | exact HK.out.1 | exact (show Kept w _ (fun k_ => P0_ k_) from by repeat (first | (with_reducible first | exact HK.out | apply Kept.alloc | apply Kept.drewN | apply Kept.drew) | exact HK.out)).1) (fun k_ h_ => .inr h_)) (Kd.R_lt (oR aC))) (below_size (oB HB))) (o2_ (Kept.below (S := (fun k_ => P0_ k_)) (by repeat (first | (with_reducible first | exact HK.out | apply Kept.alloc | apply Kept.drewN | apply Kept.drew) | exact HK.out)) hb) (o1_ (below_step (oB HB) hb)))); clear aC HK HB; obtain ⟨aC, aT, HK, HB⟩ := n_; clear hb ho8; obtain ⟨cQ, cT, cV⟩ := Kd.R_slice aT.out; subst cV) | ((with_reducible refine gate_callee (f := 43) rfl ?_); refine goesL_ (some 19) rfl rfl Try.func43 oK rfl #[.slice cJ l0.length cM, .int .i64 aA, .int .i64 4, .slice cQ y347.length cT] rfl oA ?_; (with_reducible refine (spec_l6Put.calls _ _ l0 aA 4 _ _ y347 aW _ ?side1 ?side2 ?side3 ?side4 A5.out).mono ?_); (case side1 => repeat (first | exact (Kd.R_reads' aC.out).2.2 | (with_reducible refine Kd.C_alloc ?_ _) | (with_reducible refine Kd.C_drewN ?_ _) | (with_reducible refine Kd.C_drew ?_))); (case side2 => exact (Kd.R_reads' aC.out).2.1); (case side3 => repeat (first | exact (Kd.R_reads' aT.out).2.2 | (with_reducible refine Kd.C_alloc ?_ _) | (with_reducible refine Kd.C_drewN ?_ _) | (with_reducible refine Kd.C_drew ?_))); (case side4 => exact (Kd.R_reads' aT.out).2.1); rintro e cZ ⟨cX, rfl, ho0, hb⟩; refine ⟨_, rfl, ?_⟩; have n_ := o2_ (Kd.R_elder' (oR aC) (Kd.R_base ho0) hb) (o2_ (Kd.R_lower (Kd.R_new' (Kd.R_new' (Kd.R_newM (M := fun k_ => (P0_ k_ ∨ w.heap.size ≤ k_)) ho0 (by first | exact HK.out.1 | exact (show Kept w _ (fun k_ => P0_ k_) from by repeat (first | (with_reducible first | exact HK.out | apply Kept.alloc | apply Kept.drewN | apply Kept.drew) | exact HK.out)).1) (fun k_ h_ => .inr h_)) (Kd.R_lt (oR aC))) (Kd.R_lt (oR aT))) (below_size (oB HB))) (o2_ (Kept.below (S := (fun k_ => P0_ k_)) (by repeat (first | (with_reducible first | exact HK.out | apply Kept.alloc | apply Kept.drewN | apply Kept.drew) | exact HK.out)) hb) (o1_ (below_step (oB HB) hb)))); clear aC HK HB; obtain ⟨aC, bK, HK, HB⟩ := n_; (try clear hb); (try clear hb2); (try clear hk); (try clear hi); (try clear ho0)))
     go_ret2
     exact ⟨_, by first | rfl | (simp [errW_none, errW_some] <;> rfl) | (simp [*, errW_none, errW_some] <;> rfl), by (with_reducible repeat (first | apply Kd.R_alloc | apply Kd.R_drewN | apply Kd.R_drew)); exact Kd.R_mono bK.out (fun _ hk => hk.1.1.1), oB HB, by repeat (first | (with_reducible first | exact HK.out | apply Kept.alloc | apply Kept.drewN | apply Kept.drew) | exact HK.out)⟩
    ·replace c4 := Bool.eq_false_iff.mpr c4
     subst c4
     rw [if_neg (show ¬ (false = true) by decide)] at H
     by_cases bF : (wrap64 (aA + 1)) < (l0.length : Int)
     ·rw [if_pos bF] at H
      have bA : decide ((wrap64 (aA + 1)) < (l0.length : Int)) = true := decide_eq_true bF
      clear bF
      by_cases bQ : 0 ≤ aA
      ·rw [if_pos bQ] at H
       have cK : decide (0 ≤ aA) = true := decide_eq_true bQ
       clear bQ
       obtain ⟨ji13, hji13⟩ : ∃ j_ : Int, (wrap64 (aA + 1)) = j_ := ⟨_, rfl⟩
       replace H : (if 0 ≤ (ji13) then ((spec_l6Pair.f k1 ((rd_T25 l0 aA).f0) ((rd_T25 l0 aA).f1) ((rd_T25 l0 aA).f2) ((rd_T25 l0 aA).f3) ((rd_T25 l0 aA).f4) ((rd_T25 l0 (ji13)).f0) ((rd_T25 l0 (ji13)).f1) ((rd_T25 l0 (ji13)).f2) ((rd_T25 l0 (ji13)).f3) ((rd_T25 l0 (ji13)).f4)).bind fun aO => (if aO.2 = true then ((spec_l6Put.f l0 aA 2 aO.1).bind fun aX => (some (aX, true))) else (spec_l6Fold.l0 k1 l0 ji13))) else (none)) = some (r1, r2) := by first | (rw [hji13] at H; exact H) | (simp only [hji13] at H ⊢; exact H)
       (try rw [hji13] at bA)
       (try rw [hji13] at A3)
       have cD : (IntKind.i64.wrap (aA + 1)) = ji13 := (i64_w _).trans hji13
       by_cases bR : 0 ≤ (ji13)
       ·rw [if_pos bR] at H
        have cL : decide (0 ≤ (ji13)) = true := decide_eq_true bR
        clear bR
        replace H := Option.bind_eq_some_iff.mp H
        obtain ⟨⟨aY, cE⟩, bG, H⟩ := H
        (try dsimp only at H)
        have cG := Aside0.mk bG
        clear bG
        by_cases bS : cE = true
        ·subst bS
         rw [if_pos rfl] at H
         replace H := Option.bind_eq_some_iff.mp H
         obtain ⟨aX, bH, H⟩ := H
         (try dsimp only at H)
         have cO := Aside0.mk bH
         clear bH
         simp only [Option.some.injEq, Prod.mk.injEq] at H
         obtain ⟨rfl, rfl⟩ := H
         obtain ⟨bI, bB, bY⟩ := Kd.R_slice aC.out
         subst bY
         try go_wp2_with (first | ((with_reducible refine gate_callee (f := 42) rfl ?_); refine goesL_ (some 15) rfl rfl Try.func42 oK rfl #[.slice bI l0.length bB, .int .i64 aA] rfl oA ?_; (with_reducible refine (spec_l6Four.calls k1 _ _ l0 aA false _ ?side1 ?side2 A3.out).mono ?_); (case side1 => repeat (first | exact (Kd.R_reads' aC.out).2.2 | (with_reducible refine Kd.C_alloc ?_ _) | (with_reducible refine Kd.C_drewN ?_ _) | (with_reducible refine Kd.C_drew ?_))); (case side2 => exact (Kd.R_reads' aC.out).2.1); rintro e w' ⟨rfl, ⟨nd, rfl⟩⟩; refine ⟨_, rfl, ?_⟩))
         (try (rw [drewN_self wr]; generalize hq_ : World.drewN wr _ = wr; have bN : Aside0 (Kd.R k25 25 wr w0.heap.size (fun k_ => (P0_ k_ ∨ w.heap.size ≤ k_)) (.slice bI l0.length bB) l0) := ⟨(by rw [← hq_]; exact (oR aC))⟩; have bO : Aside0 (Kept w wr (fun k_ => P0_ k_)) := ⟨(by rw [← hq_]; exact (by repeat (first | (with_reducible first | exact HK.out | apply Kept.alloc | apply Kept.drewN | apply Kept.drew) | exact HK.out)))⟩; have bP : Aside0 (Below w0.heap.size w0 wr) := ⟨(by rw [← hq_]; exact (oB HB))⟩; clear aC HK HB hq_; have aC := bN; have HK := bO; have HB := bP; clear bN bO bP))
         have n_ := o2_ (Kd.R_drew aC.out) (o2_ (Kept.drew HK.out) (o1_ (below_drew1 HB.out)))
         clear aC HK HB
         obtain ⟨aC, HK, HB⟩ := n_
         have aP : 0 ≤ (aA : Int) := of_decide_eq_true oM
         have aR : aA < (l0.length : Int) := of_decide_eq_true oM
         obtain ⟨aB, bC, aD, aE, aF, aG, aH⟩ := at_T25 (Kd.R_reads' aC.out).2.2 aA aP aR
         cases bC
         replace aP := eq_true aP
         replace aR := eq_true aR
         have aQ : 0 ≤ ((ji13) : Int) := of_decide_eq_true oM
         have aS : (ji13) < (l0.length : Int) := of_decide_eq_true oM
         obtain ⟨aV, bD, aI, aJ, aK, aL, aM⟩ := at_T25 (Kd.R_reads' aC.out).2.2 (ji13) aQ aS
         obtain rfl : aB = aV := (by injection bD)
         replace aQ := eq_true aQ
         replace aS := eq_true aS
         refine start_ (n := 15) (S := fun w' => w'.cell? (aB.add ((aA).toNat * 5)) = some (.int .i64 ((rd_T25 l0 aA).f0)) ∧ w'.cell? ⟨(aB.add ((aA).toNat * 5)).block, (aB.add ((aA).toNat * 5)).off + 1, none⟩ = some (.int .i64 ((rd_T25 l0 aA).f1)) ∧ w'.cell? ⟨(aB.add ((aA).toNat * 5)).block, (aB.add ((aA).toNat * 5)).off + 2, none⟩ = some (.int .i64 ((rd_T25 l0 aA).f2)) ∧ w'.cell? ⟨(aB.add ((aA).toNat * 5)).block, (aB.add ((aA).toNat * 5)).off + 3, none⟩ = some (.int .i64 ((rd_T25 l0 aA).f3)) ∧ w'.cell? ⟨(aB.add ((aA).toNat * 5)).block, (aB.add ((aA).toNat * 5)).off + 4, none⟩ = some (.int .i64 ((rd_T25 l0 aA).f4)) ∧ w'.cell? (aB.add (((ji13)).toNat * 5)) = some (.int .i64 ((rd_T25 l0 (ji13)).f0)) ∧ w'.cell? ⟨(aB.add (((ji13)).toNat * 5)).block, (aB.add (((ji13)).toNat * 5)).off + 1, none⟩ = some (.int .i64 ((rd_T25 l0 (ji13)).f1)) ∧ w'.cell? ⟨(aB.add (((ji13)).toNat * 5)).block, (aB.add (((ji13)).toNat * 5)).off + 2, none⟩ = some (.int .i64 ((rd_T25 l0 (ji13)).f2)) ∧ w'.cell? ⟨(aB.add (((ji13)).toNat * 5)).block, (aB.add (((ji13)).toNat * 5)).off + 3, none⟩ = some (.int .i64 ((rd_T25 l0 (ji13)).f3)) ∧ w'.cell? ⟨(aB.add (((ji13)).toNat * 5)).block, (aB.add (((ji13)).toNat * 5)).off + 4, none⟩ = some (.int .i64 ((rd_T25 l0 (ji13)).f4))) (ds := []) #[false, false, false, false, false, false, false, false, false, false, false, false, false, false, false] oK rfl rfl ⟨aD, aE, aF, aG, aH, aI, aJ, aK, aL, aM⟩ (fun hHeld => ?_); refine with_tabW spec_l6Fold.tab7 spec_l6Fold.bits7 (fun HT_ HW_ => ?_)
         generalize wr.drew = dA at aC HK HB aD aE aF aG aH aI aJ aK aL aM hHeld ⊢
         refine pure_ (i := 0) (N := some 26) (v := ?_) (a' := ?_) #[true, false, false, false, false, false, false, false, false, false, false, false, false, false, false] rfl rfl (any_of HT_.out oK) (fun _ _ _ h => h) (Or.inl ⟨by rfl, ?_⟩) ?_ ?_
         rotate_left
         ·intro w'
          go_simp
          with_reducible rfl
         rotate_left
         ·exact oT
         refine pure_ (i := 1) (N := some 27) (v := ?_) (a' := ?_) #[true, true, false, false, false, false, false, false, false, false, false, false, false, false, false] rfl rfl (any_of HT_.out oK) (fun _ _ _ h => h) (Or.inl ⟨by rfl, ?_⟩) ?_ ?_
         rotate_left
         ·intro w'
          go_simp
          with_reducible rfl
         rotate_left
         ·exact oT
         refine pure_ (i := 2) (N := some 28) (v := ?_) (a' := ?_) #[true, true, true, false, false, false, false, false, false, false, false, false, false, false, false] rfl rfl (any_of HT_.out oK) (fun _ _ _ h => h) (Or.inl ⟨by rfl, ?_⟩) ?_ ?_
         rotate_left
         ·intro w'
          go_simp
          with_reducible rfl
         rotate_left
         ·exact oT
         refine pure_ (i := 4) (N := some 30) (v := ?_) (a' := ?_) #[true, true, true, false, true, false, false, false, false, false, false, false, false, false, false] rfl rfl (any_of HT_.out oK) (fun _ _ _ h => h) (Or.inl ⟨by rfl, ?_⟩) ?_ ?_
         rotate_left
         ·intro w'
          go_simp
          with_reducible rfl
         rotate_left
         ·exact oT
         refine pure_ (i := 5) (N := some 31) (v := ?_) (a' := ?_) #[true, true, true, false, true, true, false, false, false, false, false, false, false, false, false] rfl rfl (any_of HT_.out oK) (fun _ _ _ h => h) (Or.inl ⟨by rfl, ?_⟩) ?_ ?_
         rotate_left
         ·intro w'
          go_simp
          with_reducible rfl
         rotate_left
         ·exact oT
         refine pure_ (i := 6) (N := some 32) (v := ?_) (a' := ?_) #[true, true, true, false, true, true, true, false, false, false, false, false, false, false, false] rfl rfl (any_of HT_.out oK) (fun _ _ _ h => h) (Or.inl ⟨by rfl, ?_⟩) ?_ ?_
         rotate_left
         ·intro w'
          go_simp
          with_reducible rfl
         rotate_left
         ·exact oT
         refine pure_ (i := 7) (N := some 33) (v := ?_) (a' := ?_) #[true, true, true, false, true, true, true, true, false, false, false, false, false, false, false] rfl rfl (any_of HT_.out oK) (fun _ _ _ h => h) (Or.inl ⟨by rfl, ?_⟩) ?_ ?_
         rotate_left
         ·intro w'
          go_simp
          with_reducible rfl
         rotate_left
         ·exact oT
         refine take_ (i := 3) (N := some 29) (v := ?_) (a' := ?_) #[true, true, true, true, true, true, true, true, false, false, false, false, false, false, false] rfl rfl (take_ofW HT_.out HW_.out oK) (fun _ _ _ h => h) (Or.inl ⟨by rfl, ?_⟩) hHeld ?_ ?_
         rotate_left
         ·rintro w' ⟨s0, s1, s2, s3, s4, s5, s6, s7, s8, s9⟩
          go_simp
          with_reducible rfl
         rotate_left
         ·exact oT
         refine take_ (i := 8) (N := some 34) (v := ?_) (a' := ?_) #[true, true, true, true, true, true, true, true, true, false, false, false, false, false, false] rfl rfl (take_ofW HT_.out HW_.out oK) (fun _ _ _ h => h) (Or.inl ⟨by rfl, ?_⟩) hHeld ?_ ?_
         rotate_left
         ·rintro w' ⟨s0, s1, s2, s3, s4, s5, s6, s7, s8, s9⟩
          go_simp
          with_reducible rfl
         rotate_left
         ·exact oT
         refine one_ (i := 9) (N := some 35) #[true, true, true, true, true, true, true, true, true, true, false, false, false, false, false] rfl rfl (one_of HT_.out oK) oD (fun K hK => ?_)
         refine goes_ Try.func44 oK rfl #[.agg #[.int .i64 ((rd_T25 l0 aA).f0), .int .i64 ((rd_T25 l0 aA).f1), .int .i64 ((rd_T25 l0 aA).f2), .int .i64 ((rd_T25 l0 aA).f3), .int .i64 ((rd_T25 l0 aA).f4)], .agg #[.int .i64 ((rd_T25 l0 (ji13)).f0), .int .i64 ((rd_T25 l0 (ji13)).f1), .int .i64 ((rd_T25 l0 (ji13)).f2), .int .i64 ((rd_T25 l0 (ji13)).f3), .int .i64 ((rd_T25 l0 (ji13)).f4)]] (by rfl) rfl rfl (by (try simp only [List.map_toArray, List.map_cons, List.map_nil]); first | done | (simp only [hji13]; rfl) | rfl | (simp only [List.length_drop, List.length_take]; rfl)) ?_
         with_reducible refine (spec_l6Pair.calls k1 ((rd_T25 l0 aA).f0) ((rd_T25 l0 aA).f1) ((rd_T25 l0 aA).f2) ((rd_T25 l0 aA).f3) ((rd_T25 l0 aA).f4) ((rd_T25 l0 (ji13)).f0) ((rd_T25 l0 (ji13)).f1) ((rd_T25 l0 (ji13)).f2) ((rd_T25 l0 (ji13)).f3) ((rd_T25 l0 (ji13)).f4) aY true _ cG.out).mono ?_
         rintro e dB ⟨cF, rfl, ho0, hb⟩
         have HS0_ := (hb.cell (World.block_lt_of_cell? _ _ (hHeld.1))).trans (hHeld.1)
         have HS1_ := (hb.cell (World.block_lt_of_cell? _ _ (hHeld.2.1))).trans (hHeld.2.1)
         have HS2_ := (hb.cell (World.block_lt_of_cell? _ _ (hHeld.2.2.1))).trans (hHeld.2.2.1)
         have HS3_ := (hb.cell (World.block_lt_of_cell? _ _ (hHeld.2.2.2.1))).trans (hHeld.2.2.2.1)
         have HS4_ := (hb.cell (World.block_lt_of_cell? _ _ (hHeld.2.2.2.2.1))).trans (hHeld.2.2.2.2.1)
         have HS5_ := (hb.cell (World.block_lt_of_cell? _ _ (hHeld.2.2.2.2.2.1))).trans (hHeld.2.2.2.2.2.1)
         have HS6_ := (hb.cell (World.block_lt_of_cell? _ _ (hHeld.2.2.2.2.2.2.1))).trans (hHeld.2.2.2.2.2.2.1)
         have HS7_ := (hb.cell (World.block_lt_of_cell? _ _ (hHeld.2.2.2.2.2.2.2.1))).trans (hHeld.2.2.2.2.2.2.2.1)
         have HS8_ := (hb.cell (World.block_lt_of_cell? _ _ (hHeld.2.2.2.2.2.2.2.2.1))).trans (hHeld.2.2.2.2.2.2.2.2.1)
         have HS9_ := (hb.cell (World.block_lt_of_cell? _ _ (hHeld.2.2.2.2.2.2.2.2.2))).trans (hHeld.2.2.2.2.2.2.2.2.2)
         refine ⟨_, rfl, ?_⟩
         have n_ := o2_ (Kd.R_elder' (oR aC) (Kd.R_base ho0) hb) (o2_ (Kd.R_lower (Kd.R_new' (Kd.R_newM (M := fun k_ => (P0_ k_ ∨ w.heap.size ≤ k_)) ho0 (by first | exact HK.out.1 | exact (show Kept w _ (fun k_ => P0_ k_) from by repeat (first | (with_reducible first | exact HK.out | apply Kept.alloc | apply Kept.drewN | apply Kept.drew) | exact HK.out)).1) (fun k_ h_ => .inr h_)) (Kd.R_lt (oR aC))) (below_size (oB HB))) (o2_ (Kept.below (S := (fun k_ => P0_ k_)) (by repeat (first | (with_reducible first | exact HK.out | apply Kept.alloc | apply Kept.drewN | apply Kept.drew) | exact HK.out)) hb) (o1_ (below_step (oB HB) hb))))
         clear aC HK HB
         obtain ⟨aC, aU, HK, HB⟩ := n_
         (try clear hb)
         (try clear hb2)
         (try clear hk)
         (try clear hi)
         (try clear ho0)
         refine hK.out _ _ ⟨HS0_, HS1_, HS2_, HS3_, HS4_, HS5_, HS6_, HS7_, HS8_, HS9_⟩ (fun hHeld => ?_)
         clear hK K
         refine norm_ (a' := ?_) ?_ ?_
         rotate_left
         ·show Act.put _ (some 35) _ = _
          exact oT
         refine pure_ (i := 10) (N := some 25) (v := ?_) (a' := ?_) #[true, true, true, true, true, true, true, true, true, true, true, false, false, false, false] rfl rfl (any_of HT_.out oK) (fun _ _ _ h => h) (Or.inl ⟨by rfl, ?_⟩) ?_ ?_
         rotate_left
         ·intro w'
          go_simp
          with_reducible rfl
         rotate_left
         ·exact oT
         refine pure_ (i := 11) (N := some 36) (v := ?_) (a' := ?_) #[true, true, true, true, true, true, true, true, true, true, true, true, false, false, false] rfl rfl (any_of HT_.out oK) (fun _ _ _ h => h) (Or.inl ⟨by rfl, ?_⟩) ?_ ?_
         rotate_left
         ·intro w'
          go_simp
          with_reducible rfl
         rotate_left
         ·exact oT
         refine pure_ (i := 12) (N := some 37) (v := ?_) (a' := ?_) #[true, true, true, true, true, true, true, true, true, true, true, true, true, false, false] rfl rfl (any_of HT_.out oK) (fun _ _ _ h => h) (Or.inl ⟨by rfl, ?_⟩) ?_ ?_
         rotate_left
         ·intro w'
          go_simp
          with_reducible rfl
         rotate_left
         ·exact oT
         refine pure_ (i := 13) (N := some 5) (v := ?_) (a' := ?_) #[true, true, true, true, true, true, true, true, true, true, true, true, true, true, false] rfl rfl (any_of HT_.out oK) (fun _ _ _ h => h) (Or.inl ⟨by rfl, ?_⟩) ?_ ?_
         rotate_left
         ·intro w'
          go_simp
          with_reducible rfl
         rotate_left
         ·exact oT
         refine pure_ (i := 14) (N := some 6) (v := ?_) (a' := ?_) #[true, true, true, true, true, true, true, true, true, true, true, true, true, true, true] rfl rfl (any_of HT_.out oK) (fun _ _ _ h => h) (Or.inl ⟨by rfl, ?_⟩) ?_ ?_
         rotate_left
         ·intro w'
          go_simp
          with_reducible rfl
         rotate_left
         ·exact oT
         refine done_ (done_of HT_.out oK) ?_
         obtain ⟨bT, bW, bZ⟩ := Kd.R_slice aU.out
         subst bZ
         try go_wp2_with (first | ((with_reducible refine gate_callee (f := 43) rfl ?_); refine goesL_ (some 42) rfl rfl Try.func43 oK rfl #[.slice (some aB) l0.length bB, .int .i64 aA, .int .i64 2, .slice bT aY.length bW] rfl oA ?_; (with_reducible refine (spec_l6Put.calls _ _ l0 aA 2 _ _ aY aX _ ?side1 ?side2 ?side3 ?side4 cO.out).mono ?_); (case side1 => repeat (first | exact (Kd.R_reads' aC.out).2.2 | (with_reducible refine Kd.C_alloc ?_ _) | (with_reducible refine Kd.C_drewN ?_ _) | (with_reducible refine Kd.C_drew ?_))); (case side2 => exact (Kd.R_reads' aC.out).2.1); (case side3 => repeat (first | exact (Kd.R_reads' aU.out).2.2 | (with_reducible refine Kd.C_alloc ?_ _) | (with_reducible refine Kd.C_drewN ?_ _) | (with_reducible refine Kd.C_drew ?_))); (case side4 => exact (Kd.R_reads' aU.out).2.1); rintro e dC ⟨cY, rfl, ho0, hb⟩; refine ⟨_, rfl, ?_⟩; have n_ := o2_ (Kd.R_elder' (oR aC) (Kd.R_base ho0) hb) (o2_ (Kd.R_lower (Kd.R_new' (Kd.R_new' (Kd.R_newM (M := fun k_ => (P0_ k_ ∨ w.heap.size ≤ k_)) ho0 (by first | exact HK.out.1 | exact (show Kept w _ (fun k_ => P0_ k_) from by repeat (first | (with_reducible first | exact HK.out | apply Kept.alloc | apply Kept.drewN | apply Kept.drew) | exact HK.out)).1) (fun k_ h_ => .inr h_)) (Kd.R_lt (oR aC))) (Kd.R_lt (oR aU))) (below_size (oB HB))) (o2_ (Kept.below (S := (fun k_ => P0_ k_)) (by repeat (first | (with_reducible first | exact HK.out | apply Kept.alloc | apply Kept.drewN | apply Kept.drew) | exact HK.out)) hb) (o1_ (below_step (oB HB) hb)))); clear aC HK HB; obtain ⟨aC, bL, HK, HB⟩ := n_; (try clear hb); (try clear hb2); (try clear hk); (try clear hi); (try clear ho0)))
         go_ret2
         exact ⟨_, by first | rfl | (simp [errW_none, errW_some] <;> rfl) | (simp only [← hji13]; first | rfl | (simp [errW_none, errW_some] <;> rfl)) | (simp [*, errW_none, errW_some] <;> rfl), by (with_reducible repeat (first | apply Kd.R_alloc | apply Kd.R_drewN | apply Kd.R_drew)); exact Kd.R_mono bL.out (fun _ hk => hk.1.1.1), oB HB, by repeat (first | (with_reducible first | exact HK.out | apply Kept.alloc | apply Kept.drewN | apply Kept.drew) | exact HK.out)⟩
        ·replace bS := Bool.eq_false_iff.mpr bS
         subst bS
         rw [if_neg (show ¬ (false = true) by decide)] at H
         have H' := Aside0.mk H
         clear H
         obtain ⟨bJ, bM, cA⟩ := Kd.R_slice aC.out
         subst cA
         try go_wp2_with (first | ((with_reducible refine gate_callee (f := 42) rfl ?_); refine goesL_ (some 15) rfl rfl Try.func42 oK rfl #[.slice bJ l0.length bM, .int .i64 aA] rfl oA ?_; (with_reducible refine (spec_l6Four.calls k1 _ _ l0 aA false _ ?side1 ?side2 A3.out).mono ?_); (case side1 => repeat (first | exact (Kd.R_reads' aC.out).2.2 | (with_reducible refine Kd.C_alloc ?_ _) | (with_reducible refine Kd.C_drewN ?_ _) | (with_reducible refine Kd.C_drew ?_))); (case side2 => exact (Kd.R_reads' aC.out).2.1); rintro e w' ⟨rfl, ⟨nd, rfl⟩⟩; refine ⟨_, rfl, ?_⟩))
         (try (rw [drewN_self wr]; generalize hq_ : World.drewN wr _ = wr; have bN : Aside0 (Kd.R k25 25 wr w0.heap.size (fun k_ => (P0_ k_ ∨ w.heap.size ≤ k_)) (.slice bJ l0.length bM) l0) := ⟨(by rw [← hq_]; exact (oR aC))⟩; have bO : Aside0 (Kept w wr (fun k_ => P0_ k_)) := ⟨(by rw [← hq_]; exact (by repeat (first | (with_reducible first | exact HK.out | apply Kept.alloc | apply Kept.drewN | apply Kept.drew) | exact HK.out)))⟩; have bP : Aside0 (Below w0.heap.size w0 wr) := ⟨(by rw [← hq_]; exact (oB HB))⟩; clear aC HK HB hq_; have aC := bN; have HK := bO; have HB := bP; clear bN bO bP))
         have n_ := o2_ (Kd.R_drew aC.out) (o2_ (Kept.drew HK.out) (o1_ (below_drew1 HB.out)))
         clear aC HK HB
         obtain ⟨aC, HK, HB⟩ := n_
         have aP : 0 ≤ (aA : Int) := of_decide_eq_true oM
         have aR : aA < (l0.length : Int) := of_decide_eq_true oM
         obtain ⟨aB, bC, aD, aE, aF, aG, aH⟩ := at_T25 (Kd.R_reads' aC.out).2.2 aA aP aR
         cases bC
         replace aP := eq_true aP
         replace aR := eq_true aR
         have aQ : 0 ≤ ((ji13) : Int) := of_decide_eq_true oM
         have aS : (ji13) < (l0.length : Int) := of_decide_eq_true oM
         obtain ⟨aV, bD, aI, aJ, aK, aL, aM⟩ := at_T25 (Kd.R_reads' aC.out).2.2 (ji13) aQ aS
         obtain rfl : aB = aV := (by injection bD)
         replace aQ := eq_true aQ
         replace aS := eq_true aS
         refine start_ (n := 15) (S := fun w' => w'.cell? (aB.add ((aA).toNat * 5)) = some (.int .i64 ((rd_T25 l0 aA).f0)) ∧ w'.cell? ⟨(aB.add ((aA).toNat * 5)).block, (aB.add ((aA).toNat * 5)).off + 1, none⟩ = some (.int .i64 ((rd_T25 l0 aA).f1)) ∧ w'.cell? ⟨(aB.add ((aA).toNat * 5)).block, (aB.add ((aA).toNat * 5)).off + 2, none⟩ = some (.int .i64 ((rd_T25 l0 aA).f2)) ∧ w'.cell? ⟨(aB.add ((aA).toNat * 5)).block, (aB.add ((aA).toNat * 5)).off + 3, none⟩ = some (.int .i64 ((rd_T25 l0 aA).f3)) ∧ w'.cell? ⟨(aB.add ((aA).toNat * 5)).block, (aB.add ((aA).toNat * 5)).off + 4, none⟩ = some (.int .i64 ((rd_T25 l0 aA).f4)) ∧ w'.cell? (aB.add (((ji13)).toNat * 5)) = some (.int .i64 ((rd_T25 l0 (ji13)).f0)) ∧ w'.cell? ⟨(aB.add (((ji13)).toNat * 5)).block, (aB.add (((ji13)).toNat * 5)).off + 1, none⟩ = some (.int .i64 ((rd_T25 l0 (ji13)).f1)) ∧ w'.cell? ⟨(aB.add (((ji13)).toNat * 5)).block, (aB.add (((ji13)).toNat * 5)).off + 2, none⟩ = some (.int .i64 ((rd_T25 l0 (ji13)).f2)) ∧ w'.cell? ⟨(aB.add (((ji13)).toNat * 5)).block, (aB.add (((ji13)).toNat * 5)).off + 3, none⟩ = some (.int .i64 ((rd_T25 l0 (ji13)).f3)) ∧ w'.cell? ⟨(aB.add (((ji13)).toNat * 5)).block, (aB.add (((ji13)).toNat * 5)).off + 4, none⟩ = some (.int .i64 ((rd_T25 l0 (ji13)).f4))) (ds := []) #[false, false, false, false, false, false, false, false, false, false, false, false, false, false, false] oK rfl rfl ⟨aD, aE, aF, aG, aH, aI, aJ, aK, aL, aM⟩ (fun hHeld => ?_); refine with_tabW spec_l6Fold.tab7 spec_l6Fold.bits7 (fun HT_ HW_ => ?_)
         generalize wr.drew = dD at aC HK HB aD aE aF aG aH aI aJ aK aL aM hHeld ⊢
         refine pure_ (i := 0) (N := some 26) (v := ?_) (a' := ?_) #[true, false, false, false, false, false, false, false, false, false, false, false, false, false, false] rfl rfl (any_of HT_.out oK) (fun _ _ _ h => h) (Or.inl ⟨by rfl, ?_⟩) ?_ ?_
         rotate_left
         ·intro w'
          go_simp
          with_reducible rfl
         rotate_left
         ·exact oT
         refine pure_ (i := 1) (N := some 27) (v := ?_) (a' := ?_) #[true, true, false, false, false, false, false, false, false, false, false, false, false, false, false] rfl rfl (any_of HT_.out oK) (fun _ _ _ h => h) (Or.inl ⟨by rfl, ?_⟩) ?_ ?_
         rotate_left
         ·intro w'
          go_simp
          with_reducible rfl
         rotate_left
         ·exact oT
         refine pure_ (i := 2) (N := some 28) (v := ?_) (a' := ?_) #[true, true, true, false, false, false, false, false, false, false, false, false, false, false, false] rfl rfl (any_of HT_.out oK) (fun _ _ _ h => h) (Or.inl ⟨by rfl, ?_⟩) ?_ ?_
         rotate_left
         ·intro w'
          go_simp
          with_reducible rfl
         rotate_left
         ·exact oT
         refine pure_ (i := 4) (N := some 30) (v := ?_) (a' := ?_) #[true, true, true, false, true, false, false, false, false, false, false, false, false, false, false] rfl rfl (any_of HT_.out oK) (fun _ _ _ h => h) (Or.inl ⟨by rfl, ?_⟩) ?_ ?_
         rotate_left
         ·intro w'
          go_simp
          with_reducible rfl
         rotate_left
         ·exact oT
         refine pure_ (i := 5) (N := some 31) (v := ?_) (a' := ?_) #[true, true, true, false, true, true, false, false, false, false, false, false, false, false, false] rfl rfl (any_of HT_.out oK) (fun _ _ _ h => h) (Or.inl ⟨by rfl, ?_⟩) ?_ ?_
         rotate_left
         ·intro w'
          go_simp
          with_reducible rfl
         rotate_left
         ·exact oT
         refine pure_ (i := 6) (N := some 32) (v := ?_) (a' := ?_) #[true, true, true, false, true, true, true, false, false, false, false, false, false, false, false] rfl rfl (any_of HT_.out oK) (fun _ _ _ h => h) (Or.inl ⟨by rfl, ?_⟩) ?_ ?_
         rotate_left
         ·intro w'
          go_simp
          with_reducible rfl
         rotate_left
         ·exact oT
         refine pure_ (i := 7) (N := some 33) (v := ?_) (a' := ?_) #[true, true, true, false, true, true, true, true, false, false, false, false, false, false, false] rfl rfl (any_of HT_.out oK) (fun _ _ _ h => h) (Or.inl ⟨by rfl, ?_⟩) ?_ ?_
         rotate_left
         ·intro w'
          go_simp
          with_reducible rfl
         rotate_left
         ·exact oT
         refine take_ (i := 3) (N := some 29) (v := ?_) (a' := ?_) #[true, true, true, true, true, true, true, true, false, false, false, false, false, false, false] rfl rfl (take_ofW HT_.out HW_.out oK) (fun _ _ _ h => h) (Or.inl ⟨by rfl, ?_⟩) hHeld ?_ ?_
         rotate_left
         ·rintro w' ⟨s0, s1, s2, s3, s4, s5, s6, s7, s8, s9⟩
          go_simp
          with_reducible rfl
         rotate_left
         ·exact oT
         refine take_ (i := 8) (N := some 34) (v := ?_) (a' := ?_) #[true, true, true, true, true, true, true, true, true, false, false, false, false, false, false] rfl rfl (take_ofW HT_.out HW_.out oK) (fun _ _ _ h => h) (Or.inl ⟨by rfl, ?_⟩) hHeld ?_ ?_
         rotate_left
         ·rintro w' ⟨s0, s1, s2, s3, s4, s5, s6, s7, s8, s9⟩
          go_simp
          with_reducible rfl
         rotate_left
         ·exact oT
         refine one_ (i := 9) (N := some 35) #[true, true, true, true, true, true, true, true, true, true, false, false, false, false, false] rfl rfl (one_of HT_.out oK) oD (fun K hK => ?_)
         refine goes_ Try.func44 oK rfl #[.agg #[.int .i64 ((rd_T25 l0 aA).f0), .int .i64 ((rd_T25 l0 aA).f1), .int .i64 ((rd_T25 l0 aA).f2), .int .i64 ((rd_T25 l0 aA).f3), .int .i64 ((rd_T25 l0 aA).f4)], .agg #[.int .i64 ((rd_T25 l0 (ji13)).f0), .int .i64 ((rd_T25 l0 (ji13)).f1), .int .i64 ((rd_T25 l0 (ji13)).f2), .int .i64 ((rd_T25 l0 (ji13)).f3), .int .i64 ((rd_T25 l0 (ji13)).f4)]] (by rfl) rfl rfl (by (try simp only [List.map_toArray, List.map_cons, List.map_nil]); first | done | (simp only [hji13]; rfl) | rfl | (simp only [List.length_drop, List.length_take]; rfl)) ?_
         with_reducible refine (spec_l6Pair.calls k1 ((rd_T25 l0 aA).f0) ((rd_T25 l0 aA).f1) ((rd_T25 l0 aA).f2) ((rd_T25 l0 aA).f3) ((rd_T25 l0 aA).f4) ((rd_T25 l0 (ji13)).f0) ((rd_T25 l0 (ji13)).f1) ((rd_T25 l0 (ji13)).f2) ((rd_T25 l0 (ji13)).f3) ((rd_T25 l0 (ji13)).f4) aY false _ cG.out).mono ?_
         rintro e dE ⟨cF, rfl, ho0, hb⟩
         have HS0_ := (hb.cell (World.block_lt_of_cell? _ _ (hHeld.1))).trans (hHeld.1)
         have HS1_ := (hb.cell (World.block_lt_of_cell? _ _ (hHeld.2.1))).trans (hHeld.2.1)
         have HS2_ := (hb.cell (World.block_lt_of_cell? _ _ (hHeld.2.2.1))).trans (hHeld.2.2.1)
         have HS3_ := (hb.cell (World.block_lt_of_cell? _ _ (hHeld.2.2.2.1))).trans (hHeld.2.2.2.1)
         have HS4_ := (hb.cell (World.block_lt_of_cell? _ _ (hHeld.2.2.2.2.1))).trans (hHeld.2.2.2.2.1)
         have HS5_ := (hb.cell (World.block_lt_of_cell? _ _ (hHeld.2.2.2.2.2.1))).trans (hHeld.2.2.2.2.2.1)
         have HS6_ := (hb.cell (World.block_lt_of_cell? _ _ (hHeld.2.2.2.2.2.2.1))).trans (hHeld.2.2.2.2.2.2.1)
         have HS7_ := (hb.cell (World.block_lt_of_cell? _ _ (hHeld.2.2.2.2.2.2.2.1))).trans (hHeld.2.2.2.2.2.2.2.1)
         have HS8_ := (hb.cell (World.block_lt_of_cell? _ _ (hHeld.2.2.2.2.2.2.2.2.1))).trans (hHeld.2.2.2.2.2.2.2.2.1)
         have HS9_ := (hb.cell (World.block_lt_of_cell? _ _ (hHeld.2.2.2.2.2.2.2.2.2))).trans (hHeld.2.2.2.2.2.2.2.2.2)
         refine ⟨_, rfl, ?_⟩
         have n_ := o2_ (Kd.R_elder' (oR aC) (Kd.R_base ho0) hb) (o2_ (Kept.below (S := (fun k_ => P0_ k_)) (by repeat (first | (with_reducible first | exact HK.out | apply Kept.alloc | apply Kept.drewN | apply Kept.drew) | exact HK.out)) hb) (o1_ (below_step (oB HB) hb)))
         clear aC HK HB
         obtain ⟨aC, HK, HB⟩ := n_
         (try clear hb)
         (try clear hb2)
         (try clear hk)
         (try clear hi)
         (try clear ho0)
         refine hK.out _ _ ⟨HS0_, HS1_, HS2_, HS3_, HS4_, HS5_, HS6_, HS7_, HS8_, HS9_⟩ (fun hHeld => ?_)
         clear hK K
         refine norm_ (a' := ?_) ?_ ?_
         rotate_left
         ·show Act.put _ (some 35) _ = _
          exact oT
         refine pure_ (i := 10) (N := some 25) (v := ?_) (a' := ?_) #[true, true, true, true, true, true, true, true, true, true, true, false, false, false, false] rfl rfl (any_of HT_.out oK) (fun _ _ _ h => h) (Or.inl ⟨by rfl, ?_⟩) ?_ ?_
         rotate_left
         ·intro w'
          go_simp
          with_reducible rfl
         rotate_left
         ·exact oT
         refine pure_ (i := 11) (N := some 36) (v := ?_) (a' := ?_) #[true, true, true, true, true, true, true, true, true, true, true, true, false, false, false] rfl rfl (any_of HT_.out oK) (fun _ _ _ h => h) (Or.inl ⟨by rfl, ?_⟩) ?_ ?_
         rotate_left
         ·intro w'
          go_simp
          with_reducible rfl
         rotate_left
         ·exact oT
         refine pure_ (i := 12) (N := some 37) (v := ?_) (a' := ?_) #[true, true, true, true, true, true, true, true, true, true, true, true, true, false, false] rfl rfl (any_of HT_.out oK) (fun _ _ _ h => h) (Or.inl ⟨by rfl, ?_⟩) ?_ ?_
         rotate_left
         ·intro w'
          go_simp
          with_reducible rfl
         rotate_left
         ·exact oT
         refine pure_ (i := 13) (N := some 5) (v := ?_) (a' := ?_) #[true, true, true, true, true, true, true, true, true, true, true, true, true, true, false] rfl rfl (any_of HT_.out oK) (fun _ _ _ h => h) (Or.inl ⟨by rfl, ?_⟩) ?_ ?_
         rotate_left
         ·intro w'
          go_simp
          with_reducible rfl
         rotate_left
         ·exact oT
         refine pure_ (i := 14) (N := some 6) (v := ?_) (a' := ?_) #[true, true, true, true, true, true, true, true, true, true, true, true, true, true, true] rfl rfl (any_of HT_.out oK) (fun _ _ _ h => h) (Or.inl ⟨by rfl, ?_⟩) ?_ ?_
         rotate_left
         ·intro w'
          go_simp
          with_reducible rfl
         rotate_left
         ·exact oT
         refine done_ (done_of HT_.out oK) ?_
         try go_wp2
         go_roundg k1
         case measure => have := HK1.out; omega
         case rel => exact ⟨(ji13), (by first | rfl | (simp; done) | (simp only [← hji13] <;> (first | rfl | simp)) | (simp [*]; done)), H', ⟨(by have := HK1.out; omega)⟩, ⟨(by (with_reducible repeat (first | apply Kd.R_alloc | apply Kd.R_drewN | apply Kd.R_drew)); exact Kd.R_mono aC.out (fun _ hk => hk.1))⟩, ⟨(by repeat (first | (with_reducible first | exact HK.out | apply Kept.alloc | apply Kept.drewN | apply Kept.drew) | exact HK.out))⟩, ⟨(oB HB)⟩⟩
       ·rw [if_neg bR] at H
        exact absurd H (by simp)
      ·rw [if_neg bQ] at H
       exact absurd H (by simp)
     ·rw [if_neg bF] at H
      have bA : decide ((wrap64 (aA + 1)) < (l0.length : Int)) = false := decide_eq_false bF
      clear bF
      have H' := Aside0.mk H
      clear H
      obtain ⟨bU, bX, cB⟩ := Kd.R_slice aC.out
      subst cB
      go_wp2_with (first | ((with_reducible refine gate_callee (f := 42) rfl ?_); refine goesL_ (some 15) rfl rfl Try.func42 oK rfl #[.slice bU l0.length bX, .int .i64 aA] rfl oA ?_; (with_reducible refine (spec_l6Four.calls k1 _ _ l0 aA false _ ?side1 ?side2 A3.out).mono ?_); (case side1 => repeat (first | exact (Kd.R_reads' aC.out).2.2 | (with_reducible refine Kd.C_alloc ?_ _) | (with_reducible refine Kd.C_drewN ?_ _) | (with_reducible refine Kd.C_drew ?_))); (case side2 => exact (Kd.R_reads' aC.out).2.1); rintro e w' ⟨rfl, ⟨nd, rfl⟩⟩; refine ⟨_, rfl, ?_⟩))
      go_roundg k1
      case measure => have := HK1.out; omega
      case rel => exact ⟨(wrap64 (aA + 1)), oU, H', ⟨(by have := HK1.out; omega)⟩, ⟨(oR aC)⟩, ⟨(by repeat (first | (with_reducible first | exact HK.out | apply Kept.alloc | apply Kept.drewN | apply Kept.drew) | exact HK.out))⟩, ⟨(oB HB)⟩⟩
   ·rw [if_neg c2] at H
    have bV : decide (aA < (l0.length : Int)) = false := decide_eq_false c2
    clear c2
    simp only [Option.some.injEq, Prod.mk.injEq] at H
    obtain ⟨rfl, rfl⟩ := H
    obtain ⟨cP, cS, cC⟩ := Kd.R_slice aC.out
    subst cC
    go_wp2
    go_ret2
    exact ⟨_, by first | rfl | (simp [errW_none, errW_some] <;> rfl) | (simp [*, errW_none, errW_some] <;> rfl), by (with_reducible repeat (first | apply Kd.R_alloc | apply Kd.R_drewN | apply Kd.R_drew)); exact aC.out, oB HB, by repeat (first | (with_reducible first | exact HK.out | apply Kept.alloc | apply Kept.drewN | apply Kept.drew) | exact HK.out)⟩

end Go.Proofs.Ytjkaalcocgioaaa.X
