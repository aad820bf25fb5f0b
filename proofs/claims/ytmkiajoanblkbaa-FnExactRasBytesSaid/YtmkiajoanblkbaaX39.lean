/- What functions of the program come to, each with its proof. No condition but what each theorem states. -/
import Derived.Test.YtmkiajoanblkbaaX0
import Derived.Test.YtmkiajoanblkbaaX38
namespace Go.Proofs.Ytmkiajoanblkbaa.X
open Go.RowKit Go.Proofs.YtmkiajoanblkbaaW.PrintWords Go.Proofs.YtmkiajoanblkbaaW.PrintLast Go.Proofs.YtmkiajoanblkbaaW.PrintMore Go.Proofs.Ytmkiajoanblkbaa.Hyb
attribute [local go_sem] max2_int min2_int max_two min_two max_three min_three max_four min_four
set_option linter.unusedVariables false
set_option linter.unusedSimpArgs false

/-! ### laws_eqPixPixS: function 55 -/
def laws_eqPixPixS.l0 : Nat → List (S39) → List (S39) → Int → Option (Bool)
 | 0, _, _, _ => none
 | k + 1, x0, x1, x5 => if x5 < (x0.length : Int) then (if 0 ≤ x5 then (if x5 < (x1.length : Int) then ((laws_eqPixPix.f ((rd_T39 x0 x5).f0) ((rd_T39 x0 x5).f1) ((rd_T39 x0 x5).f2) ((rd_T39 x0 x5).f3) ((rd_T39 x1 x5).f0) ((rd_T39 x1 x5).f1) ((rd_T39 x1 x5).f2) ((rd_T39 x1 x5).f3)).bind fun aR => (if aR = true then (laws_eqPixPixS.l0 k x0 x1 (wrap64 (x5 + 1))) else (some false))) else (none)) else (none)) else (some true)
def laws_eqPixPixS.f (k : Nat) (l0 : List (S39)) (l1 : List (S39)) : Option (Bool) := if (l0.length : Int) = (l1.length : Int) then (laws_eqPixPixS.l0 k l0 l1 0) else (some false)
theorem laws_eqPixPixS.mono_l : ∀ k, (∀ y0 y1 y2, LeO (laws_eqPixPixS.l0 k y0 y1 y2) (laws_eqPixPixS.l0 (k + 1) y0 y1 y2))
 | 0 => (fun _ _ _ r h => nomatch (show none = some r from h))
 | k + 1 => by
  have ih0 := laws_eqPixPixS.mono_l k
  ·intro y0 y1 y2
   unfold laws_eqPixPixS.l0
   repeat' first
   | (with_reducible exact ih0 _ _ _)
   | (with_reducible exact LeO.refl _)
   | (with_reducible exact LeO.none _)
   | (with_reducible refine LeO.ite ?_ ?_)
   | (with_reducible refine LeO.bind ?_ (fun _ => ?_))
   | exact ih0 _ _ _
   | exact LeO.none _
   | refine LeO.ite ?_ ?_
   | refine LeO.bind ?_ (fun _ => ?_)
theorem laws_eqPixPixS.mono : ∀ a0 a1 k, LeO (laws_eqPixPixS.f k a0 a1) (laws_eqPixPixS.f (k + 1) a0 a1) := by
 intro a0 a1 k
 have ih0 := laws_eqPixPixS.mono_l k
 unfold laws_eqPixPixS.f
 repeat' first
   | (with_reducible exact ih0 _ _ _)
   | (with_reducible exact LeO.refl _)
   | (with_reducible exact LeO.none _)
   | (with_reducible refine LeO.ite ?_ ?_)
   | (with_reducible refine LeO.bind ?_ (fun _ => ?_))
   | exact ih0 _ _ _
   | exact LeO.none _
   | refine LeO.ite ?_ ?_
   | refine LeO.bind ?_ (fun _ => ?_)
def laws_eqPixPixS.T6 : Bool × List (List Nat × List Nat) := (true, [([], []), ([], []), ([0, 1], [0, 1]), ([2], [2]), ([], []), ([], []), ([4, 5], [4, 5]), ([6], [6]), ([3, 7], [3, 7]), ([8], [8])])
def laws_eqPixPixS.B6 : List Nat := [0, 0, 3, 7, 0, 0, 48, 112, 255, 511]
theorem laws_eqPixPixS.tab6 : rtab .any (opsOf Try.f55 6) = laws_eqPixPixS.T6 := by kernel_rfl
theorem laws_eqPixPixS.bits6 : waitsOk laws_eqPixPixS.T6.2 laws_eqPixPixS.B6 = true := by kernel_rfl
set_option maxHeartbeats 8000000 in
set_option maxRecDepth 100000 in
theorem laws_eqPixPixS.calls (k : Nat) (A0 : Option Addr) (c0 : Nat) (l0 : List (S39)) (A1 : Option Addr) (c1 : Nat) (l1 : List (S39)) (r : Bool) (w : World) (hr0 : Kd.C k39 w A0 l0.length l0) (aZ : l0.length ≤ c0) (hr1 : Kd.C k39 w A1 l1.length l1) (bA : l1.length ≤ c1) (h : laws_eqPixPixS.f k l0 l1 = some r) :
  Calls Try.prog 55 #[.slice A0 l0.length c0, .slice A1 l1.length c1] w fun e w' => e = .returned (.bool r) ∧ Below w.heap.size w w' := by
 have hu39 := Try.underlying39
 have aX := Aside0.mk hr0
 have bD := Aside0.mk aZ
 clear hr0 aZ
 have aY := Aside0.mk hr1
 have bE := Aside0.mk bA
 clear hr1 bA
 have HB := Aside0.mk (Below.refl w.heap.size w)
 have H : (if (l0.length : Int) = (l1.length : Int) then (laws_eqPixPixS.l0 k l0 l1 0) else (some false)) = some r := h
 clear h
 by_cases c3 : (l0.length : Int) = (l1.length : Int)
 ·rw [if_pos c3] at H
  have aS : ((l0.length : Int) == (l1.length : Int)) = true := beq_iff_eq.mpr c3
  have aT : ((l0.length : Int) != (l1.length : Int)) = false := bne_eq_false_iff_eq.mpr c3
  have aU : (l0.length == l1.length) = true := by first | simpa using c3 | (simp at c3 ⊢; omega)
  clear c3
  have H' := Aside0.mk H
  clear H
  go_enter Try.func55, Try.ntmps55
  go_wp2
  go_loopg [5] k (fun kq v5 w' => ∃ (aA : Int), v5 = .int .i64 aA ∧ Aside0 (laws_eqPixPixS.l0 kq l0 l1 aA = some r) ∧ Aside0 (kq ≤ k) ∧ Aside0 (Below w.heap.size w w'))
  case atStart => exact ⟨(0), oU, H', ⟨Nat.le_refl _⟩, ⟨(oB HB)⟩⟩
  case round =>
   clear H'
   try clear c1
   try clear p2
   try clear c3
   try clear aS
   try clear aT
   try clear aU
   obtain ⟨aA, rfl, HA, HK1, HB⟩ := hrel
   cases gk with
   | zero => exact nomatch (show none = some _ from HA.out)
   | succ k1 =>
    have H := HA.out
    clear HA
    simp only [laws_eqPixPixS.l0] at H
    by_cases c4 : aA < (l0.length : Int)
    ·rw [if_pos c4] at H
     have aV : decide (aA < (l0.length : Int)) = true := decide_eq_true c4
     clear c4
     by_cases c5 : 0 ≤ aA
     ·rw [if_pos c5] at H
      have bB : decide (0 ≤ aA) = true := decide_eq_true c5
      clear c5
      by_cases c6 : aA < (l1.length : Int)
      ·rw [if_pos c6] at H
       have bC : decide (aA < (l1.length : Int)) = true := decide_eq_true c6
       clear c6
       replace H := Option.bind_eq_some_iff.mp H
       obtain ⟨aR, aW, H⟩ := H
       (try dsimp only at H)
       have A7 := Aside0.mk aW
       clear aW
       by_cases c8 : aR = true
       ·subst c8
        rw [if_pos rfl] at H
        have H' := Aside0.mk H
        clear H
        try go_wp2
        replace HB := o1_ (below_drew1 HB.out)
        have aL : 0 ≤ (aA : Int) := of_decide_eq_true oM
        have aN : aA < (l0.length : Int) := of_decide_eq_true oM
        obtain ⟨aJ, aP, aB, aC, aD, aE⟩ := at_T39 aX.out aA aL aN
        have hw448_3 := aE
        have hw448_2 := aD
        have hw448_1 := aC
        have hw448_0 := aB
        cases aP
        replace aB := (HB.out.cell (World.block_lt_of_cell? w _ aB)).trans aB
        replace aC := (HB.out.cell (World.block_lt_of_cell? w _ aC)).trans aC
        replace aD := (HB.out.cell (World.block_lt_of_cell? w _ aD)).trans aD
        replace aE := (HB.out.cell (World.block_lt_of_cell? w _ aE)).trans aE
        replace aL := eq_true aL
        replace aN := eq_true aN
        have aM : 0 ≤ (aA : Int) := of_decide_eq_true oM
        have aO : aA < (l1.length : Int) := of_decide_eq_true oM
        obtain ⟨aK, aQ, aF, aG, aH, aI⟩ := at_T39 aY.out aA aM aO
        have hw449_3 := aI
        have hw449_2 := aH
        have hw449_1 := aG
        have hw449_0 := aF
        cases aQ
        replace aF := (HB.out.cell (World.block_lt_of_cell? w _ aF)).trans aF
        replace aG := (HB.out.cell (World.block_lt_of_cell? w _ aG)).trans aG
        replace aH := (HB.out.cell (World.block_lt_of_cell? w _ aH)).trans aH
        replace aI := (HB.out.cell (World.block_lt_of_cell? w _ aI)).trans aI
        replace aM := eq_true aM
        replace aO := eq_true aO
        refine start_ (n := 10) (S := fun w' => w'.cell? (aJ.add ((aA).toNat * 4)) = some (.int .i64 ((rd_T39 l0 aA).f0)) ∧ w'.cell? ⟨(aJ.add ((aA).toNat * 4)).block, (aJ.add ((aA).toNat * 4)).off + 1, none⟩ = some (.int .i64 ((rd_T39 l0 aA).f1)) ∧ w'.cell? ⟨(aJ.add ((aA).toNat * 4)).block, (aJ.add ((aA).toNat * 4)).off + 2, none⟩ = some (.int .i64 ((rd_T39 l0 aA).f2)) ∧ w'.cell? ⟨(aJ.add ((aA).toNat * 4)).block, (aJ.add ((aA).toNat * 4)).off + 3, none⟩ = some (.int .i64 ((rd_T39 l0 aA).f3)) ∧ w'.cell? (aK.add ((aA).toNat * 4)) = some (.int .i64 ((rd_T39 l1 aA).f0)) ∧ w'.cell? ⟨(aK.add ((aA).toNat * 4)).block, (aK.add ((aA).toNat * 4)).off + 1, none⟩ = some (.int .i64 ((rd_T39 l1 aA).f1)) ∧ w'.cell? ⟨(aK.add ((aA).toNat * 4)).block, (aK.add ((aA).toNat * 4)).off + 2, none⟩ = some (.int .i64 ((rd_T39 l1 aA).f2)) ∧ w'.cell? ⟨(aK.add ((aA).toNat * 4)).block, (aK.add ((aA).toNat * 4)).off + 3, none⟩ = some (.int .i64 ((rd_T39 l1 aA).f3))) (ds := []) #[false, false, false, false, false, false, false, false, false, false] oK rfl rfl ⟨((HB.out.cell (World.block_lt_of_cell? w _ hw448_0)).trans hw448_0), ((HB.out.cell (World.block_lt_of_cell? w _ hw448_1)).trans hw448_1), ((HB.out.cell (World.block_lt_of_cell? w _ hw448_2)).trans hw448_2), ((HB.out.cell (World.block_lt_of_cell? w _ hw448_3)).trans hw448_3), ((HB.out.cell (World.block_lt_of_cell? w _ hw449_0)).trans hw449_0), ((HB.out.cell (World.block_lt_of_cell? w _ hw449_1)).trans hw449_1), ((HB.out.cell (World.block_lt_of_cell? w _ hw449_2)).trans hw449_2), ((HB.out.cell (World.block_lt_of_cell? w _ hw449_3)).trans hw449_3)⟩ (fun hHeld => ?_); refine with_tabW laws_eqPixPixS.tab6 laws_eqPixPixS.bits6 (fun HT_ HW_ => ?_)
        generalize wr.drew = w9 at HB aB aC aD aE aF aG aH aI hHeld ⊢
        refine pure_ (i := 0) (N := some 17) (v := ?_) (a' := ?_) #[true, false, false, false, false, false, false, false, false, false] rfl rfl (any_of HT_.out oK) (fun _ _ _ h => h) (Or.inl ⟨by rfl, ?_⟩) ?_ ?_
        rotate_left
        ·intro w'
         go_simp
         with_reducible rfl
        rotate_left
        ·exact oT
        refine pure_ (i := 1) (N := some 18) (v := ?_) (a' := ?_) #[true, true, false, false, false, false, false, false, false, false] rfl rfl (any_of HT_.out oK) (fun _ _ _ h => h) (Or.inl ⟨by rfl, ?_⟩) ?_ ?_
        rotate_left
        ·intro w'
         go_simp
         with_reducible rfl
        rotate_left
        ·exact oT
        refine pure_ (i := 2) (N := some 19) (v := ?_) (a' := ?_) #[true, true, true, false, false, false, false, false, false, false] rfl rfl (any_of HT_.out oK) (fun _ _ _ h => h) (Or.inl ⟨by rfl, ?_⟩) ?_ ?_
        rotate_left
        ·intro w'
         go_simp
         with_reducible rfl
        rotate_left
        ·exact oT
        refine pure_ (i := 4) (N := some 21) (v := ?_) (a' := ?_) #[true, true, true, false, true, false, false, false, false, false] rfl rfl (any_of HT_.out oK) (fun _ _ _ h => h) (Or.inl ⟨by rfl, ?_⟩) ?_ ?_
        rotate_left
        ·intro w'
         go_simp
         with_reducible rfl
        rotate_left
        ·exact oT
        refine pure_ (i := 5) (N := some 22) (v := ?_) (a' := ?_) #[true, true, true, false, true, true, false, false, false, false] rfl rfl (any_of HT_.out oK) (fun _ _ _ h => h) (Or.inl ⟨by rfl, ?_⟩) ?_ ?_
        rotate_left
        ·intro w'
         go_simp
         with_reducible rfl
        rotate_left
        ·exact oT
        refine pure_ (i := 6) (N := some 23) (v := ?_) (a' := ?_) #[true, true, true, false, true, true, true, false, false, false] rfl rfl (any_of HT_.out oK) (fun _ _ _ h => h) (Or.inl ⟨by rfl, ?_⟩) ?_ ?_
        rotate_left
        ·intro w'
         go_simp
         with_reducible rfl
        rotate_left
        ·exact oT
        refine take_ (i := 3) (N := some 20) (v := ?_) (a' := ?_) #[true, true, true, true, true, true, true, false, false, false] rfl rfl (take_ofW HT_.out HW_.out oK) (fun _ _ _ h => h) (Or.inl ⟨by rfl, ?_⟩) hHeld ?_ ?_
        rotate_left
        ·rintro w' ⟨s0, s1, s2, s3, s4, s5, s6, s7⟩
         go_simp
         with_reducible rfl
        rotate_left
        ·exact oT
        refine take_ (i := 7) (N := some 24) (v := ?_) (a' := ?_) #[true, true, true, true, true, true, true, true, false, false] rfl rfl (take_ofW HT_.out HW_.out oK) (fun _ _ _ h => h) (Or.inl ⟨by rfl, ?_⟩) hHeld ?_ ?_
        rotate_left
        ·rintro w' ⟨s0, s1, s2, s3, s4, s5, s6, s7⟩
         go_simp
         with_reducible rfl
        rotate_left
        ·exact oT
        refine one_ (i := 8) (N := some 25) #[true, true, true, true, true, true, true, true, true, false] rfl rfl (one_of HT_.out oK) oD (fun K hK => ?_)
        refine goes_ Try.func38 oK rfl #[.agg #[.int .i64 ((rd_T39 l0 aA).f0), .int .i64 ((rd_T39 l0 aA).f1), .int .i64 ((rd_T39 l0 aA).f2), .int .i64 ((rd_T39 l0 aA).f3)], .agg #[.int .i64 ((rd_T39 l1 aA).f0), .int .i64 ((rd_T39 l1 aA).f1), .int .i64 ((rd_T39 l1 aA).f2), .int .i64 ((rd_T39 l1 aA).f3)]] (by rfl) rfl rfl oA ?_
        with_reducible refine (laws_eqPixPix.calls ((rd_T39 l0 aA).f0) ((rd_T39 l0 aA).f1) ((rd_T39 l0 aA).f2) ((rd_T39 l0 aA).f3) ((rd_T39 l1 aA).f0) ((rd_T39 l1 aA).f1) ((rd_T39 l1 aA).f2) ((rd_T39 l1 aA).f3) true _ A7.out).mono ?_
        rintro e bF ⟨rfl, hb⟩
        refine ⟨_, rfl, ?_⟩
        replace HB := o1_ (below_step (oB HB) hb)
        (try clear hb)
        (try clear hb2)
        (try clear hk)
        (try clear hi)
        refine hK.out _ _ ⟨((HB.out.cell (World.block_lt_of_cell? w _ hw448_0)).trans hw448_0), ((HB.out.cell (World.block_lt_of_cell? w _ hw448_1)).trans hw448_1), ((HB.out.cell (World.block_lt_of_cell? w _ hw448_2)).trans hw448_2), ((HB.out.cell (World.block_lt_of_cell? w _ hw448_3)).trans hw448_3), ((HB.out.cell (World.block_lt_of_cell? w _ hw449_0)).trans hw449_0), ((HB.out.cell (World.block_lt_of_cell? w _ hw449_1)).trans hw449_1), ((HB.out.cell (World.block_lt_of_cell? w _ hw449_2)).trans hw449_2), ((HB.out.cell (World.block_lt_of_cell? w _ hw449_3)).trans hw449_3)⟩ (fun hHeld => ?_)
        clear hK K
        refine norm_ (a' := ?_) ?_ ?_
        rotate_left
        ·show Act.put _ (some 25) _ = _
         exact oT
        refine pure_ (i := 9) (N := some 26) (v := ?_) (a' := ?_) #[true, true, true, true, true, true, true, true, true, true] rfl rfl (any_of HT_.out oK) (fun _ _ _ h => h) (Or.inl ⟨by rfl, ?_⟩) ?_ ?_
        rotate_left
        ·intro w'
         go_simp
         with_reducible rfl
        rotate_left
        ·exact oT
        refine done_ (done_of HT_.out oK) ?_
        try go_wp2
        go_roundg k1
        case measure => have := HK1.out; omega
        case rel => exact ⟨(wrap64 (aA + 1)), oU, H', ⟨(by have := HK1.out; omega)⟩, ⟨(oB HB)⟩⟩
       ·replace c8 := Bool.eq_false_iff.mpr c8
        subst c8
        rw [if_neg (show ¬ (false = true) by decide)] at H
        obtain rfl := Option.some.inj H
        try go_wp2
        replace HB := o1_ (below_drew1 HB.out)
        have aL : 0 ≤ (aA : Int) := of_decide_eq_true oM
        have aN : aA < (l0.length : Int) := of_decide_eq_true oM
        obtain ⟨aJ, aP, aB, aC, aD, aE⟩ := at_T39 aX.out aA aL aN
        have hw448_3 := aE
        have hw448_2 := aD
        have hw448_1 := aC
        have hw448_0 := aB
        cases aP
        replace aB := (HB.out.cell (World.block_lt_of_cell? w _ aB)).trans aB
        replace aC := (HB.out.cell (World.block_lt_of_cell? w _ aC)).trans aC
        replace aD := (HB.out.cell (World.block_lt_of_cell? w _ aD)).trans aD
        replace aE := (HB.out.cell (World.block_lt_of_cell? w _ aE)).trans aE
        replace aL := eq_true aL
        replace aN := eq_true aN
        have aM : 0 ≤ (aA : Int) := of_decide_eq_true oM
        have aO : aA < (l1.length : Int) := of_decide_eq_true oM
        obtain ⟨aK, aQ, aF, aG, aH, aI⟩ := at_T39 aY.out aA aM aO
        have hw449_3 := aI
        have hw449_2 := aH
        have hw449_1 := aG
        have hw449_0 := aF
        cases aQ
        replace aF := (HB.out.cell (World.block_lt_of_cell? w _ aF)).trans aF
        replace aG := (HB.out.cell (World.block_lt_of_cell? w _ aG)).trans aG
        replace aH := (HB.out.cell (World.block_lt_of_cell? w _ aH)).trans aH
        replace aI := (HB.out.cell (World.block_lt_of_cell? w _ aI)).trans aI
        replace aM := eq_true aM
        replace aO := eq_true aO
        refine start_ (n := 10) (S := fun w' => w'.cell? (aJ.add ((aA).toNat * 4)) = some (.int .i64 ((rd_T39 l0 aA).f0)) ∧ w'.cell? ⟨(aJ.add ((aA).toNat * 4)).block, (aJ.add ((aA).toNat * 4)).off + 1, none⟩ = some (.int .i64 ((rd_T39 l0 aA).f1)) ∧ w'.cell? ⟨(aJ.add ((aA).toNat * 4)).block, (aJ.add ((aA).toNat * 4)).off + 2, none⟩ = some (.int .i64 ((rd_T39 l0 aA).f2)) ∧ w'.cell? ⟨(aJ.add ((aA).toNat * 4)).block, (aJ.add ((aA).toNat * 4)).off + 3, none⟩ = some (.int .i64 ((rd_T39 l0 aA).f3)) ∧ w'.cell? (aK.add ((aA).toNat * 4)) = some (.int .i64 ((rd_T39 l1 aA).f0)) ∧ w'.cell? ⟨(aK.add ((aA).toNat * 4)).block, (aK.add ((aA).toNat * 4)).off + 1, none⟩ = some (.int .i64 ((rd_T39 l1 aA).f1)) ∧ w'.cell? ⟨(aK.add ((aA).toNat * 4)).block, (aK.add ((aA).toNat * 4)).off + 2, none⟩ = some (.int .i64 ((rd_T39 l1 aA).f2)) ∧ w'.cell? ⟨(aK.add ((aA).toNat * 4)).block, (aK.add ((aA).toNat * 4)).off + 3, none⟩ = some (.int .i64 ((rd_T39 l1 aA).f3))) (ds := []) #[false, false, false, false, false, false, false, false, false, false] oK rfl rfl ⟨((HB.out.cell (World.block_lt_of_cell? w _ hw448_0)).trans hw448_0), ((HB.out.cell (World.block_lt_of_cell? w _ hw448_1)).trans hw448_1), ((HB.out.cell (World.block_lt_of_cell? w _ hw448_2)).trans hw448_2), ((HB.out.cell (World.block_lt_of_cell? w _ hw448_3)).trans hw448_3), ((HB.out.cell (World.block_lt_of_cell? w _ hw449_0)).trans hw449_0), ((HB.out.cell (World.block_lt_of_cell? w _ hw449_1)).trans hw449_1), ((HB.out.cell (World.block_lt_of_cell? w _ hw449_2)).trans hw449_2), ((HB.out.cell (World.block_lt_of_cell? w _ hw449_3)).trans hw449_3)⟩ (fun hHeld => ?_); refine with_tabW laws_eqPixPixS.tab6 laws_eqPixPixS.bits6 (fun HT_ HW_ => ?_)
        generalize wr.drew = bG at HB aB aC aD aE aF aG aH aI hHeld ⊢
        refine pure_ (i := 0) (N := some 17) (v := ?_) (a' := ?_) #[true, false, false, false, false, false, false, false, false, false] rfl rfl (any_of HT_.out oK) (fun _ _ _ h => h) (Or.inl ⟨by rfl, ?_⟩) ?_ ?_
        rotate_left
        ·intro w'
         go_simp
         with_reducible rfl
        rotate_left
        ·exact oT
        refine pure_ (i := 1) (N := some 18) (v := ?_) (a' := ?_) #[true, true, false, false, false, false, false, false, false, false] rfl rfl (any_of HT_.out oK) (fun _ _ _ h => h) (Or.inl ⟨by rfl, ?_⟩) ?_ ?_
        rotate_left
        ·intro w'
         go_simp
         with_reducible rfl
        rotate_left
        ·exact oT
        refine pure_ (i := 2) (N := some 19) (v := ?_) (a' := ?_) #[true, true, true, false, false, false, false, false, false, false] rfl rfl (any_of HT_.out oK) (fun _ _ _ h => h) (Or.inl ⟨by rfl, ?_⟩) ?_ ?_
        rotate_left
        ·intro w'
         go_simp
         with_reducible rfl
        rotate_left
        ·exact oT
        refine pure_ (i := 4) (N := some 21) (v := ?_) (a' := ?_) #[true, true, true, false, true, false, false, false, false, false] rfl rfl (any_of HT_.out oK) (fun _ _ _ h => h) (Or.inl ⟨by rfl, ?_⟩) ?_ ?_
        rotate_left
        ·intro w'
         go_simp
         with_reducible rfl
        rotate_left
        ·exact oT
        refine pure_ (i := 5) (N := some 22) (v := ?_) (a' := ?_) #[true, true, true, false, true, true, false, false, false, false] rfl rfl (any_of HT_.out oK) (fun _ _ _ h => h) (Or.inl ⟨by rfl, ?_⟩) ?_ ?_
        rotate_left
        ·intro w'
         go_simp
         with_reducible rfl
        rotate_left
        ·exact oT
        refine pure_ (i := 6) (N := some 23) (v := ?_) (a' := ?_) #[true, true, true, false, true, true, true, false, false, false] rfl rfl (any_of HT_.out oK) (fun _ _ _ h => h) (Or.inl ⟨by rfl, ?_⟩) ?_ ?_
        rotate_left
        ·intro w'
         go_simp
         with_reducible rfl
        rotate_left
        ·exact oT
        refine take_ (i := 3) (N := some 20) (v := ?_) (a' := ?_) #[true, true, true, true, true, true, true, false, false, false] rfl rfl (take_ofW HT_.out HW_.out oK) (fun _ _ _ h => h) (Or.inl ⟨by rfl, ?_⟩) hHeld ?_ ?_
        rotate_left
        ·rintro w' ⟨s0, s1, s2, s3, s4, s5, s6, s7⟩
         go_simp
         with_reducible rfl
        rotate_left
        ·exact oT
        refine take_ (i := 7) (N := some 24) (v := ?_) (a' := ?_) #[true, true, true, true, true, true, true, true, false, false] rfl rfl (take_ofW HT_.out HW_.out oK) (fun _ _ _ h => h) (Or.inl ⟨by rfl, ?_⟩) hHeld ?_ ?_
        rotate_left
        ·rintro w' ⟨s0, s1, s2, s3, s4, s5, s6, s7⟩
         go_simp
         with_reducible rfl
        rotate_left
        ·exact oT
        refine one_ (i := 8) (N := some 25) #[true, true, true, true, true, true, true, true, true, false] rfl rfl (one_of HT_.out oK) oD (fun K hK => ?_)
        refine goes_ Try.func38 oK rfl #[.agg #[.int .i64 ((rd_T39 l0 aA).f0), .int .i64 ((rd_T39 l0 aA).f1), .int .i64 ((rd_T39 l0 aA).f2), .int .i64 ((rd_T39 l0 aA).f3)], .agg #[.int .i64 ((rd_T39 l1 aA).f0), .int .i64 ((rd_T39 l1 aA).f1), .int .i64 ((rd_T39 l1 aA).f2), .int .i64 ((rd_T39 l1 aA).f3)]] (by rfl) rfl rfl oA ?_
        with_reducible refine (laws_eqPixPix.calls ((rd_T39 l0 aA).f0) ((rd_T39 l0 aA).f1) ((rd_T39 l0 aA).f2) ((rd_T39 l0 aA).f3) ((rd_T39 l1 aA).f0) ((rd_T39 l1 aA).f1) ((rd_T39 l1 aA).f2) ((rd_T39 l1 aA).f3) false _ A7.out).mono ?_
        rintro e bH ⟨rfl, hb⟩
        refine ⟨_, rfl, ?_⟩
        replace HB := o1_ (below_step (oB HB) hb)
        (try clear hb)
        (try clear hb2)
        (try clear hk)
        (try clear hi)
        refine hK.out _ _ ⟨((HB.out.cell (World.block_lt_of_cell? w _ hw448_0)).trans hw448_0), ((HB.out.cell (World.block_lt_of_cell? w _ hw448_1)).trans hw448_1), ((HB.out.cell (World.block_lt_of_cell? w _ hw448_2)).trans hw448_2), ((HB.out.cell (World.block_lt_of_cell? w _ hw448_3)).trans hw448_3), ((HB.out.cell (World.block_lt_of_cell? w _ hw449_0)).trans hw449_0), ((HB.out.cell (World.block_lt_of_cell? w _ hw449_1)).trans hw449_1), ((HB.out.cell (World.block_lt_of_cell? w _ hw449_2)).trans hw449_2), ((HB.out.cell (World.block_lt_of_cell? w _ hw449_3)).trans hw449_3)⟩ (fun hHeld => ?_)
        clear hK K
        refine norm_ (a' := ?_) ?_ ?_
        rotate_left
        ·show Act.put _ (some 25) _ = _
         exact oT
        refine pure_ (i := 9) (N := some 26) (v := ?_) (a' := ?_) #[true, true, true, true, true, true, true, true, true, true] rfl rfl (any_of HT_.out oK) (fun _ _ _ h => h) (Or.inl ⟨by rfl, ?_⟩) ?_ ?_
        rotate_left
        ·intro w'
         go_simp
         with_reducible rfl
        rotate_left
        ·exact oT
        refine done_ (done_of HT_.out oK) ?_
        try go_wp2
        go_ret
        exact ⟨by first | rfl | (simp [errW_none, errW_some] <;> rfl) | (simp [*, errW_none, errW_some] <;> rfl), oB HB⟩
      ·rw [if_neg c6] at H
       exact absurd H (by simp)
     ·rw [if_neg c5] at H
      exact absurd H (by simp)
    ·rw [if_neg c4] at H
     have aV : decide (aA < (l0.length : Int)) = false := decide_eq_false c4
     clear c4
     obtain rfl := Option.some.inj H
     go_wp2
     go_ret
     exact ⟨by first | rfl | (simp [errW_none, errW_some] <;> rfl) | (simp [*, errW_none, errW_some] <;> rfl), oB HB⟩
 ·rw [if_neg c3] at H
  have aS : ((l0.length : Int) == (l1.length : Int)) = false := beq_eq_false_iff_ne.mpr c3
  have aT : ((l0.length : Int) != (l1.length : Int)) = true := bne_iff_ne.mpr c3
  have aU : (l0.length == l1.length) = false := by first | simpa using c3 | (simp at c3 ⊢; omega)
  obtain rfl := Option.some.inj H
  go_enter Try.func55, Try.ntmps55
  go_wp2
  go_ret
  exact ⟨by first | rfl | (simp [errW_none, errW_some] <;> rfl) | (simp [*, errW_none, errW_some] <;> rfl), oB HB⟩

end Go.Proofs.Ytmkiajoanblkbaa.X
