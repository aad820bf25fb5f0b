/- What functions of the program come to, each with its proof. No condition but what each theorem states. -/
import Derived.Test.YtjkaalcocgioaaaX0
import Derived.Test.YtjkaalcocgioaaaX38
namespace Go.Proofs.Ytjkaalcocgioaaa.X
open Go.RowKit Go.Proofs.YtjkaalcocgioaaaW.PrintWords Go.Proofs.YtjkaalcocgioaaaW.PrintLast Go.Proofs.YtjkaalcocgioaaaW.PrintMore Go.Proofs.Ytjkaalcocgioaaa.Hyb
attribute [local go_sem] max2_int min2_int max_two min_two max_three min_three max_four min_four
set_option linter.unusedVariables false
set_option linter.unusedSimpArgs false

/-! ### laws_eqOpOpS: function 17 -/
def laws_eqOpOpS.l0 : Nat → List (S25) → List (S25) → Int → Option (Bool)
 | 0, _, _, _ => none
 | k + 1, x0, x1, x5 => if x5 < (x0.length : Int) then (if 0 ≤ x5 then (if x5 < (x1.length : Int) then ((laws_eqOpOp.f ((rd_T25 x0 x5).f0) ((rd_T25 x0 x5).f1) ((rd_T25 x0 x5).f2) ((rd_T25 x0 x5).f3) ((rd_T25 x0 x5).f4) ((rd_T25 x1 x5).f0) ((rd_T25 x1 x5).f1) ((rd_T25 x1 x5).f2) ((rd_T25 x1 x5).f3) ((rd_T25 x1 x5).f4)).bind fun aT => (if aT = true then (laws_eqOpOpS.l0 k x0 x1 (wrap64 (x5 + 1))) else (some false))) else (none)) else (none)) else (some true)
def laws_eqOpOpS.f (k : Nat) (l0 : List (S25)) (l1 : List (S25)) : Option (Bool) := if (l0.length : Int) = (l1.length : Int) then (laws_eqOpOpS.l0 k l0 l1 0) else (some false)
theorem laws_eqOpOpS.mono_l : ∀ k, (∀ y0 y1 y2, LeO (laws_eqOpOpS.l0 k y0 y1 y2) (laws_eqOpOpS.l0 (k + 1) y0 y1 y2))
 | 0 => (fun _ _ _ r h => nomatch (show none = some r from h))
 | k + 1 => by
  have ih0 := laws_eqOpOpS.mono_l k
  ·intro y0 y1 y2
   unfold laws_eqOpOpS.l0
   repeat' first
   | (with_reducible exact ih0 _ _ _)
   | (with_reducible exact LeO.refl _)
   | (with_reducible exact LeO.none _)
   | (with_reducible refine LeO.ite ?_ ?_)
   | (with_reducible refine LeO.bind ?_ (fun _ => ?_))
   | exact ih0 _ _ _
   | exact LeO.none _
   | refine LeO.ite ?_ ?_
   | refine LeO.bind ?_ (fun _ => ?_)
theorem laws_eqOpOpS.mono : ∀ a0 a1 k, LeO (laws_eqOpOpS.f k a0 a1) (laws_eqOpOpS.f (k + 1) a0 a1) := by
 intro a0 a1 k
 have ih0 := laws_eqOpOpS.mono_l k
 unfold laws_eqOpOpS.f
 repeat' first
   | (with_reducible exact ih0 _ _ _)
   | (with_reducible exact LeO.refl _)
   | (with_reducible exact LeO.none _)
   | (with_reducible refine LeO.ite ?_ ?_)
   | (with_reducible refine LeO.bind ?_ (fun _ => ?_))
   | exact ih0 _ _ _
   | exact LeO.none _
   | refine LeO.ite ?_ ?_
   | refine LeO.bind ?_ (fun _ => ?_)
def laws_eqOpOpS.T6 : Bool × List (List Nat × List Nat) := (true, [([], []), ([], []), ([0, 1], [0, 1]), ([2], [2]), ([], []), ([], []), ([4, 5], [4, 5]), ([6], [6]), ([3, 7], [3, 7]), ([8], [8])])
def laws_eqOpOpS.B6 : List Nat := [0, 0, 3, 7, 0, 0, 48, 112, 255, 511]
theorem laws_eqOpOpS.tab6 : rtab .any (opsOf Try.f17 6) = laws_eqOpOpS.T6 := by kernel_rfl
theorem laws_eqOpOpS.bits6 : waitsOk laws_eqOpOpS.T6.2 laws_eqOpOpS.B6 = true := by kernel_rfl
set_option maxHeartbeats 8000000 in
set_option maxRecDepth 100000 in
theorem laws_eqOpOpS.calls (k : Nat) (A0 : Option Addr) (c0 : Nat) (l0 : List (S25)) (A1 : Option Addr) (c1 : Nat) (l1 : List (S25)) (r : Bool) (w : World) (hr0 : Kd.C k25 w A0 l0.length l0) (bB : l0.length ≤ c0) (hr1 : Kd.C k25 w A1 l1.length l1) (bC : l1.length ≤ c1) (h : laws_eqOpOpS.f k l0 l1 = some r) :
  Calls Try.prog 17 #[.slice A0 l0.length c0, .slice A1 l1.length c1] w fun e w' => e = .returned (.bool r) ∧ Below w.heap.size w w' := by
 have hu25 := Try.underlying25
 have aZ := Aside0.mk hr0
 have bF := Aside0.mk bB
 clear hr0 bB
 have bA := Aside0.mk hr1
 have bG := Aside0.mk bC
 clear hr1 bC
 have HB := Aside0.mk (Below.refl w.heap.size w)
 have H : (if (l0.length : Int) = (l1.length : Int) then (laws_eqOpOpS.l0 k l0 l1 0) else (some false)) = some r := h
 clear h
 by_cases c3 : (l0.length : Int) = (l1.length : Int)
 ·rw [if_pos c3] at H
  have aU : ((l0.length : Int) == (l1.length : Int)) = true := beq_iff_eq.mpr c3
  have aV : ((l0.length : Int) != (l1.length : Int)) = false := bne_eq_false_iff_eq.mpr c3
  have aW : (l0.length == l1.length) = true := by first | simpa using c3 | (simp at c3 ⊢; omega)
  clear c3
  have H' := Aside0.mk H
  clear H
  go_enter Try.func17, Try.ntmps17
  go_wp2
  go_loopg [5] k (fun kq v5 w' => ∃ (aA : Int), v5 = .int .i64 aA ∧ Aside0 (laws_eqOpOpS.l0 kq l0 l1 aA = some r) ∧ Aside0 (kq ≤ k) ∧ Aside0 (Below w.heap.size w w'))
  case atStart => exact ⟨(0), oU, H', ⟨Nat.le_refl _⟩, ⟨(oB HB)⟩⟩
  case round =>
   clear H'
   try clear c1
   try clear p2
   try clear c3
   try clear aU
   try clear aV
   try clear aW
   obtain ⟨aA, rfl, HA, HK1, HB⟩ := hrel
   cases gk with
   | zero => exact nomatch (show none = some _ from HA.out)
   | succ k1 =>
    have H := HA.out
    clear HA
    simp only [laws_eqOpOpS.l0] at H
    by_cases c4 : aA < (l0.length : Int)
    ·rw [if_pos c4] at H
     have aX : decide (aA < (l0.length : Int)) = true := decide_eq_true c4
     clear c4
     by_cases c5 : 0 ≤ aA
     ·rw [if_pos c5] at H
      have bD : decide (0 ≤ aA) = true := decide_eq_true c5
      clear c5
      by_cases c6 : aA < (l1.length : Int)
      ·rw [if_pos c6] at H
       have bE : decide (aA < (l1.length : Int)) = true := decide_eq_true c6
       clear c6
       replace H := Option.bind_eq_some_iff.mp H
       obtain ⟨aT, aY, H⟩ := H
       (try dsimp only at H)
       have A7 := Aside0.mk aY
       clear aY
       by_cases c8 : aT = true
       ·subst c8
        rw [if_pos rfl] at H
        have H' := Aside0.mk H
        clear H
        try go_wp2
        replace HB := o1_ (below_drew1 HB.out)
        have aN : 0 ≤ (aA : Int) := of_decide_eq_true oM
        have aP : aA < (l0.length : Int) := of_decide_eq_true oM
        obtain ⟨aB, aR, aD, aE, aF, aG, aH⟩ := at_T25 aZ.out aA aN aP
        have hw444_4 := aH
        have hw444_3 := aG
        have hw444_2 := aF
        have hw444_1 := aE
        have hw444_0 := aD
        cases aR
        replace aD := (HB.out.cell (World.block_lt_of_cell? w _ aD)).trans aD
        replace aE := (HB.out.cell (World.block_lt_of_cell? w _ aE)).trans aE
        replace aF := (HB.out.cell (World.block_lt_of_cell? w _ aF)).trans aF
        replace aG := (HB.out.cell (World.block_lt_of_cell? w _ aG)).trans aG
        replace aH := (HB.out.cell (World.block_lt_of_cell? w _ aH)).trans aH
        replace aN := eq_true aN
        replace aP := eq_true aP
        have aO : 0 ≤ (aA : Int) := of_decide_eq_true oM
        have aQ : aA < (l1.length : Int) := of_decide_eq_true oM
        obtain ⟨aC, aS, aI, aJ, aK, aL, aM⟩ := at_T25 bA.out aA aO aQ
        have hw445_4 := aM
        have hw445_3 := aL
        have hw445_2 := aK
        have hw445_1 := aJ
        have hw445_0 := aI
        cases aS
        replace aI := (HB.out.cell (World.block_lt_of_cell? w _ aI)).trans aI
        replace aJ := (HB.out.cell (World.block_lt_of_cell? w _ aJ)).trans aJ
        replace aK := (HB.out.cell (World.block_lt_of_cell? w _ aK)).trans aK
        replace aL := (HB.out.cell (World.block_lt_of_cell? w _ aL)).trans aL
        replace aM := (HB.out.cell (World.block_lt_of_cell? w _ aM)).trans aM
        replace aO := eq_true aO
        replace aQ := eq_true aQ
        refine start_ (n := 10) (S := fun w' => w'.cell? (aB.add ((aA).toNat * 5)) = some (.int .i64 ((rd_T25 l0 aA).f0)) ∧ w'.cell? ⟨(aB.add ((aA).toNat * 5)).block, (aB.add ((aA).toNat * 5)).off + 1, none⟩ = some (.int .i64 ((rd_T25 l0 aA).f1)) ∧ w'.cell? ⟨(aB.add ((aA).toNat * 5)).block, (aB.add ((aA).toNat * 5)).off + 2, none⟩ = some (.int .i64 ((rd_T25 l0 aA).f2)) ∧ w'.cell? ⟨(aB.add ((aA).toNat * 5)).block, (aB.add ((aA).toNat * 5)).off + 3, none⟩ = some (.int .i64 ((rd_T25 l0 aA).f3)) ∧ w'.cell? ⟨(aB.add ((aA).toNat * 5)).block, (aB.add ((aA).toNat * 5)).off + 4, none⟩ = some (.int .i64 ((rd_T25 l0 aA).f4)) ∧ w'.cell? (aC.add ((aA).toNat * 5)) = some (.int .i64 ((rd_T25 l1 aA).f0)) ∧ w'.cell? ⟨(aC.add ((aA).toNat * 5)).block, (aC.add ((aA).toNat * 5)).off + 1, none⟩ = some (.int .i64 ((rd_T25 l1 aA).f1)) ∧ w'.cell? ⟨(aC.add ((aA).toNat * 5)).block, (aC.add ((aA).toNat * 5)).off + 2, none⟩ = some (.int .i64 ((rd_T25 l1 aA).f2)) ∧ w'.cell? ⟨(aC.add ((aA).toNat * 5)).block, (aC.add ((aA).toNat * 5)).off + 3, none⟩ = some (.int .i64 ((rd_T25 l1 aA).f3)) ∧ w'.cell? ⟨(aC.add ((aA).toNat * 5)).block, (aC.add ((aA).toNat * 5)).off + 4, none⟩ = some (.int .i64 ((rd_T25 l1 aA).f4))) (ds := []) #[false, false, false, false, false, false, false, false, false, false] oK rfl rfl ⟨((HB.out.cell (World.block_lt_of_cell? w _ hw444_0)).trans hw444_0), ((HB.out.cell (World.block_lt_of_cell? w _ hw444_1)).trans hw444_1), ((HB.out.cell (World.block_lt_of_cell? w _ hw444_2)).trans hw444_2), ((HB.out.cell (World.block_lt_of_cell? w _ hw444_3)).trans hw444_3), ((HB.out.cell (World.block_lt_of_cell? w _ hw444_4)).trans hw444_4), ((HB.out.cell (World.block_lt_of_cell? w _ hw445_0)).trans hw445_0), ((HB.out.cell (World.block_lt_of_cell? w _ hw445_1)).trans hw445_1), ((HB.out.cell (World.block_lt_of_cell? w _ hw445_2)).trans hw445_2), ((HB.out.cell (World.block_lt_of_cell? w _ hw445_3)).trans hw445_3), ((HB.out.cell (World.block_lt_of_cell? w _ hw445_4)).trans hw445_4)⟩ (fun hHeld => ?_); refine with_tabW laws_eqOpOpS.tab6 laws_eqOpOpS.bits6 (fun HT_ HW_ => ?_)
        generalize wr.drew = w9 at HB aD aE aF aG aH aI aJ aK aL aM hHeld ⊢
        refine pure_ (i := 0) (N := some 17) (v := ?_) (a' := ?_) #[true, false, false, false, false, false, false, false, false, false] rfl rfl (any_of HT_.out oK) (fun _ _ _ h => h) (Or.inl ⟨by rfl, ?_⟩) ?_ ?_
        rotate_left
        ·intro w'
         go_simp
         with_reducible rfl
        rotate_left
        ·exact oT
        refine pure_ (i := 1) (N := some 18) (v := ?_) (a' := ?_) #[true, true, false, false, false, false, false, false, false, false] rfl rfl (any_of HT_.out oK) (fun _ _ _ h => h) (Or.inl ⟨by rfl, ?_⟩) ?_ ?_
        rotate_left
        ·intro w'
         go_simp
         with_reducible rfl
        rotate_left
        ·exact oT
        refine pure_ (i := 2) (N := some 19) (v := ?_) (a' := ?_) #[true, true, true, false, false, false, false, false, false, false] rfl rfl (any_of HT_.out oK) (fun _ _ _ h => h) (Or.inl ⟨by rfl, ?_⟩) ?_ ?_
        rotate_left
        ·intro w'
         go_simp
         with_reducible rfl
        rotate_left
        ·exact oT
        refine pure_ (i := 4) (N := some 21) (v := ?_) (a' := ?_) #[true, true, true, false, true, false, false, false, false, false] rfl rfl (any_of HT_.out oK) (fun _ _ _ h => h) (Or.inl ⟨by rfl, ?_⟩) ?_ ?_
        rotate_left
        ·intro w'
         go_simp
         with_reducible rfl
        rotate_left
        ·exact oT
        refine pure_ (i := 5) (N := some 22) (v := ?_) (a' := ?_) #[true, true, true, false, true, true, false, false, false, false] rfl rfl (any_of HT_.out oK) (fun _ _ _ h => h) (Or.inl ⟨by rfl, ?_⟩) ?_ ?_
        rotate_left
        ·intro w'
         go_simp
         with_reducible rfl
        rotate_left
        ·exact oT
        refine pure_ (i := 6) (N := some 23) (v := ?_) (a' := ?_) #[true, true, true, false, true, true, true, false, false, false] rfl rfl (any_of HT_.out oK) (fun _ _ _ h => h) (Or.inl ⟨by rfl, ?_⟩) ?_ ?_
        rotate_left
        ·intro w'
         go_simp
         with_reducible rfl
        rotate_left
        ·exact oT
        refine take_ (i := 3) (N := some 20) (v := ?_) (a' := ?_) #[true, true, true, true, true, true, true, false, false, false] rfl rfl (take_ofW HT_.out HW_.out oK) (fun _ _ _ h => h) (Or.inl ⟨by rfl, ?_⟩) hHeld ?_ ?_
        rotate_left
        ·rintro w' ⟨s0, s1, s2, s3, s4, s5, s6, s7, s8, s9⟩
         go_simp
         with_reducible rfl
        rotate_left
        ·exact oT
        refine take_ (i := 7) (N := some 24) (v := ?_) (a' := ?_) #[true, true, true, true, true, true, true, true, false, false] rfl rfl (take_ofW HT_.out HW_.out oK) (fun _ _ _ h => h) (Or.inl ⟨by rfl, ?_⟩) hHeld ?_ ?_
        rotate_left
        ·rintro w' ⟨s0, s1, s2, s3, s4, s5, s6, s7, s8, s9⟩
         go_simp
         with_reducible rfl
        rotate_left
        ·exact oT
        refine one_ (i := 8) (N := some 25) #[true, true, true, true, true, true, true, true, true, false] rfl rfl (one_of HT_.out oK) oD (fun K hK => ?_)
        refine goes_ Try.func35 oK rfl #[.agg #[.int .i64 ((rd_T25 l0 aA).f0), .int .i64 ((rd_T25 l0 aA).f1), .int .i64 ((rd_T25 l0 aA).f2), .int .i64 ((rd_T25 l0 aA).f3), .int .i64 ((rd_T25 l0 aA).f4)], .agg #[.int .i64 ((rd_T25 l1 aA).f0), .int .i64 ((rd_T25 l1 aA).f1), .int .i64 ((rd_T25 l1 aA).f2), .int .i64 ((rd_T25 l1 aA).f3), .int .i64 ((rd_T25 l1 aA).f4)]] (by rfl) rfl rfl oA ?_
        with_reducible refine (laws_eqOpOp.calls ((rd_T25 l0 aA).f0) ((rd_T25 l0 aA).f1) ((rd_T25 l0 aA).f2) ((rd_T25 l0 aA).f3) ((rd_T25 l0 aA).f4) ((rd_T25 l1 aA).f0) ((rd_T25 l1 aA).f1) ((rd_T25 l1 aA).f2) ((rd_T25 l1 aA).f3) ((rd_T25 l1 aA).f4) true _ A7.out).mono ?_
        rintro e bH ⟨rfl, hb⟩
        refine ⟨_, rfl, ?_⟩
        replace HB := o1_ (below_step (oB HB) hb)
        (try clear hb)
        (try clear hb2)
        (try clear hk)
        (try clear hi)
        refine hK.out _ _ ⟨((HB.out.cell (World.block_lt_of_cell? w _ hw444_0)).trans hw444_0), ((HB.out.cell (World.block_lt_of_cell? w _ hw444_1)).trans hw444_1), ((HB.out.cell (World.block_lt_of_cell? w _ hw444_2)).trans hw444_2), ((HB.out.cell (World.block_lt_of_cell? w _ hw444_3)).trans hw444_3), ((HB.out.cell (World.block_lt_of_cell? w _ hw444_4)).trans hw444_4), ((HB.out.cell (World.block_lt_of_cell? w _ hw445_0)).trans hw445_0), ((HB.out.cell (World.block_lt_of_cell? w _ hw445_1)).trans hw445_1), ((HB.out.cell (World.block_lt_of_cell? w _ hw445_2)).trans hw445_2), ((HB.out.cell (World.block_lt_of_cell? w _ hw445_3)).trans hw445_3), ((HB.out.cell (World.block_lt_of_cell? w _ hw445_4)).trans hw445_4)⟩ (fun hHeld => ?_)
        clear hK K
        refine norm_ (a' := ?_) ?_ ?_
        rotate_left
        ·show Act.put _ (some 25) _ = _
         exact oT
        refine pure_ (i := 9) (N := some 26) (v := ?_) (a' := ?_) #[true, true, true, true, true, true, true, true, true, true] rfl rfl (any_of HT_.out oK) (fun _ _ _ h => h) (Or.inl ⟨by rfl, ?_⟩) ?_ ?_
        rotate_left
        ·intro w'
         go_simp
         with_reducible rfl
        rotate_left
        ·exact oT
        refine done_ (done_of HT_.out oK) ?_
        try go_wp2
        go_roundg k1
        case measure => have := HK1.out; omega
        case rel => exact ⟨(wrap64 (aA + 1)), oU, H', ⟨(by have := HK1.out; omega)⟩, ⟨(oB HB)⟩⟩
       ·replace c8 := Bool.eq_false_iff.mpr c8
        subst c8
        rw [if_neg (show ¬ (false = true) by decide)] at H
        obtain rfl := Option.some.inj H
        try go_wp2
        replace HB := o1_ (below_drew1 HB.out)
        have aN : 0 ≤ (aA : Int) := of_decide_eq_true oM
        have aP : aA < (l0.length : Int) := of_decide_eq_true oM
        obtain ⟨aB, aR, aD, aE, aF, aG, aH⟩ := at_T25 aZ.out aA aN aP
        have hw444_4 := aH
        have hw444_3 := aG
        have hw444_2 := aF
        have hw444_1 := aE
        have hw444_0 := aD
        cases aR
        replace aD := (HB.out.cell (World.block_lt_of_cell? w _ aD)).trans aD
        replace aE := (HB.out.cell (World.block_lt_of_cell? w _ aE)).trans aE
        replace aF := (HB.out.cell (World.block_lt_of_cell? w _ aF)).trans aF
        replace aG := (HB.out.cell (World.block_lt_of_cell? w _ aG)).trans aG
        replace aH := (HB.out.cell (World.block_lt_of_cell? w _ aH)).trans aH
        replace aN := eq_true aN
        replace aP := eq_true aP
        have aO : 0 ≤ (aA : Int) := of_decide_eq_true oM
        have aQ : aA < (l1.length : Int) := of_decide_eq_true oM
        obtain ⟨aC, aS, aI, aJ, aK, aL, aM⟩ := at_T25 bA.out aA aO aQ
        have hw445_4 := aM
        have hw445_3 := aL
        have hw445_2 := aK
        have hw445_1 := aJ
        have hw445_0 := aI
        cases aS
        replace aI := (HB.out.cell (World.block_lt_of_cell? w _ aI)).trans aI
        replace aJ := (HB.out.cell (World.block_lt_of_cell? w _ aJ)).trans aJ
        replace aK := (HB.out.cell (World.block_lt_of_cell? w _ aK)).trans aK
        replace aL := (HB.out.cell (World.block_lt_of_cell? w _ aL)).trans aL
        replace aM := (HB.out.cell (World.block_lt_of_cell? w _ aM)).trans aM
        replace aO := eq_true aO
        replace aQ := eq_true aQ
        refine start_ (n := 10) (S := fun w' => w'.cell? (aB.add ((aA).toNat * 5)) = some (.int .i64 ((rd_T25 l0 aA).f0)) ∧ w'.cell? ⟨(aB.add ((aA).toNat * 5)).block, (aB.add ((aA).toNat * 5)).off + 1, none⟩ = some (.int .i64 ((rd_T25 l0 aA).f1)) ∧ w'.cell? ⟨(aB.add ((aA).toNat * 5)).block, (aB.add ((aA).toNat * 5)).off + 2, none⟩ = some (.int .i64 ((rd_T25 l0 aA).f2)) ∧ w'.cell? ⟨(aB.add ((aA).toNat * 5)).block, (aB.add ((aA).toNat * 5)).off + 3, none⟩ = some (.int .i64 ((rd_T25 l0 aA).f3)) ∧ w'.cell? ⟨(aB.add ((aA).toNat * 5)).block, (aB.add ((aA).toNat * 5)).off + 4, none⟩ = some (.int .i64 ((rd_T25 l0 aA).f4)) ∧ w'.cell? (aC.add ((aA).toNat * 5)) = some (.int .i64 ((rd_T25 l1 aA).f0)) ∧ w'.cell? ⟨(aC.add ((aA).toNat * 5)).block, (aC.add ((aA).toNat * 5)).off + 1, none⟩ = some (.int .i64 ((rd_T25 l1 aA).f1)) ∧ w'.cell? ⟨(aC.add ((aA).toNat * 5)).block, (aC.add ((aA).toNat * 5)).off + 2, none⟩ = some (.int .i64 ((rd_T25 l1 aA).f2)) ∧ w'.cell? ⟨(aC.add ((aA).toNat * 5)).block, (aC.add ((aA).toNat * 5)).off + 3, none⟩ = some (.int .i64 ((rd_T25 l1 aA).f3)) ∧ w'.cell? ⟨(aC.add ((aA).toNat * 5)).block, (aC.add ((aA).toNat * 5)).off + 4, none⟩ = some (.int .i64 ((rd_T25 l1 aA).f4))) (ds := []) #[false, false, false, false, false, false, false, false, false, false] oK rfl rfl ⟨((HB.out.cell (World.block_lt_of_cell? w _ hw444_0)).trans hw444_0), ((HB.out.cell (World.block_lt_of_cell? w _ hw444_1)).trans hw444_1), ((HB.out.cell (World.block_lt_of_cell? w _ hw444_2)).trans hw444_2), ((HB.out.cell (World.block_lt_of_cell? w _ hw444_3)).trans hw444_3), ((HB.out.cell (World.block_lt_of_cell? w _ hw444_4)).trans hw444_4), ((HB.out.cell (World.block_lt_of_cell? w _ hw445_0)).trans hw445_0), ((HB.out.cell (World.block_lt_of_cell? w _ hw445_1)).trans hw445_1), ((HB.out.cell (World.block_lt_of_cell? w _ hw445_2)).trans hw445_2), ((HB.out.cell (World.block_lt_of_cell? w _ hw445_3)).trans hw445_3), ((HB.out.cell (World.block_lt_of_cell? w _ hw445_4)).trans hw445_4)⟩ (fun hHeld => ?_); refine with_tabW laws_eqOpOpS.tab6 laws_eqOpOpS.bits6 (fun HT_ HW_ => ?_)
        generalize wr.drew = bI at HB aD aE aF aG aH aI aJ aK aL aM hHeld ⊢
        refine pure_ (i := 0) (N := some 17) (v := ?_) (a' := ?_) #[true, false, false, false, false, false, false, false, false, false] rfl rfl (any_of HT_.out oK) (fun _ _ _ h => h) (Or.inl ⟨by rfl, ?_⟩) ?_ ?_
        rotate_left
        ·intro w'
         go_simp
         with_reducible rfl
        rotate_left
        ·exact oT
        refine pure_ (i := 1) (N := some 18) (v := ?_) (a' := ?_) #[true, true, false, false, false, false, false, false, false, false] rfl rfl (any_of HT_.out oK) (fun _ _ _ h => h) (Or.inl ⟨by rfl, ?_⟩) ?_ ?_
        rotate_left
        ·intro w'
         go_simp
         with_reducible rfl
        rotate_left
        ·exact oT
        refine pure_ (i := 2) (N := some 19) (v := ?_) (a' := ?_) #[true, true, true, false, false, false, false, false, false, false] rfl rfl (any_of HT_.out oK) (fun _ _ _ h => h) (Or.inl ⟨by rfl, ?_⟩) ?_ ?_
        rotate_left
        ·intro w'
         go_simp
         with_reducible rfl
        rotate_left
        ·exact oT
        refine pure_ (i := 4) (N := some 21) (v := ?_) (a' := ?_) #[true, true, true, false, true, false, false, false, false, false] rfl rfl (any_of HT_.out oK) (fun _ _ _ h => h) (Or.inl ⟨by rfl, ?_⟩) ?_ ?_
        rotate_left
        ·intro w'
         go_simp
         with_reducible rfl
        rotate_left
        ·exact oT
        refine pure_ (i := 5) (N := some 22) (v := ?_) (a' := ?_) #[true, true, true, false, true, true, false, false, false, false] rfl rfl (any_of HT_.out oK) (fun _ _ _ h => h) (Or.inl ⟨by rfl, ?_⟩) ?_ ?_
        rotate_left
        ·intro w'
         go_simp
         with_reducible rfl
        rotate_left
        ·exact oT
        refine pure_ (i := 6) (N := some 23) (v := ?_) (a' := ?_) #[true, true, true, false, true, true, true, false, false, false] rfl rfl (any_of HT_.out oK) (fun _ _ _ h => h) (Or.inl ⟨by rfl, ?_⟩) ?_ ?_
        rotate_left
        ·intro w'
         go_simp
         with_reducible rfl
        rotate_left
        ·exact oT
        refine take_ (i := 3) (N := some 20) (v := ?_) (a' := ?_) #[true, true, true, true, true, true, true, false, false, false] rfl rfl (take_ofW HT_.out HW_.out oK) (fun _ _ _ h => h) (Or.inl ⟨by rfl, ?_⟩) hHeld ?_ ?_
        rotate_left
        ·rintro w' ⟨s0, s1, s2, s3, s4, s5, s6, s7, s8, s9⟩
         go_simp
         with_reducible rfl
        rotate_left
        ·exact oT
        refine take_ (i := 7) (N := some 24) (v := ?_) (a' := ?_) #[true, true, true, true, true, true, true, true, false, false] rfl rfl (take_ofW HT_.out HW_.out oK) (fun _ _ _ h => h) (Or.inl ⟨by rfl, ?_⟩) hHeld ?_ ?_
        rotate_left
        ·rintro w' ⟨s0, s1, s2, s3, s4, s5, s6, s7, s8, s9⟩
         go_simp
         with_reducible rfl
        rotate_left
        ·exact oT
        refine one_ (i := 8) (N := some 25) #[true, true, true, true, true, true, true, true, true, false] rfl rfl (one_of HT_.out oK) oD (fun K hK => ?_)
        refine goes_ Try.func35 oK rfl #[.agg #[.int .i64 ((rd_T25 l0 aA).f0), .int .i64 ((rd_T25 l0 aA).f1), .int .i64 ((rd_T25 l0 aA).f2), .int .i64 ((rd_T25 l0 aA).f3), .int .i64 ((rd_T25 l0 aA).f4)], .agg #[.int .i64 ((rd_T25 l1 aA).f0), .int .i64 ((rd_T25 l1 aA).f1), .int .i64 ((rd_T25 l1 aA).f2), .int .i64 ((rd_T25 l1 aA).f3), .int .i64 ((rd_T25 l1 aA).f4)]] (by rfl) rfl rfl oA ?_
        with_reducible refine (laws_eqOpOp.calls ((rd_T25 l0 aA).f0) ((rd_T25 l0 aA).f1) ((rd_T25 l0 aA).f2) ((rd_T25 l0 aA).f3) ((rd_T25 l0 aA).f4) ((rd_T25 l1 aA).f0) ((rd_T25 l1 aA).f1) ((rd_T25 l1 aA).f2) ((rd_T25 l1 aA).f3) ((rd_T25 l1 aA).f4) false _ A7.out).mono ?_
        rintro e bJ ⟨rfl, hb⟩
        refine ⟨_, rfl, ?_⟩
        replace HB := o1_ (below_step (oB HB) hb)
        (try clear hb)
        (try clear hb2)
        (try clear hk)
        (try clear hi)
        refine hK.out _ _ ⟨((HB.out.cell (World.block_lt_of_cell? w _ hw444_0)).trans hw444_0), ((HB.out.cell (World.block_lt_of_cell? w _ hw444_1)).trans hw444_1), ((HB.out.cell (World.block_lt_of_cell? w _ hw444_2)).trans hw444_2), ((HB.out.cell (World.block_lt_of_cell? w _ hw444_3)).trans hw444_3), ((HB.out.cell (World.block_lt_of_cell? w _ hw444_4)).trans hw444_4), ((HB.out.cell (World.block_lt_of_cell? w _ hw445_0)).trans hw445_0), ((HB.out.cell (World.block_lt_of_cell? w _ hw445_1)).trans hw445_1), ((HB.out.cell (World.block_lt_of_cell? w _ hw445_2)).trans hw445_2), ((HB.out.cell (World.block_lt_of_cell? w _ hw445_3)).trans hw445_3), ((HB.out.cell (World.block_lt_of_cell? w _ hw445_4)).trans hw445_4)⟩ (fun hHeld => ?_)
        clear hK K
        refine norm_ (a' := ?_) ?_ ?_
        rotate_left
        ·show Act.put _ (some 25) _ = _
         exact oT
        refine pure_ (i := 9) (N := some 26) (v := ?_) (a' := ?_) #[true, true, true, true, true, true, true, true, true, true] rfl rfl (any_of HT_.out oK) (fun _ _ _ h => h) (Or.inl ⟨by rfl, ?_⟩) ?_ ?_
        rotate_left
        ·intro w'
         go_simp
         with_reducible rfl
        rotate_left
        ·exact oT
        refine done_ (done_of HT_.out oK) ?_
        try go_wp2
        go_ret
        exact ⟨by first | rfl | (simp [errW_none, errW_some] <;> rfl) | (simp [*, errW_none, errW_some] <;> rfl), oB HB⟩
      ·rw [if_neg c6] at H
       exact absurd H (by simp)
     ·rw [if_neg c5] at H
      exact absurd H (by simp)
    ·rw [if_neg c4] at H
     have aX : decide (aA < (l0.length : Int)) = false := decide_eq_false c4
     clear c4
     obtain rfl := Option.some.inj H
     go_wp2
     go_ret
     exact ⟨by first | rfl | (simp [errW_none, errW_some] <;> rfl) | (simp [*, errW_none, errW_some] <;> rfl), oB HB⟩
 ·rw [if_neg c3] at H
  have aU : ((l0.length : Int) == (l1.length : Int)) = false := beq_eq_false_iff_ne.mpr c3
  have aV : ((l0.length : Int) != (l1.length : Int)) = true := bne_iff_ne.mpr c3
  have aW : (l0.length == l1.length) = false := by first | simpa using c3 | (simp at c3 ⊢; omega)
  obtain rfl := Option.some.inj H
  go_enter Try.func17, Try.ntmps17
  go_wp2
  go_ret
  exact ⟨by first | rfl | (simp [errW_none, errW_some] <;> rfl) | (simp [*, errW_none, errW_some] <;> rfl), oB HB⟩

end Go.Proofs.Ytjkaalcocgioaaa.X
