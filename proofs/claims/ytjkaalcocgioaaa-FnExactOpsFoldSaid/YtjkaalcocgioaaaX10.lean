/- What functions of the program come to, each with its proof. No condition but what each theorem states. -/
import Derived.Test.YtjkaalcocgioaaaX0
namespace Go.Proofs.Ytjkaalcocgioaaa.X
open Go.RowKit Go.Proofs.YtjkaalcocgioaaaW.PrintWords Go.Proofs.YtjkaalcocgioaaaW.PrintLast Go.Proofs.YtjkaalcocgioaaaW.PrintMore Go.Proofs.Ytjkaalcocgioaaa.Hyb
attribute [local go_sem] max2_int min2_int max_two min_two max_three min_three max_four min_four
set_option linter.unusedVariables false
set_option linter.unusedSimpArgs false

/-! ### impl_nested: function 40 -/
theorem oV {P : Prop} {w : World} {p : Addr} {v : Value} {n : Nat} (h : w.cell? p = some v) (k : Aside0 (w.heap.size ≤ n)) (r : w.cell? p = some v → Aside0 (w.heap.size ≤ n) → P := by intro h_ k_; first | exact Nat.ne_of_lt (oW h_ k_) | (rw [add_block]; exact Nat.ne_of_lt (oW h_ k_)) | (show (Addr.add _ _).block ≠ _; rw [add_block]; exact Nat.ne_of_lt (oW h_ k_)) | (dsimp only; exact Nat.ne_of_lt (oW h_ k_))) : P := r h k
def impl_nested.f (l0 : List (S25)) : Option (Bool) := if 0 < (l0.length : Int) then (if 1 < (l0.length : Int) then (if ((rd_T25 l0 0).f0) = 1 then (if ((rd_T25 l0 1).f0) = 1 then (if (wrap64 (((rd_T25 l0 1).f1) + ((rd_T25 l0 1).f3))) ≤ ((rd_T25 l0 0).f3) then (if (wrap64 (((rd_T25 l0 1).f2) + ((rd_T25 l0 1).f4))) ≤ ((rd_T25 l0 0).f4) then (if (wrap64 (((rd_T25 l0 0).f1) + ((rd_T25 l0 1).f1))) < 6 then (some (decide ((wrap64 (((rd_T25 l0 0).f2) + ((rd_T25 l0 1).f2))) < 6))) else (some false)) else (some false)) else (some false)) else (some false)) else (some false)) else (none)) else (none)
def impl_nested.T1 : Bool × List (List Nat × List Nat) := (true, [([], []), ([0], [0]), ([1], [1]), ([], []), ([3], [3]), ([4], [4]), ([], []), ([], []), ([6, 2, 0, 1, 2, 6, 7], [2, 6]), ([7, 5, 8, 0, 1, 2, 3, 4, 5, 6, 7, 8], [5, 7])])
def impl_nested.B1 : List Nat := [0, 1, 3, 0, 8, 24, 0, 0, 199, 511]
theorem impl_nested.tab1 : rtab .any (opsOf Try.f40 1) = impl_nested.T1 := by kernel_rfl
theorem impl_nested.bits1 : waitsOk impl_nested.T1.2 impl_nested.B1 = true := by kernel_rfl
set_option maxHeartbeats 8000000 in
set_option maxRecDepth 100000 in
theorem impl_nested.calls (A0 : Option Addr) (c0 : Nat) (l0 : List (S25)) (r : Bool) (w : World) (hr0 : Kd.C k25 w A0 l0.length l0) (gH : l0.length ≤ c0) (h : impl_nested.f l0 = some r) :
  Calls Try.prog 40 #[.slice A0 l0.length c0] w fun e w' => e = .returned (.bool r) ∧ Below w.heap.size w w' := by
 have hu25 := Try.underlying25
 have bR := Aside0.mk hr0
 have hI := Aside0.mk gH
 clear hr0 gH
 have HB := Aside0.mk (Below.refl w.heap.size w)
 have H : (if 0 < (l0.length : Int) then (if 1 < (l0.length : Int) then (if ((rd_T25 l0 0).f0) = 1 then (if ((rd_T25 l0 1).f0) = 1 then (if (wrap64 (((rd_T25 l0 1).f1) + ((rd_T25 l0 1).f3))) ≤ ((rd_T25 l0 0).f3) then (if (wrap64 (((rd_T25 l0 1).f2) + ((rd_T25 l0 1).f4))) ≤ ((rd_T25 l0 0).f4) then (if (wrap64 (((rd_T25 l0 0).f1) + ((rd_T25 l0 1).f1))) < 6 then (some (decide ((wrap64 (((rd_T25 l0 0).f2) + ((rd_T25 l0 1).f2))) < 6))) else (some false)) else (some false)) else (some false)) else (some false)) else (some false)) else (none)) else (none)) = some r := h
 clear h
 by_cases c2 : 0 < (l0.length : Int)
 ·rw [if_pos c2] at H
  have gS : decide (0 < (l0.length : Int)) = true := decide_eq_true c2
  have gT : decide (0 < l0.length) = true := decide_eq_true (by omega)
  clear c2
  by_cases c3 : 1 < (l0.length : Int)
  ·rw [if_pos c3] at H
   have gU : decide (1 < (l0.length : Int)) = true := decide_eq_true c3
   have gV : decide (1 < l0.length) = true := decide_eq_true (by omega)
   clear c3
   by_cases c4 : ((rd_T25 l0 0).f0) = 1
   ·rw [if_pos c4] at H
    have fY : (((rd_T25 l0 0).f0) == 1) = true := beq_iff_eq.mpr c4
    have fZ : (((rd_T25 l0 0).f0) != 1) = false := bne_eq_false_iff_eq.mpr c4
    clear c4
    by_cases c5 : ((rd_T25 l0 1).f0) = 1
    ·rw [if_pos c5] at H
     have gA : (((rd_T25 l0 1).f0) == 1) = true := beq_iff_eq.mpr c5
     have gB : (((rd_T25 l0 1).f0) != 1) = false := bne_eq_false_iff_eq.mpr c5
     clear c5
     by_cases c6 : (wrap64 (((rd_T25 l0 1).f1) + ((rd_T25 l0 1).f3))) ≤ ((rd_T25 l0 0).f3)
     ·rw [if_pos c6] at H
      have gC : decide ((wrap64 (((rd_T25 l0 1).f1) + ((rd_T25 l0 1).f3))) ≤ ((rd_T25 l0 0).f3)) = true := decide_eq_true c6
      clear c6
      by_cases c7 : (wrap64 (((rd_T25 l0 1).f2) + ((rd_T25 l0 1).f4))) ≤ ((rd_T25 l0 0).f4)
      ·rw [if_pos c7] at H
       have gD : decide ((wrap64 (((rd_T25 l0 1).f2) + ((rd_T25 l0 1).f4))) ≤ ((rd_T25 l0 0).f4)) = true := decide_eq_true c7
       clear c7
       by_cases c8 : (wrap64 (((rd_T25 l0 0).f1) + ((rd_T25 l0 1).f1))) < 6
       ·rw [if_pos c8] at H
        have gE : decide ((wrap64 (((rd_T25 l0 0).f1) + ((rd_T25 l0 1).f1))) < 6) = true := decide_eq_true c8
        clear c8
        obtain rfl := Option.some.inj H
        go_enter Try.func40, Try.ntmps40
        try go_wp2
        replace HB := o1_ (below_drew1 HB.out)
        have aV : 0 ≤ (0 : Int) := (by omega)
        have aX : 0 < (l0.length : Int) := of_decide_eq_true oM
        obtain ⟨aE, bG, aJ, aK, aL, aM, aN⟩ := at_T25 bR.out 0 aV aX
        have hw117_4 := aN
        (try rw [show ((0 : Int)).toNat = 0 from rfl] at hw117_4)
        (try rw [show 0 * 5 = 0 from rfl] at hw117_4)
        (try rw [Addr.add_zero'] at hw117_4)
        have hw117_3 := aM
        (try rw [show ((0 : Int)).toNat = 0 from rfl] at hw117_3)
        (try rw [show 0 * 5 = 0 from rfl] at hw117_3)
        (try rw [Addr.add_zero'] at hw117_3)
        have hw117_2 := aL
        (try rw [show ((0 : Int)).toNat = 0 from rfl] at hw117_2)
        (try rw [show 0 * 5 = 0 from rfl] at hw117_2)
        (try rw [Addr.add_zero'] at hw117_2)
        have hw117_1 := aK
        (try rw [show ((0 : Int)).toNat = 0 from rfl] at hw117_1)
        (try rw [show 0 * 5 = 0 from rfl] at hw117_1)
        (try rw [Addr.add_zero'] at hw117_1)
        have hw117_0 := aJ
        (try rw [show ((0 : Int)).toNat = 0 from rfl] at hw117_0)
        (try rw [show 0 * 5 = 0 from rfl] at hw117_0)
        (try rw [Addr.add_zero'] at hw117_0)
        cases bG
        have qi117 : (0 < l0.length) = True := eq_true (by omega)
        (try rw [show ((0 : Int)).toNat = 0 from rfl] at aJ)
        (try rw [show 0 * 5 = 0 from rfl] at aJ)
        (try rw [Addr.add_zero'] at aJ)
        (try rw [show ((0 : Int)).toNat = 0 from rfl] at aK)
        (try rw [show 0 * 5 = 0 from rfl] at aK)
        (try rw [Addr.add_zero'] at aK)
        (try rw [show ((0 : Int)).toNat = 0 from rfl] at aL)
        (try rw [show 0 * 5 = 0 from rfl] at aL)
        (try rw [Addr.add_zero'] at aL)
        (try rw [show ((0 : Int)).toNat = 0 from rfl] at aM)
        (try rw [show 0 * 5 = 0 from rfl] at aM)
        (try rw [Addr.add_zero'] at aM)
        (try rw [show ((0 : Int)).toNat = 0 from rfl] at aN)
        (try rw [show 0 * 5 = 0 from rfl] at aN)
        (try rw [Addr.add_zero'] at aN)
        replace aJ := (HB.out.cell (World.block_lt_of_cell? w _ aJ)).trans aJ
        replace aK := (HB.out.cell (World.block_lt_of_cell? w _ aK)).trans aK
        replace aL := (HB.out.cell (World.block_lt_of_cell? w _ aL)).trans aL
        replace aM := (HB.out.cell (World.block_lt_of_cell? w _ aM)).trans aM
        replace aN := (HB.out.cell (World.block_lt_of_cell? w _ aN)).trans aN
        replace aV := eq_true aV
        replace aX := eq_true aX
        have aW : 0 ≤ (1 : Int) := (by omega)
        have aY : 1 < (l0.length : Int) := of_decide_eq_true oM
        obtain ⟨aZ, bH, aO, aP, aQ, aR, aS⟩ := at_T25 bR.out 1 aW aY
        have hw118_4 := aS
        (try rw [show ((1 : Int)).toNat = 1 from rfl] at hw118_4)
        (try rw [show 1 * 5 = 5 from rfl] at hw118_4)
        (try simp only [Nat.reduceMul, Nat.reduceEqDiff, Go.Addr.add, ↓reduceIte] at hw118_4)
        have hw118_3 := aR
        (try rw [show ((1 : Int)).toNat = 1 from rfl] at hw118_3)
        (try rw [show 1 * 5 = 5 from rfl] at hw118_3)
        (try simp only [Nat.reduceMul, Nat.reduceEqDiff, Go.Addr.add, ↓reduceIte] at hw118_3)
        have hw118_2 := aQ
        (try rw [show ((1 : Int)).toNat = 1 from rfl] at hw118_2)
        (try rw [show 1 * 5 = 5 from rfl] at hw118_2)
        (try simp only [Nat.reduceMul, Nat.reduceEqDiff, Go.Addr.add, ↓reduceIte] at hw118_2)
        have hw118_1 := aP
        (try rw [show ((1 : Int)).toNat = 1 from rfl] at hw118_1)
        (try rw [show 1 * 5 = 5 from rfl] at hw118_1)
        (try simp only [Nat.reduceMul, Nat.reduceEqDiff, Go.Addr.add, ↓reduceIte] at hw118_1)
        have hw118_0 := aO
        (try rw [show ((1 : Int)).toNat = 1 from rfl] at hw118_0)
        (try rw [show 1 * 5 = 5 from rfl] at hw118_0)
        (try simp only [Nat.reduceMul, Nat.reduceEqDiff, Go.Addr.add, ↓reduceIte] at hw118_0)
        obtain rfl : aE = aZ := (by injection bH)
        (try simp only [show (1 : Int).toNat = 1 from rfl, Nat.reduceMul, Nat.reduceEqDiff, Go.Addr.add, ↓reduceIte] at aO)
        (try simp only [show (1 : Int).toNat = 1 from rfl, Nat.reduceMul, Nat.reduceEqDiff, Go.Addr.add, ↓reduceIte] at aP)
        (try simp only [show (1 : Int).toNat = 1 from rfl, Nat.reduceMul, Nat.reduceEqDiff, Go.Addr.add, ↓reduceIte] at aQ)
        (try simp only [show (1 : Int).toNat = 1 from rfl, Nat.reduceMul, Nat.reduceEqDiff, Go.Addr.add, ↓reduceIte] at aR)
        (try simp only [show (1 : Int).toNat = 1 from rfl, Nat.reduceMul, Nat.reduceEqDiff, Go.Addr.add, ↓reduceIte] at aS)
        have qi118 : (1 < l0.length) = True := eq_true (by omega)
        (try rw [show ((1 : Int)).toNat = 1 from rfl] at aO)
        (try rw [show 1 * 5 = 5 from rfl] at aO)
        (try rw [show ((1 : Int)).toNat = 1 from rfl] at aP)
        (try rw [show 1 * 5 = 5 from rfl] at aP)
        (try rw [show ((1 : Int)).toNat = 1 from rfl] at aQ)
        (try rw [show 1 * 5 = 5 from rfl] at aQ)
        (try rw [show ((1 : Int)).toNat = 1 from rfl] at aR)
        (try rw [show 1 * 5 = 5 from rfl] at aR)
        (try rw [show ((1 : Int)).toNat = 1 from rfl] at aS)
        (try rw [show 1 * 5 = 5 from rfl] at aS)
        replace aO := (HB.out.cell (World.block_lt_of_cell? w _ aO)).trans aO
        replace aP := (HB.out.cell (World.block_lt_of_cell? w _ aP)).trans aP
        replace aQ := (HB.out.cell (World.block_lt_of_cell? w _ aQ)).trans aQ
        replace aR := (HB.out.cell (World.block_lt_of_cell? w _ aR)).trans aR
        replace aS := (HB.out.cell (World.block_lt_of_cell? w _ aS)).trans aS
        replace aW := eq_true aW
        replace aY := eq_true aY
        refine start_ (n := 10) (S := fun w' => w'.cell? aE = some (.int .i64 ((rd_T25 l0 0).f0)) ∧ w'.cell? ⟨aE.block, aE.off + 1, none⟩ = some (.int .i64 ((rd_T25 l0 0).f1)) ∧ w'.cell? ⟨aE.block, aE.off + 2, none⟩ = some (.int .i64 ((rd_T25 l0 0).f2)) ∧ w'.cell? ⟨aE.block, aE.off + 3, none⟩ = some (.int .i64 ((rd_T25 l0 0).f3)) ∧ w'.cell? ⟨aE.block, aE.off + 4, none⟩ = some (.int .i64 ((rd_T25 l0 0).f4)) ∧ w'.cell? ⟨aE.block, aE.off + 5, none⟩ = some (.int .i64 ((rd_T25 l0 1).f0)) ∧ w'.cell? ⟨aE.block, aE.off + 5 + 1, none⟩ = some (.int .i64 ((rd_T25 l0 1).f1)) ∧ w'.cell? ⟨aE.block, aE.off + 5 + 2, none⟩ = some (.int .i64 ((rd_T25 l0 1).f2)) ∧ w'.cell? ⟨aE.block, aE.off + 5 + 3, none⟩ = some (.int .i64 ((rd_T25 l0 1).f3)) ∧ w'.cell? ⟨aE.block, aE.off + 5 + 4, none⟩ = some (.int .i64 ((rd_T25 l0 1).f4))) (ds := []) #[false, false, false, false, false, false, false, false, false, false] oK rfl rfl ⟨((HB.out.cell (World.block_lt_of_cell? w _ hw117_0)).trans hw117_0), ((HB.out.cell (World.block_lt_of_cell? w _ hw117_1)).trans hw117_1), ((HB.out.cell (World.block_lt_of_cell? w _ hw117_2)).trans hw117_2), ((HB.out.cell (World.block_lt_of_cell? w _ hw117_3)).trans hw117_3), ((HB.out.cell (World.block_lt_of_cell? w _ hw117_4)).trans hw117_4), ((HB.out.cell (World.block_lt_of_cell? w _ hw118_0)).trans hw118_0), ((HB.out.cell (World.block_lt_of_cell? w _ hw118_1)).trans hw118_1), ((HB.out.cell (World.block_lt_of_cell? w _ hw118_2)).trans hw118_2), ((HB.out.cell (World.block_lt_of_cell? w _ hw118_3)).trans hw118_3), ((HB.out.cell (World.block_lt_of_cell? w _ hw118_4)).trans hw118_4)⟩ (fun hHeld => ?_); refine with_tabW impl_nested.tab1 impl_nested.bits1 (fun HT_ HW_ => ?_)
        generalize w.drew = w9 at HB aJ aK aL aM aN aO aP aQ aR aS hHeld ⊢
        refine pure_ (i := 0) (N := some 5) (v := ?_) (a' := ?_) #[true, false, false, false, false, false, false, false, false, false] rfl rfl (any_of HT_.out oK) (fun _ _ _ h => h) (Or.inl ⟨by rfl, ?_⟩) ?_ ?_
        rotate_left
        ·intro w'
         go_simp
         with_reducible rfl
        rotate_left
        ·exact oT
        refine pure_ (i := 1) (N := some 6) (v := ?_) (a' := ?_) #[true, true, false, false, false, false, false, false, false, false] rfl rfl (any_of HT_.out oK) (fun _ _ _ h => h) (Or.inl ⟨by rfl, ?_⟩) ?_ ?_
        rotate_left
        ·intro w'
         go_simp
         with_reducible rfl
        rotate_left
        ·exact oT
        refine pure_ (i := 3) (N := some 8) (v := ?_) (a' := ?_) #[true, true, false, true, false, false, false, false, false, false] rfl rfl (any_of HT_.out oK) (fun _ _ _ h => h) (Or.inl ⟨by rfl, ?_⟩) ?_ ?_
        rotate_left
        ·intro w'
         go_simp
         with_reducible rfl
        rotate_left
        ·exact oT
        refine pure_ (i := 4) (N := some 9) (v := ?_) (a' := ?_) #[true, true, false, true, true, false, false, false, false, false] rfl rfl (any_of HT_.out oK) (fun _ _ _ h => h) (Or.inl ⟨by rfl, ?_⟩) ?_ ?_
        rotate_left
        ·intro w'
         go_simp
         with_reducible rfl
        rotate_left
        ·exact oT
        refine take_ (i := 2) (N := some 7) (v := ?_) (a' := ?_) #[true, true, true, true, true, false, false, false, false, false] rfl rfl (take_ofW HT_.out HW_.out oK) (fun _ _ _ h => h) (Or.inl ⟨by rfl, ?_⟩) hHeld ?_ ?_
        rotate_left
        ·rintro w' ⟨s0, s1, s2, s3, s4, s5, s6, s7, s8, s9⟩
         go_simp
         with_reducible rfl
        rotate_left
        ·exact oT
        refine take_ (i := 5) (N := some 10) (v := ?_) (a' := ?_) #[true, true, true, true, true, true, false, false, false, false] rfl rfl (take_ofW HT_.out HW_.out oK) (fun _ _ _ h => h) (Or.inl ⟨by rfl, ?_⟩) hHeld ?_ ?_
        rotate_left
        ·rintro w' ⟨s0, s1, s2, s3, s4, s5, s6, s7, s8, s9⟩
         go_simp
         with_reducible rfl
        rotate_left
        ·exact oT
        refine join_ (σ := Nat × Nat) 2 #[true, true, true, true, true, true, true, true, false, false] (fun s_ => [(3, .pointer (some ⟨s_.1, 0, none⟩)), (4, .pointer (some ⟨s_.2, 0, none⟩))]) (fun s_ w' => (w'.cell? aE = some (.int .i64 ((rd_T25 l0 0).f0)) ∧ w'.cell? ⟨aE.block, aE.off + 1, none⟩ = some (.int .i64 ((rd_T25 l0 0).f1)) ∧ w'.cell? ⟨aE.block, aE.off + 2, none⟩ = some (.int .i64 ((rd_T25 l0 0).f2)) ∧ w'.cell? ⟨aE.block, aE.off + 3, none⟩ = some (.int .i64 ((rd_T25 l0 0).f3)) ∧ w'.cell? ⟨aE.block, aE.off + 4, none⟩ = some (.int .i64 ((rd_T25 l0 0).f4)) ∧ w'.cell? ⟨aE.block, aE.off + 5, none⟩ = some (.int .i64 ((rd_T25 l0 1).f0)) ∧ w'.cell? ⟨aE.block, aE.off + 5 + 1, none⟩ = some (.int .i64 ((rd_T25 l0 1).f1)) ∧ w'.cell? ⟨aE.block, aE.off + 5 + 2, none⟩ = some (.int .i64 ((rd_T25 l0 1).f2)) ∧ w'.cell? ⟨aE.block, aE.off + 5 + 3, none⟩ = some (.int .i64 ((rd_T25 l0 1).f3)) ∧ w'.cell? ⟨aE.block, aE.off + 5 + 4, none⟩ = some (.int .i64 ((rd_T25 l0 1).f4))) ∧ (w'.heap[s_.1]? = some (.cells #[.int .i64 0, .int .i64 0, .int .i64 0, .int .i64 0, .int .i64 0] 25 (0, 0))) ∧ (w'.heap[s_.2]? = some (.cells #[.int .i64 0, .int .i64 0, .int .i64 0, .int .i64 0, .int .i64 0] 25 (0, 0))) ∧ (w.heap.size ≤ s_.1) ∧ (w.heap.size ≤ s_.1) ∧ (s_.2 ≠ s_.1) ∧ (s_.1 ≠ s_.2) ∧ (w.heap.size ≤ s_.2) ∧ (w.heap.size ≤ s_.2) ∧ (Below w.heap.size w w')) ?_ ?_
        rotate_left
        ·intro hCont
         refine two_ (i := 6) (j := 7) (Ni := some 3) (Nj := some 4) #[true, true, true, true, true, true, true, false, false, false] #[true, true, true, true, true, true, false, true, false, false] rfl rfl rfl rfl (two_of HT_.out oK) oD oD (fun K hK => ?_) (fun K hK => ?_)
         ·skip
          refine box_step ?hg (N := 3) ?hd (cs := #[.int .i64 0, .int .i64 0, .int .i64 0, .int .i64 0, .int .i64 0]) (t := 25) ?hr ?_; (case hd => rfl); (case hg => rfl); (case hr => first | (go_simp; done) | (go_simp; rfl))
          intro aC hg gW hbox hb
          have n_ := o2_ (below_step (oB HB) hb) (o2_ (hbox) (o2_ ((oG hg (below_size (oB HB)) : w.heap.size ≤ aC)) (o1_ ((oG hg (below_size (oB HB)) : w.heap.size ≤ aC)))))
          clear HB
          obtain ⟨HB, aH, aA, aT⟩ := n_
          clear hb hbox hg
          refine hK.out _ _ ⟨((HB.out.cell (World.block_lt_of_cell? w _ hw117_0)).trans hw117_0), ((HB.out.cell (World.block_lt_of_cell? w _ hw117_1)).trans hw117_1), ((HB.out.cell (World.block_lt_of_cell? w _ hw117_2)).trans hw117_2), ((HB.out.cell (World.block_lt_of_cell? w _ hw117_3)).trans hw117_3), ((HB.out.cell (World.block_lt_of_cell? w _ hw117_4)).trans hw117_4), ((HB.out.cell (World.block_lt_of_cell? w _ hw118_0)).trans hw118_0), ((HB.out.cell (World.block_lt_of_cell? w _ hw118_1)).trans hw118_1), ((HB.out.cell (World.block_lt_of_cell? w _ hw118_2)).trans hw118_2), ((HB.out.cell (World.block_lt_of_cell? w _ hw118_3)).trans hw118_3), ((HB.out.cell (World.block_lt_of_cell? w _ hw118_4)).trans hw118_4)⟩ (fun hHeld => ?_)
          clear hK K
          refine norm_ (a' := ?_) ?_ ?_
          rotate_left
          ·show Act.put _ (some 3) _ = _
           exact oT
          refine one_ (i := 7) (N := some 4) #[true, true, true, true, true, true, true, true, false, false] rfl rfl (one_of HT_.out oK) oD (fun K hK => ?_)
          refine box_step ?hg (N := 4) ?hd (cs := #[.int .i64 0, .int .i64 0, .int .i64 0, .int .i64 0, .int .i64 0]) (t := 25) ?hr ?_; (case hd => rfl); (case hg => rfl); (case hr => first | (go_simp; done) | (go_simp; rfl))
          intro aD hg gX hbox hb
          have n_ := o2_ (blk_below (oP aH) hb) (o2_ (below_step (oB HB) hb) (o2_ (hbox) (o2_ ((oG hg (below_size (oB HB)) : w.heap.size ≤ aD)) (o2_ ((oG hg (below_size (oB HB)) : w.heap.size ≤ aD)) (o2_ ((oL hg (blk_lt (oP aH)))) (o1_ ((oN hg (blk_lt (oP aH))))))))))
          clear aH HB
          obtain ⟨aH, HB, aI, aB, aU, aF, aG⟩ := n_
          clear hb hbox hg
          refine hK.out _ _ ⟨((HB.out.cell (World.block_lt_of_cell? w _ hw117_0)).trans hw117_0), ((HB.out.cell (World.block_lt_of_cell? w _ hw117_1)).trans hw117_1), ((HB.out.cell (World.block_lt_of_cell? w _ hw117_2)).trans hw117_2), ((HB.out.cell (World.block_lt_of_cell? w _ hw117_3)).trans hw117_3), ((HB.out.cell (World.block_lt_of_cell? w _ hw117_4)).trans hw117_4), ((HB.out.cell (World.block_lt_of_cell? w _ hw118_0)).trans hw118_0), ((HB.out.cell (World.block_lt_of_cell? w _ hw118_1)).trans hw118_1), ((HB.out.cell (World.block_lt_of_cell? w _ hw118_2)).trans hw118_2), ((HB.out.cell (World.block_lt_of_cell? w _ hw118_3)).trans hw118_3), ((HB.out.cell (World.block_lt_of_cell? w _ hw118_4)).trans hw118_4)⟩ (fun hHeld => ?_)
          clear hK K
          refine norm_ (a' := ?_) ?_ ?_
          rotate_left
          ·show Act.put _ (some 4) _ = _
           exact oT
          exact norm_ (by simp only [putAll, Act.put, List.setIfInBounds_toArray, List.set_cons_zero, List.set_cons_succ]) (hCont (aC, aD) _ ⟨hHeld, (oP aH), (oP aI), aA.out, aT.out, aG.out, aF.out, aB.out, aU.out, (oB HB)⟩)
         ·skip
          refine box_step ?hg (N := 4) ?hd (cs := #[.int .i64 0, .int .i64 0, .int .i64 0, .int .i64 0, .int .i64 0]) (t := 25) ?hr ?_; (case hd => rfl); (case hg => rfl); (case hr => first | (go_simp; done) | (go_simp; rfl))
          intro aD hg gW hbox hb
          have n_ := o2_ (below_step (oB HB) hb) (o2_ (hbox) (o2_ ((oG hg (below_size (oB HB)) : w.heap.size ≤ aD)) (o1_ ((oG hg (below_size (oB HB)) : w.heap.size ≤ aD)))))
          clear HB
          obtain ⟨HB, aI, aB, aU⟩ := n_
          clear hb hbox hg
          refine hK.out _ _ ⟨((HB.out.cell (World.block_lt_of_cell? w _ hw117_0)).trans hw117_0), ((HB.out.cell (World.block_lt_of_cell? w _ hw117_1)).trans hw117_1), ((HB.out.cell (World.block_lt_of_cell? w _ hw117_2)).trans hw117_2), ((HB.out.cell (World.block_lt_of_cell? w _ hw117_3)).trans hw117_3), ((HB.out.cell (World.block_lt_of_cell? w _ hw117_4)).trans hw117_4), ((HB.out.cell (World.block_lt_of_cell? w _ hw118_0)).trans hw118_0), ((HB.out.cell (World.block_lt_of_cell? w _ hw118_1)).trans hw118_1), ((HB.out.cell (World.block_lt_of_cell? w _ hw118_2)).trans hw118_2), ((HB.out.cell (World.block_lt_of_cell? w _ hw118_3)).trans hw118_3), ((HB.out.cell (World.block_lt_of_cell? w _ hw118_4)).trans hw118_4)⟩ (fun hHeld => ?_)
          clear hK K
          refine norm_ (a' := ?_) ?_ ?_
          rotate_left
          ·show Act.put _ (some 4) _ = _
           exact oT
          refine one_ (i := 6) (N := some 3) #[true, true, true, true, true, true, true, true, false, false] rfl rfl (one_of HT_.out oK) oD (fun K hK => ?_)
          refine box_step ?hg (N := 3) ?hd (cs := #[.int .i64 0, .int .i64 0, .int .i64 0, .int .i64 0, .int .i64 0]) (t := 25) ?hr ?_; (case hd => rfl); (case hg => rfl); (case hr => first | (go_simp; done) | (go_simp; rfl))
          intro aC hg gX hbox hb
          have n_ := o2_ (blk_below (oP aI) hb) (o2_ (below_step (oB HB) hb) (o2_ (hbox) (o2_ ((oG hg (below_size (oB HB)) : w.heap.size ≤ aC)) (o2_ ((oG hg (below_size (oB HB)) : w.heap.size ≤ aC)) (o2_ ((oL hg (blk_lt (oP aI)))) (o1_ ((oN hg (blk_lt (oP aI))))))))))
          clear aI HB
          obtain ⟨aI, HB, aH, aA, aT, aG, aF⟩ := n_
          clear hb hbox hg
          refine hK.out _ _ ⟨((HB.out.cell (World.block_lt_of_cell? w _ hw117_0)).trans hw117_0), ((HB.out.cell (World.block_lt_of_cell? w _ hw117_1)).trans hw117_1), ((HB.out.cell (World.block_lt_of_cell? w _ hw117_2)).trans hw117_2), ((HB.out.cell (World.block_lt_of_cell? w _ hw117_3)).trans hw117_3), ((HB.out.cell (World.block_lt_of_cell? w _ hw117_4)).trans hw117_4), ((HB.out.cell (World.block_lt_of_cell? w _ hw118_0)).trans hw118_0), ((HB.out.cell (World.block_lt_of_cell? w _ hw118_1)).trans hw118_1), ((HB.out.cell (World.block_lt_of_cell? w _ hw118_2)).trans hw118_2), ((HB.out.cell (World.block_lt_of_cell? w _ hw118_3)).trans hw118_3), ((HB.out.cell (World.block_lt_of_cell? w _ hw118_4)).trans hw118_4)⟩ (fun hHeld => ?_)
          clear hK K
          refine norm_ (a' := ?_) ?_ ?_
          rotate_left
          ·show Act.put _ (some 3) _ = _
           exact oT
          exact norm_ (by simp only [putAll, Act.put, List.setIfInBounds_toArray, List.set_cons_zero, List.set_cons_succ]) (hCont (aC, aD) _ ⟨hHeld, (oP aH), (oP aI), aA.out, aT.out, aG.out, aF.out, aB.out, aU.out, (oB HB)⟩)
        rintro ⟨aC, aD⟩ bA ⟨hS_, h0_, h1_, h2_, h3_, h4_, h5_, h6_, h7_, h8_⟩
        have bI : Aside0 (bA.heap[aC]? = some (.cells #[.int .i64 0, .int .i64 0, .int .i64 0, .int .i64 0, .int .i64 0] 25 (0, 0))) := ⟨h0_⟩
        have bJ : Aside0 (bA.heap[aD]? = some (.cells #[.int .i64 0, .int .i64 0, .int .i64 0, .int .i64 0, .int .i64 0] 25 (0, 0))) := ⟨h1_⟩
        have bK : Aside0 (w.heap.size ≤ aC) := ⟨h2_⟩
        have bL : Aside0 (w.heap.size ≤ aC) := ⟨h3_⟩
        have bM : Aside0 (aD ≠ aC) := ⟨h4_⟩
        have bN : Aside0 (aC ≠ aD) := ⟨h5_⟩
        have bO : Aside0 (w.heap.size ≤ aD) := ⟨h6_⟩
        have bP : Aside0 (w.heap.size ≤ aD) := ⟨h7_⟩
        have bQ : Aside0 (Below w.heap.size w bA) := ⟨h8_⟩
        clear HB
        clear h0_ h1_ h2_ h3_ h4_ h5_ h6_ h7_ h8_
        have aH := bI
        have aI := bJ
        have aA := bK
        have aT := bL
        have aG := bM
        have aF := bN
        have aB := bO
        have aU := bP
        have HB := bQ
        clear bI bJ bK bL bM bN bO bP bQ
        have hHeld : bA.cell? aE = some (.int .i64 ((rd_T25 l0 0).f0)) ∧ bA.cell? ⟨aE.block, aE.off + 1, none⟩ = some (.int .i64 ((rd_T25 l0 0).f1)) ∧ bA.cell? ⟨aE.block, aE.off + 2, none⟩ = some (.int .i64 ((rd_T25 l0 0).f2)) ∧ bA.cell? ⟨aE.block, aE.off + 3, none⟩ = some (.int .i64 ((rd_T25 l0 0).f3)) ∧ bA.cell? ⟨aE.block, aE.off + 4, none⟩ = some (.int .i64 ((rd_T25 l0 0).f4)) ∧ bA.cell? ⟨aE.block, aE.off + 5, none⟩ = some (.int .i64 ((rd_T25 l0 1).f0)) ∧ bA.cell? ⟨aE.block, aE.off + 5 + 1, none⟩ = some (.int .i64 ((rd_T25 l0 1).f1)) ∧ bA.cell? ⟨aE.block, aE.off + 5 + 2, none⟩ = some (.int .i64 ((rd_T25 l0 1).f2)) ∧ bA.cell? ⟨aE.block, aE.off + 5 + 3, none⟩ = some (.int .i64 ((rd_T25 l0 1).f3)) ∧ bA.cell? ⟨aE.block, aE.off + 5 + 4, none⟩ = some (.int .i64 ((rd_T25 l0 1).f4)) := hS_
        refine norm_ (a' := ?_) ?_ ?_
        rotate_left
        ·simp only [putAll, Act.put, List.setIfInBounds_toArray, List.set_cons_zero, List.set_cons_succ]
         rfl
        refine one_ (i := 8) (N := none) #[true, true, true, true, true, true, true, true, true, false] rfl rfl (one_of HT_.out oK) oD (fun K hK => ?_)
        have hs13 : bA.cell? ⟨aC, 0, none⟩ = some (.int .i64 0) := (blk_cell aH.out 0).trans rfl
        have hfs13 := blk_frozen aH.out 0
        have hns13_1 := aG.out
        have hms13_1 := aF.out
        have hs14 : bA.cell? ⟨aC, 1, none⟩ = some (.int .i64 0) := (blk_cell aH.out 1).trans rfl
        have hfs14 := blk_frozen aH.out 1
        have hns14_1 := aG.out
        have hms14_1 := aF.out
        have hs15 : bA.cell? ⟨aC, 2, none⟩ = some (.int .i64 0) := (blk_cell aH.out 2).trans rfl
        have hfs15 := blk_frozen aH.out 2
        have hns15_1 := aG.out
        have hms15_1 := aF.out
        have hs16 : bA.cell? ⟨aC, 3, none⟩ = some (.int .i64 0) := (blk_cell aH.out 3).trans rfl
        have hfs16 := blk_frozen aH.out 3
        have hns16_1 := aG.out
        have hms16_1 := aF.out
        have hs17 : bA.cell? ⟨aC, 4, none⟩ = some (.int .i64 0) := (blk_cell aH.out 4).trans rfl
        have hfs17 := blk_frozen aH.out 4
        have hns17_1 := aG.out
        have hms17_1 := aF.out
        refine skip_ (w1 := ?_) (by rfl) rfl ?_ ?_
        rotate_left
        ·go_simp
         rfl
        refine hK.out _ _ ⟨((cell_far (p := ⟨aC, _, none⟩) (oV hw117_0 aA) _).trans (((cell_far (p := ⟨aC, _, none⟩) (oV hw117_0 aA) _).trans (((cell_far (p := ⟨aC, _, none⟩) (oV hw117_0 aA) _).trans (((cell_far (p := ⟨aC, _, none⟩) (oV hw117_0 aA) _).trans (((cell_far (p := ⟨aC, _, none⟩) (oV hw117_0 aA) _).trans (hHeld.1)))))))))), ((cell_far (p := ⟨aC, _, none⟩) (oV hw117_1 aA) _).trans (((cell_far (p := ⟨aC, _, none⟩) (oV hw117_1 aA) _).trans (((cell_far (p := ⟨aC, _, none⟩) (oV hw117_1 aA) _).trans (((cell_far (p := ⟨aC, _, none⟩) (oV hw117_1 aA) _).trans (((cell_far (p := ⟨aC, _, none⟩) (oV hw117_1 aA) _).trans (hHeld.2.1)))))))))), ((cell_far (p := ⟨aC, _, none⟩) (oV hw117_2 aA) _).trans (((cell_far (p := ⟨aC, _, none⟩) (oV hw117_2 aA) _).trans (((cell_far (p := ⟨aC, _, none⟩) (oV hw117_2 aA) _).trans (((cell_far (p := ⟨aC, _, none⟩) (oV hw117_2 aA) _).trans (((cell_far (p := ⟨aC, _, none⟩) (oV hw117_2 aA) _).trans (hHeld.2.2.1)))))))))), ((cell_far (p := ⟨aC, _, none⟩) (oV hw117_3 aA) _).trans (((cell_far (p := ⟨aC, _, none⟩) (oV hw117_3 aA) _).trans (((cell_far (p := ⟨aC, _, none⟩) (oV hw117_3 aA) _).trans (((cell_far (p := ⟨aC, _, none⟩) (oV hw117_3 aA) _).trans (((cell_far (p := ⟨aC, _, none⟩) (oV hw117_3 aA) _).trans (hHeld.2.2.2.1)))))))))), ((cell_far (p := ⟨aC, _, none⟩) (oV hw117_4 aA) _).trans (((cell_far (p := ⟨aC, _, none⟩) (oV hw117_4 aA) _).trans (((cell_far (p := ⟨aC, _, none⟩) (oV hw117_4 aA) _).trans (((cell_far (p := ⟨aC, _, none⟩) (oV hw117_4 aA) _).trans (((cell_far (p := ⟨aC, _, none⟩) (oV hw117_4 aA) _).trans (hHeld.2.2.2.2.1)))))))))), ((cell_far (p := ⟨aC, _, none⟩) (oV hw118_0 aA) _).trans (((cell_far (p := ⟨aC, _, none⟩) (oV hw118_0 aA) _).trans (((cell_far (p := ⟨aC, _, none⟩) (oV hw118_0 aA) _).trans (((cell_far (p := ⟨aC, _, none⟩) (oV hw118_0 aA) _).trans (((cell_far (p := ⟨aC, _, none⟩) (oV hw118_0 aA) _).trans (hHeld.2.2.2.2.2.1)))))))))), ((cell_far (p := ⟨aC, _, none⟩) (oV hw118_1 aA) _).trans (((cell_far (p := ⟨aC, _, none⟩) (oV hw118_1 aA) _).trans (((cell_far (p := ⟨aC, _, none⟩) (oV hw118_1 aA) _).trans (((cell_far (p := ⟨aC, _, none⟩) (oV hw118_1 aA) _).trans (((cell_far (p := ⟨aC, _, none⟩) (oV hw118_1 aA) _).trans (hHeld.2.2.2.2.2.2.1)))))))))), ((cell_far (p := ⟨aC, _, none⟩) (oV hw118_2 aA) _).trans (((cell_far (p := ⟨aC, _, none⟩) (oV hw118_2 aA) _).trans (((cell_far (p := ⟨aC, _, none⟩) (oV hw118_2 aA) _).trans (((cell_far (p := ⟨aC, _, none⟩) (oV hw118_2 aA) _).trans (((cell_far (p := ⟨aC, _, none⟩) (oV hw118_2 aA) _).trans (hHeld.2.2.2.2.2.2.2.1)))))))))), ((cell_far (p := ⟨aC, _, none⟩) (oV hw118_3 aA) _).trans (((cell_far (p := ⟨aC, _, none⟩) (oV hw118_3 aA) _).trans (((cell_far (p := ⟨aC, _, none⟩) (oV hw118_3 aA) _).trans (((cell_far (p := ⟨aC, _, none⟩) (oV hw118_3 aA) _).trans (((cell_far (p := ⟨aC, _, none⟩) (oV hw118_3 aA) _).trans (hHeld.2.2.2.2.2.2.2.2.1)))))))))), ((cell_far (p := ⟨aC, _, none⟩) (oV hw118_4 aA) _).trans (((cell_far (p := ⟨aC, _, none⟩) (oV hw118_4 aA) _).trans (((cell_far (p := ⟨aC, _, none⟩) (oV hw118_4 aA) _).trans (((cell_far (p := ⟨aC, _, none⟩) (oV hw118_4 aA) _).trans (((cell_far (p := ⟨aC, _, none⟩) (oV hw118_4 aA) _).trans (hHeld.2.2.2.2.2.2.2.2.2))))))))))⟩ (fun hHeld => ?_)
        clear hK K
        refine one_ (i := 9) (N := none) #[true, true, true, true, true, true, true, true, true, true] rfl rfl (one_of HT_.out oK) oD (fun K hK => ?_)
        have hs18 : bA.cell? ⟨aD, 0, none⟩ = some (.int .i64 0) := (blk_cell aI.out 0).trans rfl
        have hfs18 := blk_frozen aI.out 0
        have hns18_0 := aF.out
        have hms18_0 := aG.out
        have hs19 : bA.cell? ⟨aD, 1, none⟩ = some (.int .i64 0) := (blk_cell aI.out 1).trans rfl
        have hfs19 := blk_frozen aI.out 1
        have hns19_0 := aF.out
        have hms19_0 := aG.out
        have hs20 : bA.cell? ⟨aD, 2, none⟩ = some (.int .i64 0) := (blk_cell aI.out 2).trans rfl
        have hfs20 := blk_frozen aI.out 2
        have hns20_0 := aF.out
        have hms20_0 := aG.out
        have hs21 : bA.cell? ⟨aD, 3, none⟩ = some (.int .i64 0) := (blk_cell aI.out 3).trans rfl
        have hfs21 := blk_frozen aI.out 3
        have hns21_0 := aF.out
        have hms21_0 := aG.out
        have hs22 : bA.cell? ⟨aD, 4, none⟩ = some (.int .i64 0) := (blk_cell aI.out 4).trans rfl
        have hfs22 := blk_frozen aI.out 4
        have hns22_0 := aF.out
        have hms22_0 := aG.out
        refine skip_ (w1 := ?_) (by rfl) rfl ?_ ?_
        rotate_left
        ·go_simp
         rfl
        refine hK.out _ _ ⟨((cell_far (p := ⟨aD, _, none⟩) (oV hw117_0 aB) _).trans (((cell_far (p := ⟨aD, _, none⟩) (oV hw117_0 aB) _).trans (((cell_far (p := ⟨aD, _, none⟩) (oV hw117_0 aB) _).trans (((cell_far (p := ⟨aD, _, none⟩) (oV hw117_0 aB) _).trans (((cell_far (p := ⟨aD, _, none⟩) (oV hw117_0 aB) _).trans (hHeld.1)))))))))), ((cell_far (p := ⟨aD, _, none⟩) (oV hw117_1 aB) _).trans (((cell_far (p := ⟨aD, _, none⟩) (oV hw117_1 aB) _).trans (((cell_far (p := ⟨aD, _, none⟩) (oV hw117_1 aB) _).trans (((cell_far (p := ⟨aD, _, none⟩) (oV hw117_1 aB) _).trans (((cell_far (p := ⟨aD, _, none⟩) (oV hw117_1 aB) _).trans (hHeld.2.1)))))))))), ((cell_far (p := ⟨aD, _, none⟩) (oV hw117_2 aB) _).trans (((cell_far (p := ⟨aD, _, none⟩) (oV hw117_2 aB) _).trans (((cell_far (p := ⟨aD, _, none⟩) (oV hw117_2 aB) _).trans (((cell_far (p := ⟨aD, _, none⟩) (oV hw117_2 aB) _).trans (((cell_far (p := ⟨aD, _, none⟩) (oV hw117_2 aB) _).trans (hHeld.2.2.1)))))))))), ((cell_far (p := ⟨aD, _, none⟩) (oV hw117_3 aB) _).trans (((cell_far (p := ⟨aD, _, none⟩) (oV hw117_3 aB) _).trans (((cell_far (p := ⟨aD, _, none⟩) (oV hw117_3 aB) _).trans (((cell_far (p := ⟨aD, _, none⟩) (oV hw117_3 aB) _).trans (((cell_far (p := ⟨aD, _, none⟩) (oV hw117_3 aB) _).trans (hHeld.2.2.2.1)))))))))), ((cell_far (p := ⟨aD, _, none⟩) (oV hw117_4 aB) _).trans (((cell_far (p := ⟨aD, _, none⟩) (oV hw117_4 aB) _).trans (((cell_far (p := ⟨aD, _, none⟩) (oV hw117_4 aB) _).trans (((cell_far (p := ⟨aD, _, none⟩) (oV hw117_4 aB) _).trans (((cell_far (p := ⟨aD, _, none⟩) (oV hw117_4 aB) _).trans (hHeld.2.2.2.2.1)))))))))), ((cell_far (p := ⟨aD, _, none⟩) (oV hw118_0 aB) _).trans (((cell_far (p := ⟨aD, _, none⟩) (oV hw118_0 aB) _).trans (((cell_far (p := ⟨aD, _, none⟩) (oV hw118_0 aB) _).trans (((cell_far (p := ⟨aD, _, none⟩) (oV hw118_0 aB) _).trans (((cell_far (p := ⟨aD, _, none⟩) (oV hw118_0 aB) _).trans (hHeld.2.2.2.2.2.1)))))))))), ((cell_far (p := ⟨aD, _, none⟩) (oV hw118_1 aB) _).trans (((cell_far (p := ⟨aD, _, none⟩) (oV hw118_1 aB) _).trans (((cell_far (p := ⟨aD, _, none⟩) (oV hw118_1 aB) _).trans (((cell_far (p := ⟨aD, _, none⟩) (oV hw118_1 aB) _).trans (((cell_far (p := ⟨aD, _, none⟩) (oV hw118_1 aB) _).trans (hHeld.2.2.2.2.2.2.1)))))))))), ((cell_far (p := ⟨aD, _, none⟩) (oV hw118_2 aB) _).trans (((cell_far (p := ⟨aD, _, none⟩) (oV hw118_2 aB) _).trans (((cell_far (p := ⟨aD, _, none⟩) (oV hw118_2 aB) _).trans (((cell_far (p := ⟨aD, _, none⟩) (oV hw118_2 aB) _).trans (((cell_far (p := ⟨aD, _, none⟩) (oV hw118_2 aB) _).trans (hHeld.2.2.2.2.2.2.2.1)))))))))), ((cell_far (p := ⟨aD, _, none⟩) (oV hw118_3 aB) _).trans (((cell_far (p := ⟨aD, _, none⟩) (oV hw118_3 aB) _).trans (((cell_far (p := ⟨aD, _, none⟩) (oV hw118_3 aB) _).trans (((cell_far (p := ⟨aD, _, none⟩) (oV hw118_3 aB) _).trans (((cell_far (p := ⟨aD, _, none⟩) (oV hw118_3 aB) _).trans (hHeld.2.2.2.2.2.2.2.2.1)))))))))), ((cell_far (p := ⟨aD, _, none⟩) (oV hw118_4 aB) _).trans (((cell_far (p := ⟨aD, _, none⟩) (oV hw118_4 aB) _).trans (((cell_far (p := ⟨aD, _, none⟩) (oV hw118_4 aB) _).trans (((cell_far (p := ⟨aD, _, none⟩) (oV hw118_4 aB) _).trans (((cell_far (p := ⟨aD, _, none⟩) (oV hw118_4 aB) _).trans (hHeld.2.2.2.2.2.2.2.2.2))))))))))⟩ (fun hHeld => ?_)
        clear hK K
        refine done_ (done_of HT_.out oK) ?_
        have gI := aF.out
        have gN := aG.out
        have cC : bA.cell? ⟨aC, 0, none⟩ = some (.int .i64 0) := (blk_cell aH.out 0).trans rfl
        have cD : bA.cell? ⟨aC, 1, none⟩ = some (.int .i64 0) := (blk_cell aH.out 1).trans rfl
        have cE : bA.cell? ⟨aC, 2, none⟩ = some (.int .i64 0) := (blk_cell aH.out 2).trans rfl
        have cF : bA.cell? ⟨aC, 3, none⟩ = some (.int .i64 0) := (blk_cell aH.out 3).trans rfl
        have cG : bA.cell? ⟨aC, 4, none⟩ = some (.int .i64 0) := (blk_cell aH.out 4).trans rfl
        have eA := blk_frozen aH.out 0
        have eB := blk_frozen aH.out 1
        have eC := blk_frozen aH.out 2
        have eD := blk_frozen aH.out 3
        have eE := blk_frozen aH.out 4
        have cH : bA.cell? ⟨aD, 0, none⟩ = some (.int .i64 0) := (blk_cell aI.out 0).trans rfl
        have cI : bA.cell? ⟨aD, 1, none⟩ = some (.int .i64 0) := (blk_cell aI.out 1).trans rfl
        have cJ : bA.cell? ⟨aD, 2, none⟩ = some (.int .i64 0) := (blk_cell aI.out 2).trans rfl
        have cK : bA.cell? ⟨aD, 3, none⟩ = some (.int .i64 0) := (blk_cell aI.out 3).trans rfl
        have cL : bA.cell? ⟨aD, 4, none⟩ = some (.int .i64 0) := (blk_cell aI.out 4).trans rfl
        have eF := blk_frozen aI.out 0
        have eG := blk_frozen aI.out 1
        have eH := blk_frozen aI.out 2
        have eI := blk_frozen aI.out 3
        have eJ := blk_frozen aI.out 4
        try go_wp2
        go_ret
        exact ⟨by first | rfl | (simp [errW_none, errW_some] <;> rfl) | (simp [*, errW_none, errW_some] <;> rfl), oB HB⟩
       ·rw [if_neg c8] at H
        have gE : decide ((wrap64 (((rd_T25 l0 0).f1) + ((rd_T25 l0 1).f1))) < 6) = false := decide_eq_false c8
        clear c8
        obtain rfl := Option.some.inj H
        go_enter Try.func40, Try.ntmps40
        try go_wp2
        replace HB := o1_ (below_drew1 HB.out)
        have aV : 0 ≤ (0 : Int) := (by omega)
        have aX : 0 < (l0.length : Int) := of_decide_eq_true oM
        obtain ⟨aE, bG, aJ, aK, aL, aM, aN⟩ := at_T25 bR.out 0 aV aX
        have hw117_4 := aN
        (try rw [show ((0 : Int)).toNat = 0 from rfl] at hw117_4)
        (try rw [show 0 * 5 = 0 from rfl] at hw117_4)
        (try rw [Addr.add_zero'] at hw117_4)
        have hw117_3 := aM
        (try rw [show ((0 : Int)).toNat = 0 from rfl] at hw117_3)
        (try rw [show 0 * 5 = 0 from rfl] at hw117_3)
        (try rw [Addr.add_zero'] at hw117_3)
        have hw117_2 := aL
        (try rw [show ((0 : Int)).toNat = 0 from rfl] at hw117_2)
        (try rw [show 0 * 5 = 0 from rfl] at hw117_2)
        (try rw [Addr.add_zero'] at hw117_2)
        have hw117_1 := aK
        (try rw [show ((0 : Int)).toNat = 0 from rfl] at hw117_1)
        (try rw [show 0 * 5 = 0 from rfl] at hw117_1)
        (try rw [Addr.add_zero'] at hw117_1)
        have hw117_0 := aJ
        (try rw [show ((0 : Int)).toNat = 0 from rfl] at hw117_0)
        (try rw [show 0 * 5 = 0 from rfl] at hw117_0)
        (try rw [Addr.add_zero'] at hw117_0)
        cases bG
        have qi117 : (0 < l0.length) = True := eq_true (by omega)
        (try rw [show ((0 : Int)).toNat = 0 from rfl] at aJ)
        (try rw [show 0 * 5 = 0 from rfl] at aJ)
        (try rw [Addr.add_zero'] at aJ)
        (try rw [show ((0 : Int)).toNat = 0 from rfl] at aK)
        (try rw [show 0 * 5 = 0 from rfl] at aK)
        (try rw [Addr.add_zero'] at aK)
        (try rw [show ((0 : Int)).toNat = 0 from rfl] at aL)
        (try rw [show 0 * 5 = 0 from rfl] at aL)
        (try rw [Addr.add_zero'] at aL)
        (try rw [show ((0 : Int)).toNat = 0 from rfl] at aM)
        (try rw [show 0 * 5 = 0 from rfl] at aM)
        (try rw [Addr.add_zero'] at aM)
        (try rw [show ((0 : Int)).toNat = 0 from rfl] at aN)
        (try rw [show 0 * 5 = 0 from rfl] at aN)
        (try rw [Addr.add_zero'] at aN)
        replace aJ := (HB.out.cell (World.block_lt_of_cell? w _ aJ)).trans aJ
        replace aK := (HB.out.cell (World.block_lt_of_cell? w _ aK)).trans aK
        replace aL := (HB.out.cell (World.block_lt_of_cell? w _ aL)).trans aL
        replace aM := (HB.out.cell (World.block_lt_of_cell? w _ aM)).trans aM
        replace aN := (HB.out.cell (World.block_lt_of_cell? w _ aN)).trans aN
        replace aV := eq_true aV
        replace aX := eq_true aX
        have aW : 0 ≤ (1 : Int) := (by omega)
        have aY : 1 < (l0.length : Int) := of_decide_eq_true oM
        obtain ⟨aZ, bH, aO, aP, aQ, aR, aS⟩ := at_T25 bR.out 1 aW aY
        have hw118_4 := aS
        (try rw [show ((1 : Int)).toNat = 1 from rfl] at hw118_4)
        (try rw [show 1 * 5 = 5 from rfl] at hw118_4)
        (try simp only [Nat.reduceMul, Nat.reduceEqDiff, Go.Addr.add, ↓reduceIte] at hw118_4)
        have hw118_3 := aR
        (try rw [show ((1 : Int)).toNat = 1 from rfl] at hw118_3)
        (try rw [show 1 * 5 = 5 from rfl] at hw118_3)
        (try simp only [Nat.reduceMul, Nat.reduceEqDiff, Go.Addr.add, ↓reduceIte] at hw118_3)
        have hw118_2 := aQ
        (try rw [show ((1 : Int)).toNat = 1 from rfl] at hw118_2)
        (try rw [show 1 * 5 = 5 from rfl] at hw118_2)
        (try simp only [Nat.reduceMul, Nat.reduceEqDiff, Go.Addr.add, ↓reduceIte] at hw118_2)
        have hw118_1 := aP
        (try rw [show ((1 : Int)).toNat = 1 from rfl] at hw118_1)
        (try rw [show 1 * 5 = 5 from rfl] at hw118_1)
        (try simp only [Nat.reduceMul, Nat.reduceEqDiff, Go.Addr.add, ↓reduceIte] at hw118_1)
        have hw118_0 := aO
        (try rw [show ((1 : Int)).toNat = 1 from rfl] at hw118_0)
        (try rw [show 1 * 5 = 5 from rfl] at hw118_0)
        (try simp only [Nat.reduceMul, Nat.reduceEqDiff, Go.Addr.add, ↓reduceIte] at hw118_0)
        obtain rfl : aE = aZ := (by injection bH)
        (try simp only [show (1 : Int).toNat = 1 from rfl, Nat.reduceMul, Nat.reduceEqDiff, Go.Addr.add, ↓reduceIte] at aO)
        (try simp only [show (1 : Int).toNat = 1 from rfl, Nat.reduceMul, Nat.reduceEqDiff, Go.Addr.add, ↓reduceIte] at aP)
        (try simp only [show (1 : Int).toNat = 1 from rfl, Nat.reduceMul, Nat.reduceEqDiff, Go.Addr.add, ↓reduceIte] at aQ)
        (try simp only [show (1 : Int).toNat = 1 from rfl, Nat.reduceMul, Nat.reduceEqDiff, Go.Addr.add, ↓reduceIte] at aR)
        (try simp only [show (1 : Int).toNat = 1 from rfl, Nat.reduceMul, Nat.reduceEqDiff, Go.Addr.add, ↓reduceIte] at aS)
        have qi118 : (1 < l0.length) = True := eq_true (by omega)
        (try rw [show ((1 : Int)).toNat = 1 from rfl] at aO)
        (try rw [show 1 * 5 = 5 from rfl] at aO)
        (try rw [show ((1 : Int)).toNat = 1 from rfl] at aP)
        (try rw [show 1 * 5 = 5 from rfl] at aP)
        (try rw [show ((1 : Int)).toNat = 1 from rfl] at aQ)
        (try rw [show 1 * 5 = 5 from rfl] at aQ)
        (try rw [show ((1 : Int)).toNat = 1 from rfl] at aR)
        (try rw [show 1 * 5 = 5 from rfl] at aR)
        (try rw [show ((1 : Int)).toNat = 1 from rfl] at aS)
        (try rw [show 1 * 5 = 5 from rfl] at aS)
        replace aO := (HB.out.cell (World.block_lt_of_cell? w _ aO)).trans aO
        replace aP := (HB.out.cell (World.block_lt_of_cell? w _ aP)).trans aP
        replace aQ := (HB.out.cell (World.block_lt_of_cell? w _ aQ)).trans aQ
        replace aR := (HB.out.cell (World.block_lt_of_cell? w _ aR)).trans aR
        replace aS := (HB.out.cell (World.block_lt_of_cell? w _ aS)).trans aS
        replace aW := eq_true aW
        replace aY := eq_true aY
        refine start_ (n := 10) (S := fun w' => w'.cell? aE = some (.int .i64 ((rd_T25 l0 0).f0)) ∧ w'.cell? ⟨aE.block, aE.off + 1, none⟩ = some (.int .i64 ((rd_T25 l0 0).f1)) ∧ w'.cell? ⟨aE.block, aE.off + 2, none⟩ = some (.int .i64 ((rd_T25 l0 0).f2)) ∧ w'.cell? ⟨aE.block, aE.off + 3, none⟩ = some (.int .i64 ((rd_T25 l0 0).f3)) ∧ w'.cell? ⟨aE.block, aE.off + 4, none⟩ = some (.int .i64 ((rd_T25 l0 0).f4)) ∧ w'.cell? ⟨aE.block, aE.off + 5, none⟩ = some (.int .i64 ((rd_T25 l0 1).f0)) ∧ w'.cell? ⟨aE.block, aE.off + 5 + 1, none⟩ = some (.int .i64 ((rd_T25 l0 1).f1)) ∧ w'.cell? ⟨aE.block, aE.off + 5 + 2, none⟩ = some (.int .i64 ((rd_T25 l0 1).f2)) ∧ w'.cell? ⟨aE.block, aE.off + 5 + 3, none⟩ = some (.int .i64 ((rd_T25 l0 1).f3)) ∧ w'.cell? ⟨aE.block, aE.off + 5 + 4, none⟩ = some (.int .i64 ((rd_T25 l0 1).f4))) (ds := []) #[false, false, false, false, false, false, false, false, false, false] oK rfl rfl ⟨((HB.out.cell (World.block_lt_of_cell? w _ hw117_0)).trans hw117_0), ((HB.out.cell (World.block_lt_of_cell? w _ hw117_1)).trans hw117_1), ((HB.out.cell (World.block_lt_of_cell? w _ hw117_2)).trans hw117_2), ((HB.out.cell (World.block_lt_of_cell? w _ hw117_3)).trans hw117_3), ((HB.out.cell (World.block_lt_of_cell? w _ hw117_4)).trans hw117_4), ((HB.out.cell (World.block_lt_of_cell? w _ hw118_0)).trans hw118_0), ((HB.out.cell (World.block_lt_of_cell? w _ hw118_1)).trans hw118_1), ((HB.out.cell (World.block_lt_of_cell? w _ hw118_2)).trans hw118_2), ((HB.out.cell (World.block_lt_of_cell? w _ hw118_3)).trans hw118_3), ((HB.out.cell (World.block_lt_of_cell? w _ hw118_4)).trans hw118_4)⟩ (fun hHeld => ?_); refine with_tabW impl_nested.tab1 impl_nested.bits1 (fun HT_ HW_ => ?_)
        generalize w.drew = hJ at HB aJ aK aL aM aN aO aP aQ aR aS hHeld ⊢
        refine pure_ (i := 0) (N := some 5) (v := ?_) (a' := ?_) #[true, false, false, false, false, false, false, false, false, false] rfl rfl (any_of HT_.out oK) (fun _ _ _ h => h) (Or.inl ⟨by rfl, ?_⟩) ?_ ?_
        rotate_left
        ·intro w'
         go_simp
         with_reducible rfl
        rotate_left
        ·exact oT
        refine pure_ (i := 1) (N := some 6) (v := ?_) (a' := ?_) #[true, true, false, false, false, false, false, false, false, false] rfl rfl (any_of HT_.out oK) (fun _ _ _ h => h) (Or.inl ⟨by rfl, ?_⟩) ?_ ?_
        rotate_left
        ·intro w'
         go_simp
         with_reducible rfl
        rotate_left
        ·exact oT
        refine pure_ (i := 3) (N := some 8) (v := ?_) (a' := ?_) #[true, true, false, true, false, false, false, false, false, false] rfl rfl (any_of HT_.out oK) (fun _ _ _ h => h) (Or.inl ⟨by rfl, ?_⟩) ?_ ?_
        rotate_left
        ·intro w'
         go_simp
         with_reducible rfl
        rotate_left
        ·exact oT
        refine pure_ (i := 4) (N := some 9) (v := ?_) (a' := ?_) #[true, true, false, true, true, false, false, false, false, false] rfl rfl (any_of HT_.out oK) (fun _ _ _ h => h) (Or.inl ⟨by rfl, ?_⟩) ?_ ?_
        rotate_left
        ·intro w'
         go_simp
         with_reducible rfl
        rotate_left
        ·exact oT
        refine take_ (i := 2) (N := some 7) (v := ?_) (a' := ?_) #[true, true, true, true, true, false, false, false, false, false] rfl rfl (take_ofW HT_.out HW_.out oK) (fun _ _ _ h => h) (Or.inl ⟨by rfl, ?_⟩) hHeld ?_ ?_
        rotate_left
        ·rintro w' ⟨s0, s1, s2, s3, s4, s5, s6, s7, s8, s9⟩
         go_simp
         with_reducible rfl
        rotate_left
        ·exact oT
        refine take_ (i := 5) (N := some 10) (v := ?_) (a' := ?_) #[true, true, true, true, true, true, false, false, false, false] rfl rfl (take_ofW HT_.out HW_.out oK) (fun _ _ _ h => h) (Or.inl ⟨by rfl, ?_⟩) hHeld ?_ ?_
        rotate_left
        ·rintro w' ⟨s0, s1, s2, s3, s4, s5, s6, s7, s8, s9⟩
         go_simp
         with_reducible rfl
        rotate_left
        ·exact oT
        refine join_ (σ := Nat × Nat) 2 #[true, true, true, true, true, true, true, true, false, false] (fun s_ => [(3, .pointer (some ⟨s_.1, 0, none⟩)), (4, .pointer (some ⟨s_.2, 0, none⟩))]) (fun s_ w' => (w'.cell? aE = some (.int .i64 ((rd_T25 l0 0).f0)) ∧ w'.cell? ⟨aE.block, aE.off + 1, none⟩ = some (.int .i64 ((rd_T25 l0 0).f1)) ∧ w'.cell? ⟨aE.block, aE.off + 2, none⟩ = some (.int .i64 ((rd_T25 l0 0).f2)) ∧ w'.cell? ⟨aE.block, aE.off + 3, none⟩ = some (.int .i64 ((rd_T25 l0 0).f3)) ∧ w'.cell? ⟨aE.block, aE.off + 4, none⟩ = some (.int .i64 ((rd_T25 l0 0).f4)) ∧ w'.cell? ⟨aE.block, aE.off + 5, none⟩ = some (.int .i64 ((rd_T25 l0 1).f0)) ∧ w'.cell? ⟨aE.block, aE.off + 5 + 1, none⟩ = some (.int .i64 ((rd_T25 l0 1).f1)) ∧ w'.cell? ⟨aE.block, aE.off + 5 + 2, none⟩ = some (.int .i64 ((rd_T25 l0 1).f2)) ∧ w'.cell? ⟨aE.block, aE.off + 5 + 3, none⟩ = some (.int .i64 ((rd_T25 l0 1).f3)) ∧ w'.cell? ⟨aE.block, aE.off + 5 + 4, none⟩ = some (.int .i64 ((rd_T25 l0 1).f4))) ∧ (w'.heap[s_.1]? = some (.cells #[.int .i64 0, .int .i64 0, .int .i64 0, .int .i64 0, .int .i64 0] 25 (0, 0))) ∧ (w'.heap[s_.2]? = some (.cells #[.int .i64 0, .int .i64 0, .int .i64 0, .int .i64 0, .int .i64 0] 25 (0, 0))) ∧ (w.heap.size ≤ s_.1) ∧ (w.heap.size ≤ s_.1) ∧ (s_.2 ≠ s_.1) ∧ (s_.1 ≠ s_.2) ∧ (w.heap.size ≤ s_.2) ∧ (w.heap.size ≤ s_.2) ∧ (Below w.heap.size w w')) ?_ ?_
        rotate_left
        ·intro hCont
         refine two_ (i := 6) (j := 7) (Ni := some 3) (Nj := some 4) #[true, true, true, true, true, true, true, false, false, false] #[true, true, true, true, true, true, false, true, false, false] rfl rfl rfl rfl (two_of HT_.out oK) oD oD (fun K hK => ?_) (fun K hK => ?_)
         ·skip
          refine box_step ?hg (N := 3) ?hd (cs := #[.int .i64 0, .int .i64 0, .int .i64 0, .int .i64 0, .int .i64 0]) (t := 25) ?hr ?_; (case hd => rfl); (case hg => rfl); (case hr => first | (go_simp; done) | (go_simp; rfl))
          intro aC hg gY hbox hb
          have n_ := o2_ (below_step (oB HB) hb) (o2_ (hbox) (o2_ ((oG hg (below_size (oB HB)) : w.heap.size ≤ aC)) (o1_ ((oG hg (below_size (oB HB)) : w.heap.size ≤ aC)))))
          clear HB
          obtain ⟨HB, aH, aA, aT⟩ := n_
          clear hb hbox hg
          refine hK.out _ _ ⟨((HB.out.cell (World.block_lt_of_cell? w _ hw117_0)).trans hw117_0), ((HB.out.cell (World.block_lt_of_cell? w _ hw117_1)).trans hw117_1), ((HB.out.cell (World.block_lt_of_cell? w _ hw117_2)).trans hw117_2), ((HB.out.cell (World.block_lt_of_cell? w _ hw117_3)).trans hw117_3), ((HB.out.cell (World.block_lt_of_cell? w _ hw117_4)).trans hw117_4), ((HB.out.cell (World.block_lt_of_cell? w _ hw118_0)).trans hw118_0), ((HB.out.cell (World.block_lt_of_cell? w _ hw118_1)).trans hw118_1), ((HB.out.cell (World.block_lt_of_cell? w _ hw118_2)).trans hw118_2), ((HB.out.cell (World.block_lt_of_cell? w _ hw118_3)).trans hw118_3), ((HB.out.cell (World.block_lt_of_cell? w _ hw118_4)).trans hw118_4)⟩ (fun hHeld => ?_)
          clear hK K
          refine norm_ (a' := ?_) ?_ ?_
          rotate_left
          ·show Act.put _ (some 3) _ = _
           exact oT
          refine one_ (i := 7) (N := some 4) #[true, true, true, true, true, true, true, true, false, false] rfl rfl (one_of HT_.out oK) oD (fun K hK => ?_)
          refine box_step ?hg (N := 4) ?hd (cs := #[.int .i64 0, .int .i64 0, .int .i64 0, .int .i64 0, .int .i64 0]) (t := 25) ?hr ?_; (case hd => rfl); (case hg => rfl); (case hr => first | (go_simp; done) | (go_simp; rfl))
          intro aD hg gZ hbox hb
          have n_ := o2_ (blk_below (oP aH) hb) (o2_ (below_step (oB HB) hb) (o2_ (hbox) (o2_ ((oG hg (below_size (oB HB)) : w.heap.size ≤ aD)) (o2_ ((oG hg (below_size (oB HB)) : w.heap.size ≤ aD)) (o2_ ((oL hg (blk_lt (oP aH)))) (o1_ ((oN hg (blk_lt (oP aH))))))))))
          clear aH HB
          obtain ⟨aH, HB, aI, aB, aU, aF, aG⟩ := n_
          clear hb hbox hg
          refine hK.out _ _ ⟨((HB.out.cell (World.block_lt_of_cell? w _ hw117_0)).trans hw117_0), ((HB.out.cell (World.block_lt_of_cell? w _ hw117_1)).trans hw117_1), ((HB.out.cell (World.block_lt_of_cell? w _ hw117_2)).trans hw117_2), ((HB.out.cell (World.block_lt_of_cell? w _ hw117_3)).trans hw117_3), ((HB.out.cell (World.block_lt_of_cell? w _ hw117_4)).trans hw117_4), ((HB.out.cell (World.block_lt_of_cell? w _ hw118_0)).trans hw118_0), ((HB.out.cell (World.block_lt_of_cell? w _ hw118_1)).trans hw118_1), ((HB.out.cell (World.block_lt_of_cell? w _ hw118_2)).trans hw118_2), ((HB.out.cell (World.block_lt_of_cell? w _ hw118_3)).trans hw118_3), ((HB.out.cell (World.block_lt_of_cell? w _ hw118_4)).trans hw118_4)⟩ (fun hHeld => ?_)
          clear hK K
          refine norm_ (a' := ?_) ?_ ?_
          rotate_left
          ·show Act.put _ (some 4) _ = _
           exact oT
          exact norm_ (by simp only [putAll, Act.put, List.setIfInBounds_toArray, List.set_cons_zero, List.set_cons_succ]) (hCont (aC, aD) _ ⟨hHeld, (oP aH), (oP aI), aA.out, aT.out, aG.out, aF.out, aB.out, aU.out, (oB HB)⟩)
         ·skip
          refine box_step ?hg (N := 4) ?hd (cs := #[.int .i64 0, .int .i64 0, .int .i64 0, .int .i64 0, .int .i64 0]) (t := 25) ?hr ?_; (case hd => rfl); (case hg => rfl); (case hr => first | (go_simp; done) | (go_simp; rfl))
          intro aD hg gY hbox hb
          have n_ := o2_ (below_step (oB HB) hb) (o2_ (hbox) (o2_ ((oG hg (below_size (oB HB)) : w.heap.size ≤ aD)) (o1_ ((oG hg (below_size (oB HB)) : w.heap.size ≤ aD)))))
          clear HB
          obtain ⟨HB, aI, aB, aU⟩ := n_
          clear hb hbox hg
          refine hK.out _ _ ⟨((HB.out.cell (World.block_lt_of_cell? w _ hw117_0)).trans hw117_0), ((HB.out.cell (World.block_lt_of_cell? w _ hw117_1)).trans hw117_1), ((HB.out.cell (World.block_lt_of_cell? w _ hw117_2)).trans hw117_2), ((HB.out.cell (World.block_lt_of_cell? w _ hw117_3)).trans hw117_3), ((HB.out.cell (World.block_lt_of_cell? w _ hw117_4)).trans hw117_4), ((HB.out.cell (World.block_lt_of_cell? w _ hw118_0)).trans hw118_0), ((HB.out.cell (World.block_lt_of_cell? w _ hw118_1)).trans hw118_1), ((HB.out.cell (World.block_lt_of_cell? w _ hw118_2)).trans hw118_2), ((HB.out.cell (World.block_lt_of_cell? w _ hw118_3)).trans hw118_3), ((HB.out.cell (World.block_lt_of_cell? w _ hw118_4)).trans hw118_4)⟩ (fun hHeld => ?_)
          clear hK K
          refine norm_ (a' := ?_) ?_ ?_
          rotate_left
          ·show Act.put _ (some 4) _ = _
           exact oT
          refine one_ (i := 6) (N := some 3) #[true, true, true, true, true, true, true, true, false, false] rfl rfl (one_of HT_.out oK) oD (fun K hK => ?_)
          refine box_step ?hg (N := 3) ?hd (cs := #[.int .i64 0, .int .i64 0, .int .i64 0, .int .i64 0, .int .i64 0]) (t := 25) ?hr ?_; (case hd => rfl); (case hg => rfl); (case hr => first | (go_simp; done) | (go_simp; rfl))
          intro aC hg gZ hbox hb
          have n_ := o2_ (blk_below (oP aI) hb) (o2_ (below_step (oB HB) hb) (o2_ (hbox) (o2_ ((oG hg (below_size (oB HB)) : w.heap.size ≤ aC)) (o2_ ((oG hg (below_size (oB HB)) : w.heap.size ≤ aC)) (o2_ ((oL hg (blk_lt (oP aI)))) (o1_ ((oN hg (blk_lt (oP aI))))))))))
          clear aI HB
          obtain ⟨aI, HB, aH, aA, aT, aG, aF⟩ := n_
          clear hb hbox hg
          refine hK.out _ _ ⟨((HB.out.cell (World.block_lt_of_cell? w _ hw117_0)).trans hw117_0), ((HB.out.cell (World.block_lt_of_cell? w _ hw117_1)).trans hw117_1), ((HB.out.cell (World.block_lt_of_cell? w _ hw117_2)).trans hw117_2), ((HB.out.cell (World.block_lt_of_cell? w _ hw117_3)).trans hw117_3), ((HB.out.cell (World.block_lt_of_cell? w _ hw117_4)).trans hw117_4), ((HB.out.cell (World.block_lt_of_cell? w _ hw118_0)).trans hw118_0), ((HB.out.cell (World.block_lt_of_cell? w _ hw118_1)).trans hw118_1), ((HB.out.cell (World.block_lt_of_cell? w _ hw118_2)).trans hw118_2), ((HB.out.cell (World.block_lt_of_cell? w _ hw118_3)).trans hw118_3), ((HB.out.cell (World.block_lt_of_cell? w _ hw118_4)).trans hw118_4)⟩ (fun hHeld => ?_)
          clear hK K
          refine norm_ (a' := ?_) ?_ ?_
          rotate_left
          ·show Act.put _ (some 3) _ = _
           exact oT
          exact norm_ (by simp only [putAll, Act.put, List.setIfInBounds_toArray, List.set_cons_zero, List.set_cons_succ]) (hCont (aC, aD) _ ⟨hHeld, (oP aH), (oP aI), aA.out, aT.out, aG.out, aF.out, aB.out, aU.out, (oB HB)⟩)
        rintro ⟨aC, aD⟩ bB ⟨hS_, h0_, h1_, h2_, h3_, h4_, h5_, h6_, h7_, h8_⟩
        have bI : Aside0 (bB.heap[aC]? = some (.cells #[.int .i64 0, .int .i64 0, .int .i64 0, .int .i64 0, .int .i64 0] 25 (0, 0))) := ⟨h0_⟩
        have bJ : Aside0 (bB.heap[aD]? = some (.cells #[.int .i64 0, .int .i64 0, .int .i64 0, .int .i64 0, .int .i64 0] 25 (0, 0))) := ⟨h1_⟩
        have bK : Aside0 (w.heap.size ≤ aC) := ⟨h2_⟩
        have bL : Aside0 (w.heap.size ≤ aC) := ⟨h3_⟩
        have bM : Aside0 (aD ≠ aC) := ⟨h4_⟩
        have bN : Aside0 (aC ≠ aD) := ⟨h5_⟩
        have bO : Aside0 (w.heap.size ≤ aD) := ⟨h6_⟩
        have bP : Aside0 (w.heap.size ≤ aD) := ⟨h7_⟩
        have bQ : Aside0 (Below w.heap.size w bB) := ⟨h8_⟩
        clear HB
        clear h0_ h1_ h2_ h3_ h4_ h5_ h6_ h7_ h8_
        have aH := bI
        have aI := bJ
        have aA := bK
        have aT := bL
        have aG := bM
        have aF := bN
        have aB := bO
        have aU := bP
        have HB := bQ
        clear bI bJ bK bL bM bN bO bP bQ
        have hHeld : bB.cell? aE = some (.int .i64 ((rd_T25 l0 0).f0)) ∧ bB.cell? ⟨aE.block, aE.off + 1, none⟩ = some (.int .i64 ((rd_T25 l0 0).f1)) ∧ bB.cell? ⟨aE.block, aE.off + 2, none⟩ = some (.int .i64 ((rd_T25 l0 0).f2)) ∧ bB.cell? ⟨aE.block, aE.off + 3, none⟩ = some (.int .i64 ((rd_T25 l0 0).f3)) ∧ bB.cell? ⟨aE.block, aE.off + 4, none⟩ = some (.int .i64 ((rd_T25 l0 0).f4)) ∧ bB.cell? ⟨aE.block, aE.off + 5, none⟩ = some (.int .i64 ((rd_T25 l0 1).f0)) ∧ bB.cell? ⟨aE.block, aE.off + 5 + 1, none⟩ = some (.int .i64 ((rd_T25 l0 1).f1)) ∧ bB.cell? ⟨aE.block, aE.off + 5 + 2, none⟩ = some (.int .i64 ((rd_T25 l0 1).f2)) ∧ bB.cell? ⟨aE.block, aE.off + 5 + 3, none⟩ = some (.int .i64 ((rd_T25 l0 1).f3)) ∧ bB.cell? ⟨aE.block, aE.off + 5 + 4, none⟩ = some (.int .i64 ((rd_T25 l0 1).f4)) := hS_
        refine norm_ (a' := ?_) ?_ ?_
        rotate_left
        ·simp only [putAll, Act.put, List.setIfInBounds_toArray, List.set_cons_zero, List.set_cons_succ]
         rfl
        refine one_ (i := 8) (N := none) #[true, true, true, true, true, true, true, true, true, false] rfl rfl (one_of HT_.out oK) oD (fun K hK => ?_)
        have hs30 : bB.cell? ⟨aC, 0, none⟩ = some (.int .i64 0) := (blk_cell aH.out 0).trans rfl
        have hfs30 := blk_frozen aH.out 0
        have hns30_1 := aG.out
        have hms30_1 := aF.out
        have hs31 : bB.cell? ⟨aC, 1, none⟩ = some (.int .i64 0) := (blk_cell aH.out 1).trans rfl
        have hfs31 := blk_frozen aH.out 1
        have hns31_1 := aG.out
        have hms31_1 := aF.out
        have hs32 : bB.cell? ⟨aC, 2, none⟩ = some (.int .i64 0) := (blk_cell aH.out 2).trans rfl
        have hfs32 := blk_frozen aH.out 2
        have hns32_1 := aG.out
        have hms32_1 := aF.out
        have hs33 : bB.cell? ⟨aC, 3, none⟩ = some (.int .i64 0) := (blk_cell aH.out 3).trans rfl
        have hfs33 := blk_frozen aH.out 3
        have hns33_1 := aG.out
        have hms33_1 := aF.out
        have hs34 : bB.cell? ⟨aC, 4, none⟩ = some (.int .i64 0) := (blk_cell aH.out 4).trans rfl
        have hfs34 := blk_frozen aH.out 4
        have hns34_1 := aG.out
        have hms34_1 := aF.out
        refine skip_ (w1 := ?_) (by rfl) rfl ?_ ?_
        rotate_left
        ·go_simp
         rfl
        refine hK.out _ _ ⟨((cell_far (p := ⟨aC, _, none⟩) (oV hw117_0 aA) _).trans (((cell_far (p := ⟨aC, _, none⟩) (oV hw117_0 aA) _).trans (((cell_far (p := ⟨aC, _, none⟩) (oV hw117_0 aA) _).trans (((cell_far (p := ⟨aC, _, none⟩) (oV hw117_0 aA) _).trans (((cell_far (p := ⟨aC, _, none⟩) (oV hw117_0 aA) _).trans (hHeld.1)))))))))), ((cell_far (p := ⟨aC, _, none⟩) (oV hw117_1 aA) _).trans (((cell_far (p := ⟨aC, _, none⟩) (oV hw117_1 aA) _).trans (((cell_far (p := ⟨aC, _, none⟩) (oV hw117_1 aA) _).trans (((cell_far (p := ⟨aC, _, none⟩) (oV hw117_1 aA) _).trans (((cell_far (p := ⟨aC, _, none⟩) (oV hw117_1 aA) _).trans (hHeld.2.1)))))))))), ((cell_far (p := ⟨aC, _, none⟩) (oV hw117_2 aA) _).trans (((cell_far (p := ⟨aC, _, none⟩) (oV hw117_2 aA) _).trans (((cell_far (p := ⟨aC, _, none⟩) (oV hw117_2 aA) _).trans (((cell_far (p := ⟨aC, _, none⟩) (oV hw117_2 aA) _).trans (((cell_far (p := ⟨aC, _, none⟩) (oV hw117_2 aA) _).trans (hHeld.2.2.1)))))))))), ((cell_far (p := ⟨aC, _, none⟩) (oV hw117_3 aA) _).trans (((cell_far (p := ⟨aC, _, none⟩) (oV hw117_3 aA) _).trans (((cell_far (p := ⟨aC, _, none⟩) (oV hw117_3 aA) _).trans (((cell_far (p := ⟨aC, _, none⟩) (oV hw117_3 aA) _).trans (((cell_far (p := ⟨aC, _, none⟩) (oV hw117_3 aA) _).trans (hHeld.2.2.2.1)))))))))), ((cell_far (p := ⟨aC, _, none⟩) (oV hw117_4 aA) _).trans (((cell_far (p := ⟨aC, _, none⟩) (oV hw117_4 aA) _).trans (((cell_far (p := ⟨aC, _, none⟩) (oV hw117_4 aA) _).trans (((cell_far (p := ⟨aC, _, none⟩) (oV hw117_4 aA) _).trans (((cell_far (p := ⟨aC, _, none⟩) (oV hw117_4 aA) _).trans (hHeld.2.2.2.2.1)))))))))), ((cell_far (p := ⟨aC, _, none⟩) (oV hw118_0 aA) _).trans (((cell_far (p := ⟨aC, _, none⟩) (oV hw118_0 aA) _).trans (((cell_far (p := ⟨aC, _, none⟩) (oV hw118_0 aA) _).trans (((cell_far (p := ⟨aC, _, none⟩) (oV hw118_0 aA) _).trans (((cell_far (p := ⟨aC, _, none⟩) (oV hw118_0 aA) _).trans (hHeld.2.2.2.2.2.1)))))))))), ((cell_far (p := ⟨aC, _, none⟩) (oV hw118_1 aA) _).trans (((cell_far (p := ⟨aC, _, none⟩) (oV hw118_1 aA) _).trans (((cell_far (p := ⟨aC, _, none⟩) (oV hw118_1 aA) _).trans (((cell_far (p := ⟨aC, _, none⟩) (oV hw118_1 aA) _).trans (((cell_far (p := ⟨aC, _, none⟩) (oV hw118_1 aA) _).trans (hHeld.2.2.2.2.2.2.1)))))))))), ((cell_far (p := ⟨aC, _, none⟩) (oV hw118_2 aA) _).trans (((cell_far (p := ⟨aC, _, none⟩) (oV hw118_2 aA) _).trans (((cell_far (p := ⟨aC, _, none⟩) (oV hw118_2 aA) _).trans (((cell_far (p := ⟨aC, _, none⟩) (oV hw118_2 aA) _).trans (((cell_far (p := ⟨aC, _, none⟩) (oV hw118_2 aA) _).trans (hHeld.2.2.2.2.2.2.2.1)))))))))), ((cell_far (p := ⟨aC, _, none⟩) (oV hw118_3 aA) _).trans (((cell_far (p := ⟨aC, _, none⟩) (oV hw118_3 aA) _).trans (((cell_far (p := ⟨aC, _, none⟩) (oV hw118_3 aA) _).trans (((cell_far (p := ⟨aC, _, none⟩) (oV hw118_3 aA) _).trans (((cell_far (p := ⟨aC, _, none⟩) (oV hw118_3 aA) _).trans (hHeld.2.2.2.2.2.2.2.2.1)))))))))), ((cell_far (p := ⟨aC, _, none⟩) (oV hw118_4 aA) _).trans (((cell_far (p := ⟨aC, _, none⟩) (oV hw118_4 aA) _).trans (((cell_far (p := ⟨aC, _, none⟩) (oV hw118_4 aA) _).trans (((cell_far (p := ⟨aC, _, none⟩) (oV hw118_4 aA) _).trans (((cell_far (p := ⟨aC, _, none⟩) (oV hw118_4 aA) _).trans (hHeld.2.2.2.2.2.2.2.2.2))))))))))⟩ (fun hHeld => ?_)
        clear hK K
        refine one_ (i := 9) (N := none) #[true, true, true, true, true, true, true, true, true, true] rfl rfl (one_of HT_.out oK) oD (fun K hK => ?_)
        have hs35 : bB.cell? ⟨aD, 0, none⟩ = some (.int .i64 0) := (blk_cell aI.out 0).trans rfl
        have hfs35 := blk_frozen aI.out 0
        have hns35_0 := aF.out
        have hms35_0 := aG.out
        have hs36 : bB.cell? ⟨aD, 1, none⟩ = some (.int .i64 0) := (blk_cell aI.out 1).trans rfl
        have hfs36 := blk_frozen aI.out 1
        have hns36_0 := aF.out
        have hms36_0 := aG.out
        have hs37 : bB.cell? ⟨aD, 2, none⟩ = some (.int .i64 0) := (blk_cell aI.out 2).trans rfl
        have hfs37 := blk_frozen aI.out 2
        have hns37_0 := aF.out
        have hms37_0 := aG.out
        have hs38 : bB.cell? ⟨aD, 3, none⟩ = some (.int .i64 0) := (blk_cell aI.out 3).trans rfl
        have hfs38 := blk_frozen aI.out 3
        have hns38_0 := aF.out
        have hms38_0 := aG.out
        have hs39 : bB.cell? ⟨aD, 4, none⟩ = some (.int .i64 0) := (blk_cell aI.out 4).trans rfl
        have hfs39 := blk_frozen aI.out 4
        have hns39_0 := aF.out
        have hms39_0 := aG.out
        refine skip_ (w1 := ?_) (by rfl) rfl ?_ ?_
        rotate_left
        ·go_simp
         rfl
        refine hK.out _ _ ⟨((cell_far (p := ⟨aD, _, none⟩) (oV hw117_0 aB) _).trans (((cell_far (p := ⟨aD, _, none⟩) (oV hw117_0 aB) _).trans (((cell_far (p := ⟨aD, _, none⟩) (oV hw117_0 aB) _).trans (((cell_far (p := ⟨aD, _, none⟩) (oV hw117_0 aB) _).trans (((cell_far (p := ⟨aD, _, none⟩) (oV hw117_0 aB) _).trans (hHeld.1)))))))))), ((cell_far (p := ⟨aD, _, none⟩) (oV hw117_1 aB) _).trans (((cell_far (p := ⟨aD, _, none⟩) (oV hw117_1 aB) _).trans (((cell_far (p := ⟨aD, _, none⟩) (oV hw117_1 aB) _).trans (((cell_far (p := ⟨aD, _, none⟩) (oV hw117_1 aB) _).trans (((cell_far (p := ⟨aD, _, none⟩) (oV hw117_1 aB) _).trans (hHeld.2.1)))))))))), ((cell_far (p := ⟨aD, _, none⟩) (oV hw117_2 aB) _).trans (((cell_far (p := ⟨aD, _, none⟩) (oV hw117_2 aB) _).trans (((cell_far (p := ⟨aD, _, none⟩) (oV hw117_2 aB) _).trans (((cell_far (p := ⟨aD, _, none⟩) (oV hw117_2 aB) _).trans (((cell_far (p := ⟨aD, _, none⟩) (oV hw117_2 aB) _).trans (hHeld.2.2.1)))))))))), ((cell_far (p := ⟨aD, _, none⟩) (oV hw117_3 aB) _).trans (((cell_far (p := ⟨aD, _, none⟩) (oV hw117_3 aB) _).trans (((cell_far (p := ⟨aD, _, none⟩) (oV hw117_3 aB) _).trans (((cell_far (p := ⟨aD, _, none⟩) (oV hw117_3 aB) _).trans (((cell_far (p := ⟨aD, _, none⟩) (oV hw117_3 aB) _).trans (hHeld.2.2.2.1)))))))))), ((cell_far (p := ⟨aD, _, none⟩) (oV hw117_4 aB) _).trans (((cell_far (p := ⟨aD, _, none⟩) (oV hw117_4 aB) _).trans (((cell_far (p := ⟨aD, _, none⟩) (oV hw117_4 aB) _).trans (((cell_far (p := ⟨aD, _, none⟩) (oV hw117_4 aB) _).trans (((cell_far (p := ⟨aD, _, none⟩) (oV hw117_4 aB) _).trans (hHeld.2.2.2.2.1)))))))))), ((cell_far (p := ⟨aD, _, none⟩) (oV hw118_0 aB) _).trans (((cell_far (p := ⟨aD, _, none⟩) (oV hw118_0 aB) _).trans (((cell_far (p := ⟨aD, _, none⟩) (oV hw118_0 aB) _).trans (((cell_far (p := ⟨aD, _, none⟩) (oV hw118_0 aB) _).trans (((cell_far (p := ⟨aD, _, none⟩) (oV hw118_0 aB) _).trans (hHeld.2.2.2.2.2.1)))))))))), ((cell_far (p := ⟨aD, _, none⟩) (oV hw118_1 aB) _).trans (((cell_far (p := ⟨aD, _, none⟩) (oV hw118_1 aB) _).trans (((cell_far (p := ⟨aD, _, none⟩) (oV hw118_1 aB) _).trans (((cell_far (p := ⟨aD, _, none⟩) (oV hw118_1 aB) _).trans (((cell_far (p := ⟨aD, _, none⟩) (oV hw118_1 aB) _).trans (hHeld.2.2.2.2.2.2.1)))))))))), ((cell_far (p := ⟨aD, _, none⟩) (oV hw118_2 aB) _).trans (((cell_far (p := ⟨aD, _, none⟩) (oV hw118_2 aB) _).trans (((cell_far (p := ⟨aD, _, none⟩) (oV hw118_2 aB) _).trans (((cell_far (p := ⟨aD, _, none⟩) (oV hw118_2 aB) _).trans (((cell_far (p := ⟨aD, _, none⟩) (oV hw118_2 aB) _).trans (hHeld.2.2.2.2.2.2.2.1)))))))))), ((cell_far (p := ⟨aD, _, none⟩) (oV hw118_3 aB) _).trans (((cell_far (p := ⟨aD, _, none⟩) (oV hw118_3 aB) _).trans (((cell_far (p := ⟨aD, _, none⟩) (oV hw118_3 aB) _).trans (((cell_far (p := ⟨aD, _, none⟩) (oV hw118_3 aB) _).trans (((cell_far (p := ⟨aD, _, none⟩) (oV hw118_3 aB) _).trans (hHeld.2.2.2.2.2.2.2.2.1)))))))))), ((cell_far (p := ⟨aD, _, none⟩) (oV hw118_4 aB) _).trans (((cell_far (p := ⟨aD, _, none⟩) (oV hw118_4 aB) _).trans (((cell_far (p := ⟨aD, _, none⟩) (oV hw118_4 aB) _).trans (((cell_far (p := ⟨aD, _, none⟩) (oV hw118_4 aB) _).trans (((cell_far (p := ⟨aD, _, none⟩) (oV hw118_4 aB) _).trans (hHeld.2.2.2.2.2.2.2.2.2))))))))))⟩ (fun hHeld => ?_)
        clear hK K
        refine done_ (done_of HT_.out oK) ?_
        have gJ := aF.out
        have gO := aG.out
        have cM : bB.cell? ⟨aC, 0, none⟩ = some (.int .i64 0) := (blk_cell aH.out 0).trans rfl
        have cN : bB.cell? ⟨aC, 1, none⟩ = some (.int .i64 0) := (blk_cell aH.out 1).trans rfl
        have cO : bB.cell? ⟨aC, 2, none⟩ = some (.int .i64 0) := (blk_cell aH.out 2).trans rfl
        have cP : bB.cell? ⟨aC, 3, none⟩ = some (.int .i64 0) := (blk_cell aH.out 3).trans rfl
        have cQ : bB.cell? ⟨aC, 4, none⟩ = some (.int .i64 0) := (blk_cell aH.out 4).trans rfl
        have eK := blk_frozen aH.out 0
        have eL := blk_frozen aH.out 1
        have eM := blk_frozen aH.out 2
        have eN := blk_frozen aH.out 3
        have eO := blk_frozen aH.out 4
        have cR : bB.cell? ⟨aD, 0, none⟩ = some (.int .i64 0) := (blk_cell aI.out 0).trans rfl
        have cS : bB.cell? ⟨aD, 1, none⟩ = some (.int .i64 0) := (blk_cell aI.out 1).trans rfl
        have cT : bB.cell? ⟨aD, 2, none⟩ = some (.int .i64 0) := (blk_cell aI.out 2).trans rfl
        have cU : bB.cell? ⟨aD, 3, none⟩ = some (.int .i64 0) := (blk_cell aI.out 3).trans rfl
        have cV : bB.cell? ⟨aD, 4, none⟩ = some (.int .i64 0) := (blk_cell aI.out 4).trans rfl
        have eP := blk_frozen aI.out 0
        have eQ := blk_frozen aI.out 1
        have eR := blk_frozen aI.out 2
        have eS := blk_frozen aI.out 3
        have eT := blk_frozen aI.out 4
        try go_wp2
        go_ret
        exact ⟨by first | rfl | (simp [errW_none, errW_some] <;> rfl) | (simp [*, errW_none, errW_some] <;> rfl), oB HB⟩
      ·rw [if_neg c7] at H
       have gD : decide ((wrap64 (((rd_T25 l0 1).f2) + ((rd_T25 l0 1).f4))) ≤ ((rd_T25 l0 0).f4)) = false := decide_eq_false c7
       clear c7
       obtain rfl := Option.some.inj H
       go_enter Try.func40, Try.ntmps40
       try go_wp2
       replace HB := o1_ (below_drew1 HB.out)
       have aV : 0 ≤ (0 : Int) := (by omega)
       have aX : 0 < (l0.length : Int) := of_decide_eq_true oM
       obtain ⟨aE, bG, aJ, aK, aL, aM, aN⟩ := at_T25 bR.out 0 aV aX
       have hw117_4 := aN
       (try rw [show ((0 : Int)).toNat = 0 from rfl] at hw117_4)
       (try rw [show 0 * 5 = 0 from rfl] at hw117_4)
       (try rw [Addr.add_zero'] at hw117_4)
       have hw117_3 := aM
       (try rw [show ((0 : Int)).toNat = 0 from rfl] at hw117_3)
       (try rw [show 0 * 5 = 0 from rfl] at hw117_3)
       (try rw [Addr.add_zero'] at hw117_3)
       have hw117_2 := aL
       (try rw [show ((0 : Int)).toNat = 0 from rfl] at hw117_2)
       (try rw [show 0 * 5 = 0 from rfl] at hw117_2)
       (try rw [Addr.add_zero'] at hw117_2)
       have hw117_1 := aK
       (try rw [show ((0 : Int)).toNat = 0 from rfl] at hw117_1)
       (try rw [show 0 * 5 = 0 from rfl] at hw117_1)
       (try rw [Addr.add_zero'] at hw117_1)
       have hw117_0 := aJ
       (try rw [show ((0 : Int)).toNat = 0 from rfl] at hw117_0)
       (try rw [show 0 * 5 = 0 from rfl] at hw117_0)
       (try rw [Addr.add_zero'] at hw117_0)
       cases bG
       have qi117 : (0 < l0.length) = True := eq_true (by omega)
       (try rw [show ((0 : Int)).toNat = 0 from rfl] at aJ)
       (try rw [show 0 * 5 = 0 from rfl] at aJ)
       (try rw [Addr.add_zero'] at aJ)
       (try rw [show ((0 : Int)).toNat = 0 from rfl] at aK)
       (try rw [show 0 * 5 = 0 from rfl] at aK)
       (try rw [Addr.add_zero'] at aK)
       (try rw [show ((0 : Int)).toNat = 0 from rfl] at aL)
       (try rw [show 0 * 5 = 0 from rfl] at aL)
       (try rw [Addr.add_zero'] at aL)
       (try rw [show ((0 : Int)).toNat = 0 from rfl] at aM)
       (try rw [show 0 * 5 = 0 from rfl] at aM)
       (try rw [Addr.add_zero'] at aM)
       (try rw [show ((0 : Int)).toNat = 0 from rfl] at aN)
       (try rw [show 0 * 5 = 0 from rfl] at aN)
       (try rw [Addr.add_zero'] at aN)
       replace aJ := (HB.out.cell (World.block_lt_of_cell? w _ aJ)).trans aJ
       replace aK := (HB.out.cell (World.block_lt_of_cell? w _ aK)).trans aK
       replace aL := (HB.out.cell (World.block_lt_of_cell? w _ aL)).trans aL
       replace aM := (HB.out.cell (World.block_lt_of_cell? w _ aM)).trans aM
       replace aN := (HB.out.cell (World.block_lt_of_cell? w _ aN)).trans aN
       replace aV := eq_true aV
       replace aX := eq_true aX
       have aW : 0 ≤ (1 : Int) := (by omega)
       have aY : 1 < (l0.length : Int) := of_decide_eq_true oM
       obtain ⟨aZ, bH, aO, aP, aQ, aR, aS⟩ := at_T25 bR.out 1 aW aY
       have hw118_4 := aS
       (try rw [show ((1 : Int)).toNat = 1 from rfl] at hw118_4)
       (try rw [show 1 * 5 = 5 from rfl] at hw118_4)
       (try simp only [Nat.reduceMul, Nat.reduceEqDiff, Go.Addr.add, ↓reduceIte] at hw118_4)
       have hw118_3 := aR
       (try rw [show ((1 : Int)).toNat = 1 from rfl] at hw118_3)
       (try rw [show 1 * 5 = 5 from rfl] at hw118_3)
       (try simp only [Nat.reduceMul, Nat.reduceEqDiff, Go.Addr.add, ↓reduceIte] at hw118_3)
       have hw118_2 := aQ
       (try rw [show ((1 : Int)).toNat = 1 from rfl] at hw118_2)
       (try rw [show 1 * 5 = 5 from rfl] at hw118_2)
       (try simp only [Nat.reduceMul, Nat.reduceEqDiff, Go.Addr.add, ↓reduceIte] at hw118_2)
       have hw118_1 := aP
       (try rw [show ((1 : Int)).toNat = 1 from rfl] at hw118_1)
       (try rw [show 1 * 5 = 5 from rfl] at hw118_1)
       (try simp only [Nat.reduceMul, Nat.reduceEqDiff, Go.Addr.add, ↓reduceIte] at hw118_1)
       have hw118_0 := aO
       (try rw [show ((1 : Int)).toNat = 1 from rfl] at hw118_0)
       (try rw [show 1 * 5 = 5 from rfl] at hw118_0)
       (try simp only [Nat.reduceMul, Nat.reduceEqDiff, Go.Addr.add, ↓reduceIte] at hw118_0)
       obtain rfl : aE = aZ := (by injection bH)
       (try simp only [show (1 : Int).toNat = 1 from rfl, Nat.reduceMul, Nat.reduceEqDiff, Go.Addr.add, ↓reduceIte] at aO)
       (try simp only [show (1 : Int).toNat = 1 from rfl, Nat.reduceMul, Nat.reduceEqDiff, Go.Addr.add, ↓reduceIte] at aP)
       (try simp only [show (1 : Int).toNat = 1 from rfl, Nat.reduceMul, Nat.reduceEqDiff, Go.Addr.add, ↓reduceIte] at aQ)
       (try simp only [show (1 : Int).toNat = 1 from rfl, Nat.reduceMul, Nat.reduceEqDiff, Go.Addr.add, ↓reduceIte] at aR)
       (try simp only [show (1 : Int).toNat = 1 from rfl, Nat.reduceMul, Nat.reduceEqDiff, Go.Addr.add, ↓reduceIte] at aS)
       have qi118 : (1 < l0.length) = True := eq_true (by omega)
       (try rw [show ((1 : Int)).toNat = 1 from rfl] at aO)
       (try rw [show 1 * 5 = 5 from rfl] at aO)
       (try rw [show ((1 : Int)).toNat = 1 from rfl] at aP)
       (try rw [show 1 * 5 = 5 from rfl] at aP)
       (try rw [show ((1 : Int)).toNat = 1 from rfl] at aQ)
       (try rw [show 1 * 5 = 5 from rfl] at aQ)
       (try rw [show ((1 : Int)).toNat = 1 from rfl] at aR)
       (try rw [show 1 * 5 = 5 from rfl] at aR)
       (try rw [show ((1 : Int)).toNat = 1 from rfl] at aS)
       (try rw [show 1 * 5 = 5 from rfl] at aS)
       replace aO := (HB.out.cell (World.block_lt_of_cell? w _ aO)).trans aO
       replace aP := (HB.out.cell (World.block_lt_of_cell? w _ aP)).trans aP
       replace aQ := (HB.out.cell (World.block_lt_of_cell? w _ aQ)).trans aQ
       replace aR := (HB.out.cell (World.block_lt_of_cell? w _ aR)).trans aR
       replace aS := (HB.out.cell (World.block_lt_of_cell? w _ aS)).trans aS
       replace aW := eq_true aW
       replace aY := eq_true aY
       refine start_ (n := 10) (S := fun w' => w'.cell? aE = some (.int .i64 ((rd_T25 l0 0).f0)) ∧ w'.cell? ⟨aE.block, aE.off + 1, none⟩ = some (.int .i64 ((rd_T25 l0 0).f1)) ∧ w'.cell? ⟨aE.block, aE.off + 2, none⟩ = some (.int .i64 ((rd_T25 l0 0).f2)) ∧ w'.cell? ⟨aE.block, aE.off + 3, none⟩ = some (.int .i64 ((rd_T25 l0 0).f3)) ∧ w'.cell? ⟨aE.block, aE.off + 4, none⟩ = some (.int .i64 ((rd_T25 l0 0).f4)) ∧ w'.cell? ⟨aE.block, aE.off + 5, none⟩ = some (.int .i64 ((rd_T25 l0 1).f0)) ∧ w'.cell? ⟨aE.block, aE.off + 5 + 1, none⟩ = some (.int .i64 ((rd_T25 l0 1).f1)) ∧ w'.cell? ⟨aE.block, aE.off + 5 + 2, none⟩ = some (.int .i64 ((rd_T25 l0 1).f2)) ∧ w'.cell? ⟨aE.block, aE.off + 5 + 3, none⟩ = some (.int .i64 ((rd_T25 l0 1).f3)) ∧ w'.cell? ⟨aE.block, aE.off + 5 + 4, none⟩ = some (.int .i64 ((rd_T25 l0 1).f4))) (ds := []) #[false, false, false, false, false, false, false, false, false, false] oK rfl rfl ⟨((HB.out.cell (World.block_lt_of_cell? w _ hw117_0)).trans hw117_0), ((HB.out.cell (World.block_lt_of_cell? w _ hw117_1)).trans hw117_1), ((HB.out.cell (World.block_lt_of_cell? w _ hw117_2)).trans hw117_2), ((HB.out.cell (World.block_lt_of_cell? w _ hw117_3)).trans hw117_3), ((HB.out.cell (World.block_lt_of_cell? w _ hw117_4)).trans hw117_4), ((HB.out.cell (World.block_lt_of_cell? w _ hw118_0)).trans hw118_0), ((HB.out.cell (World.block_lt_of_cell? w _ hw118_1)).trans hw118_1), ((HB.out.cell (World.block_lt_of_cell? w _ hw118_2)).trans hw118_2), ((HB.out.cell (World.block_lt_of_cell? w _ hw118_3)).trans hw118_3), ((HB.out.cell (World.block_lt_of_cell? w _ hw118_4)).trans hw118_4)⟩ (fun hHeld => ?_); refine with_tabW impl_nested.tab1 impl_nested.bits1 (fun HT_ HW_ => ?_)
       generalize w.drew = hL at HB aJ aK aL aM aN aO aP aQ aR aS hHeld ⊢
       refine pure_ (i := 0) (N := some 5) (v := ?_) (a' := ?_) #[true, false, false, false, false, false, false, false, false, false] rfl rfl (any_of HT_.out oK) (fun _ _ _ h => h) (Or.inl ⟨by rfl, ?_⟩) ?_ ?_
       rotate_left
       ·intro w'
        go_simp
        with_reducible rfl
       rotate_left
       ·exact oT
       refine pure_ (i := 1) (N := some 6) (v := ?_) (a' := ?_) #[true, true, false, false, false, false, false, false, false, false] rfl rfl (any_of HT_.out oK) (fun _ _ _ h => h) (Or.inl ⟨by rfl, ?_⟩) ?_ ?_
       rotate_left
       ·intro w'
        go_simp
        with_reducible rfl
       rotate_left
       ·exact oT
       refine pure_ (i := 3) (N := some 8) (v := ?_) (a' := ?_) #[true, true, false, true, false, false, false, false, false, false] rfl rfl (any_of HT_.out oK) (fun _ _ _ h => h) (Or.inl ⟨by rfl, ?_⟩) ?_ ?_
       rotate_left
       ·intro w'
        go_simp
        with_reducible rfl
       rotate_left
       ·exact oT
       refine pure_ (i := 4) (N := some 9) (v := ?_) (a' := ?_) #[true, true, false, true, true, false, false, false, false, false] rfl rfl (any_of HT_.out oK) (fun _ _ _ h => h) (Or.inl ⟨by rfl, ?_⟩) ?_ ?_
       rotate_left
       ·intro w'
        go_simp
        with_reducible rfl
       rotate_left
       ·exact oT
       refine take_ (i := 2) (N := some 7) (v := ?_) (a' := ?_) #[true, true, true, true, true, false, false, false, false, false] rfl rfl (take_ofW HT_.out HW_.out oK) (fun _ _ _ h => h) (Or.inl ⟨by rfl, ?_⟩) hHeld ?_ ?_
       rotate_left
       ·rintro w' ⟨s0, s1, s2, s3, s4, s5, s6, s7, s8, s9⟩
        go_simp
        with_reducible rfl
       rotate_left
       ·exact oT
       refine take_ (i := 5) (N := some 10) (v := ?_) (a' := ?_) #[true, true, true, true, true, true, false, false, false, false] rfl rfl (take_ofW HT_.out HW_.out oK) (fun _ _ _ h => h) (Or.inl ⟨by rfl, ?_⟩) hHeld ?_ ?_
       rotate_left
       ·rintro w' ⟨s0, s1, s2, s3, s4, s5, s6, s7, s8, s9⟩
        go_simp
        with_reducible rfl
       rotate_left
       ·exact oT
       refine join_ (σ := Nat × Nat) 2 #[true, true, true, true, true, true, true, true, false, false] (fun s_ => [(3, .pointer (some ⟨s_.1, 0, none⟩)), (4, .pointer (some ⟨s_.2, 0, none⟩))]) (fun s_ w' => (w'.cell? aE = some (.int .i64 ((rd_T25 l0 0).f0)) ∧ w'.cell? ⟨aE.block, aE.off + 1, none⟩ = some (.int .i64 ((rd_T25 l0 0).f1)) ∧ w'.cell? ⟨aE.block, aE.off + 2, none⟩ = some (.int .i64 ((rd_T25 l0 0).f2)) ∧ w'.cell? ⟨aE.block, aE.off + 3, none⟩ = some (.int .i64 ((rd_T25 l0 0).f3)) ∧ w'.cell? ⟨aE.block, aE.off + 4, none⟩ = some (.int .i64 ((rd_T25 l0 0).f4)) ∧ w'.cell? ⟨aE.block, aE.off + 5, none⟩ = some (.int .i64 ((rd_T25 l0 1).f0)) ∧ w'.cell? ⟨aE.block, aE.off + 5 + 1, none⟩ = some (.int .i64 ((rd_T25 l0 1).f1)) ∧ w'.cell? ⟨aE.block, aE.off + 5 + 2, none⟩ = some (.int .i64 ((rd_T25 l0 1).f2)) ∧ w'.cell? ⟨aE.block, aE.off + 5 + 3, none⟩ = some (.int .i64 ((rd_T25 l0 1).f3)) ∧ w'.cell? ⟨aE.block, aE.off + 5 + 4, none⟩ = some (.int .i64 ((rd_T25 l0 1).f4))) ∧ (w'.heap[s_.1]? = some (.cells #[.int .i64 0, .int .i64 0, .int .i64 0, .int .i64 0, .int .i64 0] 25 (0, 0))) ∧ (w'.heap[s_.2]? = some (.cells #[.int .i64 0, .int .i64 0, .int .i64 0, .int .i64 0, .int .i64 0] 25 (0, 0))) ∧ (w.heap.size ≤ s_.1) ∧ (w.heap.size ≤ s_.1) ∧ (s_.2 ≠ s_.1) ∧ (s_.1 ≠ s_.2) ∧ (w.heap.size ≤ s_.2) ∧ (w.heap.size ≤ s_.2) ∧ (Below w.heap.size w w')) ?_ ?_
       rotate_left
       ·intro hCont
        refine two_ (i := 6) (j := 7) (Ni := some 3) (Nj := some 4) #[true, true, true, true, true, true, true, false, false, false] #[true, true, true, true, true, true, false, true, false, false] rfl rfl rfl rfl (two_of HT_.out oK) oD oD (fun K hK => ?_) (fun K hK => ?_)
        ·skip
         refine box_step ?hg (N := 3) ?hd (cs := #[.int .i64 0, .int .i64 0, .int .i64 0, .int .i64 0, .int .i64 0]) (t := 25) ?hr ?_; (case hd => rfl); (case hg => rfl); (case hr => first | (go_simp; done) | (go_simp; rfl))
         intro aC hg hA hbox hb
         have n_ := o2_ (below_step (oB HB) hb) (o2_ (hbox) (o2_ ((oG hg (below_size (oB HB)) : w.heap.size ≤ aC)) (o1_ ((oG hg (below_size (oB HB)) : w.heap.size ≤ aC)))))
         clear HB
         obtain ⟨HB, aH, aA, aT⟩ := n_
         clear hb hbox hg
         refine hK.out _ _ ⟨((HB.out.cell (World.block_lt_of_cell? w _ hw117_0)).trans hw117_0), ((HB.out.cell (World.block_lt_of_cell? w _ hw117_1)).trans hw117_1), ((HB.out.cell (World.block_lt_of_cell? w _ hw117_2)).trans hw117_2), ((HB.out.cell (World.block_lt_of_cell? w _ hw117_3)).trans hw117_3), ((HB.out.cell (World.block_lt_of_cell? w _ hw117_4)).trans hw117_4), ((HB.out.cell (World.block_lt_of_cell? w _ hw118_0)).trans hw118_0), ((HB.out.cell (World.block_lt_of_cell? w _ hw118_1)).trans hw118_1), ((HB.out.cell (World.block_lt_of_cell? w _ hw118_2)).trans hw118_2), ((HB.out.cell (World.block_lt_of_cell? w _ hw118_3)).trans hw118_3), ((HB.out.cell (World.block_lt_of_cell? w _ hw118_4)).trans hw118_4)⟩ (fun hHeld => ?_)
         clear hK K
         refine norm_ (a' := ?_) ?_ ?_
         rotate_left
         ·show Act.put _ (some 3) _ = _
          exact oT
         refine one_ (i := 7) (N := some 4) #[true, true, true, true, true, true, true, true, false, false] rfl rfl (one_of HT_.out oK) oD (fun K hK => ?_)
         refine box_step ?hg (N := 4) ?hd (cs := #[.int .i64 0, .int .i64 0, .int .i64 0, .int .i64 0, .int .i64 0]) (t := 25) ?hr ?_; (case hd => rfl); (case hg => rfl); (case hr => first | (go_simp; done) | (go_simp; rfl))
         intro aD hg hB hbox hb
         have n_ := o2_ (blk_below (oP aH) hb) (o2_ (below_step (oB HB) hb) (o2_ (hbox) (o2_ ((oG hg (below_size (oB HB)) : w.heap.size ≤ aD)) (o2_ ((oG hg (below_size (oB HB)) : w.heap.size ≤ aD)) (o2_ ((oL hg (blk_lt (oP aH)))) (o1_ ((oN hg (blk_lt (oP aH))))))))))
         clear aH HB
         obtain ⟨aH, HB, aI, aB, aU, aF, aG⟩ := n_
         clear hb hbox hg
         refine hK.out _ _ ⟨((HB.out.cell (World.block_lt_of_cell? w _ hw117_0)).trans hw117_0), ((HB.out.cell (World.block_lt_of_cell? w _ hw117_1)).trans hw117_1), ((HB.out.cell (World.block_lt_of_cell? w _ hw117_2)).trans hw117_2), ((HB.out.cell (World.block_lt_of_cell? w _ hw117_3)).trans hw117_3), ((HB.out.cell (World.block_lt_of_cell? w _ hw117_4)).trans hw117_4), ((HB.out.cell (World.block_lt_of_cell? w _ hw118_0)).trans hw118_0), ((HB.out.cell (World.block_lt_of_cell? w _ hw118_1)).trans hw118_1), ((HB.out.cell (World.block_lt_of_cell? w _ hw118_2)).trans hw118_2), ((HB.out.cell (World.block_lt_of_cell? w _ hw118_3)).trans hw118_3), ((HB.out.cell (World.block_lt_of_cell? w _ hw118_4)).trans hw118_4)⟩ (fun hHeld => ?_)
         clear hK K
         refine norm_ (a' := ?_) ?_ ?_
         rotate_left
         ·show Act.put _ (some 4) _ = _
          exact oT
         exact norm_ (by simp only [putAll, Act.put, List.setIfInBounds_toArray, List.set_cons_zero, List.set_cons_succ]) (hCont (aC, aD) _ ⟨hHeld, (oP aH), (oP aI), aA.out, aT.out, aG.out, aF.out, aB.out, aU.out, (oB HB)⟩)
        ·skip
         refine box_step ?hg (N := 4) ?hd (cs := #[.int .i64 0, .int .i64 0, .int .i64 0, .int .i64 0, .int .i64 0]) (t := 25) ?hr ?_; (case hd => rfl); (case hg => rfl); (case hr => first | (go_simp; done) | (go_simp; rfl))
         intro aD hg hA hbox hb
         have n_ := o2_ (below_step (oB HB) hb) (o2_ (hbox) (o2_ ((oG hg (below_size (oB HB)) : w.heap.size ≤ aD)) (o1_ ((oG hg (below_size (oB HB)) : w.heap.size ≤ aD)))))
         clear HB
         obtain ⟨HB, aI, aB, aU⟩ := n_
         clear hb hbox hg
         refine hK.out _ _ ⟨((HB.out.cell (World.block_lt_of_cell? w _ hw117_0)).trans hw117_0), ((HB.out.cell (World.block_lt_of_cell? w _ hw117_1)).trans hw117_1), ((HB.out.cell (World.block_lt_of_cell? w _ hw117_2)).trans hw117_2), ((HB.out.cell (World.block_lt_of_cell? w _ hw117_3)).trans hw117_3), ((HB.out.cell (World.block_lt_of_cell? w _ hw117_4)).trans hw117_4), ((HB.out.cell (World.block_lt_of_cell? w _ hw118_0)).trans hw118_0), ((HB.out.cell (World.block_lt_of_cell? w _ hw118_1)).trans hw118_1), ((HB.out.cell (World.block_lt_of_cell? w _ hw118_2)).trans hw118_2), ((HB.out.cell (World.block_lt_of_cell? w _ hw118_3)).trans hw118_3), ((HB.out.cell (World.block_lt_of_cell? w _ hw118_4)).trans hw118_4)⟩ (fun hHeld => ?_)
         clear hK K
         refine norm_ (a' := ?_) ?_ ?_
         rotate_left
         ·show Act.put _ (some 4) _ = _
          exact oT
         refine one_ (i := 6) (N := some 3) #[true, true, true, true, true, true, true, true, false, false] rfl rfl (one_of HT_.out oK) oD (fun K hK => ?_)
         refine box_step ?hg (N := 3) ?hd (cs := #[.int .i64 0, .int .i64 0, .int .i64 0, .int .i64 0, .int .i64 0]) (t := 25) ?hr ?_; (case hd => rfl); (case hg => rfl); (case hr => first | (go_simp; done) | (go_simp; rfl))
         intro aC hg hB hbox hb
         have n_ := o2_ (blk_below (oP aI) hb) (o2_ (below_step (oB HB) hb) (o2_ (hbox) (o2_ ((oG hg (below_size (oB HB)) : w.heap.size ≤ aC)) (o2_ ((oG hg (below_size (oB HB)) : w.heap.size ≤ aC)) (o2_ ((oL hg (blk_lt (oP aI)))) (o1_ ((oN hg (blk_lt (oP aI))))))))))
         clear aI HB
         obtain ⟨aI, HB, aH, aA, aT, aG, aF⟩ := n_
         clear hb hbox hg
         refine hK.out _ _ ⟨((HB.out.cell (World.block_lt_of_cell? w _ hw117_0)).trans hw117_0), ((HB.out.cell (World.block_lt_of_cell? w _ hw117_1)).trans hw117_1), ((HB.out.cell (World.block_lt_of_cell? w _ hw117_2)).trans hw117_2), ((HB.out.cell (World.block_lt_of_cell? w _ hw117_3)).trans hw117_3), ((HB.out.cell (World.block_lt_of_cell? w _ hw117_4)).trans hw117_4), ((HB.out.cell (World.block_lt_of_cell? w _ hw118_0)).trans hw118_0), ((HB.out.cell (World.block_lt_of_cell? w _ hw118_1)).trans hw118_1), ((HB.out.cell (World.block_lt_of_cell? w _ hw118_2)).trans hw118_2), ((HB.out.cell (World.block_lt_of_cell? w _ hw118_3)).trans hw118_3), ((HB.out.cell (World.block_lt_of_cell? w _ hw118_4)).trans hw118_4)⟩ (fun hHeld => ?_)
         clear hK K
         refine norm_ (a' := ?_) ?_ ?_
         rotate_left
         ·show Act.put _ (some 3) _ = _
          exact oT
         exact norm_ (by simp only [putAll, Act.put, List.setIfInBounds_toArray, List.set_cons_zero, List.set_cons_succ]) (hCont (aC, aD) _ ⟨hHeld, (oP aH), (oP aI), aA.out, aT.out, aG.out, aF.out, aB.out, aU.out, (oB HB)⟩)
       rintro ⟨aC, aD⟩ bC ⟨hS_, h0_, h1_, h2_, h3_, h4_, h5_, h6_, h7_, h8_⟩
       have bI : Aside0 (bC.heap[aC]? = some (.cells #[.int .i64 0, .int .i64 0, .int .i64 0, .int .i64 0, .int .i64 0] 25 (0, 0))) := ⟨h0_⟩
       have bJ : Aside0 (bC.heap[aD]? = some (.cells #[.int .i64 0, .int .i64 0, .int .i64 0, .int .i64 0, .int .i64 0] 25 (0, 0))) := ⟨h1_⟩
       have bK : Aside0 (w.heap.size ≤ aC) := ⟨h2_⟩
       have bL : Aside0 (w.heap.size ≤ aC) := ⟨h3_⟩
       have bM : Aside0 (aD ≠ aC) := ⟨h4_⟩
       have bN : Aside0 (aC ≠ aD) := ⟨h5_⟩
       have bO : Aside0 (w.heap.size ≤ aD) := ⟨h6_⟩
       have bP : Aside0 (w.heap.size ≤ aD) := ⟨h7_⟩
       have bQ : Aside0 (Below w.heap.size w bC) := ⟨h8_⟩
       clear HB
       clear h0_ h1_ h2_ h3_ h4_ h5_ h6_ h7_ h8_
       have aH := bI
       have aI := bJ
       have aA := bK
       have aT := bL
       have aG := bM
       have aF := bN
       have aB := bO
       have aU := bP
       have HB := bQ
       clear bI bJ bK bL bM bN bO bP bQ
       have hHeld : bC.cell? aE = some (.int .i64 ((rd_T25 l0 0).f0)) ∧ bC.cell? ⟨aE.block, aE.off + 1, none⟩ = some (.int .i64 ((rd_T25 l0 0).f1)) ∧ bC.cell? ⟨aE.block, aE.off + 2, none⟩ = some (.int .i64 ((rd_T25 l0 0).f2)) ∧ bC.cell? ⟨aE.block, aE.off + 3, none⟩ = some (.int .i64 ((rd_T25 l0 0).f3)) ∧ bC.cell? ⟨aE.block, aE.off + 4, none⟩ = some (.int .i64 ((rd_T25 l0 0).f4)) ∧ bC.cell? ⟨aE.block, aE.off + 5, none⟩ = some (.int .i64 ((rd_T25 l0 1).f0)) ∧ bC.cell? ⟨aE.block, aE.off + 5 + 1, none⟩ = some (.int .i64 ((rd_T25 l0 1).f1)) ∧ bC.cell? ⟨aE.block, aE.off + 5 + 2, none⟩ = some (.int .i64 ((rd_T25 l0 1).f2)) ∧ bC.cell? ⟨aE.block, aE.off + 5 + 3, none⟩ = some (.int .i64 ((rd_T25 l0 1).f3)) ∧ bC.cell? ⟨aE.block, aE.off + 5 + 4, none⟩ = some (.int .i64 ((rd_T25 l0 1).f4)) := hS_
       refine norm_ (a' := ?_) ?_ ?_
       rotate_left
       ·simp only [putAll, Act.put, List.setIfInBounds_toArray, List.set_cons_zero, List.set_cons_succ]
        rfl
       refine one_ (i := 8) (N := none) #[true, true, true, true, true, true, true, true, true, false] rfl rfl (one_of HT_.out oK) oD (fun K hK => ?_)
       have hs47 : bC.cell? ⟨aC, 0, none⟩ = some (.int .i64 0) := (blk_cell aH.out 0).trans rfl
       have hfs47 := blk_frozen aH.out 0
       have hns47_1 := aG.out
       have hms47_1 := aF.out
       have hs48 : bC.cell? ⟨aC, 1, none⟩ = some (.int .i64 0) := (blk_cell aH.out 1).trans rfl
       have hfs48 := blk_frozen aH.out 1
       have hns48_1 := aG.out
       have hms48_1 := aF.out
       have hs49 : bC.cell? ⟨aC, 2, none⟩ = some (.int .i64 0) := (blk_cell aH.out 2).trans rfl
       have hfs49 := blk_frozen aH.out 2
       have hns49_1 := aG.out
       have hms49_1 := aF.out
       have hs50 : bC.cell? ⟨aC, 3, none⟩ = some (.int .i64 0) := (blk_cell aH.out 3).trans rfl
       have hfs50 := blk_frozen aH.out 3
       have hns50_1 := aG.out
       have hms50_1 := aF.out
       have hs51 : bC.cell? ⟨aC, 4, none⟩ = some (.int .i64 0) := (blk_cell aH.out 4).trans rfl
       have hfs51 := blk_frozen aH.out 4
       have hns51_1 := aG.out
       have hms51_1 := aF.out
       refine skip_ (w1 := ?_) (by rfl) rfl ?_ ?_
       rotate_left
       ·go_simp
        rfl
       refine hK.out _ _ ⟨((cell_far (p := ⟨aC, _, none⟩) (oV hw117_0 aA) _).trans (((cell_far (p := ⟨aC, _, none⟩) (oV hw117_0 aA) _).trans (((cell_far (p := ⟨aC, _, none⟩) (oV hw117_0 aA) _).trans (((cell_far (p := ⟨aC, _, none⟩) (oV hw117_0 aA) _).trans (((cell_far (p := ⟨aC, _, none⟩) (oV hw117_0 aA) _).trans (hHeld.1)))))))))), ((cell_far (p := ⟨aC, _, none⟩) (oV hw117_1 aA) _).trans (((cell_far (p := ⟨aC, _, none⟩) (oV hw117_1 aA) _).trans (((cell_far (p := ⟨aC, _, none⟩) (oV hw117_1 aA) _).trans (((cell_far (p := ⟨aC, _, none⟩) (oV hw117_1 aA) _).trans (((cell_far (p := ⟨aC, _, none⟩) (oV hw117_1 aA) _).trans (hHeld.2.1)))))))))), ((cell_far (p := ⟨aC, _, none⟩) (oV hw117_2 aA) _).trans (((cell_far (p := ⟨aC, _, none⟩) (oV hw117_2 aA) _).trans (((cell_far (p := ⟨aC, _, none⟩) (oV hw117_2 aA) _).trans (((cell_far (p := ⟨aC, _, none⟩) (oV hw117_2 aA) _).trans (((cell_far (p := ⟨aC, _, none⟩) (oV hw117_2 aA) _).trans (hHeld.2.2.1)))))))))), ((cell_far (p := ⟨aC, _, none⟩) (oV hw117_3 aA) _).trans (((cell_far (p := ⟨aC, _, none⟩) (oV hw117_3 aA) _).trans (((cell_far (p := ⟨aC, _, none⟩) (oV hw117_3 aA) _).trans (((cell_far (p := ⟨aC, _, none⟩) (oV hw117_3 aA) _).trans (((cell_far (p := ⟨aC, _, none⟩) (oV hw117_3 aA) _).trans (hHeld.2.2.2.1)))))))))), ((cell_far (p := ⟨aC, _, none⟩) (oV hw117_4 aA) _).trans (((cell_far (p := ⟨aC, _, none⟩) (oV hw117_4 aA) _).trans (((cell_far (p := ⟨aC, _, none⟩) (oV hw117_4 aA) _).trans (((cell_far (p := ⟨aC, _, none⟩) (oV hw117_4 aA) _).trans (((cell_far (p := ⟨aC, _, none⟩) (oV hw117_4 aA) _).trans (hHeld.2.2.2.2.1)))))))))), ((cell_far (p := ⟨aC, _, none⟩) (oV hw118_0 aA) _).trans (((cell_far (p := ⟨aC, _, none⟩) (oV hw118_0 aA) _).trans (((cell_far (p := ⟨aC, _, none⟩) (oV hw118_0 aA) _).trans (((cell_far (p := ⟨aC, _, none⟩) (oV hw118_0 aA) _).trans (((cell_far (p := ⟨aC, _, none⟩) (oV hw118_0 aA) _).trans (hHeld.2.2.2.2.2.1)))))))))), ((cell_far (p := ⟨aC, _, none⟩) (oV hw118_1 aA) _).trans (((cell_far (p := ⟨aC, _, none⟩) (oV hw118_1 aA) _).trans (((cell_far (p := ⟨aC, _, none⟩) (oV hw118_1 aA) _).trans (((cell_far (p := ⟨aC, _, none⟩) (oV hw118_1 aA) _).trans (((cell_far (p := ⟨aC, _, none⟩) (oV hw118_1 aA) _).trans (hHeld.2.2.2.2.2.2.1)))))))))), ((cell_far (p := ⟨aC, _, none⟩) (oV hw118_2 aA) _).trans (((cell_far (p := ⟨aC, _, none⟩) (oV hw118_2 aA) _).trans (((cell_far (p := ⟨aC, _, none⟩) (oV hw118_2 aA) _).trans (((cell_far (p := ⟨aC, _, none⟩) (oV hw118_2 aA) _).trans (((cell_far (p := ⟨aC, _, none⟩) (oV hw118_2 aA) _).trans (hHeld.2.2.2.2.2.2.2.1)))))))))), ((cell_far (p := ⟨aC, _, none⟩) (oV hw118_3 aA) _).trans (((cell_far (p := ⟨aC, _, none⟩) (oV hw118_3 aA) _).trans (((cell_far (p := ⟨aC, _, none⟩) (oV hw118_3 aA) _).trans (((cell_far (p := ⟨aC, _, none⟩) (oV hw118_3 aA) _).trans (((cell_far (p := ⟨aC, _, none⟩) (oV hw118_3 aA) _).trans (hHeld.2.2.2.2.2.2.2.2.1)))))))))), ((cell_far (p := ⟨aC, _, none⟩) (oV hw118_4 aA) _).trans (((cell_far (p := ⟨aC, _, none⟩) (oV hw118_4 aA) _).trans (((cell_far (p := ⟨aC, _, none⟩) (oV hw118_4 aA) _).trans (((cell_far (p := ⟨aC, _, none⟩) (oV hw118_4 aA) _).trans (((cell_far (p := ⟨aC, _, none⟩) (oV hw118_4 aA) _).trans (hHeld.2.2.2.2.2.2.2.2.2))))))))))⟩ (fun hHeld => ?_)
       clear hK K
       refine one_ (i := 9) (N := none) #[true, true, true, true, true, true, true, true, true, true] rfl rfl (one_of HT_.out oK) oD (fun K hK => ?_)
       have hs52 : bC.cell? ⟨aD, 0, none⟩ = some (.int .i64 0) := (blk_cell aI.out 0).trans rfl
       have hfs52 := blk_frozen aI.out 0
       have hns52_0 := aF.out
       have hms52_0 := aG.out
       have hs53 : bC.cell? ⟨aD, 1, none⟩ = some (.int .i64 0) := (blk_cell aI.out 1).trans rfl
       have hfs53 := blk_frozen aI.out 1
       have hns53_0 := aF.out
       have hms53_0 := aG.out
       have hs54 : bC.cell? ⟨aD, 2, none⟩ = some (.int .i64 0) := (blk_cell aI.out 2).trans rfl
       have hfs54 := blk_frozen aI.out 2
       have hns54_0 := aF.out
       have hms54_0 := aG.out
       have hs55 : bC.cell? ⟨aD, 3, none⟩ = some (.int .i64 0) := (blk_cell aI.out 3).trans rfl
       have hfs55 := blk_frozen aI.out 3
       have hns55_0 := aF.out
       have hms55_0 := aG.out
       have hs56 : bC.cell? ⟨aD, 4, none⟩ = some (.int .i64 0) := (blk_cell aI.out 4).trans rfl
       have hfs56 := blk_frozen aI.out 4
       have hns56_0 := aF.out
       have hms56_0 := aG.out
       refine skip_ (w1 := ?_) (by rfl) rfl ?_ ?_
       rotate_left
       ·go_simp
        rfl
       refine hK.out _ _ ⟨((cell_far (p := ⟨aD, _, none⟩) (oV hw117_0 aB) _).trans (((cell_far (p := ⟨aD, _, none⟩) (oV hw117_0 aB) _).trans (((cell_far (p := ⟨aD, _, none⟩) (oV hw117_0 aB) _).trans (((cell_far (p := ⟨aD, _, none⟩) (oV hw117_0 aB) _).trans (((cell_far (p := ⟨aD, _, none⟩) (oV hw117_0 aB) _).trans (hHeld.1)))))))))), ((cell_far (p := ⟨aD, _, none⟩) (oV hw117_1 aB) _).trans (((cell_far (p := ⟨aD, _, none⟩) (oV hw117_1 aB) _).trans (((cell_far (p := ⟨aD, _, none⟩) (oV hw117_1 aB) _).trans (((cell_far (p := ⟨aD, _, none⟩) (oV hw117_1 aB) _).trans (((cell_far (p := ⟨aD, _, none⟩) (oV hw117_1 aB) _).trans (hHeld.2.1)))))))))), ((cell_far (p := ⟨aD, _, none⟩) (oV hw117_2 aB) _).trans (((cell_far (p := ⟨aD, _, none⟩) (oV hw117_2 aB) _).trans (((cell_far (p := ⟨aD, _, none⟩) (oV hw117_2 aB) _).trans (((cell_far (p := ⟨aD, _, none⟩) (oV hw117_2 aB) _).trans (((cell_far (p := ⟨aD, _, none⟩) (oV hw117_2 aB) _).trans (hHeld.2.2.1)))))))))), ((cell_far (p := ⟨aD, _, none⟩) (oV hw117_3 aB) _).trans (((cell_far (p := ⟨aD, _, none⟩) (oV hw117_3 aB) _).trans (((cell_far (p := ⟨aD, _, none⟩) (oV hw117_3 aB) _).trans (((cell_far (p := ⟨aD, _, none⟩) (oV hw117_3 aB) _).trans (((cell_far (p := ⟨aD, _, none⟩) (oV hw117_3 aB) _).trans (hHeld.2.2.2.1)))))))))), ((cell_far (p := ⟨aD, _, none⟩) (oV hw117_4 aB) _).trans (((cell_far (p := ⟨aD, _, none⟩) (oV hw117_4 aB) _).trans (((cell_far (p := ⟨aD, _, none⟩) (oV hw117_4 aB) _).trans (((cell_far (p := ⟨aD, _, none⟩) (oV hw117_4 aB) _).trans (((cell_far (p := ⟨aD, _, none⟩) (oV hw117_4 aB) _).trans (hHeld.2.2.2.2.1)))))))))), ((cell_far (p := ⟨aD, _, none⟩) (oV hw118_0 aB) _).trans (((cell_far (p := ⟨aD, _, none⟩) (oV hw118_0 aB) _).trans (((cell_far (p := ⟨aD, _, none⟩) (oV hw118_0 aB) _).trans (((cell_far (p := ⟨aD, _, none⟩) (oV hw118_0 aB) _).trans (((cell_far (p := ⟨aD, _, none⟩) (oV hw118_0 aB) _).trans (hHeld.2.2.2.2.2.1)))))))))), ((cell_far (p := ⟨aD, _, none⟩) (oV hw118_1 aB) _).trans (((cell_far (p := ⟨aD, _, none⟩) (oV hw118_1 aB) _).trans (((cell_far (p := ⟨aD, _, none⟩) (oV hw118_1 aB) _).trans (((cell_far (p := ⟨aD, _, none⟩) (oV hw118_1 aB) _).trans (((cell_far (p := ⟨aD, _, none⟩) (oV hw118_1 aB) _).trans (hHeld.2.2.2.2.2.2.1)))))))))), ((cell_far (p := ⟨aD, _, none⟩) (oV hw118_2 aB) _).trans (((cell_far (p := ⟨aD, _, none⟩) (oV hw118_2 aB) _).trans (((cell_far (p := ⟨aD, _, none⟩) (oV hw118_2 aB) _).trans (((cell_far (p := ⟨aD, _, none⟩) (oV hw118_2 aB) _).trans (((cell_far (p := ⟨aD, _, none⟩) (oV hw118_2 aB) _).trans (hHeld.2.2.2.2.2.2.2.1)))))))))), ((cell_far (p := ⟨aD, _, none⟩) (oV hw118_3 aB) _).trans (((cell_far (p := ⟨aD, _, none⟩) (oV hw118_3 aB) _).trans (((cell_far (p := ⟨aD, _, none⟩) (oV hw118_3 aB) _).trans (((cell_far (p := ⟨aD, _, none⟩) (oV hw118_3 aB) _).trans (((cell_far (p := ⟨aD, _, none⟩) (oV hw118_3 aB) _).trans (hHeld.2.2.2.2.2.2.2.2.1)))))))))), ((cell_far (p := ⟨aD, _, none⟩) (oV hw118_4 aB) _).trans (((cell_far (p := ⟨aD, _, none⟩) (oV hw118_4 aB) _).trans (((cell_far (p := ⟨aD, _, none⟩) (oV hw118_4 aB) _).trans (((cell_far (p := ⟨aD, _, none⟩) (oV hw118_4 aB) _).trans (((cell_far (p := ⟨aD, _, none⟩) (oV hw118_4 aB) _).trans (hHeld.2.2.2.2.2.2.2.2.2))))))))))⟩ (fun hHeld => ?_)
       clear hK K
       refine done_ (done_of HT_.out oK) ?_
       have gK := aF.out
       have gP := aG.out
       have cW : bC.cell? ⟨aC, 0, none⟩ = some (.int .i64 0) := (blk_cell aH.out 0).trans rfl
       have cX : bC.cell? ⟨aC, 1, none⟩ = some (.int .i64 0) := (blk_cell aH.out 1).trans rfl
       have cY : bC.cell? ⟨aC, 2, none⟩ = some (.int .i64 0) := (blk_cell aH.out 2).trans rfl
       have cZ : bC.cell? ⟨aC, 3, none⟩ = some (.int .i64 0) := (blk_cell aH.out 3).trans rfl
       have dA : bC.cell? ⟨aC, 4, none⟩ = some (.int .i64 0) := (blk_cell aH.out 4).trans rfl
       have eU := blk_frozen aH.out 0
       have eV := blk_frozen aH.out 1
       have eW := blk_frozen aH.out 2
       have eX := blk_frozen aH.out 3
       have eY := blk_frozen aH.out 4
       have dB : bC.cell? ⟨aD, 0, none⟩ = some (.int .i64 0) := (blk_cell aI.out 0).trans rfl
       have dC : bC.cell? ⟨aD, 1, none⟩ = some (.int .i64 0) := (blk_cell aI.out 1).trans rfl
       have dD : bC.cell? ⟨aD, 2, none⟩ = some (.int .i64 0) := (blk_cell aI.out 2).trans rfl
       have dE : bC.cell? ⟨aD, 3, none⟩ = some (.int .i64 0) := (blk_cell aI.out 3).trans rfl
       have dF : bC.cell? ⟨aD, 4, none⟩ = some (.int .i64 0) := (blk_cell aI.out 4).trans rfl
       have eZ := blk_frozen aI.out 0
       have fA := blk_frozen aI.out 1
       have fB := blk_frozen aI.out 2
       have fC := blk_frozen aI.out 3
       have fD := blk_frozen aI.out 4
       try go_wp2
       go_ret
       exact ⟨by first | rfl | (simp [errW_none, errW_some] <;> rfl) | (simp [*, errW_none, errW_some] <;> rfl), oB HB⟩
     ·rw [if_neg c6] at H
      have gC : decide ((wrap64 (((rd_T25 l0 1).f1) + ((rd_T25 l0 1).f3))) ≤ ((rd_T25 l0 0).f3)) = false := decide_eq_false c6
      clear c6
      obtain rfl := Option.some.inj H
      go_enter Try.func40, Try.ntmps40
      try go_wp2
      replace HB := o1_ (below_drew1 HB.out)
      have aV : 0 ≤ (0 : Int) := (by omega)
      have aX : 0 < (l0.length : Int) := of_decide_eq_true oM
      obtain ⟨aE, bG, aJ, aK, aL, aM, aN⟩ := at_T25 bR.out 0 aV aX
      have hw117_4 := aN
      (try rw [show ((0 : Int)).toNat = 0 from rfl] at hw117_4)
      (try rw [show 0 * 5 = 0 from rfl] at hw117_4)
      (try rw [Addr.add_zero'] at hw117_4)
      have hw117_3 := aM
      (try rw [show ((0 : Int)).toNat = 0 from rfl] at hw117_3)
      (try rw [show 0 * 5 = 0 from rfl] at hw117_3)
      (try rw [Addr.add_zero'] at hw117_3)
      have hw117_2 := aL
      (try rw [show ((0 : Int)).toNat = 0 from rfl] at hw117_2)
      (try rw [show 0 * 5 = 0 from rfl] at hw117_2)
      (try rw [Addr.add_zero'] at hw117_2)
      have hw117_1 := aK
      (try rw [show ((0 : Int)).toNat = 0 from rfl] at hw117_1)
      (try rw [show 0 * 5 = 0 from rfl] at hw117_1)
      (try rw [Addr.add_zero'] at hw117_1)
      have hw117_0 := aJ
      (try rw [show ((0 : Int)).toNat = 0 from rfl] at hw117_0)
      (try rw [show 0 * 5 = 0 from rfl] at hw117_0)
      (try rw [Addr.add_zero'] at hw117_0)
      cases bG
      have qi117 : (0 < l0.length) = True := eq_true (by omega)
      (try rw [show ((0 : Int)).toNat = 0 from rfl] at aJ)
      (try rw [show 0 * 5 = 0 from rfl] at aJ)
      (try rw [Addr.add_zero'] at aJ)
      (try rw [show ((0 : Int)).toNat = 0 from rfl] at aK)
      (try rw [show 0 * 5 = 0 from rfl] at aK)
      (try rw [Addr.add_zero'] at aK)
      (try rw [show ((0 : Int)).toNat = 0 from rfl] at aL)
      (try rw [show 0 * 5 = 0 from rfl] at aL)
      (try rw [Addr.add_zero'] at aL)
      (try rw [show ((0 : Int)).toNat = 0 from rfl] at aM)
      (try rw [show 0 * 5 = 0 from rfl] at aM)
      (try rw [Addr.add_zero'] at aM)
      (try rw [show ((0 : Int)).toNat = 0 from rfl] at aN)
      (try rw [show 0 * 5 = 0 from rfl] at aN)
      (try rw [Addr.add_zero'] at aN)
      replace aJ := (HB.out.cell (World.block_lt_of_cell? w _ aJ)).trans aJ
      replace aK := (HB.out.cell (World.block_lt_of_cell? w _ aK)).trans aK
      replace aL := (HB.out.cell (World.block_lt_of_cell? w _ aL)).trans aL
      replace aM := (HB.out.cell (World.block_lt_of_cell? w _ aM)).trans aM
      replace aN := (HB.out.cell (World.block_lt_of_cell? w _ aN)).trans aN
      replace aV := eq_true aV
      replace aX := eq_true aX
      have aW : 0 ≤ (1 : Int) := (by omega)
      have aY : 1 < (l0.length : Int) := of_decide_eq_true oM
      obtain ⟨aZ, bH, aO, aP, aQ, aR, aS⟩ := at_T25 bR.out 1 aW aY
      have hw118_4 := aS
      (try rw [show ((1 : Int)).toNat = 1 from rfl] at hw118_4)
      (try rw [show 1 * 5 = 5 from rfl] at hw118_4)
      (try simp only [Nat.reduceMul, Nat.reduceEqDiff, Go.Addr.add, ↓reduceIte] at hw118_4)
      have hw118_3 := aR
      (try rw [show ((1 : Int)).toNat = 1 from rfl] at hw118_3)
      (try rw [show 1 * 5 = 5 from rfl] at hw118_3)
      (try simp only [Nat.reduceMul, Nat.reduceEqDiff, Go.Addr.add, ↓reduceIte] at hw118_3)
      have hw118_2 := aQ
      (try rw [show ((1 : Int)).toNat = 1 from rfl] at hw118_2)
      (try rw [show 1 * 5 = 5 from rfl] at hw118_2)
      (try simp only [Nat.reduceMul, Nat.reduceEqDiff, Go.Addr.add, ↓reduceIte] at hw118_2)
      have hw118_1 := aP
      (try rw [show ((1 : Int)).toNat = 1 from rfl] at hw118_1)
      (try rw [show 1 * 5 = 5 from rfl] at hw118_1)
      (try simp only [Nat.reduceMul, Nat.reduceEqDiff, Go.Addr.add, ↓reduceIte] at hw118_1)
      have hw118_0 := aO
      (try rw [show ((1 : Int)).toNat = 1 from rfl] at hw118_0)
      (try rw [show 1 * 5 = 5 from rfl] at hw118_0)
      (try simp only [Nat.reduceMul, Nat.reduceEqDiff, Go.Addr.add, ↓reduceIte] at hw118_0)
      obtain rfl : aE = aZ := (by injection bH)
      (try simp only [show (1 : Int).toNat = 1 from rfl, Nat.reduceMul, Nat.reduceEqDiff, Go.Addr.add, ↓reduceIte] at aO)
      (try simp only [show (1 : Int).toNat = 1 from rfl, Nat.reduceMul, Nat.reduceEqDiff, Go.Addr.add, ↓reduceIte] at aP)
      (try simp only [show (1 : Int).toNat = 1 from rfl, Nat.reduceMul, Nat.reduceEqDiff, Go.Addr.add, ↓reduceIte] at aQ)
      (try simp only [show (1 : Int).toNat = 1 from rfl, Nat.reduceMul, Nat.reduceEqDiff, Go.Addr.add, ↓reduceIte] at aR)
      (try simp only [show (1 : Int).toNat = 1 from rfl, Nat.reduceMul, Nat.reduceEqDiff, Go.Addr.add, ↓reduceIte] at aS)
      have qi118 : (1 < l0.length) = True := eq_true (by omega)
      (try rw [show ((1 : Int)).toNat = 1 from rfl] at aO)
      (try rw [show 1 * 5 = 5 from rfl] at aO)
      (try rw [show ((1 : Int)).toNat = 1 from rfl] at aP)
      (try rw [show 1 * 5 = 5 from rfl] at aP)
      (try rw [show ((1 : Int)).toNat = 1 from rfl] at aQ)
      (try rw [show 1 * 5 = 5 from rfl] at aQ)
      (try rw [show ((1 : Int)).toNat = 1 from rfl] at aR)
      (try rw [show 1 * 5 = 5 from rfl] at aR)
      (try rw [show ((1 : Int)).toNat = 1 from rfl] at aS)
      (try rw [show 1 * 5 = 5 from rfl] at aS)
      replace aO := (HB.out.cell (World.block_lt_of_cell? w _ aO)).trans aO
      replace aP := (HB.out.cell (World.block_lt_of_cell? w _ aP)).trans aP
      replace aQ := (HB.out.cell (World.block_lt_of_cell? w _ aQ)).trans aQ
      replace aR := (HB.out.cell (World.block_lt_of_cell? w _ aR)).trans aR
      replace aS := (HB.out.cell (World.block_lt_of_cell? w _ aS)).trans aS
      replace aW := eq_true aW
      replace aY := eq_true aY
      refine start_ (n := 10) (S := fun w' => w'.cell? aE = some (.int .i64 ((rd_T25 l0 0).f0)) ∧ w'.cell? ⟨aE.block, aE.off + 1, none⟩ = some (.int .i64 ((rd_T25 l0 0).f1)) ∧ w'.cell? ⟨aE.block, aE.off + 2, none⟩ = some (.int .i64 ((rd_T25 l0 0).f2)) ∧ w'.cell? ⟨aE.block, aE.off + 3, none⟩ = some (.int .i64 ((rd_T25 l0 0).f3)) ∧ w'.cell? ⟨aE.block, aE.off + 4, none⟩ = some (.int .i64 ((rd_T25 l0 0).f4)) ∧ w'.cell? ⟨aE.block, aE.off + 5, none⟩ = some (.int .i64 ((rd_T25 l0 1).f0)) ∧ w'.cell? ⟨aE.block, aE.off + 5 + 1, none⟩ = some (.int .i64 ((rd_T25 l0 1).f1)) ∧ w'.cell? ⟨aE.block, aE.off + 5 + 2, none⟩ = some (.int .i64 ((rd_T25 l0 1).f2)) ∧ w'.cell? ⟨aE.block, aE.off + 5 + 3, none⟩ = some (.int .i64 ((rd_T25 l0 1).f3)) ∧ w'.cell? ⟨aE.block, aE.off + 5 + 4, none⟩ = some (.int .i64 ((rd_T25 l0 1).f4))) (ds := []) #[false, false, false, false, false, false, false, false, false, false] oK rfl rfl ⟨((HB.out.cell (World.block_lt_of_cell? w _ hw117_0)).trans hw117_0), ((HB.out.cell (World.block_lt_of_cell? w _ hw117_1)).trans hw117_1), ((HB.out.cell (World.block_lt_of_cell? w _ hw117_2)).trans hw117_2), ((HB.out.cell (World.block_lt_of_cell? w _ hw117_3)).trans hw117_3), ((HB.out.cell (World.block_lt_of_cell? w _ hw117_4)).trans hw117_4), ((HB.out.cell (World.block_lt_of_cell? w _ hw118_0)).trans hw118_0), ((HB.out.cell (World.block_lt_of_cell? w _ hw118_1)).trans hw118_1), ((HB.out.cell (World.block_lt_of_cell? w _ hw118_2)).trans hw118_2), ((HB.out.cell (World.block_lt_of_cell? w _ hw118_3)).trans hw118_3), ((HB.out.cell (World.block_lt_of_cell? w _ hw118_4)).trans hw118_4)⟩ (fun hHeld => ?_); refine with_tabW impl_nested.tab1 impl_nested.bits1 (fun HT_ HW_ => ?_)
      generalize w.drew = hM at HB aJ aK aL aM aN aO aP aQ aR aS hHeld ⊢
      refine pure_ (i := 0) (N := some 5) (v := ?_) (a' := ?_) #[true, false, false, false, false, false, false, false, false, false] rfl rfl (any_of HT_.out oK) (fun _ _ _ h => h) (Or.inl ⟨by rfl, ?_⟩) ?_ ?_
      rotate_left
      ·intro w'
       go_simp
       with_reducible rfl
      rotate_left
      ·exact oT
      refine pure_ (i := 1) (N := some 6) (v := ?_) (a' := ?_) #[true, true, false, false, false, false, false, false, false, false] rfl rfl (any_of HT_.out oK) (fun _ _ _ h => h) (Or.inl ⟨by rfl, ?_⟩) ?_ ?_
      rotate_left
      ·intro w'
       go_simp
       with_reducible rfl
      rotate_left
      ·exact oT
      refine pure_ (i := 3) (N := some 8) (v := ?_) (a' := ?_) #[true, true, false, true, false, false, false, false, false, false] rfl rfl (any_of HT_.out oK) (fun _ _ _ h => h) (Or.inl ⟨by rfl, ?_⟩) ?_ ?_
      rotate_left
      ·intro w'
       go_simp
       with_reducible rfl
      rotate_left
      ·exact oT
      refine pure_ (i := 4) (N := some 9) (v := ?_) (a' := ?_) #[true, true, false, true, true, false, false, false, false, false] rfl rfl (any_of HT_.out oK) (fun _ _ _ h => h) (Or.inl ⟨by rfl, ?_⟩) ?_ ?_
      rotate_left
      ·intro w'
       go_simp
       with_reducible rfl
      rotate_left
      ·exact oT
      refine take_ (i := 2) (N := some 7) (v := ?_) (a' := ?_) #[true, true, true, true, true, false, false, false, false, false] rfl rfl (take_ofW HT_.out HW_.out oK) (fun _ _ _ h => h) (Or.inl ⟨by rfl, ?_⟩) hHeld ?_ ?_
      rotate_left
      ·rintro w' ⟨s0, s1, s2, s3, s4, s5, s6, s7, s8, s9⟩
       go_simp
       with_reducible rfl
      rotate_left
      ·exact oT
      refine take_ (i := 5) (N := some 10) (v := ?_) (a' := ?_) #[true, true, true, true, true, true, false, false, false, false] rfl rfl (take_ofW HT_.out HW_.out oK) (fun _ _ _ h => h) (Or.inl ⟨by rfl, ?_⟩) hHeld ?_ ?_
      rotate_left
      ·rintro w' ⟨s0, s1, s2, s3, s4, s5, s6, s7, s8, s9⟩
       go_simp
       with_reducible rfl
      rotate_left
      ·exact oT
      refine join_ (σ := Nat × Nat) 2 #[true, true, true, true, true, true, true, true, false, false] (fun s_ => [(3, .pointer (some ⟨s_.1, 0, none⟩)), (4, .pointer (some ⟨s_.2, 0, none⟩))]) (fun s_ w' => (w'.cell? aE = some (.int .i64 ((rd_T25 l0 0).f0)) ∧ w'.cell? ⟨aE.block, aE.off + 1, none⟩ = some (.int .i64 ((rd_T25 l0 0).f1)) ∧ w'.cell? ⟨aE.block, aE.off + 2, none⟩ = some (.int .i64 ((rd_T25 l0 0).f2)) ∧ w'.cell? ⟨aE.block, aE.off + 3, none⟩ = some (.int .i64 ((rd_T25 l0 0).f3)) ∧ w'.cell? ⟨aE.block, aE.off + 4, none⟩ = some (.int .i64 ((rd_T25 l0 0).f4)) ∧ w'.cell? ⟨aE.block, aE.off + 5, none⟩ = some (.int .i64 ((rd_T25 l0 1).f0)) ∧ w'.cell? ⟨aE.block, aE.off + 5 + 1, none⟩ = some (.int .i64 ((rd_T25 l0 1).f1)) ∧ w'.cell? ⟨aE.block, aE.off + 5 + 2, none⟩ = some (.int .i64 ((rd_T25 l0 1).f2)) ∧ w'.cell? ⟨aE.block, aE.off + 5 + 3, none⟩ = some (.int .i64 ((rd_T25 l0 1).f3)) ∧ w'.cell? ⟨aE.block, aE.off + 5 + 4, none⟩ = some (.int .i64 ((rd_T25 l0 1).f4))) ∧ (w'.heap[s_.1]? = some (.cells #[.int .i64 0, .int .i64 0, .int .i64 0, .int .i64 0, .int .i64 0] 25 (0, 0))) ∧ (w'.heap[s_.2]? = some (.cells #[.int .i64 0, .int .i64 0, .int .i64 0, .int .i64 0, .int .i64 0] 25 (0, 0))) ∧ (w.heap.size ≤ s_.1) ∧ (w.heap.size ≤ s_.1) ∧ (s_.2 ≠ s_.1) ∧ (s_.1 ≠ s_.2) ∧ (w.heap.size ≤ s_.2) ∧ (w.heap.size ≤ s_.2) ∧ (Below w.heap.size w w')) ?_ ?_
      rotate_left
      ·intro hCont
       refine two_ (i := 6) (j := 7) (Ni := some 3) (Nj := some 4) #[true, true, true, true, true, true, true, false, false, false] #[true, true, true, true, true, true, false, true, false, false] rfl rfl rfl rfl (two_of HT_.out oK) oD oD (fun K hK => ?_) (fun K hK => ?_)
       ·skip
        refine box_step ?hg (N := 3) ?hd (cs := #[.int .i64 0, .int .i64 0, .int .i64 0, .int .i64 0, .int .i64 0]) (t := 25) ?hr ?_; (case hd => rfl); (case hg => rfl); (case hr => first | (go_simp; done) | (go_simp; rfl))
        intro aC hg hC hbox hb
        have n_ := o2_ (below_step (oB HB) hb) (o2_ (hbox) (o2_ ((oG hg (below_size (oB HB)) : w.heap.size ≤ aC)) (o1_ ((oG hg (below_size (oB HB)) : w.heap.size ≤ aC)))))
        clear HB
        obtain ⟨HB, aH, aA, aT⟩ := n_
        clear hb hbox hg
        refine hK.out _ _ ⟨((HB.out.cell (World.block_lt_of_cell? w _ hw117_0)).trans hw117_0), ((HB.out.cell (World.block_lt_of_cell? w _ hw117_1)).trans hw117_1), ((HB.out.cell (World.block_lt_of_cell? w _ hw117_2)).trans hw117_2), ((HB.out.cell (World.block_lt_of_cell? w _ hw117_3)).trans hw117_3), ((HB.out.cell (World.block_lt_of_cell? w _ hw117_4)).trans hw117_4), ((HB.out.cell (World.block_lt_of_cell? w _ hw118_0)).trans hw118_0), ((HB.out.cell (World.block_lt_of_cell? w _ hw118_1)).trans hw118_1), ((HB.out.cell (World.block_lt_of_cell? w _ hw118_2)).trans hw118_2), ((HB.out.cell (World.block_lt_of_cell? w _ hw118_3)).trans hw118_3), ((HB.out.cell (World.block_lt_of_cell? w _ hw118_4)).trans hw118_4)⟩ (fun hHeld => ?_)
        clear hK K
        refine norm_ (a' := ?_) ?_ ?_
        rotate_left
        ·show Act.put _ (some 3) _ = _
         exact oT
        refine one_ (i := 7) (N := some 4) #[true, true, true, true, true, true, true, true, false, false] rfl rfl (one_of HT_.out oK) oD (fun K hK => ?_)
        refine box_step ?hg (N := 4) ?hd (cs := #[.int .i64 0, .int .i64 0, .int .i64 0, .int .i64 0, .int .i64 0]) (t := 25) ?hr ?_; (case hd => rfl); (case hg => rfl); (case hr => first | (go_simp; done) | (go_simp; rfl))
        intro aD hg hD hbox hb
        have n_ := o2_ (blk_below (oP aH) hb) (o2_ (below_step (oB HB) hb) (o2_ (hbox) (o2_ ((oG hg (below_size (oB HB)) : w.heap.size ≤ aD)) (o2_ ((oG hg (below_size (oB HB)) : w.heap.size ≤ aD)) (o2_ ((oL hg (blk_lt (oP aH)))) (o1_ ((oN hg (blk_lt (oP aH))))))))))
        clear aH HB
        obtain ⟨aH, HB, aI, aB, aU, aF, aG⟩ := n_
        clear hb hbox hg
        refine hK.out _ _ ⟨((HB.out.cell (World.block_lt_of_cell? w _ hw117_0)).trans hw117_0), ((HB.out.cell (World.block_lt_of_cell? w _ hw117_1)).trans hw117_1), ((HB.out.cell (World.block_lt_of_cell? w _ hw117_2)).trans hw117_2), ((HB.out.cell (World.block_lt_of_cell? w _ hw117_3)).trans hw117_3), ((HB.out.cell (World.block_lt_of_cell? w _ hw117_4)).trans hw117_4), ((HB.out.cell (World.block_lt_of_cell? w _ hw118_0)).trans hw118_0), ((HB.out.cell (World.block_lt_of_cell? w _ hw118_1)).trans hw118_1), ((HB.out.cell (World.block_lt_of_cell? w _ hw118_2)).trans hw118_2), ((HB.out.cell (World.block_lt_of_cell? w _ hw118_3)).trans hw118_3), ((HB.out.cell (World.block_lt_of_cell? w _ hw118_4)).trans hw118_4)⟩ (fun hHeld => ?_)
        clear hK K
        refine norm_ (a' := ?_) ?_ ?_
        rotate_left
        ·show Act.put _ (some 4) _ = _
         exact oT
        exact norm_ (by simp only [putAll, Act.put, List.setIfInBounds_toArray, List.set_cons_zero, List.set_cons_succ]) (hCont (aC, aD) _ ⟨hHeld, (oP aH), (oP aI), aA.out, aT.out, aG.out, aF.out, aB.out, aU.out, (oB HB)⟩)
       ·skip
        refine box_step ?hg (N := 4) ?hd (cs := #[.int .i64 0, .int .i64 0, .int .i64 0, .int .i64 0, .int .i64 0]) (t := 25) ?hr ?_; (case hd => rfl); (case hg => rfl); (case hr => first | (go_simp; done) | (go_simp; rfl))
        intro aD hg hC hbox hb
        have n_ := o2_ (below_step (oB HB) hb) (o2_ (hbox) (o2_ ((oG hg (below_size (oB HB)) : w.heap.size ≤ aD)) (o1_ ((oG hg (below_size (oB HB)) : w.heap.size ≤ aD)))))
        clear HB
        obtain ⟨HB, aI, aB, aU⟩ := n_
        clear hb hbox hg
        refine hK.out _ _ ⟨((HB.out.cell (World.block_lt_of_cell? w _ hw117_0)).trans hw117_0), ((HB.out.cell (World.block_lt_of_cell? w _ hw117_1)).trans hw117_1), ((HB.out.cell (World.block_lt_of_cell? w _ hw117_2)).trans hw117_2), ((HB.out.cell (World.block_lt_of_cell? w _ hw117_3)).trans hw117_3), ((HB.out.cell (World.block_lt_of_cell? w _ hw117_4)).trans hw117_4), ((HB.out.cell (World.block_lt_of_cell? w _ hw118_0)).trans hw118_0), ((HB.out.cell (World.block_lt_of_cell? w _ hw118_1)).trans hw118_1), ((HB.out.cell (World.block_lt_of_cell? w _ hw118_2)).trans hw118_2), ((HB.out.cell (World.block_lt_of_cell? w _ hw118_3)).trans hw118_3), ((HB.out.cell (World.block_lt_of_cell? w _ hw118_4)).trans hw118_4)⟩ (fun hHeld => ?_)
        clear hK K
        refine norm_ (a' := ?_) ?_ ?_
        rotate_left
        ·show Act.put _ (some 4) _ = _
         exact oT
        refine one_ (i := 6) (N := some 3) #[true, true, true, true, true, true, true, true, false, false] rfl rfl (one_of HT_.out oK) oD (fun K hK => ?_)
        refine box_step ?hg (N := 3) ?hd (cs := #[.int .i64 0, .int .i64 0, .int .i64 0, .int .i64 0, .int .i64 0]) (t := 25) ?hr ?_; (case hd => rfl); (case hg => rfl); (case hr => first | (go_simp; done) | (go_simp; rfl))
        intro aC hg hD hbox hb
        have n_ := o2_ (blk_below (oP aI) hb) (o2_ (below_step (oB HB) hb) (o2_ (hbox) (o2_ ((oG hg (below_size (oB HB)) : w.heap.size ≤ aC)) (o2_ ((oG hg (below_size (oB HB)) : w.heap.size ≤ aC)) (o2_ ((oL hg (blk_lt (oP aI)))) (o1_ ((oN hg (blk_lt (oP aI))))))))))
        clear aI HB
        obtain ⟨aI, HB, aH, aA, aT, aG, aF⟩ := n_
        clear hb hbox hg
        refine hK.out _ _ ⟨((HB.out.cell (World.block_lt_of_cell? w _ hw117_0)).trans hw117_0), ((HB.out.cell (World.block_lt_of_cell? w _ hw117_1)).trans hw117_1), ((HB.out.cell (World.block_lt_of_cell? w _ hw117_2)).trans hw117_2), ((HB.out.cell (World.block_lt_of_cell? w _ hw117_3)).trans hw117_3), ((HB.out.cell (World.block_lt_of_cell? w _ hw117_4)).trans hw117_4), ((HB.out.cell (World.block_lt_of_cell? w _ hw118_0)).trans hw118_0), ((HB.out.cell (World.block_lt_of_cell? w _ hw118_1)).trans hw118_1), ((HB.out.cell (World.block_lt_of_cell? w _ hw118_2)).trans hw118_2), ((HB.out.cell (World.block_lt_of_cell? w _ hw118_3)).trans hw118_3), ((HB.out.cell (World.block_lt_of_cell? w _ hw118_4)).trans hw118_4)⟩ (fun hHeld => ?_)
        clear hK K
        refine norm_ (a' := ?_) ?_ ?_
        rotate_left
        ·show Act.put _ (some 3) _ = _
         exact oT
        exact norm_ (by simp only [putAll, Act.put, List.setIfInBounds_toArray, List.set_cons_zero, List.set_cons_succ]) (hCont (aC, aD) _ ⟨hHeld, (oP aH), (oP aI), aA.out, aT.out, aG.out, aF.out, aB.out, aU.out, (oB HB)⟩)
      rintro ⟨aC, aD⟩ bD ⟨hS_, h0_, h1_, h2_, h3_, h4_, h5_, h6_, h7_, h8_⟩
      have bI : Aside0 (bD.heap[aC]? = some (.cells #[.int .i64 0, .int .i64 0, .int .i64 0, .int .i64 0, .int .i64 0] 25 (0, 0))) := ⟨h0_⟩
      have bJ : Aside0 (bD.heap[aD]? = some (.cells #[.int .i64 0, .int .i64 0, .int .i64 0, .int .i64 0, .int .i64 0] 25 (0, 0))) := ⟨h1_⟩
      have bK : Aside0 (w.heap.size ≤ aC) := ⟨h2_⟩
      have bL : Aside0 (w.heap.size ≤ aC) := ⟨h3_⟩
      have bM : Aside0 (aD ≠ aC) := ⟨h4_⟩
      have bN : Aside0 (aC ≠ aD) := ⟨h5_⟩
      have bO : Aside0 (w.heap.size ≤ aD) := ⟨h6_⟩
      have bP : Aside0 (w.heap.size ≤ aD) := ⟨h7_⟩
      have bQ : Aside0 (Below w.heap.size w bD) := ⟨h8_⟩
      clear HB
      clear h0_ h1_ h2_ h3_ h4_ h5_ h6_ h7_ h8_
      have aH := bI
      have aI := bJ
      have aA := bK
      have aT := bL
      have aG := bM
      have aF := bN
      have aB := bO
      have aU := bP
      have HB := bQ
      clear bI bJ bK bL bM bN bO bP bQ
      have hHeld : bD.cell? aE = some (.int .i64 ((rd_T25 l0 0).f0)) ∧ bD.cell? ⟨aE.block, aE.off + 1, none⟩ = some (.int .i64 ((rd_T25 l0 0).f1)) ∧ bD.cell? ⟨aE.block, aE.off + 2, none⟩ = some (.int .i64 ((rd_T25 l0 0).f2)) ∧ bD.cell? ⟨aE.block, aE.off + 3, none⟩ = some (.int .i64 ((rd_T25 l0 0).f3)) ∧ bD.cell? ⟨aE.block, aE.off + 4, none⟩ = some (.int .i64 ((rd_T25 l0 0).f4)) ∧ bD.cell? ⟨aE.block, aE.off + 5, none⟩ = some (.int .i64 ((rd_T25 l0 1).f0)) ∧ bD.cell? ⟨aE.block, aE.off + 5 + 1, none⟩ = some (.int .i64 ((rd_T25 l0 1).f1)) ∧ bD.cell? ⟨aE.block, aE.off + 5 + 2, none⟩ = some (.int .i64 ((rd_T25 l0 1).f2)) ∧ bD.cell? ⟨aE.block, aE.off + 5 + 3, none⟩ = some (.int .i64 ((rd_T25 l0 1).f3)) ∧ bD.cell? ⟨aE.block, aE.off + 5 + 4, none⟩ = some (.int .i64 ((rd_T25 l0 1).f4)) := hS_
      refine norm_ (a' := ?_) ?_ ?_
      rotate_left
      ·simp only [putAll, Act.put, List.setIfInBounds_toArray, List.set_cons_zero, List.set_cons_succ]
       rfl
      refine one_ (i := 8) (N := none) #[true, true, true, true, true, true, true, true, true, false] rfl rfl (one_of HT_.out oK) oD (fun K hK => ?_)
      have hs64 : bD.cell? ⟨aC, 0, none⟩ = some (.int .i64 0) := (blk_cell aH.out 0).trans rfl
      have hfs64 := blk_frozen aH.out 0
      have hns64_1 := aG.out
      have hms64_1 := aF.out
      have hs65 : bD.cell? ⟨aC, 1, none⟩ = some (.int .i64 0) := (blk_cell aH.out 1).trans rfl
      have hfs65 := blk_frozen aH.out 1
      have hns65_1 := aG.out
      have hms65_1 := aF.out
      have hs66 : bD.cell? ⟨aC, 2, none⟩ = some (.int .i64 0) := (blk_cell aH.out 2).trans rfl
      have hfs66 := blk_frozen aH.out 2
      have hns66_1 := aG.out
      have hms66_1 := aF.out
      have hs67 : bD.cell? ⟨aC, 3, none⟩ = some (.int .i64 0) := (blk_cell aH.out 3).trans rfl
      have hfs67 := blk_frozen aH.out 3
      have hns67_1 := aG.out
      have hms67_1 := aF.out
      have hs68 : bD.cell? ⟨aC, 4, none⟩ = some (.int .i64 0) := (blk_cell aH.out 4).trans rfl
      have hfs68 := blk_frozen aH.out 4
      have hns68_1 := aG.out
      have hms68_1 := aF.out
      refine skip_ (w1 := ?_) (by rfl) rfl ?_ ?_
      rotate_left
      ·go_simp
       rfl
      refine hK.out _ _ ⟨((cell_far (p := ⟨aC, _, none⟩) (oV hw117_0 aA) _).trans (((cell_far (p := ⟨aC, _, none⟩) (oV hw117_0 aA) _).trans (((cell_far (p := ⟨aC, _, none⟩) (oV hw117_0 aA) _).trans (((cell_far (p := ⟨aC, _, none⟩) (oV hw117_0 aA) _).trans (((cell_far (p := ⟨aC, _, none⟩) (oV hw117_0 aA) _).trans (hHeld.1)))))))))), ((cell_far (p := ⟨aC, _, none⟩) (oV hw117_1 aA) _).trans (((cell_far (p := ⟨aC, _, none⟩) (oV hw117_1 aA) _).trans (((cell_far (p := ⟨aC, _, none⟩) (oV hw117_1 aA) _).trans (((cell_far (p := ⟨aC, _, none⟩) (oV hw117_1 aA) _).trans (((cell_far (p := ⟨aC, _, none⟩) (oV hw117_1 aA) _).trans (hHeld.2.1)))))))))), ((cell_far (p := ⟨aC, _, none⟩) (oV hw117_2 aA) _).trans (((cell_far (p := ⟨aC, _, none⟩) (oV hw117_2 aA) _).trans (((cell_far (p := ⟨aC, _, none⟩) (oV hw117_2 aA) _).trans (((cell_far (p := ⟨aC, _, none⟩) (oV hw117_2 aA) _).trans (((cell_far (p := ⟨aC, _, none⟩) (oV hw117_2 aA) _).trans (hHeld.2.2.1)))))))))), ((cell_far (p := ⟨aC, _, none⟩) (oV hw117_3 aA) _).trans (((cell_far (p := ⟨aC, _, none⟩) (oV hw117_3 aA) _).trans (((cell_far (p := ⟨aC, _, none⟩) (oV hw117_3 aA) _).trans (((cell_far (p := ⟨aC, _, none⟩) (oV hw117_3 aA) _).trans (((cell_far (p := ⟨aC, _, none⟩) (oV hw117_3 aA) _).trans (hHeld.2.2.2.1)))))))))), ((cell_far (p := ⟨aC, _, none⟩) (oV hw117_4 aA) _).trans (((cell_far (p := ⟨aC, _, none⟩) (oV hw117_4 aA) _).trans (((cell_far (p := ⟨aC, _, none⟩) (oV hw117_4 aA) _).trans (((cell_far (p := ⟨aC, _, none⟩) (oV hw117_4 aA) _).trans (((cell_far (p := ⟨aC, _, none⟩) (oV hw117_4 aA) _).trans (hHeld.2.2.2.2.1)))))))))), ((cell_far (p := ⟨aC, _, none⟩) (oV hw118_0 aA) _).trans (((cell_far (p := ⟨aC, _, none⟩) (oV hw118_0 aA) _).trans (((cell_far (p := ⟨aC, _, none⟩) (oV hw118_0 aA) _).trans (((cell_far (p := ⟨aC, _, none⟩) (oV hw118_0 aA) _).trans (((cell_far (p := ⟨aC, _, none⟩) (oV hw118_0 aA) _).trans (hHeld.2.2.2.2.2.1)))))))))), ((cell_far (p := ⟨aC, _, none⟩) (oV hw118_1 aA) _).trans (((cell_far (p := ⟨aC, _, none⟩) (oV hw118_1 aA) _).trans (((cell_far (p := ⟨aC, _, none⟩) (oV hw118_1 aA) _).trans (((cell_far (p := ⟨aC, _, none⟩) (oV hw118_1 aA) _).trans (((cell_far (p := ⟨aC, _, none⟩) (oV hw118_1 aA) _).trans (hHeld.2.2.2.2.2.2.1)))))))))), ((cell_far (p := ⟨aC, _, none⟩) (oV hw118_2 aA) _).trans (((cell_far (p := ⟨aC, _, none⟩) (oV hw118_2 aA) _).trans (((cell_far (p := ⟨aC, _, none⟩) (oV hw118_2 aA) _).trans (((cell_far (p := ⟨aC, _, none⟩) (oV hw118_2 aA) _).trans (((cell_far (p := ⟨aC, _, none⟩) (oV hw118_2 aA) _).trans (hHeld.2.2.2.2.2.2.2.1)))))))))), ((cell_far (p := ⟨aC, _, none⟩) (oV hw118_3 aA) _).trans (((cell_far (p := ⟨aC, _, none⟩) (oV hw118_3 aA) _).trans (((cell_far (p := ⟨aC, _, none⟩) (oV hw118_3 aA) _).trans (((cell_far (p := ⟨aC, _, none⟩) (oV hw118_3 aA) _).trans (((cell_far (p := ⟨aC, _, none⟩) (oV hw118_3 aA) _).trans (hHeld.2.2.2.2.2.2.2.2.1)))))))))), ((cell_far (p := ⟨aC, _, none⟩) (oV hw118_4 aA) _).trans (((cell_far (p := ⟨aC, _, none⟩) (oV hw118_4 aA) _).trans (((cell_far (p := ⟨aC, _, none⟩) (oV hw118_4 aA) _).trans (((cell_far (p := ⟨aC, _, none⟩) (oV hw118_4 aA) _).trans (((cell_far (p := ⟨aC, _, none⟩) (oV hw118_4 aA) _).trans (hHeld.2.2.2.2.2.2.2.2.2))))))))))⟩ (fun hHeld => ?_)
      clear hK K
      refine one_ (i := 9) (N := none) #[true, true, true, true, true, true, true, true, true, true] rfl rfl (one_of HT_.out oK) oD (fun K hK => ?_)
      have hs69 : bD.cell? ⟨aD, 0, none⟩ = some (.int .i64 0) := (blk_cell aI.out 0).trans rfl
      have hfs69 := blk_frozen aI.out 0
      have hns69_0 := aF.out
      have hms69_0 := aG.out
      have hs70 : bD.cell? ⟨aD, 1, none⟩ = some (.int .i64 0) := (blk_cell aI.out 1).trans rfl
      have hfs70 := blk_frozen aI.out 1
      have hns70_0 := aF.out
      have hms70_0 := aG.out
      have hs71 : bD.cell? ⟨aD, 2, none⟩ = some (.int .i64 0) := (blk_cell aI.out 2).trans rfl
      have hfs71 := blk_frozen aI.out 2
      have hns71_0 := aF.out
      have hms71_0 := aG.out
      have hs72 : bD.cell? ⟨aD, 3, none⟩ = some (.int .i64 0) := (blk_cell aI.out 3).trans rfl
      have hfs72 := blk_frozen aI.out 3
      have hns72_0 := aF.out
      have hms72_0 := aG.out
      have hs73 : bD.cell? ⟨aD, 4, none⟩ = some (.int .i64 0) := (blk_cell aI.out 4).trans rfl
      have hfs73 := blk_frozen aI.out 4
      have hns73_0 := aF.out
      have hms73_0 := aG.out
      refine skip_ (w1 := ?_) (by rfl) rfl ?_ ?_
      rotate_left
      ·go_simp
       rfl
      refine hK.out _ _ ⟨((cell_far (p := ⟨aD, _, none⟩) (oV hw117_0 aB) _).trans (((cell_far (p := ⟨aD, _, none⟩) (oV hw117_0 aB) _).trans (((cell_far (p := ⟨aD, _, none⟩) (oV hw117_0 aB) _).trans (((cell_far (p := ⟨aD, _, none⟩) (oV hw117_0 aB) _).trans (((cell_far (p := ⟨aD, _, none⟩) (oV hw117_0 aB) _).trans (hHeld.1)))))))))), ((cell_far (p := ⟨aD, _, none⟩) (oV hw117_1 aB) _).trans (((cell_far (p := ⟨aD, _, none⟩) (oV hw117_1 aB) _).trans (((cell_far (p := ⟨aD, _, none⟩) (oV hw117_1 aB) _).trans (((cell_far (p := ⟨aD, _, none⟩) (oV hw117_1 aB) _).trans (((cell_far (p := ⟨aD, _, none⟩) (oV hw117_1 aB) _).trans (hHeld.2.1)))))))))), ((cell_far (p := ⟨aD, _, none⟩) (oV hw117_2 aB) _).trans (((cell_far (p := ⟨aD, _, none⟩) (oV hw117_2 aB) _).trans (((cell_far (p := ⟨aD, _, none⟩) (oV hw117_2 aB) _).trans (((cell_far (p := ⟨aD, _, none⟩) (oV hw117_2 aB) _).trans (((cell_far (p := ⟨aD, _, none⟩) (oV hw117_2 aB) _).trans (hHeld.2.2.1)))))))))), ((cell_far (p := ⟨aD, _, none⟩) (oV hw117_3 aB) _).trans (((cell_far (p := ⟨aD, _, none⟩) (oV hw117_3 aB) _).trans (((cell_far (p := ⟨aD, _, none⟩) (oV hw117_3 aB) _).trans (((cell_far (p := ⟨aD, _, none⟩) (oV hw117_3 aB) _).trans (((cell_far (p := ⟨aD, _, none⟩) (oV hw117_3 aB) _).trans (hHeld.2.2.2.1)))))))))), ((cell_far (p := ⟨aD, _, none⟩) (oV hw117_4 aB) _).trans (((cell_far (p := ⟨aD, _, none⟩) (oV hw117_4 aB) _).trans (((cell_far (p := ⟨aD, _, none⟩) (oV hw117_4 aB) _).trans (((cell_far (p := ⟨aD, _, none⟩) (oV hw117_4 aB) _).trans (((cell_far (p := ⟨aD, _, none⟩) (oV hw117_4 aB) _).trans (hHeld.2.2.2.2.1)))))))))), ((cell_far (p := ⟨aD, _, none⟩) (oV hw118_0 aB) _).trans (((cell_far (p := ⟨aD, _, none⟩) (oV hw118_0 aB) _).trans (((cell_far (p := ⟨aD, _, none⟩) (oV hw118_0 aB) _).trans (((cell_far (p := ⟨aD, _, none⟩) (oV hw118_0 aB) _).trans (((cell_far (p := ⟨aD, _, none⟩) (oV hw118_0 aB) _).trans (hHeld.2.2.2.2.2.1)))))))))), ((cell_far (p := ⟨aD, _, none⟩) (oV hw118_1 aB) _).trans (((cell_far (p := ⟨aD, _, none⟩) (oV hw118_1 aB) _).trans (((cell_far (p := ⟨aD, _, none⟩) (oV hw118_1 aB) _).trans (((cell_far (p := ⟨aD, _, none⟩) (oV hw118_1 aB) _).trans (((cell_far (p := ⟨aD, _, none⟩) (oV hw118_1 aB) _).trans (hHeld.2.2.2.2.2.2.1)))))))))), ((cell_far (p := ⟨aD, _, none⟩) (oV hw118_2 aB) _).trans (((cell_far (p := ⟨aD, _, none⟩) (oV hw118_2 aB) _).trans (((cell_far (p := ⟨aD, _, none⟩) (oV hw118_2 aB) _).trans (((cell_far (p := ⟨aD, _, none⟩) (oV hw118_2 aB) _).trans (((cell_far (p := ⟨aD, _, none⟩) (oV hw118_2 aB) _).trans (hHeld.2.2.2.2.2.2.2.1)))))))))), ((cell_far (p := ⟨aD, _, none⟩) (oV hw118_3 aB) _).trans (((cell_far (p := ⟨aD, _, none⟩) (oV hw118_3 aB) _).trans (((cell_far (p := ⟨aD, _, none⟩) (oV hw118_3 aB) _).trans (((cell_far (p := ⟨aD, _, none⟩) (oV hw118_3 aB) _).trans (((cell_far (p := ⟨aD, _, none⟩) (oV hw118_3 aB) _).trans (hHeld.2.2.2.2.2.2.2.2.1)))))))))), ((cell_far (p := ⟨aD, _, none⟩) (oV hw118_4 aB) _).trans (((cell_far (p := ⟨aD, _, none⟩) (oV hw118_4 aB) _).trans (((cell_far (p := ⟨aD, _, none⟩) (oV hw118_4 aB) _).trans (((cell_far (p := ⟨aD, _, none⟩) (oV hw118_4 aB) _).trans (((cell_far (p := ⟨aD, _, none⟩) (oV hw118_4 aB) _).trans (hHeld.2.2.2.2.2.2.2.2.2))))))))))⟩ (fun hHeld => ?_)
      clear hK K
      refine done_ (done_of HT_.out oK) ?_
      have gL := aF.out
      have gQ := aG.out
      have dG : bD.cell? ⟨aC, 0, none⟩ = some (.int .i64 0) := (blk_cell aH.out 0).trans rfl
      have dH : bD.cell? ⟨aC, 1, none⟩ = some (.int .i64 0) := (blk_cell aH.out 1).trans rfl
      have dI : bD.cell? ⟨aC, 2, none⟩ = some (.int .i64 0) := (blk_cell aH.out 2).trans rfl
      have dJ : bD.cell? ⟨aC, 3, none⟩ = some (.int .i64 0) := (blk_cell aH.out 3).trans rfl
      have dK : bD.cell? ⟨aC, 4, none⟩ = some (.int .i64 0) := (blk_cell aH.out 4).trans rfl
      have fE := blk_frozen aH.out 0
      have fF := blk_frozen aH.out 1
      have fG := blk_frozen aH.out 2
      have fH := blk_frozen aH.out 3
      have fI := blk_frozen aH.out 4
      have dL : bD.cell? ⟨aD, 0, none⟩ = some (.int .i64 0) := (blk_cell aI.out 0).trans rfl
      have dM : bD.cell? ⟨aD, 1, none⟩ = some (.int .i64 0) := (blk_cell aI.out 1).trans rfl
      have dN : bD.cell? ⟨aD, 2, none⟩ = some (.int .i64 0) := (blk_cell aI.out 2).trans rfl
      have dO : bD.cell? ⟨aD, 3, none⟩ = some (.int .i64 0) := (blk_cell aI.out 3).trans rfl
      have dP : bD.cell? ⟨aD, 4, none⟩ = some (.int .i64 0) := (blk_cell aI.out 4).trans rfl
      have fJ := blk_frozen aI.out 0
      have fK := blk_frozen aI.out 1
      have fL := blk_frozen aI.out 2
      have fM := blk_frozen aI.out 3
      have fN := blk_frozen aI.out 4
      try go_wp2
      go_ret
      exact ⟨by first | rfl | (simp [errW_none, errW_some] <;> rfl) | (simp [*, errW_none, errW_some] <;> rfl), oB HB⟩
    ·rw [if_neg c5] at H
     have gA : (((rd_T25 l0 1).f0) == 1) = false := beq_eq_false_iff_ne.mpr c5
     have gB : (((rd_T25 l0 1).f0) != 1) = true := bne_iff_ne.mpr c5
     obtain rfl := Option.some.inj H
     go_enter Try.func40, Try.ntmps40
     try go_wp2
     replace HB := o1_ (below_drew1 HB.out)
     have aV : 0 ≤ (0 : Int) := (by omega)
     have aX : 0 < (l0.length : Int) := of_decide_eq_true oM
     obtain ⟨aE, bG, aJ, aK, aL, aM, aN⟩ := at_T25 bR.out 0 aV aX
     have hw117_4 := aN
     (try rw [show ((0 : Int)).toNat = 0 from rfl] at hw117_4)
     (try rw [show 0 * 5 = 0 from rfl] at hw117_4)
     (try rw [Addr.add_zero'] at hw117_4)
     have hw117_3 := aM
     (try rw [show ((0 : Int)).toNat = 0 from rfl] at hw117_3)
     (try rw [show 0 * 5 = 0 from rfl] at hw117_3)
     (try rw [Addr.add_zero'] at hw117_3)
     have hw117_2 := aL
     (try rw [show ((0 : Int)).toNat = 0 from rfl] at hw117_2)
     (try rw [show 0 * 5 = 0 from rfl] at hw117_2)
     (try rw [Addr.add_zero'] at hw117_2)
     have hw117_1 := aK
     (try rw [show ((0 : Int)).toNat = 0 from rfl] at hw117_1)
     (try rw [show 0 * 5 = 0 from rfl] at hw117_1)
     (try rw [Addr.add_zero'] at hw117_1)
     have hw117_0 := aJ
     (try rw [show ((0 : Int)).toNat = 0 from rfl] at hw117_0)
     (try rw [show 0 * 5 = 0 from rfl] at hw117_0)
     (try rw [Addr.add_zero'] at hw117_0)
     cases bG
     have qi117 : (0 < l0.length) = True := eq_true (by omega)
     (try rw [show ((0 : Int)).toNat = 0 from rfl] at aJ)
     (try rw [show 0 * 5 = 0 from rfl] at aJ)
     (try rw [Addr.add_zero'] at aJ)
     (try rw [show ((0 : Int)).toNat = 0 from rfl] at aK)
     (try rw [show 0 * 5 = 0 from rfl] at aK)
     (try rw [Addr.add_zero'] at aK)
     (try rw [show ((0 : Int)).toNat = 0 from rfl] at aL)
     (try rw [show 0 * 5 = 0 from rfl] at aL)
     (try rw [Addr.add_zero'] at aL)
     (try rw [show ((0 : Int)).toNat = 0 from rfl] at aM)
     (try rw [show 0 * 5 = 0 from rfl] at aM)
     (try rw [Addr.add_zero'] at aM)
     (try rw [show ((0 : Int)).toNat = 0 from rfl] at aN)
     (try rw [show 0 * 5 = 0 from rfl] at aN)
     (try rw [Addr.add_zero'] at aN)
     replace aJ := (HB.out.cell (World.block_lt_of_cell? w _ aJ)).trans aJ
     replace aK := (HB.out.cell (World.block_lt_of_cell? w _ aK)).trans aK
     replace aL := (HB.out.cell (World.block_lt_of_cell? w _ aL)).trans aL
     replace aM := (HB.out.cell (World.block_lt_of_cell? w _ aM)).trans aM
     replace aN := (HB.out.cell (World.block_lt_of_cell? w _ aN)).trans aN
     replace aV := eq_true aV
     replace aX := eq_true aX
     have aW : 0 ≤ (1 : Int) := (by omega)
     have aY : 1 < (l0.length : Int) := of_decide_eq_true oM
     obtain ⟨aZ, bH, aO, aP, aQ, aR, aS⟩ := at_T25 bR.out 1 aW aY
     have hw118_4 := aS
     (try rw [show ((1 : Int)).toNat = 1 from rfl] at hw118_4)
     (try rw [show 1 * 5 = 5 from rfl] at hw118_4)
     (try simp only [Nat.reduceMul, Nat.reduceEqDiff, Go.Addr.add, ↓reduceIte] at hw118_4)
     have hw118_3 := aR
     (try rw [show ((1 : Int)).toNat = 1 from rfl] at hw118_3)
     (try rw [show 1 * 5 = 5 from rfl] at hw118_3)
     (try simp only [Nat.reduceMul, Nat.reduceEqDiff, Go.Addr.add, ↓reduceIte] at hw118_3)
     have hw118_2 := aQ
     (try rw [show ((1 : Int)).toNat = 1 from rfl] at hw118_2)
     (try rw [show 1 * 5 = 5 from rfl] at hw118_2)
     (try simp only [Nat.reduceMul, Nat.reduceEqDiff, Go.Addr.add, ↓reduceIte] at hw118_2)
     have hw118_1 := aP
     (try rw [show ((1 : Int)).toNat = 1 from rfl] at hw118_1)
     (try rw [show 1 * 5 = 5 from rfl] at hw118_1)
     (try simp only [Nat.reduceMul, Nat.reduceEqDiff, Go.Addr.add, ↓reduceIte] at hw118_1)
     have hw118_0 := aO
     (try rw [show ((1 : Int)).toNat = 1 from rfl] at hw118_0)
     (try rw [show 1 * 5 = 5 from rfl] at hw118_0)
     (try simp only [Nat.reduceMul, Nat.reduceEqDiff, Go.Addr.add, ↓reduceIte] at hw118_0)
     obtain rfl : aE = aZ := (by injection bH)
     (try simp only [show (1 : Int).toNat = 1 from rfl, Nat.reduceMul, Nat.reduceEqDiff, Go.Addr.add, ↓reduceIte] at aO)
     (try simp only [show (1 : Int).toNat = 1 from rfl, Nat.reduceMul, Nat.reduceEqDiff, Go.Addr.add, ↓reduceIte] at aP)
     (try simp only [show (1 : Int).toNat = 1 from rfl, Nat.reduceMul, Nat.reduceEqDiff, Go.Addr.add, ↓reduceIte] at aQ)
     (try simp only [show (1 : Int).toNat = 1 from rfl, Nat.reduceMul, Nat.reduceEqDiff, Go.Addr.add, ↓reduceIte] at aR)
     (try simp only [show (1 : Int).toNat = 1 from rfl, Nat.reduceMul, Nat.reduceEqDiff, Go.Addr.add, ↓reduceIte] at aS)
     have qi118 : (1 < l0.length) = True := eq_true (by omega)
     (try rw [show ((1 : Int)).toNat = 1 from rfl] at aO)
     (try rw [show 1 * 5 = 5 from rfl] at aO)
     (try rw [show ((1 : Int)).toNat = 1 from rfl] at aP)
     (try rw [show 1 * 5 = 5 from rfl] at aP)
     (try rw [show ((1 : Int)).toNat = 1 from rfl] at aQ)
     (try rw [show 1 * 5 = 5 from rfl] at aQ)
     (try rw [show ((1 : Int)).toNat = 1 from rfl] at aR)
     (try rw [show 1 * 5 = 5 from rfl] at aR)
     (try rw [show ((1 : Int)).toNat = 1 from rfl] at aS)
     (try rw [show 1 * 5 = 5 from rfl] at aS)
     replace aO := (HB.out.cell (World.block_lt_of_cell? w _ aO)).trans aO
     replace aP := (HB.out.cell (World.block_lt_of_cell? w _ aP)).trans aP
     replace aQ := (HB.out.cell (World.block_lt_of_cell? w _ aQ)).trans aQ
     replace aR := (HB.out.cell (World.block_lt_of_cell? w _ aR)).trans aR
     replace aS := (HB.out.cell (World.block_lt_of_cell? w _ aS)).trans aS
     replace aW := eq_true aW
     replace aY := eq_true aY
     refine start_ (n := 10) (S := fun w' => w'.cell? aE = some (.int .i64 ((rd_T25 l0 0).f0)) ∧ w'.cell? ⟨aE.block, aE.off + 1, none⟩ = some (.int .i64 ((rd_T25 l0 0).f1)) ∧ w'.cell? ⟨aE.block, aE.off + 2, none⟩ = some (.int .i64 ((rd_T25 l0 0).f2)) ∧ w'.cell? ⟨aE.block, aE.off + 3, none⟩ = some (.int .i64 ((rd_T25 l0 0).f3)) ∧ w'.cell? ⟨aE.block, aE.off + 4, none⟩ = some (.int .i64 ((rd_T25 l0 0).f4)) ∧ w'.cell? ⟨aE.block, aE.off + 5, none⟩ = some (.int .i64 ((rd_T25 l0 1).f0)) ∧ w'.cell? ⟨aE.block, aE.off + 5 + 1, none⟩ = some (.int .i64 ((rd_T25 l0 1).f1)) ∧ w'.cell? ⟨aE.block, aE.off + 5 + 2, none⟩ = some (.int .i64 ((rd_T25 l0 1).f2)) ∧ w'.cell? ⟨aE.block, aE.off + 5 + 3, none⟩ = some (.int .i64 ((rd_T25 l0 1).f3)) ∧ w'.cell? ⟨aE.block, aE.off + 5 + 4, none⟩ = some (.int .i64 ((rd_T25 l0 1).f4))) (ds := []) #[false, false, false, false, false, false, false, false, false, false] oK rfl rfl ⟨((HB.out.cell (World.block_lt_of_cell? w _ hw117_0)).trans hw117_0), ((HB.out.cell (World.block_lt_of_cell? w _ hw117_1)).trans hw117_1), ((HB.out.cell (World.block_lt_of_cell? w _ hw117_2)).trans hw117_2), ((HB.out.cell (World.block_lt_of_cell? w _ hw117_3)).trans hw117_3), ((HB.out.cell (World.block_lt_of_cell? w _ hw117_4)).trans hw117_4), ((HB.out.cell (World.block_lt_of_cell? w _ hw118_0)).trans hw118_0), ((HB.out.cell (World.block_lt_of_cell? w _ hw118_1)).trans hw118_1), ((HB.out.cell (World.block_lt_of_cell? w _ hw118_2)).trans hw118_2), ((HB.out.cell (World.block_lt_of_cell? w _ hw118_3)).trans hw118_3), ((HB.out.cell (World.block_lt_of_cell? w _ hw118_4)).trans hw118_4)⟩ (fun hHeld => ?_); refine with_tabW impl_nested.tab1 impl_nested.bits1 (fun HT_ HW_ => ?_)
     generalize w.drew = hN at HB aJ aK aL aM aN aO aP aQ aR aS hHeld ⊢
     refine pure_ (i := 0) (N := some 5) (v := ?_) (a' := ?_) #[true, false, false, false, false, false, false, false, false, false] rfl rfl (any_of HT_.out oK) (fun _ _ _ h => h) (Or.inl ⟨by rfl, ?_⟩) ?_ ?_
     rotate_left
     ·intro w'
      go_simp
      with_reducible rfl
     rotate_left
     ·exact oT
     refine pure_ (i := 1) (N := some 6) (v := ?_) (a' := ?_) #[true, true, false, false, false, false, false, false, false, false] rfl rfl (any_of HT_.out oK) (fun _ _ _ h => h) (Or.inl ⟨by rfl, ?_⟩) ?_ ?_
     rotate_left
     ·intro w'
      go_simp
      with_reducible rfl
     rotate_left
     ·exact oT
     refine pure_ (i := 3) (N := some 8) (v := ?_) (a' := ?_) #[true, true, false, true, false, false, false, false, false, false] rfl rfl (any_of HT_.out oK) (fun _ _ _ h => h) (Or.inl ⟨by rfl, ?_⟩) ?_ ?_
     rotate_left
     ·intro w'
      go_simp
      with_reducible rfl
     rotate_left
     ·exact oT
     refine pure_ (i := 4) (N := some 9) (v := ?_) (a' := ?_) #[true, true, false, true, true, false, false, false, false, false] rfl rfl (any_of HT_.out oK) (fun _ _ _ h => h) (Or.inl ⟨by rfl, ?_⟩) ?_ ?_
     rotate_left
     ·intro w'
      go_simp
      with_reducible rfl
     rotate_left
     ·exact oT
     refine take_ (i := 2) (N := some 7) (v := ?_) (a' := ?_) #[true, true, true, true, true, false, false, false, false, false] rfl rfl (take_ofW HT_.out HW_.out oK) (fun _ _ _ h => h) (Or.inl ⟨by rfl, ?_⟩) hHeld ?_ ?_
     rotate_left
     ·rintro w' ⟨s0, s1, s2, s3, s4, s5, s6, s7, s8, s9⟩
      go_simp
      with_reducible rfl
     rotate_left
     ·exact oT
     refine take_ (i := 5) (N := some 10) (v := ?_) (a' := ?_) #[true, true, true, true, true, true, false, false, false, false] rfl rfl (take_ofW HT_.out HW_.out oK) (fun _ _ _ h => h) (Or.inl ⟨by rfl, ?_⟩) hHeld ?_ ?_
     rotate_left
     ·rintro w' ⟨s0, s1, s2, s3, s4, s5, s6, s7, s8, s9⟩
      go_simp
      with_reducible rfl
     rotate_left
     ·exact oT
     refine join_ (σ := Nat × Nat) 2 #[true, true, true, true, true, true, true, true, false, false] (fun s_ => [(3, .pointer (some ⟨s_.1, 0, none⟩)), (4, .pointer (some ⟨s_.2, 0, none⟩))]) (fun s_ w' => (w'.cell? aE = some (.int .i64 ((rd_T25 l0 0).f0)) ∧ w'.cell? ⟨aE.block, aE.off + 1, none⟩ = some (.int .i64 ((rd_T25 l0 0).f1)) ∧ w'.cell? ⟨aE.block, aE.off + 2, none⟩ = some (.int .i64 ((rd_T25 l0 0).f2)) ∧ w'.cell? ⟨aE.block, aE.off + 3, none⟩ = some (.int .i64 ((rd_T25 l0 0).f3)) ∧ w'.cell? ⟨aE.block, aE.off + 4, none⟩ = some (.int .i64 ((rd_T25 l0 0).f4)) ∧ w'.cell? ⟨aE.block, aE.off + 5, none⟩ = some (.int .i64 ((rd_T25 l0 1).f0)) ∧ w'.cell? ⟨aE.block, aE.off + 5 + 1, none⟩ = some (.int .i64 ((rd_T25 l0 1).f1)) ∧ w'.cell? ⟨aE.block, aE.off + 5 + 2, none⟩ = some (.int .i64 ((rd_T25 l0 1).f2)) ∧ w'.cell? ⟨aE.block, aE.off + 5 + 3, none⟩ = some (.int .i64 ((rd_T25 l0 1).f3)) ∧ w'.cell? ⟨aE.block, aE.off + 5 + 4, none⟩ = some (.int .i64 ((rd_T25 l0 1).f4))) ∧ (w'.heap[s_.1]? = some (.cells #[.int .i64 0, .int .i64 0, .int .i64 0, .int .i64 0, .int .i64 0] 25 (0, 0))) ∧ (w'.heap[s_.2]? = some (.cells #[.int .i64 0, .int .i64 0, .int .i64 0, .int .i64 0, .int .i64 0] 25 (0, 0))) ∧ (w.heap.size ≤ s_.1) ∧ (w.heap.size ≤ s_.1) ∧ (s_.2 ≠ s_.1) ∧ (s_.1 ≠ s_.2) ∧ (w.heap.size ≤ s_.2) ∧ (w.heap.size ≤ s_.2) ∧ (Below w.heap.size w w')) ?_ ?_
     rotate_left
     ·intro hCont
      refine two_ (i := 6) (j := 7) (Ni := some 3) (Nj := some 4) #[true, true, true, true, true, true, true, false, false, false] #[true, true, true, true, true, true, false, true, false, false] rfl rfl rfl rfl (two_of HT_.out oK) oD oD (fun K hK => ?_) (fun K hK => ?_)
      ·skip
       refine box_step ?hg (N := 3) ?hd (cs := #[.int .i64 0, .int .i64 0, .int .i64 0, .int .i64 0, .int .i64 0]) (t := 25) ?hr ?_; (case hd => rfl); (case hg => rfl); (case hr => first | (go_simp; done) | (go_simp; rfl))
       intro aC hg hE hbox hb
       have n_ := o2_ (below_step (oB HB) hb) (o2_ (hbox) (o2_ ((oG hg (below_size (oB HB)) : w.heap.size ≤ aC)) (o1_ ((oG hg (below_size (oB HB)) : w.heap.size ≤ aC)))))
       clear HB
       obtain ⟨HB, aH, aA, aT⟩ := n_
       clear hb hbox hg
       refine hK.out _ _ ⟨((HB.out.cell (World.block_lt_of_cell? w _ hw117_0)).trans hw117_0), ((HB.out.cell (World.block_lt_of_cell? w _ hw117_1)).trans hw117_1), ((HB.out.cell (World.block_lt_of_cell? w _ hw117_2)).trans hw117_2), ((HB.out.cell (World.block_lt_of_cell? w _ hw117_3)).trans hw117_3), ((HB.out.cell (World.block_lt_of_cell? w _ hw117_4)).trans hw117_4), ((HB.out.cell (World.block_lt_of_cell? w _ hw118_0)).trans hw118_0), ((HB.out.cell (World.block_lt_of_cell? w _ hw118_1)).trans hw118_1), ((HB.out.cell (World.block_lt_of_cell? w _ hw118_2)).trans hw118_2), ((HB.out.cell (World.block_lt_of_cell? w _ hw118_3)).trans hw118_3), ((HB.out.cell (World.block_lt_of_cell? w _ hw118_4)).trans hw118_4)⟩ (fun hHeld => ?_)
       clear hK K
       refine norm_ (a' := ?_) ?_ ?_
       rotate_left
       ·show Act.put _ (some 3) _ = _
        exact oT
       refine one_ (i := 7) (N := some 4) #[true, true, true, true, true, true, true, true, false, false] rfl rfl (one_of HT_.out oK) oD (fun K hK => ?_)
       refine box_step ?hg (N := 4) ?hd (cs := #[.int .i64 0, .int .i64 0, .int .i64 0, .int .i64 0, .int .i64 0]) (t := 25) ?hr ?_; (case hd => rfl); (case hg => rfl); (case hr => first | (go_simp; done) | (go_simp; rfl))
       intro aD hg hF hbox hb
       have n_ := o2_ (blk_below (oP aH) hb) (o2_ (below_step (oB HB) hb) (o2_ (hbox) (o2_ ((oG hg (below_size (oB HB)) : w.heap.size ≤ aD)) (o2_ ((oG hg (below_size (oB HB)) : w.heap.size ≤ aD)) (o2_ ((oL hg (blk_lt (oP aH)))) (o1_ ((oN hg (blk_lt (oP aH))))))))))
       clear aH HB
       obtain ⟨aH, HB, aI, aB, aU, aF, aG⟩ := n_
       clear hb hbox hg
       refine hK.out _ _ ⟨((HB.out.cell (World.block_lt_of_cell? w _ hw117_0)).trans hw117_0), ((HB.out.cell (World.block_lt_of_cell? w _ hw117_1)).trans hw117_1), ((HB.out.cell (World.block_lt_of_cell? w _ hw117_2)).trans hw117_2), ((HB.out.cell (World.block_lt_of_cell? w _ hw117_3)).trans hw117_3), ((HB.out.cell (World.block_lt_of_cell? w _ hw117_4)).trans hw117_4), ((HB.out.cell (World.block_lt_of_cell? w _ hw118_0)).trans hw118_0), ((HB.out.cell (World.block_lt_of_cell? w _ hw118_1)).trans hw118_1), ((HB.out.cell (World.block_lt_of_cell? w _ hw118_2)).trans hw118_2), ((HB.out.cell (World.block_lt_of_cell? w _ hw118_3)).trans hw118_3), ((HB.out.cell (World.block_lt_of_cell? w _ hw118_4)).trans hw118_4)⟩ (fun hHeld => ?_)
       clear hK K
       refine norm_ (a' := ?_) ?_ ?_
       rotate_left
       ·show Act.put _ (some 4) _ = _
        exact oT
       exact norm_ (by simp only [putAll, Act.put, List.setIfInBounds_toArray, List.set_cons_zero, List.set_cons_succ]) (hCont (aC, aD) _ ⟨hHeld, (oP aH), (oP aI), aA.out, aT.out, aG.out, aF.out, aB.out, aU.out, (oB HB)⟩)
      ·skip
       refine box_step ?hg (N := 4) ?hd (cs := #[.int .i64 0, .int .i64 0, .int .i64 0, .int .i64 0, .int .i64 0]) (t := 25) ?hr ?_; (case hd => rfl); (case hg => rfl); (case hr => first | (go_simp; done) | (go_simp; rfl))
       intro aD hg hE hbox hb
       have n_ := o2_ (below_step (oB HB) hb) (o2_ (hbox) (o2_ ((oG hg (below_size (oB HB)) : w.heap.size ≤ aD)) (o1_ ((oG hg (below_size (oB HB)) : w.heap.size ≤ aD)))))
       clear HB
       obtain ⟨HB, aI, aB, aU⟩ := n_
       clear hb hbox hg
       refine hK.out _ _ ⟨((HB.out.cell (World.block_lt_of_cell? w _ hw117_0)).trans hw117_0), ((HB.out.cell (World.block_lt_of_cell? w _ hw117_1)).trans hw117_1), ((HB.out.cell (World.block_lt_of_cell? w _ hw117_2)).trans hw117_2), ((HB.out.cell (World.block_lt_of_cell? w _ hw117_3)).trans hw117_3), ((HB.out.cell (World.block_lt_of_cell? w _ hw117_4)).trans hw117_4), ((HB.out.cell (World.block_lt_of_cell? w _ hw118_0)).trans hw118_0), ((HB.out.cell (World.block_lt_of_cell? w _ hw118_1)).trans hw118_1), ((HB.out.cell (World.block_lt_of_cell? w _ hw118_2)).trans hw118_2), ((HB.out.cell (World.block_lt_of_cell? w _ hw118_3)).trans hw118_3), ((HB.out.cell (World.block_lt_of_cell? w _ hw118_4)).trans hw118_4)⟩ (fun hHeld => ?_)
       clear hK K
       refine norm_ (a' := ?_) ?_ ?_
       rotate_left
       ·show Act.put _ (some 4) _ = _
        exact oT
       refine one_ (i := 6) (N := some 3) #[true, true, true, true, true, true, true, true, false, false] rfl rfl (one_of HT_.out oK) oD (fun K hK => ?_)
       refine box_step ?hg (N := 3) ?hd (cs := #[.int .i64 0, .int .i64 0, .int .i64 0, .int .i64 0, .int .i64 0]) (t := 25) ?hr ?_; (case hd => rfl); (case hg => rfl); (case hr => first | (go_simp; done) | (go_simp; rfl))
       intro aC hg hF hbox hb
       have n_ := o2_ (blk_below (oP aI) hb) (o2_ (below_step (oB HB) hb) (o2_ (hbox) (o2_ ((oG hg (below_size (oB HB)) : w.heap.size ≤ aC)) (o2_ ((oG hg (below_size (oB HB)) : w.heap.size ≤ aC)) (o2_ ((oL hg (blk_lt (oP aI)))) (o1_ ((oN hg (blk_lt (oP aI))))))))))
       clear aI HB
       obtain ⟨aI, HB, aH, aA, aT, aG, aF⟩ := n_
       clear hb hbox hg
       refine hK.out _ _ ⟨((HB.out.cell (World.block_lt_of_cell? w _ hw117_0)).trans hw117_0), ((HB.out.cell (World.block_lt_of_cell? w _ hw117_1)).trans hw117_1), ((HB.out.cell (World.block_lt_of_cell? w _ hw117_2)).trans hw117_2), ((HB.out.cell (World.block_lt_of_cell? w _ hw117_3)).trans hw117_3), ((HB.out.cell (World.block_lt_of_cell? w _ hw117_4)).trans hw117_4), ((HB.out.cell (World.block_lt_of_cell? w _ hw118_0)).trans hw118_0), ((HB.out.cell (World.block_lt_of_cell? w _ hw118_1)).trans hw118_1), ((HB.out.cell (World.block_lt_of_cell? w _ hw118_2)).trans hw118_2), ((HB.out.cell (World.block_lt_of_cell? w _ hw118_3)).trans hw118_3), ((HB.out.cell (World.block_lt_of_cell? w _ hw118_4)).trans hw118_4)⟩ (fun hHeld => ?_)
       clear hK K
       refine norm_ (a' := ?_) ?_ ?_
       rotate_left
       ·show Act.put _ (some 3) _ = _
        exact oT
       exact norm_ (by simp only [putAll, Act.put, List.setIfInBounds_toArray, List.set_cons_zero, List.set_cons_succ]) (hCont (aC, aD) _ ⟨hHeld, (oP aH), (oP aI), aA.out, aT.out, aG.out, aF.out, aB.out, aU.out, (oB HB)⟩)
     rintro ⟨aC, aD⟩ bE ⟨hS_, h0_, h1_, h2_, h3_, h4_, h5_, h6_, h7_, h8_⟩
     have bI : Aside0 (bE.heap[aC]? = some (.cells #[.int .i64 0, .int .i64 0, .int .i64 0, .int .i64 0, .int .i64 0] 25 (0, 0))) := ⟨h0_⟩
     have bJ : Aside0 (bE.heap[aD]? = some (.cells #[.int .i64 0, .int .i64 0, .int .i64 0, .int .i64 0, .int .i64 0] 25 (0, 0))) := ⟨h1_⟩
     have bK : Aside0 (w.heap.size ≤ aC) := ⟨h2_⟩
     have bL : Aside0 (w.heap.size ≤ aC) := ⟨h3_⟩
     have bM : Aside0 (aD ≠ aC) := ⟨h4_⟩
     have bN : Aside0 (aC ≠ aD) := ⟨h5_⟩
     have bO : Aside0 (w.heap.size ≤ aD) := ⟨h6_⟩
     have bP : Aside0 (w.heap.size ≤ aD) := ⟨h7_⟩
     have bQ : Aside0 (Below w.heap.size w bE) := ⟨h8_⟩
     clear HB
     clear h0_ h1_ h2_ h3_ h4_ h5_ h6_ h7_ h8_
     have aH := bI
     have aI := bJ
     have aA := bK
     have aT := bL
     have aG := bM
     have aF := bN
     have aB := bO
     have aU := bP
     have HB := bQ
     clear bI bJ bK bL bM bN bO bP bQ
     have hHeld : bE.cell? aE = some (.int .i64 ((rd_T25 l0 0).f0)) ∧ bE.cell? ⟨aE.block, aE.off + 1, none⟩ = some (.int .i64 ((rd_T25 l0 0).f1)) ∧ bE.cell? ⟨aE.block, aE.off + 2, none⟩ = some (.int .i64 ((rd_T25 l0 0).f2)) ∧ bE.cell? ⟨aE.block, aE.off + 3, none⟩ = some (.int .i64 ((rd_T25 l0 0).f3)) ∧ bE.cell? ⟨aE.block, aE.off + 4, none⟩ = some (.int .i64 ((rd_T25 l0 0).f4)) ∧ bE.cell? ⟨aE.block, aE.off + 5, none⟩ = some (.int .i64 ((rd_T25 l0 1).f0)) ∧ bE.cell? ⟨aE.block, aE.off + 5 + 1, none⟩ = some (.int .i64 ((rd_T25 l0 1).f1)) ∧ bE.cell? ⟨aE.block, aE.off + 5 + 2, none⟩ = some (.int .i64 ((rd_T25 l0 1).f2)) ∧ bE.cell? ⟨aE.block, aE.off + 5 + 3, none⟩ = some (.int .i64 ((rd_T25 l0 1).f3)) ∧ bE.cell? ⟨aE.block, aE.off + 5 + 4, none⟩ = some (.int .i64 ((rd_T25 l0 1).f4)) := hS_
     refine norm_ (a' := ?_) ?_ ?_
     rotate_left
     ·simp only [putAll, Act.put, List.setIfInBounds_toArray, List.set_cons_zero, List.set_cons_succ]
      rfl
     refine one_ (i := 8) (N := none) #[true, true, true, true, true, true, true, true, true, false] rfl rfl (one_of HT_.out oK) oD (fun K hK => ?_)
     have hs81 : bE.cell? ⟨aC, 0, none⟩ = some (.int .i64 0) := (blk_cell aH.out 0).trans rfl
     have hfs81 := blk_frozen aH.out 0
     have hns81_1 := aG.out
     have hms81_1 := aF.out
     have hs82 : bE.cell? ⟨aC, 1, none⟩ = some (.int .i64 0) := (blk_cell aH.out 1).trans rfl
     have hfs82 := blk_frozen aH.out 1
     have hns82_1 := aG.out
     have hms82_1 := aF.out
     have hs83 : bE.cell? ⟨aC, 2, none⟩ = some (.int .i64 0) := (blk_cell aH.out 2).trans rfl
     have hfs83 := blk_frozen aH.out 2
     have hns83_1 := aG.out
     have hms83_1 := aF.out
     have hs84 : bE.cell? ⟨aC, 3, none⟩ = some (.int .i64 0) := (blk_cell aH.out 3).trans rfl
     have hfs84 := blk_frozen aH.out 3
     have hns84_1 := aG.out
     have hms84_1 := aF.out
     have hs85 : bE.cell? ⟨aC, 4, none⟩ = some (.int .i64 0) := (blk_cell aH.out 4).trans rfl
     have hfs85 := blk_frozen aH.out 4
     have hns85_1 := aG.out
     have hms85_1 := aF.out
     refine skip_ (w1 := ?_) (by rfl) rfl ?_ ?_
     rotate_left
     ·go_simp
      rfl
     refine hK.out _ _ ⟨((cell_far (p := ⟨aC, _, none⟩) (oV hw117_0 aA) _).trans (((cell_far (p := ⟨aC, _, none⟩) (oV hw117_0 aA) _).trans (((cell_far (p := ⟨aC, _, none⟩) (oV hw117_0 aA) _).trans (((cell_far (p := ⟨aC, _, none⟩) (oV hw117_0 aA) _).trans (((cell_far (p := ⟨aC, _, none⟩) (oV hw117_0 aA) _).trans (hHeld.1)))))))))), ((cell_far (p := ⟨aC, _, none⟩) (oV hw117_1 aA) _).trans (((cell_far (p := ⟨aC, _, none⟩) (oV hw117_1 aA) _).trans (((cell_far (p := ⟨aC, _, none⟩) (oV hw117_1 aA) _).trans (((cell_far (p := ⟨aC, _, none⟩) (oV hw117_1 aA) _).trans (((cell_far (p := ⟨aC, _, none⟩) (oV hw117_1 aA) _).trans (hHeld.2.1)))))))))), ((cell_far (p := ⟨aC, _, none⟩) (oV hw117_2 aA) _).trans (((cell_far (p := ⟨aC, _, none⟩) (oV hw117_2 aA) _).trans (((cell_far (p := ⟨aC, _, none⟩) (oV hw117_2 aA) _).trans (((cell_far (p := ⟨aC, _, none⟩) (oV hw117_2 aA) _).trans (((cell_far (p := ⟨aC, _, none⟩) (oV hw117_2 aA) _).trans (hHeld.2.2.1)))))))))), ((cell_far (p := ⟨aC, _, none⟩) (oV hw117_3 aA) _).trans (((cell_far (p := ⟨aC, _, none⟩) (oV hw117_3 aA) _).trans (((cell_far (p := ⟨aC, _, none⟩) (oV hw117_3 aA) _).trans (((cell_far (p := ⟨aC, _, none⟩) (oV hw117_3 aA) _).trans (((cell_far (p := ⟨aC, _, none⟩) (oV hw117_3 aA) _).trans (hHeld.2.2.2.1)))))))))), ((cell_far (p := ⟨aC, _, none⟩) (oV hw117_4 aA) _).trans (((cell_far (p := ⟨aC, _, none⟩) (oV hw117_4 aA) _).trans (((cell_far (p := ⟨aC, _, none⟩) (oV hw117_4 aA) _).trans (((cell_far (p := ⟨aC, _, none⟩) (oV hw117_4 aA) _).trans (((cell_far (p := ⟨aC, _, none⟩) (oV hw117_4 aA) _).trans (hHeld.2.2.2.2.1)))))))))), ((cell_far (p := ⟨aC, _, none⟩) (oV hw118_0 aA) _).trans (((cell_far (p := ⟨aC, _, none⟩) (oV hw118_0 aA) _).trans (((cell_far (p := ⟨aC, _, none⟩) (oV hw118_0 aA) _).trans (((cell_far (p := ⟨aC, _, none⟩) (oV hw118_0 aA) _).trans (((cell_far (p := ⟨aC, _, none⟩) (oV hw118_0 aA) _).trans (hHeld.2.2.2.2.2.1)))))))))), ((cell_far (p := ⟨aC, _, none⟩) (oV hw118_1 aA) _).trans (((cell_far (p := ⟨aC, _, none⟩) (oV hw118_1 aA) _).trans (((cell_far (p := ⟨aC, _, none⟩) (oV hw118_1 aA) _).trans (((cell_far (p := ⟨aC, _, none⟩) (oV hw118_1 aA) _).trans (((cell_far (p := ⟨aC, _, none⟩) (oV hw118_1 aA) _).trans (hHeld.2.2.2.2.2.2.1)))))))))), ((cell_far (p := ⟨aC, _, none⟩) (oV hw118_2 aA) _).trans (((cell_far (p := ⟨aC, _, none⟩) (oV hw118_2 aA) _).trans (((cell_far (p := ⟨aC, _, none⟩) (oV hw118_2 aA) _).trans (((cell_far (p := ⟨aC, _, none⟩) (oV hw118_2 aA) _).trans (((cell_far (p := ⟨aC, _, none⟩) (oV hw118_2 aA) _).trans (hHeld.2.2.2.2.2.2.2.1)))))))))), ((cell_far (p := ⟨aC, _, none⟩) (oV hw118_3 aA) _).trans (((cell_far (p := ⟨aC, _, none⟩) (oV hw118_3 aA) _).trans (((cell_far (p := ⟨aC, _, none⟩) (oV hw118_3 aA) _).trans (((cell_far (p := ⟨aC, _, none⟩) (oV hw118_3 aA) _).trans (((cell_far (p := ⟨aC, _, none⟩) (oV hw118_3 aA) _).trans (hHeld.2.2.2.2.2.2.2.2.1)))))))))), ((cell_far (p := ⟨aC, _, none⟩) (oV hw118_4 aA) _).trans (((cell_far (p := ⟨aC, _, none⟩) (oV hw118_4 aA) _).trans (((cell_far (p := ⟨aC, _, none⟩) (oV hw118_4 aA) _).trans (((cell_far (p := ⟨aC, _, none⟩) (oV hw118_4 aA) _).trans (((cell_far (p := ⟨aC, _, none⟩) (oV hw118_4 aA) _).trans (hHeld.2.2.2.2.2.2.2.2.2))))))))))⟩ (fun hHeld => ?_)
     clear hK K
     refine one_ (i := 9) (N := none) #[true, true, true, true, true, true, true, true, true, true] rfl rfl (one_of HT_.out oK) oD (fun K hK => ?_)
     have hs86 : bE.cell? ⟨aD, 0, none⟩ = some (.int .i64 0) := (blk_cell aI.out 0).trans rfl
     have hfs86 := blk_frozen aI.out 0
     have hns86_0 := aF.out
     have hms86_0 := aG.out
     have hs87 : bE.cell? ⟨aD, 1, none⟩ = some (.int .i64 0) := (blk_cell aI.out 1).trans rfl
     have hfs87 := blk_frozen aI.out 1
     have hns87_0 := aF.out
     have hms87_0 := aG.out
     have hs88 : bE.cell? ⟨aD, 2, none⟩ = some (.int .i64 0) := (blk_cell aI.out 2).trans rfl
     have hfs88 := blk_frozen aI.out 2
     have hns88_0 := aF.out
     have hms88_0 := aG.out
     have hs89 : bE.cell? ⟨aD, 3, none⟩ = some (.int .i64 0) := (blk_cell aI.out 3).trans rfl
     have hfs89 := blk_frozen aI.out 3
     have hns89_0 := aF.out
     have hms89_0 := aG.out
     have hs90 : bE.cell? ⟨aD, 4, none⟩ = some (.int .i64 0) := (blk_cell aI.out 4).trans rfl
     have hfs90 := blk_frozen aI.out 4
     have hns90_0 := aF.out
     have hms90_0 := aG.out
     refine skip_ (w1 := ?_) (by rfl) rfl ?_ ?_
     rotate_left
     ·go_simp
      rfl
     refine hK.out _ _ ⟨((cell_far (p := ⟨aD, _, none⟩) (oV hw117_0 aB) _).trans (((cell_far (p := ⟨aD, _, none⟩) (oV hw117_0 aB) _).trans (((cell_far (p := ⟨aD, _, none⟩) (oV hw117_0 aB) _).trans (((cell_far (p := ⟨aD, _, none⟩) (oV hw117_0 aB) _).trans (((cell_far (p := ⟨aD, _, none⟩) (oV hw117_0 aB) _).trans (hHeld.1)))))))))), ((cell_far (p := ⟨aD, _, none⟩) (oV hw117_1 aB) _).trans (((cell_far (p := ⟨aD, _, none⟩) (oV hw117_1 aB) _).trans (((cell_far (p := ⟨aD, _, none⟩) (oV hw117_1 aB) _).trans (((cell_far (p := ⟨aD, _, none⟩) (oV hw117_1 aB) _).trans (((cell_far (p := ⟨aD, _, none⟩) (oV hw117_1 aB) _).trans (hHeld.2.1)))))))))), ((cell_far (p := ⟨aD, _, none⟩) (oV hw117_2 aB) _).trans (((cell_far (p := ⟨aD, _, none⟩) (oV hw117_2 aB) _).trans (((cell_far (p := ⟨aD, _, none⟩) (oV hw117_2 aB) _).trans (((cell_far (p := ⟨aD, _, none⟩) (oV hw117_2 aB) _).trans (((cell_far (p := ⟨aD, _, none⟩) (oV hw117_2 aB) _).trans (hHeld.2.2.1)))))))))), ((cell_far (p := ⟨aD, _, none⟩) (oV hw117_3 aB) _).trans (((cell_far (p := ⟨aD, _, none⟩) (oV hw117_3 aB) _).trans (((cell_far (p := ⟨aD, _, none⟩) (oV hw117_3 aB) _).trans (((cell_far (p := ⟨aD, _, none⟩) (oV hw117_3 aB) _).trans (((cell_far (p := ⟨aD, _, none⟩) (oV hw117_3 aB) _).trans (hHeld.2.2.2.1)))))))))), ((cell_far (p := ⟨aD, _, none⟩) (oV hw117_4 aB) _).trans (((cell_far (p := ⟨aD, _, none⟩) (oV hw117_4 aB) _).trans (((cell_far (p := ⟨aD, _, none⟩) (oV hw117_4 aB) _).trans (((cell_far (p := ⟨aD, _, none⟩) (oV hw117_4 aB) _).trans (((cell_far (p := ⟨aD, _, none⟩) (oV hw117_4 aB) _).trans (hHeld.2.2.2.2.1)))))))))), ((cell_far (p := ⟨aD, _, none⟩) (oV hw118_0 aB) _).trans (((cell_far (p := ⟨aD, _, none⟩) (oV hw118_0 aB) _).trans (((cell_far (p := ⟨aD, _, none⟩) (oV hw118_0 aB) _).trans (((cell_far (p := ⟨aD, _, none⟩) (oV hw118_0 aB) _).trans (((cell_far (p := ⟨aD, _, none⟩) (oV hw118_0 aB) _).trans (hHeld.2.2.2.2.2.1)))))))))), ((cell_far (p := ⟨aD, _, none⟩) (oV hw118_1 aB) _).trans (((cell_far (p := ⟨aD, _, none⟩) (oV hw118_1 aB) _).trans (((cell_far (p := ⟨aD, _, none⟩) (oV hw118_1 aB) _).trans (((cell_far (p := ⟨aD, _, none⟩) (oV hw118_1 aB) _).trans (((cell_far (p := ⟨aD, _, none⟩) (oV hw118_1 aB) _).trans (hHeld.2.2.2.2.2.2.1)))))))))), ((cell_far (p := ⟨aD, _, none⟩) (oV hw118_2 aB) _).trans (((cell_far (p := ⟨aD, _, none⟩) (oV hw118_2 aB) _).trans (((cell_far (p := ⟨aD, _, none⟩) (oV hw118_2 aB) _).trans (((cell_far (p := ⟨aD, _, none⟩) (oV hw118_2 aB) _).trans (((cell_far (p := ⟨aD, _, none⟩) (oV hw118_2 aB) _).trans (hHeld.2.2.2.2.2.2.2.1)))))))))), ((cell_far (p := ⟨aD, _, none⟩) (oV hw118_3 aB) _).trans (((cell_far (p := ⟨aD, _, none⟩) (oV hw118_3 aB) _).trans (((cell_far (p := ⟨aD, _, none⟩) (oV hw118_3 aB) _).trans (((cell_far (p := ⟨aD, _, none⟩) (oV hw118_3 aB) _).trans (((cell_far (p := ⟨aD, _, none⟩) (oV hw118_3 aB) _).trans (hHeld.2.2.2.2.2.2.2.2.1)))))))))), ((cell_far (p := ⟨aD, _, none⟩) (oV hw118_4 aB) _).trans (((cell_far (p := ⟨aD, _, none⟩) (oV hw118_4 aB) _).trans (((cell_far (p := ⟨aD, _, none⟩) (oV hw118_4 aB) _).trans (((cell_far (p := ⟨aD, _, none⟩) (oV hw118_4 aB) _).trans (((cell_far (p := ⟨aD, _, none⟩) (oV hw118_4 aB) _).trans (hHeld.2.2.2.2.2.2.2.2.2))))))))))⟩ (fun hHeld => ?_)
     clear hK K
     refine done_ (done_of HT_.out oK) ?_
     have gM := aF.out
     have gR := aG.out
     have dQ : bE.cell? ⟨aC, 0, none⟩ = some (.int .i64 0) := (blk_cell aH.out 0).trans rfl
     have dR : bE.cell? ⟨aC, 1, none⟩ = some (.int .i64 0) := (blk_cell aH.out 1).trans rfl
     have dS : bE.cell? ⟨aC, 2, none⟩ = some (.int .i64 0) := (blk_cell aH.out 2).trans rfl
     have dT : bE.cell? ⟨aC, 3, none⟩ = some (.int .i64 0) := (blk_cell aH.out 3).trans rfl
     have dU : bE.cell? ⟨aC, 4, none⟩ = some (.int .i64 0) := (blk_cell aH.out 4).trans rfl
     have fO := blk_frozen aH.out 0
     have fP := blk_frozen aH.out 1
     have fQ := blk_frozen aH.out 2
     have fR := blk_frozen aH.out 3
     have fS := blk_frozen aH.out 4
     have dV : bE.cell? ⟨aD, 0, none⟩ = some (.int .i64 0) := (blk_cell aI.out 0).trans rfl
     have dW : bE.cell? ⟨aD, 1, none⟩ = some (.int .i64 0) := (blk_cell aI.out 1).trans rfl
     have dX : bE.cell? ⟨aD, 2, none⟩ = some (.int .i64 0) := (blk_cell aI.out 2).trans rfl
     have dY : bE.cell? ⟨aD, 3, none⟩ = some (.int .i64 0) := (blk_cell aI.out 3).trans rfl
     have dZ : bE.cell? ⟨aD, 4, none⟩ = some (.int .i64 0) := (blk_cell aI.out 4).trans rfl
     have fT := blk_frozen aI.out 0
     have fU := blk_frozen aI.out 1
     have fV := blk_frozen aI.out 2
     have fW := blk_frozen aI.out 3
     have fX := blk_frozen aI.out 4
     try go_wp2
     go_ret
     exact ⟨by first | rfl | (simp [errW_none, errW_some] <;> rfl) | (simp [*, errW_none, errW_some] <;> rfl), oB HB⟩
   ·rw [if_neg c4] at H
    have fY : (((rd_T25 l0 0).f0) == 1) = false := beq_eq_false_iff_ne.mpr c4
    have fZ : (((rd_T25 l0 0).f0) != 1) = true := bne_iff_ne.mpr c4
    obtain rfl := Option.some.inj H
    go_enter Try.func40, Try.ntmps40
    try go_wp2
    replace HB := o1_ (below_drew1 HB.out)
    have aV : 0 ≤ (0 : Int) := (by omega)
    have aX : 0 < (l0.length : Int) := of_decide_eq_true oM
    obtain ⟨aE, bG, aJ, aK, aL, aM, aN⟩ := at_T25 bR.out 0 aV aX
    have hw117_4 := aN
    (try rw [show ((0 : Int)).toNat = 0 from rfl] at hw117_4)
    (try rw [show 0 * 5 = 0 from rfl] at hw117_4)
    (try rw [Addr.add_zero'] at hw117_4)
    have hw117_3 := aM
    (try rw [show ((0 : Int)).toNat = 0 from rfl] at hw117_3)
    (try rw [show 0 * 5 = 0 from rfl] at hw117_3)
    (try rw [Addr.add_zero'] at hw117_3)
    have hw117_2 := aL
    (try rw [show ((0 : Int)).toNat = 0 from rfl] at hw117_2)
    (try rw [show 0 * 5 = 0 from rfl] at hw117_2)
    (try rw [Addr.add_zero'] at hw117_2)
    have hw117_1 := aK
    (try rw [show ((0 : Int)).toNat = 0 from rfl] at hw117_1)
    (try rw [show 0 * 5 = 0 from rfl] at hw117_1)
    (try rw [Addr.add_zero'] at hw117_1)
    have hw117_0 := aJ
    (try rw [show ((0 : Int)).toNat = 0 from rfl] at hw117_0)
    (try rw [show 0 * 5 = 0 from rfl] at hw117_0)
    (try rw [Addr.add_zero'] at hw117_0)
    cases bG
    have qi117 : (0 < l0.length) = True := eq_true (by omega)
    (try rw [show ((0 : Int)).toNat = 0 from rfl] at aJ)
    (try rw [show 0 * 5 = 0 from rfl] at aJ)
    (try rw [Addr.add_zero'] at aJ)
    (try rw [show ((0 : Int)).toNat = 0 from rfl] at aK)
    (try rw [show 0 * 5 = 0 from rfl] at aK)
    (try rw [Addr.add_zero'] at aK)
    (try rw [show ((0 : Int)).toNat = 0 from rfl] at aL)
    (try rw [show 0 * 5 = 0 from rfl] at aL)
    (try rw [Addr.add_zero'] at aL)
    (try rw [show ((0 : Int)).toNat = 0 from rfl] at aM)
    (try rw [show 0 * 5 = 0 from rfl] at aM)
    (try rw [Addr.add_zero'] at aM)
    (try rw [show ((0 : Int)).toNat = 0 from rfl] at aN)
    (try rw [show 0 * 5 = 0 from rfl] at aN)
    (try rw [Addr.add_zero'] at aN)
    replace aJ := (HB.out.cell (World.block_lt_of_cell? w _ aJ)).trans aJ
    replace aK := (HB.out.cell (World.block_lt_of_cell? w _ aK)).trans aK
    replace aL := (HB.out.cell (World.block_lt_of_cell? w _ aL)).trans aL
    replace aM := (HB.out.cell (World.block_lt_of_cell? w _ aM)).trans aM
    replace aN := (HB.out.cell (World.block_lt_of_cell? w _ aN)).trans aN
    replace aV := eq_true aV
    replace aX := eq_true aX
    have aW : 0 ≤ (1 : Int) := (by omega)
    have aY : 1 < (l0.length : Int) := of_decide_eq_true oM
    obtain ⟨aZ, bH, aO, aP, aQ, aR, aS⟩ := at_T25 bR.out 1 aW aY
    have hw118_4 := aS
    (try rw [show ((1 : Int)).toNat = 1 from rfl] at hw118_4)
    (try rw [show 1 * 5 = 5 from rfl] at hw118_4)
    (try simp only [Nat.reduceMul, Nat.reduceEqDiff, Go.Addr.add, ↓reduceIte] at hw118_4)
    have hw118_3 := aR
    (try rw [show ((1 : Int)).toNat = 1 from rfl] at hw118_3)
    (try rw [show 1 * 5 = 5 from rfl] at hw118_3)
    (try simp only [Nat.reduceMul, Nat.reduceEqDiff, Go.Addr.add, ↓reduceIte] at hw118_3)
    have hw118_2 := aQ
    (try rw [show ((1 : Int)).toNat = 1 from rfl] at hw118_2)
    (try rw [show 1 * 5 = 5 from rfl] at hw118_2)
    (try simp only [Nat.reduceMul, Nat.reduceEqDiff, Go.Addr.add, ↓reduceIte] at hw118_2)
    have hw118_1 := aP
    (try rw [show ((1 : Int)).toNat = 1 from rfl] at hw118_1)
    (try rw [show 1 * 5 = 5 from rfl] at hw118_1)
    (try simp only [Nat.reduceMul, Nat.reduceEqDiff, Go.Addr.add, ↓reduceIte] at hw118_1)
    have hw118_0 := aO
    (try rw [show ((1 : Int)).toNat = 1 from rfl] at hw118_0)
    (try rw [show 1 * 5 = 5 from rfl] at hw118_0)
    (try simp only [Nat.reduceMul, Nat.reduceEqDiff, Go.Addr.add, ↓reduceIte] at hw118_0)
    obtain rfl : aE = aZ := (by injection bH)
    (try simp only [show (1 : Int).toNat = 1 from rfl, Nat.reduceMul, Nat.reduceEqDiff, Go.Addr.add, ↓reduceIte] at aO)
    (try simp only [show (1 : Int).toNat = 1 from rfl, Nat.reduceMul, Nat.reduceEqDiff, Go.Addr.add, ↓reduceIte] at aP)
    (try simp only [show (1 : Int).toNat = 1 from rfl, Nat.reduceMul, Nat.reduceEqDiff, Go.Addr.add, ↓reduceIte] at aQ)
    (try simp only [show (1 : Int).toNat = 1 from rfl, Nat.reduceMul, Nat.reduceEqDiff, Go.Addr.add, ↓reduceIte] at aR)
    (try simp only [show (1 : Int).toNat = 1 from rfl, Nat.reduceMul, Nat.reduceEqDiff, Go.Addr.add, ↓reduceIte] at aS)
    have qi118 : (1 < l0.length) = True := eq_true (by omega)
    (try rw [show ((1 : Int)).toNat = 1 from rfl] at aO)
    (try rw [show 1 * 5 = 5 from rfl] at aO)
    (try rw [show ((1 : Int)).toNat = 1 from rfl] at aP)
    (try rw [show 1 * 5 = 5 from rfl] at aP)
    (try rw [show ((1 : Int)).toNat = 1 from rfl] at aQ)
    (try rw [show 1 * 5 = 5 from rfl] at aQ)
    (try rw [show ((1 : Int)).toNat = 1 from rfl] at aR)
    (try rw [show 1 * 5 = 5 from rfl] at aR)
    (try rw [show ((1 : Int)).toNat = 1 from rfl] at aS)
    (try rw [show 1 * 5 = 5 from rfl] at aS)
    replace aO := (HB.out.cell (World.block_lt_of_cell? w _ aO)).trans aO
    replace aP := (HB.out.cell (World.block_lt_of_cell? w _ aP)).trans aP
    replace aQ := (HB.out.cell (World.block_lt_of_cell? w _ aQ)).trans aQ
    replace aR := (HB.out.cell (World.block_lt_of_cell? w _ aR)).trans aR
    replace aS := (HB.out.cell (World.block_lt_of_cell? w _ aS)).trans aS
    replace aW := eq_true aW
    replace aY := eq_true aY
    refine start_ (n := 10) (S := fun w' => w'.cell? aE = some (.int .i64 ((rd_T25 l0 0).f0)) ∧ w'.cell? ⟨aE.block, aE.off + 1, none⟩ = some (.int .i64 ((rd_T25 l0 0).f1)) ∧ w'.cell? ⟨aE.block, aE.off + 2, none⟩ = some (.int .i64 ((rd_T25 l0 0).f2)) ∧ w'.cell? ⟨aE.block, aE.off + 3, none⟩ = some (.int .i64 ((rd_T25 l0 0).f3)) ∧ w'.cell? ⟨aE.block, aE.off + 4, none⟩ = some (.int .i64 ((rd_T25 l0 0).f4)) ∧ w'.cell? ⟨aE.block, aE.off + 5, none⟩ = some (.int .i64 ((rd_T25 l0 1).f0)) ∧ w'.cell? ⟨aE.block, aE.off + 5 + 1, none⟩ = some (.int .i64 ((rd_T25 l0 1).f1)) ∧ w'.cell? ⟨aE.block, aE.off + 5 + 2, none⟩ = some (.int .i64 ((rd_T25 l0 1).f2)) ∧ w'.cell? ⟨aE.block, aE.off + 5 + 3, none⟩ = some (.int .i64 ((rd_T25 l0 1).f3)) ∧ w'.cell? ⟨aE.block, aE.off + 5 + 4, none⟩ = some (.int .i64 ((rd_T25 l0 1).f4))) (ds := []) #[false, false, false, false, false, false, false, false, false, false] oK rfl rfl ⟨((HB.out.cell (World.block_lt_of_cell? w _ hw117_0)).trans hw117_0), ((HB.out.cell (World.block_lt_of_cell? w _ hw117_1)).trans hw117_1), ((HB.out.cell (World.block_lt_of_cell? w _ hw117_2)).trans hw117_2), ((HB.out.cell (World.block_lt_of_cell? w _ hw117_3)).trans hw117_3), ((HB.out.cell (World.block_lt_of_cell? w _ hw117_4)).trans hw117_4), ((HB.out.cell (World.block_lt_of_cell? w _ hw118_0)).trans hw118_0), ((HB.out.cell (World.block_lt_of_cell? w _ hw118_1)).trans hw118_1), ((HB.out.cell (World.block_lt_of_cell? w _ hw118_2)).trans hw118_2), ((HB.out.cell (World.block_lt_of_cell? w _ hw118_3)).trans hw118_3), ((HB.out.cell (World.block_lt_of_cell? w _ hw118_4)).trans hw118_4)⟩ (fun hHeld => ?_); refine with_tabW impl_nested.tab1 impl_nested.bits1 (fun HT_ HW_ => ?_)
    generalize w.drew = hO at HB aJ aK aL aM aN aO aP aQ aR aS hHeld ⊢
    refine pure_ (i := 0) (N := some 5) (v := ?_) (a' := ?_) #[true, false, false, false, false, false, false, false, false, false] rfl rfl (any_of HT_.out oK) (fun _ _ _ h => h) (Or.inl ⟨by rfl, ?_⟩) ?_ ?_
    rotate_left
    ·intro w'
     go_simp
     with_reducible rfl
    rotate_left
    ·exact oT
    refine pure_ (i := 1) (N := some 6) (v := ?_) (a' := ?_) #[true, true, false, false, false, false, false, false, false, false] rfl rfl (any_of HT_.out oK) (fun _ _ _ h => h) (Or.inl ⟨by rfl, ?_⟩) ?_ ?_
    rotate_left
    ·intro w'
     go_simp
     with_reducible rfl
    rotate_left
    ·exact oT
    refine pure_ (i := 3) (N := some 8) (v := ?_) (a' := ?_) #[true, true, false, true, false, false, false, false, false, false] rfl rfl (any_of HT_.out oK) (fun _ _ _ h => h) (Or.inl ⟨by rfl, ?_⟩) ?_ ?_
    rotate_left
    ·intro w'
     go_simp
     with_reducible rfl
    rotate_left
    ·exact oT
    refine pure_ (i := 4) (N := some 9) (v := ?_) (a' := ?_) #[true, true, false, true, true, false, false, false, false, false] rfl rfl (any_of HT_.out oK) (fun _ _ _ h => h) (Or.inl ⟨by rfl, ?_⟩) ?_ ?_
    rotate_left
    ·intro w'
     go_simp
     with_reducible rfl
    rotate_left
    ·exact oT
    refine take_ (i := 2) (N := some 7) (v := ?_) (a' := ?_) #[true, true, true, true, true, false, false, false, false, false] rfl rfl (take_ofW HT_.out HW_.out oK) (fun _ _ _ h => h) (Or.inl ⟨by rfl, ?_⟩) hHeld ?_ ?_
    rotate_left
    ·rintro w' ⟨s0, s1, s2, s3, s4, s5, s6, s7, s8, s9⟩
     go_simp
     with_reducible rfl
    rotate_left
    ·exact oT
    refine take_ (i := 5) (N := some 10) (v := ?_) (a' := ?_) #[true, true, true, true, true, true, false, false, false, false] rfl rfl (take_ofW HT_.out HW_.out oK) (fun _ _ _ h => h) (Or.inl ⟨by rfl, ?_⟩) hHeld ?_ ?_
    rotate_left
    ·rintro w' ⟨s0, s1, s2, s3, s4, s5, s6, s7, s8, s9⟩
     go_simp
     with_reducible rfl
    rotate_left
    ·exact oT
    refine join_ (σ := Nat × Nat) 2 #[true, true, true, true, true, true, true, true, false, false] (fun s_ => [(3, .pointer (some ⟨s_.1, 0, none⟩)), (4, .pointer (some ⟨s_.2, 0, none⟩))]) (fun s_ w' => (w'.cell? aE = some (.int .i64 ((rd_T25 l0 0).f0)) ∧ w'.cell? ⟨aE.block, aE.off + 1, none⟩ = some (.int .i64 ((rd_T25 l0 0).f1)) ∧ w'.cell? ⟨aE.block, aE.off + 2, none⟩ = some (.int .i64 ((rd_T25 l0 0).f2)) ∧ w'.cell? ⟨aE.block, aE.off + 3, none⟩ = some (.int .i64 ((rd_T25 l0 0).f3)) ∧ w'.cell? ⟨aE.block, aE.off + 4, none⟩ = some (.int .i64 ((rd_T25 l0 0).f4)) ∧ w'.cell? ⟨aE.block, aE.off + 5, none⟩ = some (.int .i64 ((rd_T25 l0 1).f0)) ∧ w'.cell? ⟨aE.block, aE.off + 5 + 1, none⟩ = some (.int .i64 ((rd_T25 l0 1).f1)) ∧ w'.cell? ⟨aE.block, aE.off + 5 + 2, none⟩ = some (.int .i64 ((rd_T25 l0 1).f2)) ∧ w'.cell? ⟨aE.block, aE.off + 5 + 3, none⟩ = some (.int .i64 ((rd_T25 l0 1).f3)) ∧ w'.cell? ⟨aE.block, aE.off + 5 + 4, none⟩ = some (.int .i64 ((rd_T25 l0 1).f4))) ∧ (w'.heap[s_.1]? = some (.cells #[.int .i64 0, .int .i64 0, .int .i64 0, .int .i64 0, .int .i64 0] 25 (0, 0))) ∧ (w'.heap[s_.2]? = some (.cells #[.int .i64 0, .int .i64 0, .int .i64 0, .int .i64 0, .int .i64 0] 25 (0, 0))) ∧ (w.heap.size ≤ s_.1) ∧ (w.heap.size ≤ s_.1) ∧ (s_.2 ≠ s_.1) ∧ (s_.1 ≠ s_.2) ∧ (w.heap.size ≤ s_.2) ∧ (w.heap.size ≤ s_.2) ∧ (Below w.heap.size w w')) ?_ ?_
    rotate_left
    ·intro hCont
     refine two_ (i := 6) (j := 7) (Ni := some 3) (Nj := some 4) #[true, true, true, true, true, true, true, false, false, false] #[true, true, true, true, true, true, false, true, false, false] rfl rfl rfl rfl (two_of HT_.out oK) oD oD (fun K hK => ?_) (fun K hK => ?_)
     ·skip
      refine box_step ?hg (N := 3) ?hd (cs := #[.int .i64 0, .int .i64 0, .int .i64 0, .int .i64 0, .int .i64 0]) (t := 25) ?hr ?_; (case hd => rfl); (case hg => rfl); (case hr => first | (go_simp; done) | (go_simp; rfl))
      intro aC hg hG hbox hb
      have n_ := o2_ (below_step (oB HB) hb) (o2_ (hbox) (o2_ ((oG hg (below_size (oB HB)) : w.heap.size ≤ aC)) (o1_ ((oG hg (below_size (oB HB)) : w.heap.size ≤ aC)))))
      clear HB
      obtain ⟨HB, aH, aA, aT⟩ := n_
      clear hb hbox hg
      refine hK.out _ _ ⟨((HB.out.cell (World.block_lt_of_cell? w _ hw117_0)).trans hw117_0), ((HB.out.cell (World.block_lt_of_cell? w _ hw117_1)).trans hw117_1), ((HB.out.cell (World.block_lt_of_cell? w _ hw117_2)).trans hw117_2), ((HB.out.cell (World.block_lt_of_cell? w _ hw117_3)).trans hw117_3), ((HB.out.cell (World.block_lt_of_cell? w _ hw117_4)).trans hw117_4), ((HB.out.cell (World.block_lt_of_cell? w _ hw118_0)).trans hw118_0), ((HB.out.cell (World.block_lt_of_cell? w _ hw118_1)).trans hw118_1), ((HB.out.cell (World.block_lt_of_cell? w _ hw118_2)).trans hw118_2), ((HB.out.cell (World.block_lt_of_cell? w _ hw118_3)).trans hw118_3), ((HB.out.cell (World.block_lt_of_cell? w _ hw118_4)).trans hw118_4)⟩ (fun hHeld => ?_)
      clear hK K
      refine norm_ (a' := ?_) ?_ ?_
      rotate_left
      ·show Act.put _ (some 3) _ = _
       exact oT
      refine one_ (i := 7) (N := some 4) #[true, true, true, true, true, true, true, true, false, false] rfl rfl (one_of HT_.out oK) oD (fun K hK => ?_)
      refine box_step ?hg (N := 4) ?hd (cs := #[.int .i64 0, .int .i64 0, .int .i64 0, .int .i64 0, .int .i64 0]) (t := 25) ?hr ?_; (case hd => rfl); (case hg => rfl); (case hr => first | (go_simp; done) | (go_simp; rfl))
      intro aD hg hH hbox hb
      have n_ := o2_ (blk_below (oP aH) hb) (o2_ (below_step (oB HB) hb) (o2_ (hbox) (o2_ ((oG hg (below_size (oB HB)) : w.heap.size ≤ aD)) (o2_ ((oG hg (below_size (oB HB)) : w.heap.size ≤ aD)) (o2_ ((oL hg (blk_lt (oP aH)))) (o1_ ((oN hg (blk_lt (oP aH))))))))))
      clear aH HB
      obtain ⟨aH, HB, aI, aB, aU, aF, aG⟩ := n_
      clear hb hbox hg
      refine hK.out _ _ ⟨((HB.out.cell (World.block_lt_of_cell? w _ hw117_0)).trans hw117_0), ((HB.out.cell (World.block_lt_of_cell? w _ hw117_1)).trans hw117_1), ((HB.out.cell (World.block_lt_of_cell? w _ hw117_2)).trans hw117_2), ((HB.out.cell (World.block_lt_of_cell? w _ hw117_3)).trans hw117_3), ((HB.out.cell (World.block_lt_of_cell? w _ hw117_4)).trans hw117_4), ((HB.out.cell (World.block_lt_of_cell? w _ hw118_0)).trans hw118_0), ((HB.out.cell (World.block_lt_of_cell? w _ hw118_1)).trans hw118_1), ((HB.out.cell (World.block_lt_of_cell? w _ hw118_2)).trans hw118_2), ((HB.out.cell (World.block_lt_of_cell? w _ hw118_3)).trans hw118_3), ((HB.out.cell (World.block_lt_of_cell? w _ hw118_4)).trans hw118_4)⟩ (fun hHeld => ?_)
      clear hK K
      refine norm_ (a' := ?_) ?_ ?_
      rotate_left
      ·show Act.put _ (some 4) _ = _
       exact oT
      exact norm_ (by simp only [putAll, Act.put, List.setIfInBounds_toArray, List.set_cons_zero, List.set_cons_succ]) (hCont (aC, aD) _ ⟨hHeld, (oP aH), (oP aI), aA.out, aT.out, aG.out, aF.out, aB.out, aU.out, (oB HB)⟩)
     ·skip
      refine box_step ?hg (N := 4) ?hd (cs := #[.int .i64 0, .int .i64 0, .int .i64 0, .int .i64 0, .int .i64 0]) (t := 25) ?hr ?_; (case hd => rfl); (case hg => rfl); (case hr => first | (go_simp; done) | (go_simp; rfl))
      intro aD hg hG hbox hb
      have n_ := o2_ (below_step (oB HB) hb) (o2_ (hbox) (o2_ ((oG hg (below_size (oB HB)) : w.heap.size ≤ aD)) (o1_ ((oG hg (below_size (oB HB)) : w.heap.size ≤ aD)))))
      clear HB
      obtain ⟨HB, aI, aB, aU⟩ := n_
      clear hb hbox hg
      refine hK.out _ _ ⟨((HB.out.cell (World.block_lt_of_cell? w _ hw117_0)).trans hw117_0), ((HB.out.cell (World.block_lt_of_cell? w _ hw117_1)).trans hw117_1), ((HB.out.cell (World.block_lt_of_cell? w _ hw117_2)).trans hw117_2), ((HB.out.cell (World.block_lt_of_cell? w _ hw117_3)).trans hw117_3), ((HB.out.cell (World.block_lt_of_cell? w _ hw117_4)).trans hw117_4), ((HB.out.cell (World.block_lt_of_cell? w _ hw118_0)).trans hw118_0), ((HB.out.cell (World.block_lt_of_cell? w _ hw118_1)).trans hw118_1), ((HB.out.cell (World.block_lt_of_cell? w _ hw118_2)).trans hw118_2), ((HB.out.cell (World.block_lt_of_cell? w _ hw118_3)).trans hw118_3), ((HB.out.cell (World.block_lt_of_cell? w _ hw118_4)).trans hw118_4)⟩ (fun hHeld => ?_)
      clear hK K
      refine norm_ (a' := ?_) ?_ ?_
      rotate_left
      ·show Act.put _ (some 4) _ = _
       exact oT
      refine one_ (i := 6) (N := some 3) #[true, true, true, true, true, true, true, true, false, false] rfl rfl (one_of HT_.out oK) oD (fun K hK => ?_)
      refine box_step ?hg (N := 3) ?hd (cs := #[.int .i64 0, .int .i64 0, .int .i64 0, .int .i64 0, .int .i64 0]) (t := 25) ?hr ?_; (case hd => rfl); (case hg => rfl); (case hr => first | (go_simp; done) | (go_simp; rfl))
      intro aC hg hH hbox hb
      have n_ := o2_ (blk_below (oP aI) hb) (o2_ (below_step (oB HB) hb) (o2_ (hbox) (o2_ ((oG hg (below_size (oB HB)) : w.heap.size ≤ aC)) (o2_ ((oG hg (below_size (oB HB)) : w.heap.size ≤ aC)) (o2_ ((oL hg (blk_lt (oP aI)))) (o1_ ((oN hg (blk_lt (oP aI))))))))))
      clear aI HB
      obtain ⟨aI, HB, aH, aA, aT, aG, aF⟩ := n_
      clear hb hbox hg
      refine hK.out _ _ ⟨((HB.out.cell (World.block_lt_of_cell? w _ hw117_0)).trans hw117_0), ((HB.out.cell (World.block_lt_of_cell? w _ hw117_1)).trans hw117_1), ((HB.out.cell (World.block_lt_of_cell? w _ hw117_2)).trans hw117_2), ((HB.out.cell (World.block_lt_of_cell? w _ hw117_3)).trans hw117_3), ((HB.out.cell (World.block_lt_of_cell? w _ hw117_4)).trans hw117_4), ((HB.out.cell (World.block_lt_of_cell? w _ hw118_0)).trans hw118_0), ((HB.out.cell (World.block_lt_of_cell? w _ hw118_1)).trans hw118_1), ((HB.out.cell (World.block_lt_of_cell? w _ hw118_2)).trans hw118_2), ((HB.out.cell (World.block_lt_of_cell? w _ hw118_3)).trans hw118_3), ((HB.out.cell (World.block_lt_of_cell? w _ hw118_4)).trans hw118_4)⟩ (fun hHeld => ?_)
      clear hK K
      refine norm_ (a' := ?_) ?_ ?_
      rotate_left
      ·show Act.put _ (some 3) _ = _
       exact oT
      exact norm_ (by simp only [putAll, Act.put, List.setIfInBounds_toArray, List.set_cons_zero, List.set_cons_succ]) (hCont (aC, aD) _ ⟨hHeld, (oP aH), (oP aI), aA.out, aT.out, aG.out, aF.out, aB.out, aU.out, (oB HB)⟩)
    rintro ⟨aC, aD⟩ bF ⟨hS_, h0_, h1_, h2_, h3_, h4_, h5_, h6_, h7_, h8_⟩
    have bI : Aside0 (bF.heap[aC]? = some (.cells #[.int .i64 0, .int .i64 0, .int .i64 0, .int .i64 0, .int .i64 0] 25 (0, 0))) := ⟨h0_⟩
    have bJ : Aside0 (bF.heap[aD]? = some (.cells #[.int .i64 0, .int .i64 0, .int .i64 0, .int .i64 0, .int .i64 0] 25 (0, 0))) := ⟨h1_⟩
    have bK : Aside0 (w.heap.size ≤ aC) := ⟨h2_⟩
    have bL : Aside0 (w.heap.size ≤ aC) := ⟨h3_⟩
    have bM : Aside0 (aD ≠ aC) := ⟨h4_⟩
    have bN : Aside0 (aC ≠ aD) := ⟨h5_⟩
    have bO : Aside0 (w.heap.size ≤ aD) := ⟨h6_⟩
    have bP : Aside0 (w.heap.size ≤ aD) := ⟨h7_⟩
    have bQ : Aside0 (Below w.heap.size w bF) := ⟨h8_⟩
    clear HB
    clear h0_ h1_ h2_ h3_ h4_ h5_ h6_ h7_ h8_
    have aH := bI
    have aI := bJ
    have aA := bK
    have aT := bL
    have aG := bM
    have aF := bN
    have aB := bO
    have aU := bP
    have HB := bQ
    clear bI bJ bK bL bM bN bO bP bQ
    have hHeld : bF.cell? aE = some (.int .i64 ((rd_T25 l0 0).f0)) ∧ bF.cell? ⟨aE.block, aE.off + 1, none⟩ = some (.int .i64 ((rd_T25 l0 0).f1)) ∧ bF.cell? ⟨aE.block, aE.off + 2, none⟩ = some (.int .i64 ((rd_T25 l0 0).f2)) ∧ bF.cell? ⟨aE.block, aE.off + 3, none⟩ = some (.int .i64 ((rd_T25 l0 0).f3)) ∧ bF.cell? ⟨aE.block, aE.off + 4, none⟩ = some (.int .i64 ((rd_T25 l0 0).f4)) ∧ bF.cell? ⟨aE.block, aE.off + 5, none⟩ = some (.int .i64 ((rd_T25 l0 1).f0)) ∧ bF.cell? ⟨aE.block, aE.off + 5 + 1, none⟩ = some (.int .i64 ((rd_T25 l0 1).f1)) ∧ bF.cell? ⟨aE.block, aE.off + 5 + 2, none⟩ = some (.int .i64 ((rd_T25 l0 1).f2)) ∧ bF.cell? ⟨aE.block, aE.off + 5 + 3, none⟩ = some (.int .i64 ((rd_T25 l0 1).f3)) ∧ bF.cell? ⟨aE.block, aE.off + 5 + 4, none⟩ = some (.int .i64 ((rd_T25 l0 1).f4)) := hS_
    refine norm_ (a' := ?_) ?_ ?_
    rotate_left
    ·simp only [putAll, Act.put, List.setIfInBounds_toArray, List.set_cons_zero, List.set_cons_succ]
     rfl
    refine one_ (i := 8) (N := none) #[true, true, true, true, true, true, true, true, true, false] rfl rfl (one_of HT_.out oK) oD (fun K hK => ?_)
    have hs98 : bF.cell? ⟨aC, 0, none⟩ = some (.int .i64 0) := (blk_cell aH.out 0).trans rfl
    have hfs98 := blk_frozen aH.out 0
    have hns98_1 := aG.out
    have hms98_1 := aF.out
    have hs99 : bF.cell? ⟨aC, 1, none⟩ = some (.int .i64 0) := (blk_cell aH.out 1).trans rfl
    have hfs99 := blk_frozen aH.out 1
    have hns99_1 := aG.out
    have hms99_1 := aF.out
    have hs100 : bF.cell? ⟨aC, 2, none⟩ = some (.int .i64 0) := (blk_cell aH.out 2).trans rfl
    have hfs100 := blk_frozen aH.out 2
    have hns100_1 := aG.out
    have hms100_1 := aF.out
    have hs101 : bF.cell? ⟨aC, 3, none⟩ = some (.int .i64 0) := (blk_cell aH.out 3).trans rfl
    have hfs101 := blk_frozen aH.out 3
    have hns101_1 := aG.out
    have hms101_1 := aF.out
    have hs102 : bF.cell? ⟨aC, 4, none⟩ = some (.int .i64 0) := (blk_cell aH.out 4).trans rfl
    have hfs102 := blk_frozen aH.out 4
    have hns102_1 := aG.out
    have hms102_1 := aF.out
    refine skip_ (w1 := ?_) (by rfl) rfl ?_ ?_
    rotate_left
    ·go_simp
     rfl
    refine hK.out _ _ ⟨((cell_far (p := ⟨aC, _, none⟩) (oV hw117_0 aA) _).trans (((cell_far (p := ⟨aC, _, none⟩) (oV hw117_0 aA) _).trans (((cell_far (p := ⟨aC, _, none⟩) (oV hw117_0 aA) _).trans (((cell_far (p := ⟨aC, _, none⟩) (oV hw117_0 aA) _).trans (((cell_far (p := ⟨aC, _, none⟩) (oV hw117_0 aA) _).trans (hHeld.1)))))))))), ((cell_far (p := ⟨aC, _, none⟩) (oV hw117_1 aA) _).trans (((cell_far (p := ⟨aC, _, none⟩) (oV hw117_1 aA) _).trans (((cell_far (p := ⟨aC, _, none⟩) (oV hw117_1 aA) _).trans (((cell_far (p := ⟨aC, _, none⟩) (oV hw117_1 aA) _).trans (((cell_far (p := ⟨aC, _, none⟩) (oV hw117_1 aA) _).trans (hHeld.2.1)))))))))), ((cell_far (p := ⟨aC, _, none⟩) (oV hw117_2 aA) _).trans (((cell_far (p := ⟨aC, _, none⟩) (oV hw117_2 aA) _).trans (((cell_far (p := ⟨aC, _, none⟩) (oV hw117_2 aA) _).trans (((cell_far (p := ⟨aC, _, none⟩) (oV hw117_2 aA) _).trans (((cell_far (p := ⟨aC, _, none⟩) (oV hw117_2 aA) _).trans (hHeld.2.2.1)))))))))), ((cell_far (p := ⟨aC, _, none⟩) (oV hw117_3 aA) _).trans (((cell_far (p := ⟨aC, _, none⟩) (oV hw117_3 aA) _).trans (((cell_far (p := ⟨aC, _, none⟩) (oV hw117_3 aA) _).trans (((cell_far (p := ⟨aC, _, none⟩) (oV hw117_3 aA) _).trans (((cell_far (p := ⟨aC, _, none⟩) (oV hw117_3 aA) _).trans (hHeld.2.2.2.1)))))))))), ((cell_far (p := ⟨aC, _, none⟩) (oV hw117_4 aA) _).trans (((cell_far (p := ⟨aC, _, none⟩) (oV hw117_4 aA) _).trans (((cell_far (p := ⟨aC, _, none⟩) (oV hw117_4 aA) _).trans (((cell_far (p := ⟨aC, _, none⟩) (oV hw117_4 aA) _).trans (((cell_far (p := ⟨aC, _, none⟩) (oV hw117_4 aA) _).trans (hHeld.2.2.2.2.1)))))))))), ((cell_far (p := ⟨aC, _, none⟩) (oV hw118_0 aA) _).trans (((cell_far (p := ⟨aC, _, none⟩) (oV hw118_0 aA) _).trans (((cell_far (p := ⟨aC, _, none⟩) (oV hw118_0 aA) _).trans (((cell_far (p := ⟨aC, _, none⟩) (oV hw118_0 aA) _).trans (((cell_far (p := ⟨aC, _, none⟩) (oV hw118_0 aA) _).trans (hHeld.2.2.2.2.2.1)))))))))), ((cell_far (p := ⟨aC, _, none⟩) (oV hw118_1 aA) _).trans (((cell_far (p := ⟨aC, _, none⟩) (oV hw118_1 aA) _).trans (((cell_far (p := ⟨aC, _, none⟩) (oV hw118_1 aA) _).trans (((cell_far (p := ⟨aC, _, none⟩) (oV hw118_1 aA) _).trans (((cell_far (p := ⟨aC, _, none⟩) (oV hw118_1 aA) _).trans (hHeld.2.2.2.2.2.2.1)))))))))), ((cell_far (p := ⟨aC, _, none⟩) (oV hw118_2 aA) _).trans (((cell_far (p := ⟨aC, _, none⟩) (oV hw118_2 aA) _).trans (((cell_far (p := ⟨aC, _, none⟩) (oV hw118_2 aA) _).trans (((cell_far (p := ⟨aC, _, none⟩) (oV hw118_2 aA) _).trans (((cell_far (p := ⟨aC, _, none⟩) (oV hw118_2 aA) _).trans (hHeld.2.2.2.2.2.2.2.1)))))))))), ((cell_far (p := ⟨aC, _, none⟩) (oV hw118_3 aA) _).trans (((cell_far (p := ⟨aC, _, none⟩) (oV hw118_3 aA) _).trans (((cell_far (p := ⟨aC, _, none⟩) (oV hw118_3 aA) _).trans (((cell_far (p := ⟨aC, _, none⟩) (oV hw118_3 aA) _).trans (((cell_far (p := ⟨aC, _, none⟩) (oV hw118_3 aA) _).trans (hHeld.2.2.2.2.2.2.2.2.1)))))))))), ((cell_far (p := ⟨aC, _, none⟩) (oV hw118_4 aA) _).trans (((cell_far (p := ⟨aC, _, none⟩) (oV hw118_4 aA) _).trans (((cell_far (p := ⟨aC, _, none⟩) (oV hw118_4 aA) _).trans (((cell_far (p := ⟨aC, _, none⟩) (oV hw118_4 aA) _).trans (((cell_far (p := ⟨aC, _, none⟩) (oV hw118_4 aA) _).trans (hHeld.2.2.2.2.2.2.2.2.2))))))))))⟩ (fun hHeld => ?_)
    clear hK K
    refine one_ (i := 9) (N := none) #[true, true, true, true, true, true, true, true, true, true] rfl rfl (one_of HT_.out oK) oD (fun K hK => ?_)
    have hs103 : bF.cell? ⟨aD, 0, none⟩ = some (.int .i64 0) := (blk_cell aI.out 0).trans rfl
    have hfs103 := blk_frozen aI.out 0
    have hns103_0 := aF.out
    have hms103_0 := aG.out
    have hs104 : bF.cell? ⟨aD, 1, none⟩ = some (.int .i64 0) := (blk_cell aI.out 1).trans rfl
    have hfs104 := blk_frozen aI.out 1
    have hns104_0 := aF.out
    have hms104_0 := aG.out
    have hs105 : bF.cell? ⟨aD, 2, none⟩ = some (.int .i64 0) := (blk_cell aI.out 2).trans rfl
    have hfs105 := blk_frozen aI.out 2
    have hns105_0 := aF.out
    have hms105_0 := aG.out
    have hs106 : bF.cell? ⟨aD, 3, none⟩ = some (.int .i64 0) := (blk_cell aI.out 3).trans rfl
    have hfs106 := blk_frozen aI.out 3
    have hns106_0 := aF.out
    have hms106_0 := aG.out
    have hs107 : bF.cell? ⟨aD, 4, none⟩ = some (.int .i64 0) := (blk_cell aI.out 4).trans rfl
    have hfs107 := blk_frozen aI.out 4
    have hns107_0 := aF.out
    have hms107_0 := aG.out
    refine skip_ (w1 := ?_) (by rfl) rfl ?_ ?_
    rotate_left
    ·go_simp
     rfl
    refine hK.out _ _ ⟨((cell_far (p := ⟨aD, _, none⟩) (oV hw117_0 aB) _).trans (((cell_far (p := ⟨aD, _, none⟩) (oV hw117_0 aB) _).trans (((cell_far (p := ⟨aD, _, none⟩) (oV hw117_0 aB) _).trans (((cell_far (p := ⟨aD, _, none⟩) (oV hw117_0 aB) _).trans (((cell_far (p := ⟨aD, _, none⟩) (oV hw117_0 aB) _).trans (hHeld.1)))))))))), ((cell_far (p := ⟨aD, _, none⟩) (oV hw117_1 aB) _).trans (((cell_far (p := ⟨aD, _, none⟩) (oV hw117_1 aB) _).trans (((cell_far (p := ⟨aD, _, none⟩) (oV hw117_1 aB) _).trans (((cell_far (p := ⟨aD, _, none⟩) (oV hw117_1 aB) _).trans (((cell_far (p := ⟨aD, _, none⟩) (oV hw117_1 aB) _).trans (hHeld.2.1)))))))))), ((cell_far (p := ⟨aD, _, none⟩) (oV hw117_2 aB) _).trans (((cell_far (p := ⟨aD, _, none⟩) (oV hw117_2 aB) _).trans (((cell_far (p := ⟨aD, _, none⟩) (oV hw117_2 aB) _).trans (((cell_far (p := ⟨aD, _, none⟩) (oV hw117_2 aB) _).trans (((cell_far (p := ⟨aD, _, none⟩) (oV hw117_2 aB) _).trans (hHeld.2.2.1)))))))))), ((cell_far (p := ⟨aD, _, none⟩) (oV hw117_3 aB) _).trans (((cell_far (p := ⟨aD, _, none⟩) (oV hw117_3 aB) _).trans (((cell_far (p := ⟨aD, _, none⟩) (oV hw117_3 aB) _).trans (((cell_far (p := ⟨aD, _, none⟩) (oV hw117_3 aB) _).trans (((cell_far (p := ⟨aD, _, none⟩) (oV hw117_3 aB) _).trans (hHeld.2.2.2.1)))))))))), ((cell_far (p := ⟨aD, _, none⟩) (oV hw117_4 aB) _).trans (((cell_far (p := ⟨aD, _, none⟩) (oV hw117_4 aB) _).trans (((cell_far (p := ⟨aD, _, none⟩) (oV hw117_4 aB) _).trans (((cell_far (p := ⟨aD, _, none⟩) (oV hw117_4 aB) _).trans (((cell_far (p := ⟨aD, _, none⟩) (oV hw117_4 aB) _).trans (hHeld.2.2.2.2.1)))))))))), ((cell_far (p := ⟨aD, _, none⟩) (oV hw118_0 aB) _).trans (((cell_far (p := ⟨aD, _, none⟩) (oV hw118_0 aB) _).trans (((cell_far (p := ⟨aD, _, none⟩) (oV hw118_0 aB) _).trans (((cell_far (p := ⟨aD, _, none⟩) (oV hw118_0 aB) _).trans (((cell_far (p := ⟨aD, _, none⟩) (oV hw118_0 aB) _).trans (hHeld.2.2.2.2.2.1)))))))))), ((cell_far (p := ⟨aD, _, none⟩) (oV hw118_1 aB) _).trans (((cell_far (p := ⟨aD, _, none⟩) (oV hw118_1 aB) _).trans (((cell_far (p := ⟨aD, _, none⟩) (oV hw118_1 aB) _).trans (((cell_far (p := ⟨aD, _, none⟩) (oV hw118_1 aB) _).trans (((cell_far (p := ⟨aD, _, none⟩) (oV hw118_1 aB) _).trans (hHeld.2.2.2.2.2.2.1)))))))))), ((cell_far (p := ⟨aD, _, none⟩) (oV hw118_2 aB) _).trans (((cell_far (p := ⟨aD, _, none⟩) (oV hw118_2 aB) _).trans (((cell_far (p := ⟨aD, _, none⟩) (oV hw118_2 aB) _).trans (((cell_far (p := ⟨aD, _, none⟩) (oV hw118_2 aB) _).trans (((cell_far (p := ⟨aD, _, none⟩) (oV hw118_2 aB) _).trans (hHeld.2.2.2.2.2.2.2.1)))))))))), ((cell_far (p := ⟨aD, _, none⟩) (oV hw118_3 aB) _).trans (((cell_far (p := ⟨aD, _, none⟩) (oV hw118_3 aB) _).trans (((cell_far (p := ⟨aD, _, none⟩) (oV hw118_3 aB) _).trans (((cell_far (p := ⟨aD, _, none⟩) (oV hw118_3 aB) _).trans (((cell_far (p := ⟨aD, _, none⟩) (oV hw118_3 aB) _).trans (hHeld.2.2.2.2.2.2.2.2.1)))))))))), ((cell_far (p := ⟨aD, _, none⟩) (oV hw118_4 aB) _).trans (((cell_far (p := ⟨aD, _, none⟩) (oV hw118_4 aB) _).trans (((cell_far (p := ⟨aD, _, none⟩) (oV hw118_4 aB) _).trans (((cell_far (p := ⟨aD, _, none⟩) (oV hw118_4 aB) _).trans (((cell_far (p := ⟨aD, _, none⟩) (oV hw118_4 aB) _).trans (hHeld.2.2.2.2.2.2.2.2.2))))))))))⟩ (fun hHeld => ?_)
    clear hK K
    refine done_ (done_of HT_.out oK) ?_
    have gF := aF.out
    have gG := aG.out
    have bS : bF.cell? ⟨aC, 0, none⟩ = some (.int .i64 0) := (blk_cell aH.out 0).trans rfl
    have bT : bF.cell? ⟨aC, 1, none⟩ = some (.int .i64 0) := (blk_cell aH.out 1).trans rfl
    have bU : bF.cell? ⟨aC, 2, none⟩ = some (.int .i64 0) := (blk_cell aH.out 2).trans rfl
    have bV : bF.cell? ⟨aC, 3, none⟩ = some (.int .i64 0) := (blk_cell aH.out 3).trans rfl
    have bW : bF.cell? ⟨aC, 4, none⟩ = some (.int .i64 0) := (blk_cell aH.out 4).trans rfl
    have bX := blk_frozen aH.out 0
    have bY := blk_frozen aH.out 1
    have bZ := blk_frozen aH.out 2
    have cA := blk_frozen aH.out 3
    have cB := blk_frozen aH.out 4
    try go_wp2
    go_ret
    exact ⟨by first | rfl | (simp [errW_none, errW_some] <;> rfl) | (simp [*, errW_none, errW_some] <;> rfl), oB HB⟩
  ·rw [if_neg c3] at H
   exact absurd H (by simp)
 ·rw [if_neg c2] at H
  exact absurd H (by simp)

end Go.Proofs.Ytjkaalcocgioaaa.X
