/- What functions of the program come to, each with its proof. No condition but what each theorem states. -/
import Derived.Test.YtjkaalcocgioaaaX0
namespace Go.Proofs.Ytjkaalcocgioaaa.X
open Go.RowKit Go.Proofs.YtjkaalcocgioaaaW.PrintWords Go.Proofs.YtjkaalcocgioaaaW.PrintLast Go.Proofs.YtjkaalcocgioaaaW.PrintMore Go.Proofs.Ytjkaalcocgioaaa.Hyb
attribute [local go_sem] max2_int min2_int max_two min_two max_three min_three max_four min_four
set_option linter.unusedVariables false
set_option linter.unusedSimpArgs false

/-! ### impl_joined: function 41 -/
def impl_joined.f (l0 : List (S25)) : Option ((List (S25))) := if 0 < (l0.length : Int) then (if 1 < (l0.length : Int) then (some (([(⟨1, wrap64 (((rd_T25 l0 0).f1) + ((rd_T25 l0 1).f1)), wrap64 (((rd_T25 l0 0).f2) + ((rd_T25 l0 1).f2)), (rd_T25 l0 1).f3, (rd_T25 l0 1).f4⟩ : S25)] : List (S25)))) else (none)) else (none)
def impl_joined.T1 : Bool × List (List Nat × List Nat) := (true, [([], []), ([0], [0]), ([1], [1]), ([], []), ([3], [3]), ([4], [4]), ([], []), ([], []), ([6, 2, 0, 1, 2, 6, 7], [2, 6]), ([7, 5, 8, 0, 1, 2, 3, 4, 5, 6, 7, 8], [5, 7])])
def impl_joined.B1 : List Nat := [0, 1, 3, 0, 8, 24, 0, 0, 199, 511]
theorem impl_joined.tab1 : rtab .any (opsOf Try.f41 1) = impl_joined.T1 := by kernel_rfl
theorem impl_joined.bits1 : waitsOk impl_joined.T1.2 impl_joined.B1 = true := by kernel_rfl
set_option maxHeartbeats 8000000 in
set_option maxRecDepth 100000 in
theorem impl_joined.calls (A0 : Option Addr) (c0 : Nat) (l0 : List (S25)) (r : List (S25)) (w : World) (hr0 : Kd.C k25 w A0 l0.length l0) (bZ : l0.length ≤ c0) (h : impl_joined.f l0 = some r) :
  Calls Try.prog 41 #[.slice A0 l0.length c0] w fun e w' => ∃ cL : Value, e = .returned (cL) ∧ Kd.R k25 25 w' w.heap.size (fun _ => True) cL r ∧ Below w.heap.size w w' := by
 have hu25 := Try.underlying25
 have bY := Aside0.mk hr0
 have cR := Aside0.mk bZ
 clear hr0 bZ
 have HB := Aside0.mk (Below.refl w.heap.size w)
 have H : (if 0 < (l0.length : Int) then (if 1 < (l0.length : Int) then (some (([(⟨1, wrap64 (((rd_T25 l0 0).f1) + ((rd_T25 l0 1).f1)), wrap64 (((rd_T25 l0 0).f2) + ((rd_T25 l0 1).f2)), (rd_T25 l0 1).f3, (rd_T25 l0 1).f4⟩ : S25)] : List (S25)))) else (none)) else (none)) = some r := h
 clear h
 by_cases c2 : 0 < (l0.length : Int)
 ·rw [if_pos c2] at H
  have cM : decide (0 < (l0.length : Int)) = true := decide_eq_true c2
  have cN : decide (0 < l0.length) = true := decide_eq_true (by omega)
  clear c2
  by_cases c3 : 1 < (l0.length : Int)
  ·rw [if_pos c3] at H
   have cO : decide (1 < (l0.length : Int)) = true := decide_eq_true c3
   have cP : decide (1 < l0.length) = true := decide_eq_true (by omega)
   clear c3
   obtain ⟨y125, hy125⟩ : ∃ y_ : List (S25), y_ = (([(⟨1, wrap64 (((rd_T25 l0 0).f1) + ((rd_T25 l0 1).f1)), wrap64 (((rd_T25 l0 0).f2) + ((rd_T25 l0 1).f2)), (rd_T25 l0 1).f3, (rd_T25 l0 1).f4⟩ : S25)] : List (S25))) := ⟨_, rfl⟩
   replace H : (some y125) = some r := by first | (rw [hy125]; with_reducible exact H) | (have H2_ := (Option.bind_some _ _).symm.trans H; rw [hy125]; with_reducible exact H2_) | (have H2_ := (Option.bind_some _ _).symm.trans H; with_reducible exact H2_) | with_reducible exact H | (rw [hy125]; exact H) | exact H
   have aV := Aside0.mk hy125
   clear hy125
   obtain rfl := Option.some.inj H
   go_enter Try.func41, Try.ntmps41
   try go_wp2
   replace HB := o1_ (below_drew1 HB.out)
   have aW : 0 ≤ (0 : Int) := (by omega)
   have aY : 0 < (l0.length : Int) := of_decide_eq_true oM
   obtain ⟨aE, bW, aJ, aK, aL, aM, aN⟩ := at_T25 bY.out 0 aW aY
   have hw121_4 := aN
   (try rw [show ((0 : Int)).toNat = 0 from rfl] at hw121_4)
   (try rw [show 0 * 5 = 0 from rfl] at hw121_4)
   (try rw [Addr.add_zero'] at hw121_4)
   have hw121_3 := aM
   (try rw [show ((0 : Int)).toNat = 0 from rfl] at hw121_3)
   (try rw [show 0 * 5 = 0 from rfl] at hw121_3)
   (try rw [Addr.add_zero'] at hw121_3)
   have hw121_2 := aL
   (try rw [show ((0 : Int)).toNat = 0 from rfl] at hw121_2)
   (try rw [show 0 * 5 = 0 from rfl] at hw121_2)
   (try rw [Addr.add_zero'] at hw121_2)
   have hw121_1 := aK
   (try rw [show ((0 : Int)).toNat = 0 from rfl] at hw121_1)
   (try rw [show 0 * 5 = 0 from rfl] at hw121_1)
   (try rw [Addr.add_zero'] at hw121_1)
   have hw121_0 := aJ
   (try rw [show ((0 : Int)).toNat = 0 from rfl] at hw121_0)
   (try rw [show 0 * 5 = 0 from rfl] at hw121_0)
   (try rw [Addr.add_zero'] at hw121_0)
   cases bW
   have qi121 : (0 < l0.length) = True := eq_true (by omega)
   (try rw [show ((0 : Int)).toNat = 0 from rfl] at aJ)
   (try rw [show 0 * 5 = 0 from rfl] at aJ)
   (try rw [Addr.add_zero'] at aJ)
   (try rw [show ((0 : Int)).toNat = 0 from rfl] at aK)
   (try rw [show 0 * 5 = 0 from rfl] at aK)
   (try rw [Addr.add_zero'] at aK)
   (try rw [show ((0 : Int)).toNat = 0 from rfl] at aL)
   (try rw [show 0 * 5 = 0 from rfl] at aL)
   (try rw [Addr.add_zero'] at aL)
   (try rw [show ((0 : Int)).toNat = 0 from rfl] at aM)
   (try rw [show 0 * 5 = 0 from rfl] at aM)
   (try rw [Addr.add_zero'] at aM)
   (try rw [show ((0 : Int)).toNat = 0 from rfl] at aN)
   (try rw [show 0 * 5 = 0 from rfl] at aN)
   (try rw [Addr.add_zero'] at aN)
   replace aJ := (HB.out.cell (World.block_lt_of_cell? w _ aJ)).trans aJ
   replace aK := (HB.out.cell (World.block_lt_of_cell? w _ aK)).trans aK
   replace aL := (HB.out.cell (World.block_lt_of_cell? w _ aL)).trans aL
   replace aM := (HB.out.cell (World.block_lt_of_cell? w _ aM)).trans aM
   replace aN := (HB.out.cell (World.block_lt_of_cell? w _ aN)).trans aN
   replace aW := eq_true aW
   replace aY := eq_true aY
   have aX : 0 ≤ (1 : Int) := (by omega)
   have aZ : 1 < (l0.length : Int) := of_decide_eq_true oM
   obtain ⟨bB, bX, aO, aP, aQ, aR, aS⟩ := at_T25 bY.out 1 aX aZ
   have hw122_4 := aS
   (try rw [show ((1 : Int)).toNat = 1 from rfl] at hw122_4)
   (try rw [show 1 * 5 = 5 from rfl] at hw122_4)
   (try simp only [Nat.reduceMul, Nat.reduceEqDiff, Go.Addr.add, ↓reduceIte] at hw122_4)
   have hw122_3 := aR
   (try rw [show ((1 : Int)).toNat = 1 from rfl] at hw122_3)
   (try rw [show 1 * 5 = 5 from rfl] at hw122_3)
   (try simp only [Nat.reduceMul, Nat.reduceEqDiff, Go.Addr.add, ↓reduceIte] at hw122_3)
   have hw122_2 := aQ
   (try rw [show ((1 : Int)).toNat = 1 from rfl] at hw122_2)
   (try rw [show 1 * 5 = 5 from rfl] at hw122_2)
   (try simp only [Nat.reduceMul, Nat.reduceEqDiff, Go.Addr.add, ↓reduceIte] at hw122_2)
   have hw122_1 := aP
   (try rw [show ((1 : Int)).toNat = 1 from rfl] at hw122_1)
   (try rw [show 1 * 5 = 5 from rfl] at hw122_1)
   (try simp only [Nat.reduceMul, Nat.reduceEqDiff, Go.Addr.add, ↓reduceIte] at hw122_1)
   have hw122_0 := aO
   (try rw [show ((1 : Int)).toNat = 1 from rfl] at hw122_0)
   (try rw [show 1 * 5 = 5 from rfl] at hw122_0)
   (try simp only [Nat.reduceMul, Nat.reduceEqDiff, Go.Addr.add, ↓reduceIte] at hw122_0)
   obtain rfl : aE = bB := (by injection bX)
   (try simp only [show (1 : Int).toNat = 1 from rfl, Nat.reduceMul, Nat.reduceEqDiff, Go.Addr.add, ↓reduceIte] at aO)
   (try simp only [show (1 : Int).toNat = 1 from rfl, Nat.reduceMul, Nat.reduceEqDiff, Go.Addr.add, ↓reduceIte] at aP)
   (try simp only [show (1 : Int).toNat = 1 from rfl, Nat.reduceMul, Nat.reduceEqDiff, Go.Addr.add, ↓reduceIte] at aQ)
   (try simp only [show (1 : Int).toNat = 1 from rfl, Nat.reduceMul, Nat.reduceEqDiff, Go.Addr.add, ↓reduceIte] at aR)
   (try simp only [show (1 : Int).toNat = 1 from rfl, Nat.reduceMul, Nat.reduceEqDiff, Go.Addr.add, ↓reduceIte] at aS)
   have qi122 : (1 < l0.length) = True := eq_true (by omega)
   (try rw [show ((1 : Int)).toNat = 1 from rfl] at aO)
   (try rw [show 1 * 5 = 5 from rfl] at aO)
   (try rw [show ((1 : Int)).toNat = 1 from rfl] at aP)
   (try rw [show 1 * 5 = 5 from rfl] at aP)
   (try rw [show ((1 : Int)).toNat = 1 from rfl] at aQ)
   (try rw [show 1 * 5 = 5 from rfl] at aQ)
   (try rw [show ((1 : Int)).toNat = 1 from rfl] at aR)
   (try rw [show 1 * 5 = 5 from rfl] at aR)
   (try rw [show ((1 : Int)).toNat = 1 from rfl] at aS)
   (try rw [show 1 * 5 = 5 from rfl] at aS)
   replace aO := (HB.out.cell (World.block_lt_of_cell? w _ aO)).trans aO
   replace aP := (HB.out.cell (World.block_lt_of_cell? w _ aP)).trans aP
   replace aQ := (HB.out.cell (World.block_lt_of_cell? w _ aQ)).trans aQ
   replace aR := (HB.out.cell (World.block_lt_of_cell? w _ aR)).trans aR
   replace aS := (HB.out.cell (World.block_lt_of_cell? w _ aS)).trans aS
   replace aX := eq_true aX
   replace aZ := eq_true aZ
   refine start_ (n := 10) (S := fun w' => w'.cell? aE = some (.int .i64 ((rd_T25 l0 0).f0)) ∧ w'.cell? ⟨aE.block, aE.off + 1, none⟩ = some (.int .i64 ((rd_T25 l0 0).f1)) ∧ w'.cell? ⟨aE.block, aE.off + 2, none⟩ = some (.int .i64 ((rd_T25 l0 0).f2)) ∧ w'.cell? ⟨aE.block, aE.off + 3, none⟩ = some (.int .i64 ((rd_T25 l0 0).f3)) ∧ w'.cell? ⟨aE.block, aE.off + 4, none⟩ = some (.int .i64 ((rd_T25 l0 0).f4)) ∧ w'.cell? ⟨aE.block, aE.off + 5, none⟩ = some (.int .i64 ((rd_T25 l0 1).f0)) ∧ w'.cell? ⟨aE.block, aE.off + 5 + 1, none⟩ = some (.int .i64 ((rd_T25 l0 1).f1)) ∧ w'.cell? ⟨aE.block, aE.off + 5 + 2, none⟩ = some (.int .i64 ((rd_T25 l0 1).f2)) ∧ w'.cell? ⟨aE.block, aE.off + 5 + 3, none⟩ = some (.int .i64 ((rd_T25 l0 1).f3)) ∧ w'.cell? ⟨aE.block, aE.off + 5 + 4, none⟩ = some (.int .i64 ((rd_T25 l0 1).f4))) (ds := []) #[false, false, false, false, false, false, false, false, false, false] oK rfl rfl ⟨((HB.out.cell (World.block_lt_of_cell? w _ hw121_0)).trans hw121_0), ((HB.out.cell (World.block_lt_of_cell? w _ hw121_1)).trans hw121_1), ((HB.out.cell (World.block_lt_of_cell? w _ hw121_2)).trans hw121_2), ((HB.out.cell (World.block_lt_of_cell? w _ hw121_3)).trans hw121_3), ((HB.out.cell (World.block_lt_of_cell? w _ hw121_4)).trans hw121_4), ((HB.out.cell (World.block_lt_of_cell? w _ hw122_0)).trans hw122_0), ((HB.out.cell (World.block_lt_of_cell? w _ hw122_1)).trans hw122_1), ((HB.out.cell (World.block_lt_of_cell? w _ hw122_2)).trans hw122_2), ((HB.out.cell (World.block_lt_of_cell? w _ hw122_3)).trans hw122_3), ((HB.out.cell (World.block_lt_of_cell? w _ hw122_4)).trans hw122_4)⟩ (fun hHeld => ?_); refine with_tabW impl_joined.tab1 impl_joined.bits1 (fun HT_ HW_ => ?_)
   generalize w.drew = w4 at HB aJ aK aL aM aN aO aP aQ aR aS hHeld ⊢
   refine pure_ (i := 0) (N := some 5) (v := ?_) (a' := ?_) #[true, false, false, false, false, false, false, false, false, false] rfl rfl (any_of HT_.out oK) (fun _ _ _ h => h) (Or.inl ⟨by rfl, ?_⟩) ?_ ?_
   rotate_left
   ·intro w'
    go_simp
    with_reducible rfl
   rotate_left
   ·exact oT
   refine pure_ (i := 1) (N := some 6) (v := ?_) (a' := ?_) #[true, true, false, false, false, false, false, false, false, false] rfl rfl (any_of HT_.out oK) (fun _ _ _ h => h) (Or.inl ⟨by rfl, ?_⟩) ?_ ?_
   rotate_left
   ·intro w'
    go_simp
    with_reducible rfl
   rotate_left
   ·exact oT
   refine pure_ (i := 3) (N := some 8) (v := ?_) (a' := ?_) #[true, true, false, true, false, false, false, false, false, false] rfl rfl (any_of HT_.out oK) (fun _ _ _ h => h) (Or.inl ⟨by rfl, ?_⟩) ?_ ?_
   rotate_left
   ·intro w'
    go_simp
    with_reducible rfl
   rotate_left
   ·exact oT
   refine pure_ (i := 4) (N := some 9) (v := ?_) (a' := ?_) #[true, true, false, true, true, false, false, false, false, false] rfl rfl (any_of HT_.out oK) (fun _ _ _ h => h) (Or.inl ⟨by rfl, ?_⟩) ?_ ?_
   rotate_left
   ·intro w'
    go_simp
    with_reducible rfl
   rotate_left
   ·exact oT
   refine take_ (i := 2) (N := some 7) (v := ?_) (a' := ?_) #[true, true, true, true, true, false, false, false, false, false] rfl rfl (take_ofW HT_.out HW_.out oK) (fun _ _ _ h => h) (Or.inl ⟨by rfl, ?_⟩) hHeld ?_ ?_
   rotate_left
   ·rintro w' ⟨s0, s1, s2, s3, s4, s5, s6, s7, s8, s9⟩
    go_simp
    with_reducible rfl
   rotate_left
   ·exact oT
   refine take_ (i := 5) (N := some 10) (v := ?_) (a' := ?_) #[true, true, true, true, true, true, false, false, false, false] rfl rfl (take_ofW HT_.out HW_.out oK) (fun _ _ _ h => h) (Or.inl ⟨by rfl, ?_⟩) hHeld ?_ ?_
   rotate_left
   ·rintro w' ⟨s0, s1, s2, s3, s4, s5, s6, s7, s8, s9⟩
    go_simp
    with_reducible rfl
   rotate_left
   ·exact oT
   refine join_ (σ := Nat × Nat) 2 #[true, true, true, true, true, true, true, true, false, false] (fun s_ => [(3, .pointer (some ⟨s_.1, 0, none⟩)), (4, .pointer (some ⟨s_.2, 0, none⟩))]) (fun s_ w' => (w'.cell? aE = some (.int .i64 ((rd_T25 l0 0).f0)) ∧ w'.cell? ⟨aE.block, aE.off + 1, none⟩ = some (.int .i64 ((rd_T25 l0 0).f1)) ∧ w'.cell? ⟨aE.block, aE.off + 2, none⟩ = some (.int .i64 ((rd_T25 l0 0).f2)) ∧ w'.cell? ⟨aE.block, aE.off + 3, none⟩ = some (.int .i64 ((rd_T25 l0 0).f3)) ∧ w'.cell? ⟨aE.block, aE.off + 4, none⟩ = some (.int .i64 ((rd_T25 l0 0).f4)) ∧ w'.cell? ⟨aE.block, aE.off + 5, none⟩ = some (.int .i64 ((rd_T25 l0 1).f0)) ∧ w'.cell? ⟨aE.block, aE.off + 5 + 1, none⟩ = some (.int .i64 ((rd_T25 l0 1).f1)) ∧ w'.cell? ⟨aE.block, aE.off + 5 + 2, none⟩ = some (.int .i64 ((rd_T25 l0 1).f2)) ∧ w'.cell? ⟨aE.block, aE.off + 5 + 3, none⟩ = some (.int .i64 ((rd_T25 l0 1).f3)) ∧ w'.cell? ⟨aE.block, aE.off + 5 + 4, none⟩ = some (.int .i64 ((rd_T25 l0 1).f4))) ∧ (w'.heap[s_.1]? = some (.cells #[.int .i64 0, .int .i64 0, .int .i64 0, .int .i64 0, .int .i64 0] 25 (0, 0))) ∧ (w'.heap[s_.2]? = some (.cells #[.int .i64 0, .int .i64 0, .int .i64 0, .int .i64 0, .int .i64 0] 25 (0, 0))) ∧ (w.heap.size ≤ s_.1) ∧ (w.heap.size ≤ s_.1) ∧ (s_.2 ≠ s_.1) ∧ (s_.1 ≠ s_.2) ∧ (w.heap.size ≤ s_.2) ∧ (w.heap.size ≤ s_.2) ∧ (Below w.heap.size w w')) ?_ ?_
   rotate_left
   ·intro hCont
    refine two_ (i := 6) (j := 7) (Ni := some 3) (Nj := some 4) #[true, true, true, true, true, true, true, false, false, false] #[true, true, true, true, true, true, false, true, false, false] rfl rfl rfl rfl (two_of HT_.out oK) oD oD (fun K hK => ?_) (fun K hK => ?_)
    ·skip
     refine box_step ?hg (N := 3) ?hd (cs := #[.int .i64 0, .int .i64 0, .int .i64 0, .int .i64 0, .int .i64 0]) (t := 25) ?hr ?_; (case hd => rfl); (case hg => rfl); (case hr => first | (go_simp; done) | (go_simp; rfl))
     intro aC hg w5 hbox hb
     have n_ := o2_ (below_step (oB HB) hb) (o2_ (hbox) (o2_ ((oG hg (below_size (oB HB)) : w.heap.size ≤ aC)) (o1_ ((oG hg (below_size (oB HB)) : w.heap.size ≤ aC)))))
     clear HB
     obtain ⟨HB, aH, aA, aT⟩ := n_
     clear hb hbox hg
     refine hK.out _ _ ⟨((HB.out.cell (World.block_lt_of_cell? w _ hw121_0)).trans hw121_0), ((HB.out.cell (World.block_lt_of_cell? w _ hw121_1)).trans hw121_1), ((HB.out.cell (World.block_lt_of_cell? w _ hw121_2)).trans hw121_2), ((HB.out.cell (World.block_lt_of_cell? w _ hw121_3)).trans hw121_3), ((HB.out.cell (World.block_lt_of_cell? w _ hw121_4)).trans hw121_4), ((HB.out.cell (World.block_lt_of_cell? w _ hw122_0)).trans hw122_0), ((HB.out.cell (World.block_lt_of_cell? w _ hw122_1)).trans hw122_1), ((HB.out.cell (World.block_lt_of_cell? w _ hw122_2)).trans hw122_2), ((HB.out.cell (World.block_lt_of_cell? w _ hw122_3)).trans hw122_3), ((HB.out.cell (World.block_lt_of_cell? w _ hw122_4)).trans hw122_4)⟩ (fun hHeld => ?_)
     clear hK K
     refine norm_ (a' := ?_) ?_ ?_
     rotate_left
     ·show Act.put _ (some 3) _ = _
      exact oT
     refine one_ (i := 7) (N := some 4) #[true, true, true, true, true, true, true, true, false, false] rfl rfl (one_of HT_.out oK) oD (fun K hK => ?_)
     refine box_step ?hg (N := 4) ?hd (cs := #[.int .i64 0, .int .i64 0, .int .i64 0, .int .i64 0, .int .i64 0]) (t := 25) ?hr ?_; (case hd => rfl); (case hg => rfl); (case hr => first | (go_simp; done) | (go_simp; rfl))
     intro aD hg w6 hbox hb
     have n_ := o2_ (blk_below (oP aH) hb) (o2_ (below_step (oB HB) hb) (o2_ (hbox) (o2_ ((oG hg (below_size (oB HB)) : w.heap.size ≤ aD)) (o2_ ((oG hg (below_size (oB HB)) : w.heap.size ≤ aD)) (o2_ ((oL hg (blk_lt (oP aH)))) (o1_ ((oN hg (blk_lt (oP aH))))))))))
     clear aH HB
     obtain ⟨aH, HB, aI, aB, aU, aF, aG⟩ := n_
     clear hb hbox hg
     refine hK.out _ _ ⟨((HB.out.cell (World.block_lt_of_cell? w _ hw121_0)).trans hw121_0), ((HB.out.cell (World.block_lt_of_cell? w _ hw121_1)).trans hw121_1), ((HB.out.cell (World.block_lt_of_cell? w _ hw121_2)).trans hw121_2), ((HB.out.cell (World.block_lt_of_cell? w _ hw121_3)).trans hw121_3), ((HB.out.cell (World.block_lt_of_cell? w _ hw121_4)).trans hw121_4), ((HB.out.cell (World.block_lt_of_cell? w _ hw122_0)).trans hw122_0), ((HB.out.cell (World.block_lt_of_cell? w _ hw122_1)).trans hw122_1), ((HB.out.cell (World.block_lt_of_cell? w _ hw122_2)).trans hw122_2), ((HB.out.cell (World.block_lt_of_cell? w _ hw122_3)).trans hw122_3), ((HB.out.cell (World.block_lt_of_cell? w _ hw122_4)).trans hw122_4)⟩ (fun hHeld => ?_)
     clear hK K
     refine norm_ (a' := ?_) ?_ ?_
     rotate_left
     ·show Act.put _ (some 4) _ = _
      exact oT
     exact norm_ (by simp only [putAll, Act.put, List.setIfInBounds_toArray, List.set_cons_zero, List.set_cons_succ]) (hCont (aC, aD) _ ⟨hHeld, (oP aH), (oP aI), aA.out, aT.out, aG.out, aF.out, aB.out, aU.out, (oB HB)⟩)
    ·skip
     refine box_step ?hg (N := 4) ?hd (cs := #[.int .i64 0, .int .i64 0, .int .i64 0, .int .i64 0, .int .i64 0]) (t := 25) ?hr ?_; (case hd => rfl); (case hg => rfl); (case hr => first | (go_simp; done) | (go_simp; rfl))
     intro aD hg w5 hbox hb
     have n_ := o2_ (below_step (oB HB) hb) (o2_ (hbox) (o2_ ((oG hg (below_size (oB HB)) : w.heap.size ≤ aD)) (o1_ ((oG hg (below_size (oB HB)) : w.heap.size ≤ aD)))))
     clear HB
     obtain ⟨HB, aI, aB, aU⟩ := n_
     clear hb hbox hg
     refine hK.out _ _ ⟨((HB.out.cell (World.block_lt_of_cell? w _ hw121_0)).trans hw121_0), ((HB.out.cell (World.block_lt_of_cell? w _ hw121_1)).trans hw121_1), ((HB.out.cell (World.block_lt_of_cell? w _ hw121_2)).trans hw121_2), ((HB.out.cell (World.block_lt_of_cell? w _ hw121_3)).trans hw121_3), ((HB.out.cell (World.block_lt_of_cell? w _ hw121_4)).trans hw121_4), ((HB.out.cell (World.block_lt_of_cell? w _ hw122_0)).trans hw122_0), ((HB.out.cell (World.block_lt_of_cell? w _ hw122_1)).trans hw122_1), ((HB.out.cell (World.block_lt_of_cell? w _ hw122_2)).trans hw122_2), ((HB.out.cell (World.block_lt_of_cell? w _ hw122_3)).trans hw122_3), ((HB.out.cell (World.block_lt_of_cell? w _ hw122_4)).trans hw122_4)⟩ (fun hHeld => ?_)
     clear hK K
     refine norm_ (a' := ?_) ?_ ?_
     rotate_left
     ·show Act.put _ (some 4) _ = _
      exact oT
     refine one_ (i := 6) (N := some 3) #[true, true, true, true, true, true, true, true, false, false] rfl rfl (one_of HT_.out oK) oD (fun K hK => ?_)
     refine box_step ?hg (N := 3) ?hd (cs := #[.int .i64 0, .int .i64 0, .int .i64 0, .int .i64 0, .int .i64 0]) (t := 25) ?hr ?_; (case hd => rfl); (case hg => rfl); (case hr => first | (go_simp; done) | (go_simp; rfl))
     intro aC hg w6 hbox hb
     have n_ := o2_ (blk_below (oP aI) hb) (o2_ (below_step (oB HB) hb) (o2_ (hbox) (o2_ ((oG hg (below_size (oB HB)) : w.heap.size ≤ aC)) (o2_ ((oG hg (below_size (oB HB)) : w.heap.size ≤ aC)) (o2_ ((oL hg (blk_lt (oP aI)))) (o1_ ((oN hg (blk_lt (oP aI))))))))))
     clear aI HB
     obtain ⟨aI, HB, aH, aA, aT, aG, aF⟩ := n_
     clear hb hbox hg
     refine hK.out _ _ ⟨((HB.out.cell (World.block_lt_of_cell? w _ hw121_0)).trans hw121_0), ((HB.out.cell (World.block_lt_of_cell? w _ hw121_1)).trans hw121_1), ((HB.out.cell (World.block_lt_of_cell? w _ hw121_2)).trans hw121_2), ((HB.out.cell (World.block_lt_of_cell? w _ hw121_3)).trans hw121_3), ((HB.out.cell (World.block_lt_of_cell? w _ hw121_4)).trans hw121_4), ((HB.out.cell (World.block_lt_of_cell? w _ hw122_0)).trans hw122_0), ((HB.out.cell (World.block_lt_of_cell? w _ hw122_1)).trans hw122_1), ((HB.out.cell (World.block_lt_of_cell? w _ hw122_2)).trans hw122_2), ((HB.out.cell (World.block_lt_of_cell? w _ hw122_3)).trans hw122_3), ((HB.out.cell (World.block_lt_of_cell? w _ hw122_4)).trans hw122_4)⟩ (fun hHeld => ?_)
     clear hK K
     refine norm_ (a' := ?_) ?_ ?_
     rotate_left
     ·show Act.put _ (some 3) _ = _
      exact oT
     exact norm_ (by simp only [putAll, Act.put, List.setIfInBounds_toArray, List.set_cons_zero, List.set_cons_succ]) (hCont (aC, aD) _ ⟨hHeld, (oP aH), (oP aI), aA.out, aT.out, aG.out, aF.out, aB.out, aU.out, (oB HB)⟩)
   rintro ⟨aC, aD⟩ w7 ⟨hS_, h0_, h1_, h2_, h3_, h4_, h5_, h6_, h7_, h8_⟩
   have cC : Aside0 (w7.heap[aC]? = some (.cells #[.int .i64 0, .int .i64 0, .int .i64 0, .int .i64 0, .int .i64 0] 25 (0, 0))) := ⟨h0_⟩
   have cD : Aside0 (w7.heap[aD]? = some (.cells #[.int .i64 0, .int .i64 0, .int .i64 0, .int .i64 0, .int .i64 0] 25 (0, 0))) := ⟨h1_⟩
   have cE : Aside0 (w.heap.size ≤ aC) := ⟨h2_⟩
   have cF : Aside0 (w.heap.size ≤ aC) := ⟨h3_⟩
   have cG : Aside0 (aD ≠ aC) := ⟨h4_⟩
   have cH : Aside0 (aC ≠ aD) := ⟨h5_⟩
   have cI : Aside0 (w.heap.size ≤ aD) := ⟨h6_⟩
   have cJ : Aside0 (w.heap.size ≤ aD) := ⟨h7_⟩
   have cK : Aside0 (Below w.heap.size w w7) := ⟨h8_⟩
   clear HB
   clear h0_ h1_ h2_ h3_ h4_ h5_ h6_ h7_ h8_
   have aH := cC
   have aI := cD
   have aA := cE
   have aT := cF
   have aG := cG
   have aF := cH
   have aB := cI
   have aU := cJ
   have HB := cK
   clear cC cD cE cF cG cH cI cJ cK
   have hHeld : w7.cell? aE = some (.int .i64 ((rd_T25 l0 0).f0)) ∧ w7.cell? ⟨aE.block, aE.off + 1, none⟩ = some (.int .i64 ((rd_T25 l0 0).f1)) ∧ w7.cell? ⟨aE.block, aE.off + 2, none⟩ = some (.int .i64 ((rd_T25 l0 0).f2)) ∧ w7.cell? ⟨aE.block, aE.off + 3, none⟩ = some (.int .i64 ((rd_T25 l0 0).f3)) ∧ w7.cell? ⟨aE.block, aE.off + 4, none⟩ = some (.int .i64 ((rd_T25 l0 0).f4)) ∧ w7.cell? ⟨aE.block, aE.off + 5, none⟩ = some (.int .i64 ((rd_T25 l0 1).f0)) ∧ w7.cell? ⟨aE.block, aE.off + 5 + 1, none⟩ = some (.int .i64 ((rd_T25 l0 1).f1)) ∧ w7.cell? ⟨aE.block, aE.off + 5 + 2, none⟩ = some (.int .i64 ((rd_T25 l0 1).f2)) ∧ w7.cell? ⟨aE.block, aE.off + 5 + 3, none⟩ = some (.int .i64 ((rd_T25 l0 1).f3)) ∧ w7.cell? ⟨aE.block, aE.off + 5 + 4, none⟩ = some (.int .i64 ((rd_T25 l0 1).f4)) := hS_
   refine norm_ (a' := ?_) ?_ ?_
   rotate_left
   ·simp only [putAll, Act.put, List.setIfInBounds_toArray, List.set_cons_zero, List.set_cons_succ]
    rfl
   refine one_ (i := 8) (N := none) #[true, true, true, true, true, true, true, true, true, false] rfl rfl (one_of HT_.out oK) oD (fun K hK => ?_)
   have hs8 : w7.cell? ⟨aC, 0, none⟩ = some (.int .i64 0) := (blk_cell aH.out 0).trans rfl
   have hfs8 := blk_frozen aH.out 0
   have hns8_1 := aG.out
   have hms8_1 := aF.out
   have hs9 : w7.cell? ⟨aC, 1, none⟩ = some (.int .i64 0) := (blk_cell aH.out 1).trans rfl
   have hfs9 := blk_frozen aH.out 1
   have hns9_1 := aG.out
   have hms9_1 := aF.out
   have hs10 : w7.cell? ⟨aC, 2, none⟩ = some (.int .i64 0) := (blk_cell aH.out 2).trans rfl
   have hfs10 := blk_frozen aH.out 2
   have hns10_1 := aG.out
   have hms10_1 := aF.out
   have hs11 : w7.cell? ⟨aC, 3, none⟩ = some (.int .i64 0) := (blk_cell aH.out 3).trans rfl
   have hfs11 := blk_frozen aH.out 3
   have hns11_1 := aG.out
   have hms11_1 := aF.out
   have hs12 : w7.cell? ⟨aC, 4, none⟩ = some (.int .i64 0) := (blk_cell aH.out 4).trans rfl
   have hfs12 := blk_frozen aH.out 4
   have hns12_1 := aG.out
   have hms12_1 := aF.out
   refine skip_ (w1 := ?_) (by rfl) rfl ?_ ?_
   rotate_left
   ·go_simp
    rfl
   refine hK.out _ _ ⟨((cell_far (p := ⟨aC, _, none⟩) (by first | exact Nat.ne_of_lt (oW hw121_0 aA) | (rw [add_block]; exact Nat.ne_of_lt (oW hw121_0 aA)) | (show (Addr.add _ _).block ≠ _; rw [add_block]; exact Nat.ne_of_lt (oW hw121_0 aA)) | (dsimp only; exact Nat.ne_of_lt (oW hw121_0 aA))) _).trans (((cell_far (p := ⟨aC, _, none⟩) (by first | exact Nat.ne_of_lt (oW hw121_0 aA) | (rw [add_block]; exact Nat.ne_of_lt (oW hw121_0 aA)) | (show (Addr.add _ _).block ≠ _; rw [add_block]; exact Nat.ne_of_lt (oW hw121_0 aA)) | (dsimp only; exact Nat.ne_of_lt (oW hw121_0 aA))) _).trans (((cell_far (p := ⟨aC, _, none⟩) (by first | exact Nat.ne_of_lt (oW hw121_0 aA) | (rw [add_block]; exact Nat.ne_of_lt (oW hw121_0 aA)) | (show (Addr.add _ _).block ≠ _; rw [add_block]; exact Nat.ne_of_lt (oW hw121_0 aA)) | (dsimp only; exact Nat.ne_of_lt (oW hw121_0 aA))) _).trans (((cell_far (p := ⟨aC, _, none⟩) (by first | exact Nat.ne_of_lt (oW hw121_0 aA) | (rw [add_block]; exact Nat.ne_of_lt (oW hw121_0 aA)) | (show (Addr.add _ _).block ≠ _; rw [add_block]; exact Nat.ne_of_lt (oW hw121_0 aA)) | (dsimp only; exact Nat.ne_of_lt (oW hw121_0 aA))) _).trans (((cell_far (p := ⟨aC, _, none⟩) (by first | exact Nat.ne_of_lt (oW hw121_0 aA) | (rw [add_block]; exact Nat.ne_of_lt (oW hw121_0 aA)) | (show (Addr.add _ _).block ≠ _; rw [add_block]; exact Nat.ne_of_lt (oW hw121_0 aA)) | (dsimp only; exact Nat.ne_of_lt (oW hw121_0 aA))) _).trans (hHeld.1)))))))))), ((cell_far (p := ⟨aC, _, none⟩) (by first | exact Nat.ne_of_lt (oW hw121_1 aA) | (rw [add_block]; exact Nat.ne_of_lt (oW hw121_1 aA)) | (show (Addr.add _ _).block ≠ _; rw [add_block]; exact Nat.ne_of_lt (oW hw121_1 aA)) | (dsimp only; exact Nat.ne_of_lt (oW hw121_1 aA))) _).trans (((cell_far (p := ⟨aC, _, none⟩) (by first | exact Nat.ne_of_lt (oW hw121_1 aA) | (rw [add_block]; exact Nat.ne_of_lt (oW hw121_1 aA)) | (show (Addr.add _ _).block ≠ _; rw [add_block]; exact Nat.ne_of_lt (oW hw121_1 aA)) | (dsimp only; exact Nat.ne_of_lt (oW hw121_1 aA))) _).trans (((cell_far (p := ⟨aC, _, none⟩) (by first | exact Nat.ne_of_lt (oW hw121_1 aA) | (rw [add_block]; exact Nat.ne_of_lt (oW hw121_1 aA)) | (show (Addr.add _ _).block ≠ _; rw [add_block]; exact Nat.ne_of_lt (oW hw121_1 aA)) | (dsimp only; exact Nat.ne_of_lt (oW hw121_1 aA))) _).trans (((cell_far (p := ⟨aC, _, none⟩) (by first | exact Nat.ne_of_lt (oW hw121_1 aA) | (rw [add_block]; exact Nat.ne_of_lt (oW hw121_1 aA)) | (show (Addr.add _ _).block ≠ _; rw [add_block]; exact Nat.ne_of_lt (oW hw121_1 aA)) | (dsimp only; exact Nat.ne_of_lt (oW hw121_1 aA))) _).trans (((cell_far (p := ⟨aC, _, none⟩) (by first | exact Nat.ne_of_lt (oW hw121_1 aA) | (rw [add_block]; exact Nat.ne_of_lt (oW hw121_1 aA)) | (show (Addr.add _ _).block ≠ _; rw [add_block]; exact Nat.ne_of_lt (oW hw121_1 aA)) | (dsimp only; exact Nat.ne_of_lt (oW hw121_1 aA))) _).trans (hHeld.2.1)))))))))), ((cell_far (p := ⟨aC, _, none⟩) (by first | exact Nat.ne_of_lt (oW hw121_2 aA) | (rw [add_block]; exact Nat.ne_of_lt (oW hw121_2 aA)) | (show (Addr.add _ _).block ≠ _; rw [add_block]; exact Nat.ne_of_lt (oW hw121_2 aA)) | (dsimp only; exact Nat.ne_of_lt (oW hw121_2 aA))) _).trans (((cell_far (p := ⟨aC, _, none⟩) (by first | exact Nat.ne_of_lt (oW hw121_2 aA) | (rw [add_block]; exact Nat.ne_of_lt (oW hw121_2 aA)) | (show (Addr.add _ _).block ≠ _; rw [add_block]; exact Nat.ne_of_lt (oW hw121_2 aA)) | (dsimp only; exact Nat.ne_of_lt (oW hw121_2 aA))) _).trans (((cell_far (p := ⟨aC, _, none⟩) (by first | exact Nat.ne_of_lt (oW hw121_2 aA) | (rw [add_block]; exact Nat.ne_of_lt (oW hw121_2 aA)) | (show (Addr.add _ _).block ≠ _; rw [add_block]; exact Nat.ne_of_lt (oW hw121_2 aA)) | (dsimp only; exact Nat.ne_of_lt (oW hw121_2 aA))) _).trans (((cell_far (p := ⟨aC, _, none⟩) (by first | exact Nat.ne_of_lt (oW hw121_2 aA) | (rw [add_block]; exact Nat.ne_of_lt (oW hw121_2 aA)) | (show (Addr.add _ _).block ≠ _; rw [add_block]; exact Nat.ne_of_lt (oW hw121_2 aA)) | (dsimp only; exact Nat.ne_of_lt (oW hw121_2 aA))) _).trans (((cell_far (p := ⟨aC, _, none⟩) (by first | exact Nat.ne_of_lt (oW hw121_2 aA) | (rw [add_block]; exact Nat.ne_of_lt (oW hw121_2 aA)) | (show (Addr.add _ _).block ≠ _; rw [add_block]; exact Nat.ne_of_lt (oW hw121_2 aA)) | (dsimp only; exact Nat.ne_of_lt (oW hw121_2 aA))) _).trans (hHeld.2.2.1)))))))))), ((cell_far (p := ⟨aC, _, none⟩) (by first | exact Nat.ne_of_lt (oW hw121_3 aA) | (rw [add_block]; exact Nat.ne_of_lt (oW hw121_3 aA)) | (show (Addr.add _ _).block ≠ _; rw [add_block]; exact Nat.ne_of_lt (oW hw121_3 aA)) | (dsimp only; exact Nat.ne_of_lt (oW hw121_3 aA))) _).trans (((cell_far (p := ⟨aC, _, none⟩) (by first | exact Nat.ne_of_lt (oW hw121_3 aA) | (rw [add_block]; exact Nat.ne_of_lt (oW hw121_3 aA)) | (show (Addr.add _ _).block ≠ _; rw [add_block]; exact Nat.ne_of_lt (oW hw121_3 aA)) | (dsimp only; exact Nat.ne_of_lt (oW hw121_3 aA))) _).trans (((cell_far (p := ⟨aC, _, none⟩) (by first | exact Nat.ne_of_lt (oW hw121_3 aA) | (rw [add_block]; exact Nat.ne_of_lt (oW hw121_3 aA)) | (show (Addr.add _ _).block ≠ _; rw [add_block]; exact Nat.ne_of_lt (oW hw121_3 aA)) | (dsimp only; exact Nat.ne_of_lt (oW hw121_3 aA))) _).trans (((cell_far (p := ⟨aC, _, none⟩) (by first | exact Nat.ne_of_lt (oW hw121_3 aA) | (rw [add_block]; exact Nat.ne_of_lt (oW hw121_3 aA)) | (show (Addr.add _ _).block ≠ _; rw [add_block]; exact Nat.ne_of_lt (oW hw121_3 aA)) | (dsimp only; exact Nat.ne_of_lt (oW hw121_3 aA))) _).trans (((cell_far (p := ⟨aC, _, none⟩) (by first | exact Nat.ne_of_lt (oW hw121_3 aA) | (rw [add_block]; exact Nat.ne_of_lt (oW hw121_3 aA)) | (show (Addr.add _ _).block ≠ _; rw [add_block]; exact Nat.ne_of_lt (oW hw121_3 aA)) | (dsimp only; exact Nat.ne_of_lt (oW hw121_3 aA))) _).trans (hHeld.2.2.2.1)))))))))), ((cell_far (p := ⟨aC, _, none⟩) (by first | exact Nat.ne_of_lt (oW hw121_4 aA) | (rw [add_block]; exact Nat.ne_of_lt (oW hw121_4 aA)) | (show (Addr.add _ _).block ≠ _; rw [add_block]; exact Nat.ne_of_lt (oW hw121_4 aA)) | (dsimp only; exact Nat.ne_of_lt (oW hw121_4 aA))) _).trans (((cell_far (p := ⟨aC, _, none⟩) (by first | exact Nat.ne_of_lt (oW hw121_4 aA) | (rw [add_block]; exact Nat.ne_of_lt (oW hw121_4 aA)) | (show (Addr.add _ _).block ≠ _; rw [add_block]; exact Nat.ne_of_lt (oW hw121_4 aA)) | (dsimp only; exact Nat.ne_of_lt (oW hw121_4 aA))) _).trans (((cell_far (p := ⟨aC, _, none⟩) (by first | exact Nat.ne_of_lt (oW hw121_4 aA) | (rw [add_block]; exact Nat.ne_of_lt (oW hw121_4 aA)) | (show (Addr.add _ _).block ≠ _; rw [add_block]; exact Nat.ne_of_lt (oW hw121_4 aA)) | (dsimp only; exact Nat.ne_of_lt (oW hw121_4 aA))) _).trans (((cell_far (p := ⟨aC, _, none⟩) (by first | exact Nat.ne_of_lt (oW hw121_4 aA) | (rw [add_block]; exact Nat.ne_of_lt (oW hw121_4 aA)) | (show (Addr.add _ _).block ≠ _; rw [add_block]; exact Nat.ne_of_lt (oW hw121_4 aA)) | (dsimp only; exact Nat.ne_of_lt (oW hw121_4 aA))) _).trans (((cell_far (p := ⟨aC, _, none⟩) (by first | exact Nat.ne_of_lt (oW hw121_4 aA) | (rw [add_block]; exact Nat.ne_of_lt (oW hw121_4 aA)) | (show (Addr.add _ _).block ≠ _; rw [add_block]; exact Nat.ne_of_lt (oW hw121_4 aA)) | (dsimp only; exact Nat.ne_of_lt (oW hw121_4 aA))) _).trans (hHeld.2.2.2.2.1)))))))))), ((cell_far (p := ⟨aC, _, none⟩) (by first | exact Nat.ne_of_lt (oW hw122_0 aA) | (rw [add_block]; exact Nat.ne_of_lt (oW hw122_0 aA)) | (show (Addr.add _ _).block ≠ _; rw [add_block]; exact Nat.ne_of_lt (oW hw122_0 aA)) | (dsimp only; exact Nat.ne_of_lt (oW hw122_0 aA))) _).trans (((cell_far (p := ⟨aC, _, none⟩) (by first | exact Nat.ne_of_lt (oW hw122_0 aA) | (rw [add_block]; exact Nat.ne_of_lt (oW hw122_0 aA)) | (show (Addr.add _ _).block ≠ _; rw [add_block]; exact Nat.ne_of_lt (oW hw122_0 aA)) | (dsimp only; exact Nat.ne_of_lt (oW hw122_0 aA))) _).trans (((cell_far (p := ⟨aC, _, none⟩) (by first | exact Nat.ne_of_lt (oW hw122_0 aA) | (rw [add_block]; exact Nat.ne_of_lt (oW hw122_0 aA)) | (show (Addr.add _ _).block ≠ _; rw [add_block]; exact Nat.ne_of_lt (oW hw122_0 aA)) | (dsimp only; exact Nat.ne_of_lt (oW hw122_0 aA))) _).trans (((cell_far (p := ⟨aC, _, none⟩) (by first | exact Nat.ne_of_lt (oW hw122_0 aA) | (rw [add_block]; exact Nat.ne_of_lt (oW hw122_0 aA)) | (show (Addr.add _ _).block ≠ _; rw [add_block]; exact Nat.ne_of_lt (oW hw122_0 aA)) | (dsimp only; exact Nat.ne_of_lt (oW hw122_0 aA))) _).trans (((cell_far (p := ⟨aC, _, none⟩) (by first | exact Nat.ne_of_lt (oW hw122_0 aA) | (rw [add_block]; exact Nat.ne_of_lt (oW hw122_0 aA)) | (show (Addr.add _ _).block ≠ _; rw [add_block]; exact Nat.ne_of_lt (oW hw122_0 aA)) | (dsimp only; exact Nat.ne_of_lt (oW hw122_0 aA))) _).trans (hHeld.2.2.2.2.2.1)))))))))), ((cell_far (p := ⟨aC, _, none⟩) (by first | exact Nat.ne_of_lt (oW hw122_1 aA) | (rw [add_block]; exact Nat.ne_of_lt (oW hw122_1 aA)) | (show (Addr.add _ _).block ≠ _; rw [add_block]; exact Nat.ne_of_lt (oW hw122_1 aA)) | (dsimp only; exact Nat.ne_of_lt (oW hw122_1 aA))) _).trans (((cell_far (p := ⟨aC, _, none⟩) (by first | exact Nat.ne_of_lt (oW hw122_1 aA) | (rw [add_block]; exact Nat.ne_of_lt (oW hw122_1 aA)) | (show (Addr.add _ _).block ≠ _; rw [add_block]; exact Nat.ne_of_lt (oW hw122_1 aA)) | (dsimp only; exact Nat.ne_of_lt (oW hw122_1 aA))) _).trans (((cell_far (p := ⟨aC, _, none⟩) (by first | exact Nat.ne_of_lt (oW hw122_1 aA) | (rw [add_block]; exact Nat.ne_of_lt (oW hw122_1 aA)) | (show (Addr.add _ _).block ≠ _; rw [add_block]; exact Nat.ne_of_lt (oW hw122_1 aA)) | (dsimp only; exact Nat.ne_of_lt (oW hw122_1 aA))) _).trans (((cell_far (p := ⟨aC, _, none⟩) (by first | exact Nat.ne_of_lt (oW hw122_1 aA) | (rw [add_block]; exact Nat.ne_of_lt (oW hw122_1 aA)) | (show (Addr.add _ _).block ≠ _; rw [add_block]; exact Nat.ne_of_lt (oW hw122_1 aA)) | (dsimp only; exact Nat.ne_of_lt (oW hw122_1 aA))) _).trans (((cell_far (p := ⟨aC, _, none⟩) (by first | exact Nat.ne_of_lt (oW hw122_1 aA) | (rw [add_block]; exact Nat.ne_of_lt (oW hw122_1 aA)) | (show (Addr.add _ _).block ≠ _; rw [add_block]; exact Nat.ne_of_lt (oW hw122_1 aA)) | (dsimp only; exact Nat.ne_of_lt (oW hw122_1 aA))) _).trans (hHeld.2.2.2.2.2.2.1)))))))))), ((cell_far (p := ⟨aC, _, none⟩) (by first | exact Nat.ne_of_lt (oW hw122_2 aA) | (rw [add_block]; exact Nat.ne_of_lt (oW hw122_2 aA)) | (show (Addr.add _ _).block ≠ _; rw [add_block]; exact Nat.ne_of_lt (oW hw122_2 aA)) | (dsimp only; exact Nat.ne_of_lt (oW hw122_2 aA))) _).trans (((cell_far (p := ⟨aC, _, none⟩) (by first | exact Nat.ne_of_lt (oW hw122_2 aA) | (rw [add_block]; exact Nat.ne_of_lt (oW hw122_2 aA)) | (show (Addr.add _ _).block ≠ _; rw [add_block]; exact Nat.ne_of_lt (oW hw122_2 aA)) | (dsimp only; exact Nat.ne_of_lt (oW hw122_2 aA))) _).trans (((cell_far (p := ⟨aC, _, none⟩) (by first | exact Nat.ne_of_lt (oW hw122_2 aA) | (rw [add_block]; exact Nat.ne_of_lt (oW hw122_2 aA)) | (show (Addr.add _ _).block ≠ _; rw [add_block]; exact Nat.ne_of_lt (oW hw122_2 aA)) | (dsimp only; exact Nat.ne_of_lt (oW hw122_2 aA))) _).trans (((cell_far (p := ⟨aC, _, none⟩) (by first | exact Nat.ne_of_lt (oW hw122_2 aA) | (rw [add_block]; exact Nat.ne_of_lt (oW hw122_2 aA)) | (show (Addr.add _ _).block ≠ _; rw [add_block]; exact Nat.ne_of_lt (oW hw122_2 aA)) | (dsimp only; exact Nat.ne_of_lt (oW hw122_2 aA))) _).trans (((cell_far (p := ⟨aC, _, none⟩) (by first | exact Nat.ne_of_lt (oW hw122_2 aA) | (rw [add_block]; exact Nat.ne_of_lt (oW hw122_2 aA)) | (show (Addr.add _ _).block ≠ _; rw [add_block]; exact Nat.ne_of_lt (oW hw122_2 aA)) | (dsimp only; exact Nat.ne_of_lt (oW hw122_2 aA))) _).trans (hHeld.2.2.2.2.2.2.2.1)))))))))), ((cell_far (p := ⟨aC, _, none⟩) (by first | exact Nat.ne_of_lt (oW hw122_3 aA) | (rw [add_block]; exact Nat.ne_of_lt (oW hw122_3 aA)) | (show (Addr.add _ _).block ≠ _; rw [add_block]; exact Nat.ne_of_lt (oW hw122_3 aA)) | (dsimp only; exact Nat.ne_of_lt (oW hw122_3 aA))) _).trans (((cell_far (p := ⟨aC, _, none⟩) (by first | exact Nat.ne_of_lt (oW hw122_3 aA) | (rw [add_block]; exact Nat.ne_of_lt (oW hw122_3 aA)) | (show (Addr.add _ _).block ≠ _; rw [add_block]; exact Nat.ne_of_lt (oW hw122_3 aA)) | (dsimp only; exact Nat.ne_of_lt (oW hw122_3 aA))) _).trans (((cell_far (p := ⟨aC, _, none⟩) (by first | exact Nat.ne_of_lt (oW hw122_3 aA) | (rw [add_block]; exact Nat.ne_of_lt (oW hw122_3 aA)) | (show (Addr.add _ _).block ≠ _; rw [add_block]; exact Nat.ne_of_lt (oW hw122_3 aA)) | (dsimp only; exact Nat.ne_of_lt (oW hw122_3 aA))) _).trans (((cell_far (p := ⟨aC, _, none⟩) (by first | exact Nat.ne_of_lt (oW hw122_3 aA) | (rw [add_block]; exact Nat.ne_of_lt (oW hw122_3 aA)) | (show (Addr.add _ _).block ≠ _; rw [add_block]; exact Nat.ne_of_lt (oW hw122_3 aA)) | (dsimp only; exact Nat.ne_of_lt (oW hw122_3 aA))) _).trans (((cell_far (p := ⟨aC, _, none⟩) (by first | exact Nat.ne_of_lt (oW hw122_3 aA) | (rw [add_block]; exact Nat.ne_of_lt (oW hw122_3 aA)) | (show (Addr.add _ _).block ≠ _; rw [add_block]; exact Nat.ne_of_lt (oW hw122_3 aA)) | (dsimp only; exact Nat.ne_of_lt (oW hw122_3 aA))) _).trans (hHeld.2.2.2.2.2.2.2.2.1)))))))))), ((cell_far (p := ⟨aC, _, none⟩) (by first | exact Nat.ne_of_lt (oW hw122_4 aA) | (rw [add_block]; exact Nat.ne_of_lt (oW hw122_4 aA)) | (show (Addr.add _ _).block ≠ _; rw [add_block]; exact Nat.ne_of_lt (oW hw122_4 aA)) | (dsimp only; exact Nat.ne_of_lt (oW hw122_4 aA))) _).trans (((cell_far (p := ⟨aC, _, none⟩) (by first | exact Nat.ne_of_lt (oW hw122_4 aA) | (rw [add_block]; exact Nat.ne_of_lt (oW hw122_4 aA)) | (show (Addr.add _ _).block ≠ _; rw [add_block]; exact Nat.ne_of_lt (oW hw122_4 aA)) | (dsimp only; exact Nat.ne_of_lt (oW hw122_4 aA))) _).trans (((cell_far (p := ⟨aC, _, none⟩) (by first | exact Nat.ne_of_lt (oW hw122_4 aA) | (rw [add_block]; exact Nat.ne_of_lt (oW hw122_4 aA)) | (show (Addr.add _ _).block ≠ _; rw [add_block]; exact Nat.ne_of_lt (oW hw122_4 aA)) | (dsimp only; exact Nat.ne_of_lt (oW hw122_4 aA))) _).trans (((cell_far (p := ⟨aC, _, none⟩) (by first | exact Nat.ne_of_lt (oW hw122_4 aA) | (rw [add_block]; exact Nat.ne_of_lt (oW hw122_4 aA)) | (show (Addr.add _ _).block ≠ _; rw [add_block]; exact Nat.ne_of_lt (oW hw122_4 aA)) | (dsimp only; exact Nat.ne_of_lt (oW hw122_4 aA))) _).trans (((cell_far (p := ⟨aC, _, none⟩) (by first | exact Nat.ne_of_lt (oW hw122_4 aA) | (rw [add_block]; exact Nat.ne_of_lt (oW hw122_4 aA)) | (show (Addr.add _ _).block ≠ _; rw [add_block]; exact Nat.ne_of_lt (oW hw122_4 aA)) | (dsimp only; exact Nat.ne_of_lt (oW hw122_4 aA))) _).trans (hHeld.2.2.2.2.2.2.2.2.2))))))))))⟩ (fun hHeld => ?_)
   clear hK K
   refine one_ (i := 9) (N := none) #[true, true, true, true, true, true, true, true, true, true] rfl rfl (one_of HT_.out oK) oD (fun K hK => ?_)
   have hs13 : w7.cell? ⟨aD, 0, none⟩ = some (.int .i64 0) := (blk_cell aI.out 0).trans rfl
   have hfs13 := blk_frozen aI.out 0
   have hns13_0 := aF.out
   have hms13_0 := aG.out
   have hs14 : w7.cell? ⟨aD, 1, none⟩ = some (.int .i64 0) := (blk_cell aI.out 1).trans rfl
   have hfs14 := blk_frozen aI.out 1
   have hns14_0 := aF.out
   have hms14_0 := aG.out
   have hs15 : w7.cell? ⟨aD, 2, none⟩ = some (.int .i64 0) := (blk_cell aI.out 2).trans rfl
   have hfs15 := blk_frozen aI.out 2
   have hns15_0 := aF.out
   have hms15_0 := aG.out
   have hs16 : w7.cell? ⟨aD, 3, none⟩ = some (.int .i64 0) := (blk_cell aI.out 3).trans rfl
   have hfs16 := blk_frozen aI.out 3
   have hns16_0 := aF.out
   have hms16_0 := aG.out
   have hs17 : w7.cell? ⟨aD, 4, none⟩ = some (.int .i64 0) := (blk_cell aI.out 4).trans rfl
   have hfs17 := blk_frozen aI.out 4
   have hns17_0 := aF.out
   have hms17_0 := aG.out
   refine skip_ (w1 := ?_) (by rfl) rfl ?_ ?_
   rotate_left
   ·go_simp
    rfl
   refine hK.out _ _ ⟨((cell_far (p := ⟨aD, _, none⟩) (by first | exact Nat.ne_of_lt (oW hw121_0 aB) | (rw [add_block]; exact Nat.ne_of_lt (oW hw121_0 aB)) | (show (Addr.add _ _).block ≠ _; rw [add_block]; exact Nat.ne_of_lt (oW hw121_0 aB)) | (dsimp only; exact Nat.ne_of_lt (oW hw121_0 aB))) _).trans (((cell_far (p := ⟨aD, _, none⟩) (by first | exact Nat.ne_of_lt (oW hw121_0 aB) | (rw [add_block]; exact Nat.ne_of_lt (oW hw121_0 aB)) | (show (Addr.add _ _).block ≠ _; rw [add_block]; exact Nat.ne_of_lt (oW hw121_0 aB)) | (dsimp only; exact Nat.ne_of_lt (oW hw121_0 aB))) _).trans (((cell_far (p := ⟨aD, _, none⟩) (by first | exact Nat.ne_of_lt (oW hw121_0 aB) | (rw [add_block]; exact Nat.ne_of_lt (oW hw121_0 aB)) | (show (Addr.add _ _).block ≠ _; rw [add_block]; exact Nat.ne_of_lt (oW hw121_0 aB)) | (dsimp only; exact Nat.ne_of_lt (oW hw121_0 aB))) _).trans (((cell_far (p := ⟨aD, _, none⟩) (by first | exact Nat.ne_of_lt (oW hw121_0 aB) | (rw [add_block]; exact Nat.ne_of_lt (oW hw121_0 aB)) | (show (Addr.add _ _).block ≠ _; rw [add_block]; exact Nat.ne_of_lt (oW hw121_0 aB)) | (dsimp only; exact Nat.ne_of_lt (oW hw121_0 aB))) _).trans (((cell_far (p := ⟨aD, _, none⟩) (by first | exact Nat.ne_of_lt (oW hw121_0 aB) | (rw [add_block]; exact Nat.ne_of_lt (oW hw121_0 aB)) | (show (Addr.add _ _).block ≠ _; rw [add_block]; exact Nat.ne_of_lt (oW hw121_0 aB)) | (dsimp only; exact Nat.ne_of_lt (oW hw121_0 aB))) _).trans (hHeld.1)))))))))), ((cell_far (p := ⟨aD, _, none⟩) (by first | exact Nat.ne_of_lt (oW hw121_1 aB) | (rw [add_block]; exact Nat.ne_of_lt (oW hw121_1 aB)) | (show (Addr.add _ _).block ≠ _; rw [add_block]; exact Nat.ne_of_lt (oW hw121_1 aB)) | (dsimp only; exact Nat.ne_of_lt (oW hw121_1 aB))) _).trans (((cell_far (p := ⟨aD, _, none⟩) (by first | exact Nat.ne_of_lt (oW hw121_1 aB) | (rw [add_block]; exact Nat.ne_of_lt (oW hw121_1 aB)) | (show (Addr.add _ _).block ≠ _; rw [add_block]; exact Nat.ne_of_lt (oW hw121_1 aB)) | (dsimp only; exact Nat.ne_of_lt (oW hw121_1 aB))) _).trans (((cell_far (p := ⟨aD, _, none⟩) (by first | exact Nat.ne_of_lt (oW hw121_1 aB) | (rw [add_block]; exact Nat.ne_of_lt (oW hw121_1 aB)) | (show (Addr.add _ _).block ≠ _; rw [add_block]; exact Nat.ne_of_lt (oW hw121_1 aB)) | (dsimp only; exact Nat.ne_of_lt (oW hw121_1 aB))) _).trans (((cell_far (p := ⟨aD, _, none⟩) (by first | exact Nat.ne_of_lt (oW hw121_1 aB) | (rw [add_block]; exact Nat.ne_of_lt (oW hw121_1 aB)) | (show (Addr.add _ _).block ≠ _; rw [add_block]; exact Nat.ne_of_lt (oW hw121_1 aB)) | (dsimp only; exact Nat.ne_of_lt (oW hw121_1 aB))) _).trans (((cell_far (p := ⟨aD, _, none⟩) (by first | exact Nat.ne_of_lt (oW hw121_1 aB) | (rw [add_block]; exact Nat.ne_of_lt (oW hw121_1 aB)) | (show (Addr.add _ _).block ≠ _; rw [add_block]; exact Nat.ne_of_lt (oW hw121_1 aB)) | (dsimp only; exact Nat.ne_of_lt (oW hw121_1 aB))) _).trans (hHeld.2.1)))))))))), ((cell_far (p := ⟨aD, _, none⟩) (by first | exact Nat.ne_of_lt (oW hw121_2 aB) | (rw [add_block]; exact Nat.ne_of_lt (oW hw121_2 aB)) | (show (Addr.add _ _).block ≠ _; rw [add_block]; exact Nat.ne_of_lt (oW hw121_2 aB)) | (dsimp only; exact Nat.ne_of_lt (oW hw121_2 aB))) _).trans (((cell_far (p := ⟨aD, _, none⟩) (by first | exact Nat.ne_of_lt (oW hw121_2 aB) | (rw [add_block]; exact Nat.ne_of_lt (oW hw121_2 aB)) | (show (Addr.add _ _).block ≠ _; rw [add_block]; exact Nat.ne_of_lt (oW hw121_2 aB)) | (dsimp only; exact Nat.ne_of_lt (oW hw121_2 aB))) _).trans (((cell_far (p := ⟨aD, _, none⟩) (by first | exact Nat.ne_of_lt (oW hw121_2 aB) | (rw [add_block]; exact Nat.ne_of_lt (oW hw121_2 aB)) | (show (Addr.add _ _).block ≠ _; rw [add_block]; exact Nat.ne_of_lt (oW hw121_2 aB)) | (dsimp only; exact Nat.ne_of_lt (oW hw121_2 aB))) _).trans (((cell_far (p := ⟨aD, _, none⟩) (by first | exact Nat.ne_of_lt (oW hw121_2 aB) | (rw [add_block]; exact Nat.ne_of_lt (oW hw121_2 aB)) | (show (Addr.add _ _).block ≠ _; rw [add_block]; exact Nat.ne_of_lt (oW hw121_2 aB)) | (dsimp only; exact Nat.ne_of_lt (oW hw121_2 aB))) _).trans (((cell_far (p := ⟨aD, _, none⟩) (by first | exact Nat.ne_of_lt (oW hw121_2 aB) | (rw [add_block]; exact Nat.ne_of_lt (oW hw121_2 aB)) | (show (Addr.add _ _).block ≠ _; rw [add_block]; exact Nat.ne_of_lt (oW hw121_2 aB)) | (dsimp only; exact Nat.ne_of_lt (oW hw121_2 aB))) _).trans (hHeld.2.2.1)))))))))), ((cell_far (p := ⟨aD, _, none⟩) (by first | exact Nat.ne_of_lt (oW hw121_3 aB) | (rw [add_block]; exact Nat.ne_of_lt (oW hw121_3 aB)) | (show (Addr.add _ _).block ≠ _; rw [add_block]; exact Nat.ne_of_lt (oW hw121_3 aB)) | (dsimp only; exact Nat.ne_of_lt (oW hw121_3 aB))) _).trans (((cell_far (p := ⟨aD, _, none⟩) (by first | exact Nat.ne_of_lt (oW hw121_3 aB) | (rw [add_block]; exact Nat.ne_of_lt (oW hw121_3 aB)) | (show (Addr.add _ _).block ≠ _; rw [add_block]; exact Nat.ne_of_lt (oW hw121_3 aB)) | (dsimp only; exact Nat.ne_of_lt (oW hw121_3 aB))) _).trans (((cell_far (p := ⟨aD, _, none⟩) (by first | exact Nat.ne_of_lt (oW hw121_3 aB) | (rw [add_block]; exact Nat.ne_of_lt (oW hw121_3 aB)) | (show (Addr.add _ _).block ≠ _; rw [add_block]; exact Nat.ne_of_lt (oW hw121_3 aB)) | (dsimp only; exact Nat.ne_of_lt (oW hw121_3 aB))) _).trans (((cell_far (p := ⟨aD, _, none⟩) (by first | exact Nat.ne_of_lt (oW hw121_3 aB) | (rw [add_block]; exact Nat.ne_of_lt (oW hw121_3 aB)) | (show (Addr.add _ _).block ≠ _; rw [add_block]; exact Nat.ne_of_lt (oW hw121_3 aB)) | (dsimp only; exact Nat.ne_of_lt (oW hw121_3 aB))) _).trans (((cell_far (p := ⟨aD, _, none⟩) (by first | exact Nat.ne_of_lt (oW hw121_3 aB) | (rw [add_block]; exact Nat.ne_of_lt (oW hw121_3 aB)) | (show (Addr.add _ _).block ≠ _; rw [add_block]; exact Nat.ne_of_lt (oW hw121_3 aB)) | (dsimp only; exact Nat.ne_of_lt (oW hw121_3 aB))) _).trans (hHeld.2.2.2.1)))))))))), ((cell_far (p := ⟨aD, _, none⟩) (by first | exact Nat.ne_of_lt (oW hw121_4 aB) | (rw [add_block]; exact Nat.ne_of_lt (oW hw121_4 aB)) | (show (Addr.add _ _).block ≠ _; rw [add_block]; exact Nat.ne_of_lt (oW hw121_4 aB)) | (dsimp only; exact Nat.ne_of_lt (oW hw121_4 aB))) _).trans (((cell_far (p := ⟨aD, _, none⟩) (by first | exact Nat.ne_of_lt (oW hw121_4 aB) | (rw [add_block]; exact Nat.ne_of_lt (oW hw121_4 aB)) | (show (Addr.add _ _).block ≠ _; rw [add_block]; exact Nat.ne_of_lt (oW hw121_4 aB)) | (dsimp only; exact Nat.ne_of_lt (oW hw121_4 aB))) _).trans (((cell_far (p := ⟨aD, _, none⟩) (by first | exact Nat.ne_of_lt (oW hw121_4 aB) | (rw [add_block]; exact Nat.ne_of_lt (oW hw121_4 aB)) | (show (Addr.add _ _).block ≠ _; rw [add_block]; exact Nat.ne_of_lt (oW hw121_4 aB)) | (dsimp only; exact Nat.ne_of_lt (oW hw121_4 aB))) _).trans (((cell_far (p := ⟨aD, _, none⟩) (by first | exact Nat.ne_of_lt (oW hw121_4 aB) | (rw [add_block]; exact Nat.ne_of_lt (oW hw121_4 aB)) | (show (Addr.add _ _).block ≠ _; rw [add_block]; exact Nat.ne_of_lt (oW hw121_4 aB)) | (dsimp only; exact Nat.ne_of_lt (oW hw121_4 aB))) _).trans (((cell_far (p := ⟨aD, _, none⟩) (by first | exact Nat.ne_of_lt (oW hw121_4 aB) | (rw [add_block]; exact Nat.ne_of_lt (oW hw121_4 aB)) | (show (Addr.add _ _).block ≠ _; rw [add_block]; exact Nat.ne_of_lt (oW hw121_4 aB)) | (dsimp only; exact Nat.ne_of_lt (oW hw121_4 aB))) _).trans (hHeld.2.2.2.2.1)))))))))), ((cell_far (p := ⟨aD, _, none⟩) (by first | exact Nat.ne_of_lt (oW hw122_0 aB) | (rw [add_block]; exact Nat.ne_of_lt (oW hw122_0 aB)) | (show (Addr.add _ _).block ≠ _; rw [add_block]; exact Nat.ne_of_lt (oW hw122_0 aB)) | (dsimp only; exact Nat.ne_of_lt (oW hw122_0 aB))) _).trans (((cell_far (p := ⟨aD, _, none⟩) (by first | exact Nat.ne_of_lt (oW hw122_0 aB) | (rw [add_block]; exact Nat.ne_of_lt (oW hw122_0 aB)) | (show (Addr.add _ _).block ≠ _; rw [add_block]; exact Nat.ne_of_lt (oW hw122_0 aB)) | (dsimp only; exact Nat.ne_of_lt (oW hw122_0 aB))) _).trans (((cell_far (p := ⟨aD, _, none⟩) (by first | exact Nat.ne_of_lt (oW hw122_0 aB) | (rw [add_block]; exact Nat.ne_of_lt (oW hw122_0 aB)) | (show (Addr.add _ _).block ≠ _; rw [add_block]; exact Nat.ne_of_lt (oW hw122_0 aB)) | (dsimp only; exact Nat.ne_of_lt (oW hw122_0 aB))) _).trans (((cell_far (p := ⟨aD, _, none⟩) (by first | exact Nat.ne_of_lt (oW hw122_0 aB) | (rw [add_block]; exact Nat.ne_of_lt (oW hw122_0 aB)) | (show (Addr.add _ _).block ≠ _; rw [add_block]; exact Nat.ne_of_lt (oW hw122_0 aB)) | (dsimp only; exact Nat.ne_of_lt (oW hw122_0 aB))) _).trans (((cell_far (p := ⟨aD, _, none⟩) (by first | exact Nat.ne_of_lt (oW hw122_0 aB) | (rw [add_block]; exact Nat.ne_of_lt (oW hw122_0 aB)) | (show (Addr.add _ _).block ≠ _; rw [add_block]; exact Nat.ne_of_lt (oW hw122_0 aB)) | (dsimp only; exact Nat.ne_of_lt (oW hw122_0 aB))) _).trans (hHeld.2.2.2.2.2.1)))))))))), ((cell_far (p := ⟨aD, _, none⟩) (by first | exact Nat.ne_of_lt (oW hw122_1 aB) | (rw [add_block]; exact Nat.ne_of_lt (oW hw122_1 aB)) | (show (Addr.add _ _).block ≠ _; rw [add_block]; exact Nat.ne_of_lt (oW hw122_1 aB)) | (dsimp only; exact Nat.ne_of_lt (oW hw122_1 aB))) _).trans (((cell_far (p := ⟨aD, _, none⟩) (by first | exact Nat.ne_of_lt (oW hw122_1 aB) | (rw [add_block]; exact Nat.ne_of_lt (oW hw122_1 aB)) | (show (Addr.add _ _).block ≠ _; rw [add_block]; exact Nat.ne_of_lt (oW hw122_1 aB)) | (dsimp only; exact Nat.ne_of_lt (oW hw122_1 aB))) _).trans (((cell_far (p := ⟨aD, _, none⟩) (by first | exact Nat.ne_of_lt (oW hw122_1 aB) | (rw [add_block]; exact Nat.ne_of_lt (oW hw122_1 aB)) | (show (Addr.add _ _).block ≠ _; rw [add_block]; exact Nat.ne_of_lt (oW hw122_1 aB)) | (dsimp only; exact Nat.ne_of_lt (oW hw122_1 aB))) _).trans (((cell_far (p := ⟨aD, _, none⟩) (by first | exact Nat.ne_of_lt (oW hw122_1 aB) | (rw [add_block]; exact Nat.ne_of_lt (oW hw122_1 aB)) | (show (Addr.add _ _).block ≠ _; rw [add_block]; exact Nat.ne_of_lt (oW hw122_1 aB)) | (dsimp only; exact Nat.ne_of_lt (oW hw122_1 aB))) _).trans (((cell_far (p := ⟨aD, _, none⟩) (by first | exact Nat.ne_of_lt (oW hw122_1 aB) | (rw [add_block]; exact Nat.ne_of_lt (oW hw122_1 aB)) | (show (Addr.add _ _).block ≠ _; rw [add_block]; exact Nat.ne_of_lt (oW hw122_1 aB)) | (dsimp only; exact Nat.ne_of_lt (oW hw122_1 aB))) _).trans (hHeld.2.2.2.2.2.2.1)))))))))), ((cell_far (p := ⟨aD, _, none⟩) (by first | exact Nat.ne_of_lt (oW hw122_2 aB) | (rw [add_block]; exact Nat.ne_of_lt (oW hw122_2 aB)) | (show (Addr.add _ _).block ≠ _; rw [add_block]; exact Nat.ne_of_lt (oW hw122_2 aB)) | (dsimp only; exact Nat.ne_of_lt (oW hw122_2 aB))) _).trans (((cell_far (p := ⟨aD, _, none⟩) (by first | exact Nat.ne_of_lt (oW hw122_2 aB) | (rw [add_block]; exact Nat.ne_of_lt (oW hw122_2 aB)) | (show (Addr.add _ _).block ≠ _; rw [add_block]; exact Nat.ne_of_lt (oW hw122_2 aB)) | (dsimp only; exact Nat.ne_of_lt (oW hw122_2 aB))) _).trans (((cell_far (p := ⟨aD, _, none⟩) (by first | exact Nat.ne_of_lt (oW hw122_2 aB) | (rw [add_block]; exact Nat.ne_of_lt (oW hw122_2 aB)) | (show (Addr.add _ _).block ≠ _; rw [add_block]; exact Nat.ne_of_lt (oW hw122_2 aB)) | (dsimp only; exact Nat.ne_of_lt (oW hw122_2 aB))) _).trans (((cell_far (p := ⟨aD, _, none⟩) (by first | exact Nat.ne_of_lt (oW hw122_2 aB) | (rw [add_block]; exact Nat.ne_of_lt (oW hw122_2 aB)) | (show (Addr.add _ _).block ≠ _; rw [add_block]; exact Nat.ne_of_lt (oW hw122_2 aB)) | (dsimp only; exact Nat.ne_of_lt (oW hw122_2 aB))) _).trans (((cell_far (p := ⟨aD, _, none⟩) (by first | exact Nat.ne_of_lt (oW hw122_2 aB) | (rw [add_block]; exact Nat.ne_of_lt (oW hw122_2 aB)) | (show (Addr.add _ _).block ≠ _; rw [add_block]; exact Nat.ne_of_lt (oW hw122_2 aB)) | (dsimp only; exact Nat.ne_of_lt (oW hw122_2 aB))) _).trans (hHeld.2.2.2.2.2.2.2.1)))))))))), ((cell_far (p := ⟨aD, _, none⟩) (by first | exact Nat.ne_of_lt (oW hw122_3 aB) | (rw [add_block]; exact Nat.ne_of_lt (oW hw122_3 aB)) | (show (Addr.add _ _).block ≠ _; rw [add_block]; exact Nat.ne_of_lt (oW hw122_3 aB)) | (dsimp only; exact Nat.ne_of_lt (oW hw122_3 aB))) _).trans (((cell_far (p := ⟨aD, _, none⟩) (by first | exact Nat.ne_of_lt (oW hw122_3 aB) | (rw [add_block]; exact Nat.ne_of_lt (oW hw122_3 aB)) | (show (Addr.add _ _).block ≠ _; rw [add_block]; exact Nat.ne_of_lt (oW hw122_3 aB)) | (dsimp only; exact Nat.ne_of_lt (oW hw122_3 aB))) _).trans (((cell_far (p := ⟨aD, _, none⟩) (by first | exact Nat.ne_of_lt (oW hw122_3 aB) | (rw [add_block]; exact Nat.ne_of_lt (oW hw122_3 aB)) | (show (Addr.add _ _).block ≠ _; rw [add_block]; exact Nat.ne_of_lt (oW hw122_3 aB)) | (dsimp only; exact Nat.ne_of_lt (oW hw122_3 aB))) _).trans (((cell_far (p := ⟨aD, _, none⟩) (by first | exact Nat.ne_of_lt (oW hw122_3 aB) | (rw [add_block]; exact Nat.ne_of_lt (oW hw122_3 aB)) | (show (Addr.add _ _).block ≠ _; rw [add_block]; exact Nat.ne_of_lt (oW hw122_3 aB)) | (dsimp only; exact Nat.ne_of_lt (oW hw122_3 aB))) _).trans (((cell_far (p := ⟨aD, _, none⟩) (by first | exact Nat.ne_of_lt (oW hw122_3 aB) | (rw [add_block]; exact Nat.ne_of_lt (oW hw122_3 aB)) | (show (Addr.add _ _).block ≠ _; rw [add_block]; exact Nat.ne_of_lt (oW hw122_3 aB)) | (dsimp only; exact Nat.ne_of_lt (oW hw122_3 aB))) _).trans (hHeld.2.2.2.2.2.2.2.2.1)))))))))), ((cell_far (p := ⟨aD, _, none⟩) (by first | exact Nat.ne_of_lt (oW hw122_4 aB) | (rw [add_block]; exact Nat.ne_of_lt (oW hw122_4 aB)) | (show (Addr.add _ _).block ≠ _; rw [add_block]; exact Nat.ne_of_lt (oW hw122_4 aB)) | (dsimp only; exact Nat.ne_of_lt (oW hw122_4 aB))) _).trans (((cell_far (p := ⟨aD, _, none⟩) (by first | exact Nat.ne_of_lt (oW hw122_4 aB) | (rw [add_block]; exact Nat.ne_of_lt (oW hw122_4 aB)) | (show (Addr.add _ _).block ≠ _; rw [add_block]; exact Nat.ne_of_lt (oW hw122_4 aB)) | (dsimp only; exact Nat.ne_of_lt (oW hw122_4 aB))) _).trans (((cell_far (p := ⟨aD, _, none⟩) (by first | exact Nat.ne_of_lt (oW hw122_4 aB) | (rw [add_block]; exact Nat.ne_of_lt (oW hw122_4 aB)) | (show (Addr.add _ _).block ≠ _; rw [add_block]; exact Nat.ne_of_lt (oW hw122_4 aB)) | (dsimp only; exact Nat.ne_of_lt (oW hw122_4 aB))) _).trans (((cell_far (p := ⟨aD, _, none⟩) (by first | exact Nat.ne_of_lt (oW hw122_4 aB) | (rw [add_block]; exact Nat.ne_of_lt (oW hw122_4 aB)) | (show (Addr.add _ _).block ≠ _; rw [add_block]; exact Nat.ne_of_lt (oW hw122_4 aB)) | (dsimp only; exact Nat.ne_of_lt (oW hw122_4 aB))) _).trans (((cell_far (p := ⟨aD, _, none⟩) (by first | exact Nat.ne_of_lt (oW hw122_4 aB) | (rw [add_block]; exact Nat.ne_of_lt (oW hw122_4 aB)) | (show (Addr.add _ _).block ≠ _; rw [add_block]; exact Nat.ne_of_lt (oW hw122_4 aB)) | (dsimp only; exact Nat.ne_of_lt (oW hw122_4 aB))) _).trans (hHeld.2.2.2.2.2.2.2.2.2))))))))))⟩ (fun hHeld => ?_)
   clear hK K
   refine done_ (done_of HT_.out oK) ?_
   have cA := aF.out
   have cB := aG.out
   have bC : w7.cell? ⟨aC, 0, none⟩ = some (.int .i64 0) := (blk_cell aH.out 0).trans rfl
   have bD : w7.cell? ⟨aC, 1, none⟩ = some (.int .i64 0) := (blk_cell aH.out 1).trans rfl
   have bE : w7.cell? ⟨aC, 2, none⟩ = some (.int .i64 0) := (blk_cell aH.out 2).trans rfl
   have bF : w7.cell? ⟨aC, 3, none⟩ = some (.int .i64 0) := (blk_cell aH.out 3).trans rfl
   have bG : w7.cell? ⟨aC, 4, none⟩ = some (.int .i64 0) := (blk_cell aH.out 4).trans rfl
   have bM := blk_frozen aH.out 0
   have bN := blk_frozen aH.out 1
   have bO := blk_frozen aH.out 2
   have bP := blk_frozen aH.out 3
   have bQ := blk_frozen aH.out 4
   have bH : w7.cell? ⟨aD, 0, none⟩ = some (.int .i64 0) := (blk_cell aI.out 0).trans rfl
   have bI : w7.cell? ⟨aD, 1, none⟩ = some (.int .i64 0) := (blk_cell aI.out 1).trans rfl
   have bJ : w7.cell? ⟨aD, 2, none⟩ = some (.int .i64 0) := (blk_cell aI.out 2).trans rfl
   have bK : w7.cell? ⟨aD, 3, none⟩ = some (.int .i64 0) := (blk_cell aI.out 3).trans rfl
   have bL : w7.cell? ⟨aD, 4, none⟩ = some (.int .i64 0) := (blk_cell aI.out 4).trans rfl
   have bR := blk_frozen aI.out 0
   have bS := blk_frozen aI.out 1
   have bT := blk_frozen aI.out 2
   have bU := blk_frozen aI.out 3
   have bV := blk_frozen aI.out 4
   try go_wp2_with (first | ((with_reducible refine gate_dst (N := 26) rfl ?_); refine Kd.R_lit k25 _ 25 ?hg (N := 26) ?hd (xs := ([(⟨1, wrap64 (((rd_T25 l0 0).f1) + ((rd_T25 l0 1).f1)), wrap64 (((rd_T25 l0 0).f2) + ((rd_T25 l0 1).f2)), (rd_T25 l0 1).f3, (rd_T25 l0 1).f4⟩ : S25)] : List (S25))) (inner := [.int .i64 1, .int .i64 (wrap64 (((rd_T25 l0 0).f1) + ((rd_T25 l0 1).f1))), .int .i64 (wrap64 (((rd_T25 l0 0).f2) + ((rd_T25 l0 1).f2))), .int .i64 ((rd_T25 l0 1).f3), .int .i64 ((rd_T25 l0 1).f4)]) (ok := fun _ => True) (okp := fun _ => True) ?hr ?hp (fun _ hk => hk) trivial (Below.refl _ _) (Nat.le_refl _) (by simp) ?_; (case hd => rfl); (case hg => rfl); (case hr => first | (go_simp; done) | (go_simp; rfl)); (case hp => exact (Reps.c5 (show Kd.M k25 _ _ _ (⟨1, wrap64 (((rd_T25 l0 0).f1) + ((rd_T25 l0 1).f1)), wrap64 (((rd_T25 l0 0).f2) + ((rd_T25 l0 1).f2)), (rd_T25 l0 1).f3, (rd_T25 l0 1).f4⟩ : S25) [.int .i64 1, .int .i64 (wrap64 (((rd_T25 l0 0).f1) + ((rd_T25 l0 1).f1))), .int .i64 (wrap64 (((rd_T25 l0 0).f2) + ((rd_T25 l0 1).f2))), .int .i64 ((rd_T25 l0 1).f3), .int .i64 ((rd_T25 l0 1).f4)] from (k25_mkM _ _ _ (⟨1, wrap64 (((rd_T25 l0 0).f1) + ((rd_T25 l0 1).f1)), wrap64 (((rd_T25 l0 0).f2) + ((rd_T25 l0 1).f2)), (rd_T25 l0 1).f3, (rd_T25 l0 1).f4⟩ : S25) )) (Reps.none _ _))); intro cQ cS ho22 hb hg_ hnew_; clear hg_ hnew_; (first | rw [← aV.out] at ho22 | (simp only [Int.reduceToNat] at ho22; rw [← aV.out] at ho22)); have n_ := o2_ (Kd.R_lower (Kd.R_newB (Kd.R_newB ho22 (g := aC) (o := .cells #[.int .i64 ((rd_T25 l0 0).f0), .int .i64 ((rd_T25 l0 0).f1), .int .i64 ((rd_T25 l0 0).f2), .int .i64 ((rd_T25 l0 0).f3), .int .i64 ((rd_T25 l0 0).f4)] 25 (0, 0)) (blk_far (blk_far (blk_far (blk_far (blk_far (blk_put (blk_put (blk_put (blk_put (blk_put (oP aH) 0 _ rfl) 1 _ rfl) 2 _ rfl) 3 _ rfl) 4 _ rfl) aF.out _) aF.out _) aF.out _) aF.out _) aF.out _)) (g := aD) (o := .cells #[.int .i64 ((rd_T25 l0 1).f0), .int .i64 ((rd_T25 l0 1).f1), .int .i64 ((rd_T25 l0 1).f2), .int .i64 ((rd_T25 l0 1).f3), .int .i64 ((rd_T25 l0 1).f4)] 25 (0, 0)) (blk_put (blk_put (blk_put (blk_put (blk_put (oP aI) 0 _ rfl) 1 _ rfl) 2 _ rfl) 3 _ rfl) 4 _ rfl)) (below_size (oB HB))) (o1_ (below_step (oB HB) hb)); clear HB; obtain ⟨bA, HB⟩ := n_; clear hb ho22))
   go_ret
   exact ⟨_, by first | rfl | (simp [errW_none, errW_some] <;> rfl) | (simp [*, errW_none, errW_some] <;> rfl), by (with_reducible repeat (first | apply Kd.R_alloc | apply Kd.R_drewN | apply Kd.R_drew)); exact Kd.R_mono bA.out (fun _ hk => trivial), oB HB⟩
  ·rw [if_neg c3] at H
   exact absurd H (by simp)
 ·rw [if_neg c2] at H
  exact absurd H (by simp)

end Go.Proofs.Ytjkaalcocgioaaa.X
