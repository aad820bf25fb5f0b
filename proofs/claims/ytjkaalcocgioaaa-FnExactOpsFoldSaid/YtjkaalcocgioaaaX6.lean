/- What functions of the program come to, each with its proof. No condition but what each theorem states. -/
import Derived.Test.YtjkaalcocgioaaaX0
import Derived.Test.YtjkaalcocgioaaaX5
namespace Go.Proofs.Ytjkaalcocgioaaa.X
open Go.RowKit Go.Proofs.YtjkaalcocgioaaaW.PrintWords Go.Proofs.YtjkaalcocgioaaaW.PrintLast Go.Proofs.YtjkaalcocgioaaaW.PrintMore Go.Proofs.Ytjkaalcocgioaaa.Hyb
attribute [local go_sem] max2_int min2_int max_two min_two max_three min_three max_four min_four
set_option linter.unusedVariables false
set_option linter.unusedSimpArgs false

/-! ### impl_opsOk: function 20 -/
def impl_opsOk.l0 : Nat → List (S25) → Int → Int → Option (Bool)
 | 0, _, _, _ => none
 | k + 1, x8, x9, x10 => if x10 < x9 then (if 0 ≤ x10 then (if x10 < (x8.length : Int) then ((impl_OpOk.f k ((rd_T25 x8 x10).f0) ((rd_T25 x8 x10).f1) ((rd_T25 x8 x10).f2) ((rd_T25 x8 x10).f3) ((rd_T25 x8 x10).f4)).bind fun aL => (if aL = true then (impl_opsOk.l0 k x8 x9 (wrap64 (x10 + 1))) else (some false))) else (none)) else (none)) else (some true)
def impl_opsOk.f (k : Nat) (l0 : List (S25)) : Option (Bool) := if (l0.length : Int) > 5 then (some false) else (impl_opsOk.l0 k l0 (l0.length : Int) 0)
theorem impl_opsOk.mono_l : ∀ k, (∀ y0 y1 y2, LeO (impl_opsOk.l0 k y0 y1 y2) (impl_opsOk.l0 (k + 1) y0 y1 y2))
 | 0 => (fun _ _ _ r h => nomatch (show none = some r from h))
 | k + 1 => by
  have ih0 := impl_opsOk.mono_l k
  ·intro y0 y1 y2
   unfold impl_opsOk.l0
   repeat' first
   | (with_reducible exact ih0 _ _ _)
   | (with_reducible exact impl_OpOk.mono _ _ _ _ _ _)
   | (with_reducible exact LeO.refl _)
   | (with_reducible exact LeO.none _)
   | (with_reducible refine LeO.ite ?_ ?_)
   | (with_reducible refine LeO.bind ?_ (fun _ => ?_))
   | exact ih0 _ _ _
   | exact impl_OpOk.mono _ _ _ _ _ _
   | exact LeO.none _
   | refine LeO.ite ?_ ?_
   | refine LeO.bind ?_ (fun _ => ?_)
theorem impl_opsOk.mono : ∀ a0 k, LeO (impl_opsOk.f k a0) (impl_opsOk.f (k + 1) a0) := by
 intro a0 k
 have ih0 := impl_opsOk.mono_l k
 unfold impl_opsOk.f
 repeat' first
   | (with_reducible exact ih0 _ _ _)
   | (with_reducible exact impl_OpOk.mono _ _ _ _ _ _)
   | (with_reducible exact LeO.refl _)
   | (with_reducible exact LeO.none _)
   | (with_reducible refine LeO.ite ?_ ?_)
   | (with_reducible refine LeO.bind ?_ (fun _ => ?_))
   | exact ih0 _ _ _
   | exact impl_OpOk.mono _ _ _ _ _ _
   | exact LeO.none _
   | refine LeO.ite ?_ ?_
   | refine LeO.bind ?_ (fun _ => ?_)
set_option maxHeartbeats 8000000 in
set_option maxRecDepth 100000 in
theorem impl_opsOk.calls (k : Nat) (A0 : Option Addr) (c0 : Nat) (l0 : List (S25)) (r : Bool) (w : World) (hr0 : Kd.C k25 w A0 l0.length l0) (bP : l0.length ≤ c0) (h : impl_opsOk.f k l0 = some r) :
  Calls Try.prog 20 #[.slice A0 l0.length c0] w fun e w' => e = .returned (.bool r) ∧ Below w.heap.size w w' := by
 have hu25 := Try.underlying25
 have bO := Aside0.mk hr0
 have bT := Aside0.mk bP
 clear hr0 bP
 have HB := Aside0.mk (Below.refl w.heap.size w)
 have H : (if (l0.length : Int) > 5 then (some false) else (impl_opsOk.l0 k l0 (l0.length : Int) 0)) = some r := h
 clear h
 by_cases c2 : (l0.length : Int) > 5
 ·rw [if_pos c2] at H
  have aP : decide (5 < (l0.length : Int)) = true := decide_eq_true c2
  have aQ : decide (5 < l0.length) = true := decide_eq_true (by omega)
  clear c2
  obtain rfl := Option.some.inj H
  go_enter Try.func20, Try.ntmps20
  go_wp2
  go_ret
  exact ⟨by first | rfl | (simp [errW_none, errW_some] <;> rfl) | (simp [*, errW_none, errW_some] <;> rfl), oB HB⟩
 ·rw [if_neg c2] at H
  have aP : decide (5 < (l0.length : Int)) = false := decide_eq_false c2
  have aQ : decide (5 < l0.length) = false := decide_eq_false (by omega)
  clear c2
  have H' := Aside0.mk H
  clear H
  go_enter Try.func20, Try.ntmps20
  go_wp2
  go_loopg [10] k (fun kq bS w' => ∃ (aA : Int), bS = .int .i64 aA ∧ Aside0 (impl_opsOk.l0 kq l0 (l0.length : Int) aA = some r) ∧ Aside0 (kq ≤ k) ∧ Aside0 (Below w.heap.size w w'))
  case atStart => exact ⟨(0), oU, H', ⟨Nat.le_refl _⟩, ⟨(oB HB)⟩⟩
  case round =>
   clear H'
   try clear c2
   try clear aP
   try clear aQ
   try clear p2
   obtain ⟨aA, rfl, HA, HK1, HB⟩ := hrel
   cases gk with
   | zero => exact nomatch (show none = some _ from HA.out)
   | succ k1 =>
    have H := HA.out
    clear HA
    simp only [impl_opsOk.l0] at H
    by_cases c3 : aA < (l0.length : Int)
    ·rw [if_pos c3] at H
     have bC : decide (aA < (l0.length : Int)) = true := decide_eq_true c3
     clear c3
     by_cases c4 : 0 ≤ aA
     ·rw [if_pos c4] at H
      have bQ : decide (0 ≤ aA) = true := decide_eq_true c4
      clear c4
      by_cases c5 : aA < (l0.length : Int)
      ·rw [if_pos c5] at H
       have bR : decide (aA < (l0.length : Int)) = true := decide_eq_true c5
       clear c5
       replace H := Option.bind_eq_some_iff.mp H
       obtain ⟨aL, bN, H⟩ := H
       (try dsimp only at H)
       have A6 := Aside0.mk bN
       clear bN
       by_cases c7 : aL = true
       ·subst c7
        rw [if_pos rfl] at H
        have H' := Aside0.mk H
        clear H
        have aI : 0 ≤ (aA : Int) := of_decide_eq_true oM
        have aJ : aA < (l0.length : Int) := of_decide_eq_true oM
        obtain ⟨aO, aK, aD, aE, aF, aG, aH⟩ := at_T25 bO.out aA aI aJ
        cases aK
        replace aD := (HB.out.cell (World.block_lt_of_cell? w _ aD)).trans aD
        replace aE := (HB.out.cell (World.block_lt_of_cell? w _ aE)).trans aE
        replace aF := (HB.out.cell (World.block_lt_of_cell? w _ aF)).trans aF
        replace aG := (HB.out.cell (World.block_lt_of_cell? w _ aG)).trans aG
        replace aH := (HB.out.cell (World.block_lt_of_cell? w _ aH)).trans aH
        replace aI := eq_true aI
        replace aJ := eq_true aJ
        go_wp2_with (first | ((with_reducible refine gate_dst (N := 4) rfl ?_); refine box_event rfl (N := 4) rfl (cs := #[.int .i64 0, .int .i64 0, .int .i64 0, .int .i64 0, .int .i64 0]) (t := 25) oS ?_; intro aC hg w8 hbox hb; have n_ := o2_ (below_step (oB HB) hb) (o2_ (hbox) (o2_ ((oG hg (below_size (oB HB)) : w.heap.size ≤ aC)) (o1_ ((oG hg (below_size (oB HB)) : w.heap.size ≤ aC))))); clear HB; obtain ⟨HB, aB, aN, aM⟩ := n_; clear hb hbox hg; have bD : w8.cell? ⟨aC, 0, none⟩ = some (.int .i64 0) := (blk_cell aB.out 0).trans rfl; have bE : w8.cell? ⟨aC, 1, none⟩ = some (.int .i64 0) := (blk_cell aB.out 1).trans rfl; have bF : w8.cell? ⟨aC, 2, none⟩ = some (.int .i64 0) := (blk_cell aB.out 2).trans rfl; have bG : w8.cell? ⟨aC, 3, none⟩ = some (.int .i64 0) := (blk_cell aB.out 3).trans rfl; have bH : w8.cell? ⟨aC, 4, none⟩ = some (.int .i64 0) := (blk_cell aB.out 4).trans rfl; have bI := blk_frozen aB.out 0; have bJ := blk_frozen aB.out 1; have bK := blk_frozen aB.out 2; have bL := blk_frozen aB.out 3; have bM := blk_frozen aB.out 4) | ((with_reducible refine gate_callee (f := 14) rfl ?_); refine goesL_ (some 15) rfl rfl Try.func14 oK rfl #[.agg #[.int .i64 ((rd_T25 l0 aA).f0), .int .i64 ((rd_T25 l0 aA).f1), .int .i64 ((rd_T25 l0 aA).f2), .int .i64 ((rd_T25 l0 aA).f3), .int .i64 ((rd_T25 l0 aA).f4)]] rfl oA ?_; (with_reducible refine (impl_OpOk.calls k1 ((rd_T25 l0 aA).f0) ((rd_T25 l0 aA).f1) ((rd_T25 l0 aA).f2) ((rd_T25 l0 aA).f3) ((rd_T25 l0 aA).f4) true _ A6.out).mono ?_); rintro e bU ⟨rfl, hb⟩; refine ⟨_, rfl, ?_⟩; have n_ := o2_ (blk_below (g := aC) (o := .cells #[.int .i64 ((rd_T25 l0 aA).f0), .int .i64 ((rd_T25 l0 aA).f1), .int .i64 ((rd_T25 l0 aA).f2), .int .i64 ((rd_T25 l0 aA).f3), .int .i64 ((rd_T25 l0 aA).f4)] 25 (0, 0)) (blk_put (blk_put (blk_put (blk_put (blk_put aB.out 0 _ rfl) 1 _ rfl) 2 _ rfl) 3 _ rfl) 4 _ rfl) hb) (o1_ (below_step (oB HB) hb)); clear aB HB; obtain ⟨aB, HB⟩ := n_; (try clear hb); (try clear hb2); (try clear hk); (try clear hi)))
        go_roundg k1
        case measure => have := HK1.out; omega
        case rel => exact ⟨(wrap64 (aA + 1)), oU, H', ⟨(by have := HK1.out; omega)⟩, ⟨(oB HB)⟩⟩
       ·replace c7 := Bool.eq_false_iff.mpr c7
        subst c7
        rw [if_neg (show ¬ (false = true) by decide)] at H
        obtain rfl := Option.some.inj H
        have aI : 0 ≤ (aA : Int) := of_decide_eq_true oM
        have aJ : aA < (l0.length : Int) := of_decide_eq_true oM
        obtain ⟨aO, aK, aD, aE, aF, aG, aH⟩ := at_T25 bO.out aA aI aJ
        cases aK
        replace aD := (HB.out.cell (World.block_lt_of_cell? w _ aD)).trans aD
        replace aE := (HB.out.cell (World.block_lt_of_cell? w _ aE)).trans aE
        replace aF := (HB.out.cell (World.block_lt_of_cell? w _ aF)).trans aF
        replace aG := (HB.out.cell (World.block_lt_of_cell? w _ aG)).trans aG
        replace aH := (HB.out.cell (World.block_lt_of_cell? w _ aH)).trans aH
        replace aI := eq_true aI
        replace aJ := eq_true aJ
        go_wp2_with (first | ((with_reducible refine gate_dst (N := 4) rfl ?_); refine box_event rfl (N := 4) rfl (cs := #[.int .i64 0, .int .i64 0, .int .i64 0, .int .i64 0, .int .i64 0]) (t := 25) oS ?_; intro aC hg aR hbox hb; have n_ := o2_ (below_step (oB HB) hb) (o2_ (hbox) (o2_ ((oG hg (below_size (oB HB)) : w.heap.size ≤ aC)) (o1_ ((oG hg (below_size (oB HB)) : w.heap.size ≤ aC))))); clear HB; obtain ⟨HB, aB, aN, aM⟩ := n_; clear hb hbox hg; have aS : aR.cell? ⟨aC, 0, none⟩ = some (.int .i64 0) := (blk_cell aB.out 0).trans rfl; have aT : aR.cell? ⟨aC, 1, none⟩ = some (.int .i64 0) := (blk_cell aB.out 1).trans rfl; have aU : aR.cell? ⟨aC, 2, none⟩ = some (.int .i64 0) := (blk_cell aB.out 2).trans rfl; have aV : aR.cell? ⟨aC, 3, none⟩ = some (.int .i64 0) := (blk_cell aB.out 3).trans rfl; have aW : aR.cell? ⟨aC, 4, none⟩ = some (.int .i64 0) := (blk_cell aB.out 4).trans rfl; have aX := blk_frozen aB.out 0; have aY := blk_frozen aB.out 1; have aZ := blk_frozen aB.out 2; have bA := blk_frozen aB.out 3; have bB := blk_frozen aB.out 4) | ((with_reducible refine gate_callee (f := 14) rfl ?_); refine goesL_ (some 15) rfl rfl Try.func14 oK rfl #[.agg #[.int .i64 ((rd_T25 l0 aA).f0), .int .i64 ((rd_T25 l0 aA).f1), .int .i64 ((rd_T25 l0 aA).f2), .int .i64 ((rd_T25 l0 aA).f3), .int .i64 ((rd_T25 l0 aA).f4)]] rfl oA ?_; (with_reducible refine (impl_OpOk.calls k1 ((rd_T25 l0 aA).f0) ((rd_T25 l0 aA).f1) ((rd_T25 l0 aA).f2) ((rd_T25 l0 aA).f3) ((rd_T25 l0 aA).f4) false _ A6.out).mono ?_); rintro e bV ⟨rfl, hb⟩; refine ⟨_, rfl, ?_⟩; replace HB := o1_ (below_step (oB HB) hb); (try clear hb); (try clear hb2); (try clear hk); (try clear hi)))
        go_ret
        exact ⟨by first | rfl | (simp [errW_none, errW_some] <;> rfl) | (simp [*, errW_none, errW_some] <;> rfl), oB HB⟩
      ·rw [if_neg c5] at H
       exact absurd H (by simp)
     ·rw [if_neg c4] at H
      exact absurd H (by simp)
    ·rw [if_neg c3] at H
     have bC : decide (aA < (l0.length : Int)) = false := decide_eq_false c3
     clear c3
     obtain rfl := Option.some.inj H
     go_wp2
     go_ret
     exact ⟨by first | rfl | (simp [errW_none, errW_some] <;> rfl) | (simp [*, errW_none, errW_some] <;> rfl), oB HB⟩

end Go.Proofs.Ytjkaalcocgioaaa.X
