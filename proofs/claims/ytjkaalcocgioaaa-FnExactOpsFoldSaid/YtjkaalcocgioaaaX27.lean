/- What functions of the program come to, each with its proof. No condition but what each theorem states. -/
import Derived.Test.YtjkaalcocgioaaaX0
import Derived.Test.YtjkaalcocgioaaaX26
namespace Go.Proofs.Ytjkaalcocgioaaa.X
open Go.RowKit Go.Proofs.YtjkaalcocgioaaaW.PrintWords Go.Proofs.YtjkaalcocgioaaaW.PrintLast Go.Proofs.YtjkaalcocgioaaaW.PrintMore Go.Proofs.Ytjkaalcocgioaaa.Hyb
attribute [local go_sem] max2_int min2_int max_two min_two max_three min_three max_four min_four
set_option linter.unusedVariables false
set_option linter.unusedSimpArgs false

/-! ### spec_l6All: function 29 -/
def spec_l6All.l0 : Nat → List (S25) → Int → Option (Bool)
 | 0, _, _ => none
 | k + 1, x0, x3 => if x3 < (x0.length : Int) then (if 0 ≤ x3 then ((spec_OpOk.f ((rd_T25 x0 x3).f0) ((rd_T25 x0 x3).f1) ((rd_T25 x0 x3).f2) ((rd_T25 x0 x3).f3) ((rd_T25 x0 x3).f4)).bind fun aJ => (if aJ = true then (spec_l6All.l0 k x0 (wrap64 (x3 + 1))) else (some false))) else (none)) else (some (decide ((x0.length : Int) ≤ 5)))
def spec_l6All.f (k : Nat) (l0 : List (S25)) : Option (Bool) := spec_l6All.l0 k l0 0
theorem spec_l6All.mono_l : ∀ k, (∀ y0 y1, LeO (spec_l6All.l0 k y0 y1) (spec_l6All.l0 (k + 1) y0 y1))
 | 0 => (fun _ _ r h => nomatch (show none = some r from h))
 | k + 1 => by
  have ih0 := spec_l6All.mono_l k
  ·intro y0 y1
   unfold spec_l6All.l0
   repeat' first
   | (with_reducible exact ih0 _ _)
   | (with_reducible exact LeO.refl _)
   | (with_reducible exact LeO.none _)
   | (with_reducible refine LeO.ite ?_ ?_)
   | (with_reducible refine LeO.bind ?_ (fun _ => ?_))
   | exact ih0 _ _
   | exact LeO.none _
   | refine LeO.ite ?_ ?_
   | refine LeO.bind ?_ (fun _ => ?_)
theorem spec_l6All.mono : ∀ a0 k, LeO (spec_l6All.f k a0) (spec_l6All.f (k + 1) a0) := by
 intro a0 k
 have ih0 := spec_l6All.mono_l k
 unfold spec_l6All.f
 repeat' first
   | (with_reducible exact ih0 _ _)
   | (with_reducible exact LeO.refl _)
   | (with_reducible exact LeO.none _)
   | (with_reducible refine LeO.ite ?_ ?_)
   | (with_reducible refine LeO.bind ?_ (fun _ => ?_))
   | exact ih0 _ _
   | exact LeO.none _
   | refine LeO.ite ?_ ?_
   | refine LeO.bind ?_ (fun _ => ?_)
set_option maxHeartbeats 8000000 in
set_option maxRecDepth 100000 in
theorem spec_l6All.calls (k : Nat) (A0 : Option Addr) (c0 : Nat) (l0 : List (S25)) (r : Bool) (w : World) (hr0 : Kd.C k25 w A0 l0.length l0) (aO : l0.length ≤ c0) (h : spec_l6All.f k l0 = some r) :
  Calls Try.prog 29 #[.slice A0 l0.length c0] w fun e w' => e = .returned (.bool r) ∧ Below w.heap.size w w' := by
 have hu25 := Try.underlying25
 have aN := Aside0.mk hr0
 have aQ := Aside0.mk aO
 clear hr0 aO
 have HB := Aside0.mk (Below.refl w.heap.size w)
 have H : (spec_l6All.l0 k l0 0) = some r := h
 clear h
 have H' := Aside0.mk H
 clear H
 go_enter Try.func29, Try.ntmps29
 go_wp2
 go_loopg [3] k (fun kq v3 w' => ∃ (aA : Int), v3 = .int .i64 aA ∧ Aside0 (spec_l6All.l0 kq l0 aA = some r) ∧ Aside0 (kq ≤ k) ∧ Aside0 (Below w.heap.size w w'))
 case atStart => exact ⟨(0), oU, H', ⟨Nat.le_refl _⟩, ⟨(oB HB)⟩⟩
 case round =>
  clear H'
  obtain ⟨aA, rfl, HA, HK1, HB⟩ := hrel
  cases gk with
  | zero => exact nomatch (show none = some _ from HA.out)
  | succ k1 =>
   have H := HA.out
   clear HA
   simp only [spec_l6All.l0] at H
   by_cases c2 : aA < (l0.length : Int)
   ·rw [if_pos c2] at H
    have aL : decide (aA < (l0.length : Int)) = true := decide_eq_true c2
    clear c2
    by_cases c3 : 0 ≤ aA
    ·rw [if_pos c3] at H
     have aP : decide (0 ≤ aA) = true := decide_eq_true c3
     clear c3
     replace H := Option.bind_eq_some_iff.mp H
     obtain ⟨aJ, aM, H⟩ := H
     (try dsimp only at H)
     have A4 := Aside0.mk aM
     clear aM
     by_cases c5 : aJ = true
     ·subst c5
      rw [if_pos rfl] at H
      have H' := Aside0.mk H
      clear H
      have aG : 0 ≤ (aA : Int) := of_decide_eq_true oM
      have aH : aA < (l0.length : Int) := of_decide_eq_true oM
      obtain ⟨aK, aI, aB, aC, aD, aE, aF⟩ := at_T25 aN.out aA aG aH
      cases aI
      replace aB := (HB.out.cell (World.block_lt_of_cell? w _ aB)).trans aB
      replace aC := (HB.out.cell (World.block_lt_of_cell? w _ aC)).trans aC
      replace aD := (HB.out.cell (World.block_lt_of_cell? w _ aD)).trans aD
      replace aE := (HB.out.cell (World.block_lt_of_cell? w _ aE)).trans aE
      replace aF := (HB.out.cell (World.block_lt_of_cell? w _ aF)).trans aF
      replace aG := eq_true aG
      replace aH := eq_true aH
      go_wp2_with (first | ((with_reducible refine gate_callee (f := 12) rfl ?_); refine goesL_ (some 14) rfl rfl Try.func12 oK rfl #[.agg #[.int .i64 ((rd_T25 l0 aA).f0), .int .i64 ((rd_T25 l0 aA).f1), .int .i64 ((rd_T25 l0 aA).f2), .int .i64 ((rd_T25 l0 aA).f3), .int .i64 ((rd_T25 l0 aA).f4)]] rfl oA ?_; (with_reducible refine (spec_OpOk.calls ((rd_T25 l0 aA).f0) ((rd_T25 l0 aA).f1) ((rd_T25 l0 aA).f2) ((rd_T25 l0 aA).f3) ((rd_T25 l0 aA).f4) true _ A4.out).mono ?_); rintro e w6 ⟨rfl, hb⟩; refine ⟨_, rfl, ?_⟩; replace HB := o1_ (below_step (oB HB) hb); (try clear hb); (try clear hb2); (try clear hk); (try clear hi)))
      go_roundg k1
      case measure => have := HK1.out; omega
      case rel => exact ⟨(wrap64 (aA + 1)), oU, H', ⟨(by have := HK1.out; omega)⟩, ⟨(oB HB)⟩⟩
     ·replace c5 := Bool.eq_false_iff.mpr c5
      subst c5
      rw [if_neg (show ¬ (false = true) by decide)] at H
      obtain rfl := Option.some.inj H
      have aG : 0 ≤ (aA : Int) := of_decide_eq_true oM
      have aH : aA < (l0.length : Int) := of_decide_eq_true oM
      obtain ⟨aK, aI, aB, aC, aD, aE, aF⟩ := at_T25 aN.out aA aG aH
      cases aI
      replace aB := (HB.out.cell (World.block_lt_of_cell? w _ aB)).trans aB
      replace aC := (HB.out.cell (World.block_lt_of_cell? w _ aC)).trans aC
      replace aD := (HB.out.cell (World.block_lt_of_cell? w _ aD)).trans aD
      replace aE := (HB.out.cell (World.block_lt_of_cell? w _ aE)).trans aE
      replace aF := (HB.out.cell (World.block_lt_of_cell? w _ aF)).trans aF
      replace aG := eq_true aG
      replace aH := eq_true aH
      go_wp2_with (first | ((with_reducible refine gate_callee (f := 12) rfl ?_); refine goesL_ (some 14) rfl rfl Try.func12 oK rfl #[.agg #[.int .i64 ((rd_T25 l0 aA).f0), .int .i64 ((rd_T25 l0 aA).f1), .int .i64 ((rd_T25 l0 aA).f2), .int .i64 ((rd_T25 l0 aA).f3), .int .i64 ((rd_T25 l0 aA).f4)]] rfl oA ?_; (with_reducible refine (spec_OpOk.calls ((rd_T25 l0 aA).f0) ((rd_T25 l0 aA).f1) ((rd_T25 l0 aA).f2) ((rd_T25 l0 aA).f3) ((rd_T25 l0 aA).f4) false _ A4.out).mono ?_); rintro e w7 ⟨rfl, hb⟩; refine ⟨_, rfl, ?_⟩; replace HB := o1_ (below_step (oB HB) hb); (try clear hb); (try clear hb2); (try clear hk); (try clear hi)))
      go_ret
      exact ⟨by first | rfl | (simp [errW_none, errW_some] <;> rfl) | (simp [*, errW_none, errW_some] <;> rfl), oB HB⟩
    ·rw [if_neg c3] at H
     exact absurd H (by simp)
   ·rw [if_neg c2] at H
    have aL : decide (aA < (l0.length : Int)) = false := decide_eq_false c2
    clear c2
    obtain rfl := Option.some.inj H
    go_wp2
    go_ret
    exact ⟨by first | rfl | (simp [errW_none, errW_some] <;> rfl) | (simp [*, errW_none, errW_some] <;> rfl), oB HB⟩

end Go.Proofs.Ytjkaalcocgioaaa.X
