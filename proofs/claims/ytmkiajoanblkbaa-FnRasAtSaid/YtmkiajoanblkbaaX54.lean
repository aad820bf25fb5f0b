/- Functions of the given program as plain Lean functions, and for each the proof that the machine's call comes to what its function says. No condition but what each theorem states. Written by a program of this session. -/
import Derived.Test.YtmkiajoanblkbaaX0
import Derived.Test.YtmkiajoanblkbaaX20
import Derived.Test.YtmkiajoanblkbaaX31
namespace Go.Proofs.Ytmkiajoanblkbaa.X
open Go.RowKit Go.Proofs.YtmkiajoanblkbaaW.PrintWords Go.Proofs.YtmkiajoanblkbaaW.PrintLast Go.Proofs.YtmkiajoanblkbaaW.PrintMore
attribute [local go_sem] max2_int min2_int max_two min_two max_three min_three max_four min_four   -- for this text's walks alone
set_option linter.unusedVariables false
set_option linter.unusedSimpArgs false

/-! ### spec_RasAt: function 36 -/
def spec_RasAt.f (k : Nat) (W H : Int) (l : List S39) (x y : Int) : Option (Int × Int × Int × Int) :=
 (spec_RasOk.f k W H l).bind fun t => if t = true then (if (1 ≤ W ∧ W ≤ 6) ∧ (1 ≤ H ∧ H ≤ 6) ∧ (l.length : Int) = W * H then (if 0 ≤ x ∧ x < W ∧ 0 ≤ y ∧ y < H then some ((rd_T39 l (y * W + x)).f0, (rd_T39 l (y * W + x)).f1, (rd_T39 l (y * W + x)).f2, (rd_T39 l (y * W + x)).f3) else some (0, 0, 0, 0)) else none) else some (0, 0, 0, 0)
theorem spec_RasAt.mono : ∀ a0 a1 a2 a3 a4 k, LeO (spec_RasAt.f k a0 a1 a2 a3 a4) (spec_RasAt.f (k + 1) a0 a1 a2 a3 a4) := by
 intro a0 a1 a2 a3 a4 k
 unfold spec_RasAt.f
 exact LeO.bind (spec_RasOk.mono _ _ _ _) (fun _ => LeO.refl _)
theorem ratB {W H : Int} (hW : 1 ≤ W ∧ W ≤ 6) (hH : 1 ≤ H ∧ H ≤ 6) {x y : Int} (x0 : 0 ≤ x) (x1 : x < W) (y0 : 0 ≤ y) (y1 : y < H) : 0 ≤ y * W ∧ y * W ≤ 30 ∧ y * W + x < W * H := by
 have h1 : y = 0 ∨ y = 1 ∨ y = 2 ∨ y = 3 ∨ y = 4 ∨ y = 5 := by omega
 have h2 : H = 1 ∨ H = 2 ∨ H = 3 ∨ H = 4 ∨ H = 5 ∨ H = 6 := by omega
 rcases h1 with rfl | rfl | rfl | rfl | rfl | rfl <;> rcases h2 with rfl | rfl | rfl | rfl | rfl | rfl <;> omega
theorem in_false {x a b : Int} (h : ¬ (a ≤ x ∧ x ≤ b)) : spec_l1In.f x a b = some false := by
 unfold spec_l1In.f
 by_cases g : x ≥ a
 ·rw [if_pos g, decide_eq_false (by omega)]
 ·rw [if_neg g]
theorem in_true {x a b : Int} (h : a ≤ x ∧ x ≤ b) : spec_l1In.f x a b = some true := by
 unfold spec_l1In.f
 rw [if_pos (by omega), decide_eq_true (by omega)]
set_option maxHeartbeats 1000000 in
set_option maxRecDepth 100000 in
theorem ratBad (k : Nat) (W H : Int) (A : Option Addr) (c : Nat) (l : List S39) (x y : Int) (w : World) (hC : Kd.C k39 w A l.length l) (hc : l.length ≤ c) (hr : spec_RasOk.f k W H l = some false)  :
  Calls Try.prog 36 #[.agg #[.int .i64 W, .int .i64 H, .slice A l.length c], .int .i64 x, .int .i64 y] w fun e w' => e = .returned (.agg #[.int .i64 0, .int .i64 0, .int .i64 0, .int .i64 0]) ∧ Below w.heap.size w w' := by
 have HC := Aside0.mk hC
 have HR := Aside0.mk hr
 have hu36 := Try.underlying36
 have hu39 := Try.underlying39
 clear hC hr
 go_enter Try.func36, Try.ntmps36
 go_wp2_with (first | ((with_reducible refine gate_dst (N := 3) rfl ?_); refine box_event rfl (N := 3) rfl (cs := #[.int .i64 W, .int .i64 H, .slice A l.length c]) (t := 36) (by first | (go_simp; done) | (go_simp; rfl)) ?_; intro g1 hg_ W1 hk_ hb_; have HKg1 := Aside0.mk hk_; have HBW1 := Aside0.mk (below_then (Below.refl w.heap.size w) (Below.refl w.heap.size w).size hb_); have HGEg1 : Aside0 (w.heap.size ≤ g1) := ⟨by rw [hg_]; exact (Below.refl w.heap.size w).size⟩; clear hk_ hb_ hg_) | ((with_reducible refine gate_dst (N := 6) rfl ?_); refine box_event rfl (N := 6) rfl (cs := #[.int .i64 0, .int .i64 0, .int .i64 0, .int .i64 0]) (t := 39) (by first | (go_simp; done) | (go_simp; rfl)) ?_; intro g2 hg_ W2 hk_ hb_; have HKg2 := Aside0.mk hk_; have HBW2 := Aside0.mk (below_then HBW1.out HBW1.out.size hb_); have HGEg2 : Aside0 (w.heap.size ≤ g2) := ⟨by rw [hg_]; exact HBW1.out.size⟩; replace HKg1 := Aside0.mk (blk_below HKg1.out hb_); clear hk_ hb_ hg_; have zr0 := blk_cell HKg1.out 0; have zr1 := blk_cell HKg1.out 1; have zr2 := blk_cell HKg1.out 2; simp only [List.getElem?_toArray, List.getElem?_cons_zero, List.getElem?_cons_succ] at zr0 zr1 zr2))
 refine (spec_RasOk.calls k W H A c l false _ (Kd.C_below HC.out HBW2.out) hc HR.out).mono ?_
 rintro e w4 ⟨rfl, hb4⟩
 clear zr0 zr1 zr2
 have HB4 := Aside0.mk (below_then HBW2.out HBW2.out.size hb4)
 have HK14 := Aside0.mk (blk_below HKg1.out hb4)
 have HK24 := Aside0.mk (blk_below HKg2.out hb4)
 clear hb4
 have zr0 := blk_cell HK14.out 0
 have zr1 := blk_cell HK14.out 1
 have zr2 := blk_cell HK14.out 2
 simp only [List.getElem?_toArray, List.getElem?_cons_zero, List.getElem?_cons_succ] at zr0 zr1 zr2
 have y0 := blk_cell HK24.out 0
 have y1 := blk_cell HK24.out 1
 have y2 := blk_cell HK24.out 2
 have y3 := blk_cell HK24.out 3
 simp only [List.getElem?_toArray, List.getElem?_cons_zero, List.getElem?_cons_succ] at y0 y1 y2 y3
 have yf0 := blk_frozen HK24.out 0
 have yf1 := blk_frozen HK24.out 1
 have yf2 := blk_frozen HK24.out 2
 have yf3 := blk_frozen HK24.out 3
 go_wp2_with (fail)
 refine bodyPost_ret (results_cell_row rfl _ _ g2 39 #[.int .i64 0, .int .i64 0, .int .i64 0, .int .i64 0] (0, 0) _ rfl (blk_put (blk_put (blk_put (blk_put HK24.out 0 _ rfl) 1 _ rfl) 2 _ rfl) 3 _ rfl) Try.underlying39 rfl (by kernel_rfl)) rfl ?_
 exact ⟨rfl, below_set (below_set (below_set (below_set HB4.out HGEg2.out) HGEg2.out) HGEg2.out) HGEg2.out⟩
set_option maxHeartbeats 1000000 in
set_option maxRecDepth 100000 in
theorem ratX (k : Nat) (W H : Int) (A : Option Addr) (c : Nat) (l : List S39) (x y : Int) (w : World) (hC : Kd.C k39 w A l.length l) (hc : l.length ≤ c) (hr : spec_RasOk.f k W H l = some true) (hW : 1 ≤ W ∧ W ≤ 6) (hH : 1 ≤ H ∧ H ≤ 6) (hx : ¬ (0 ≤ x ∧ x < W)) :
  Calls Try.prog 36 #[.agg #[.int .i64 W, .int .i64 H, .slice A l.length c], .int .i64 x, .int .i64 y] w fun e w' => e = .returned (.agg #[.int .i64 0, .int .i64 0, .int .i64 0, .int .i64 0]) ∧ Below w.heap.size w w' := by
 have HC := Aside0.mk hC
 have HR := Aside0.mk hr
 have hu36 := Try.underlying36
 have hu39 := Try.underlying39
 clear hC hr
 have e1 : IntKind.i64.wrap (W - 1) = W - 1 := by rw [i64_w]; unfold wrap64; omega
 have e2 : IntKind.i64.wrap (H - 1) = H - 1 := by rw [i64_w]; unfold wrap64; omega
 have HX := Aside0.mk (in_false (x := x) (a := 0) (b := W - 1) (by omega))
 clear hx
 go_enter Try.func36, Try.ntmps36
 go_wp2_with (first | ((with_reducible refine gate_dst (N := 3) rfl ?_); refine box_event rfl (N := 3) rfl (cs := #[.int .i64 W, .int .i64 H, .slice A l.length c]) (t := 36) (by first | (go_simp; done) | (go_simp; rfl)) ?_; intro g1 hg_ W1 hk_ hb_; have HKg1 := Aside0.mk hk_; have HBW1 := Aside0.mk (below_then (Below.refl w.heap.size w) (Below.refl w.heap.size w).size hb_); have HGEg1 : Aside0 (w.heap.size ≤ g1) := ⟨by rw [hg_]; exact (Below.refl w.heap.size w).size⟩; clear hk_ hb_ hg_) | ((with_reducible refine gate_dst (N := 6) rfl ?_); refine box_event rfl (N := 6) rfl (cs := #[.int .i64 0, .int .i64 0, .int .i64 0, .int .i64 0]) (t := 39) (by first | (go_simp; done) | (go_simp; rfl)) ?_; intro g2 hg_ W2 hk_ hb_; have HKg2 := Aside0.mk hk_; have HBW2 := Aside0.mk (below_then HBW1.out HBW1.out.size hb_); have HGEg2 : Aside0 (w.heap.size ≤ g2) := ⟨by rw [hg_]; exact HBW1.out.size⟩; replace HKg1 := Aside0.mk (blk_below HKg1.out hb_); clear hk_ hb_ hg_; have zr0 := blk_cell HKg1.out 0; have zr1 := blk_cell HKg1.out 1; have zr2 := blk_cell HKg1.out 2; simp only [List.getElem?_toArray, List.getElem?_cons_zero, List.getElem?_cons_succ] at zr0 zr1 zr2))
 refine (spec_RasOk.calls k W H A c l true _ (Kd.C_below HC.out HBW2.out) hc HR.out).mono ?_
 rintro e w4 ⟨rfl, hb4⟩
 clear zr0 zr1 zr2
 have HB4 := Aside0.mk (below_then HBW2.out HBW2.out.size hb4)
 have HK14 := Aside0.mk (blk_below HKg1.out hb4)
 have HK24 := Aside0.mk (blk_below HKg2.out hb4)
 clear hb4
 have zr0 := blk_cell HK14.out 0
 have zr1 := blk_cell HK14.out 1
 have zr2 := blk_cell HK14.out 2
 simp only [List.getElem?_toArray, List.getElem?_cons_zero, List.getElem?_cons_succ] at zr0 zr1 zr2
 have y0 := blk_cell HK24.out 0
 have y1 := blk_cell HK24.out 1
 have y2 := blk_cell HK24.out 2
 have y3 := blk_cell HK24.out 3
 simp only [List.getElem?_toArray, List.getElem?_cons_zero, List.getElem?_cons_succ] at y0 y1 y2 y3
 have yf0 := blk_frozen HK24.out 0
 have yf1 := blk_frozen HK24.out 1
 have yf2 := blk_frozen HK24.out 2
 have yf3 := blk_frozen HK24.out 3
 go_wp2_with (fail)
 refine (spec_l1In.calls x 0 (W - 1) false _ HX.out).mono ?_
 rintro e w' ⟨rfl, ⟨nd, rfl⟩⟩
 clear zr0 zr1 zr2 y0 y1 y2 y3 yf0 yf1 yf2 yf3
 have HB5 := Aside0.mk (pw_below_drewN HB4.out nd)
 have HK15 := Aside0.mk (blk_drewN HK14.out nd)
 have HK25 := Aside0.mk (blk_drewN HK24.out nd)
 generalize w4.drewN nd = w5 at HB5 HK15 HK25 ⊢
 have zr0 := blk_cell HK15.out 0
 have zr1 := blk_cell HK15.out 1
 have zr2 := blk_cell HK15.out 2
 simp only [List.getElem?_toArray, List.getElem?_cons_zero, List.getElem?_cons_succ] at zr0 zr1 zr2
 have y0 := blk_cell HK25.out 0
 have y1 := blk_cell HK25.out 1
 have y2 := blk_cell HK25.out 2
 have y3 := blk_cell HK25.out 3
 simp only [List.getElem?_toArray, List.getElem?_cons_zero, List.getElem?_cons_succ] at y0 y1 y2 y3
 have yf0 := blk_frozen HK25.out 0
 have yf1 := blk_frozen HK25.out 1
 have yf2 := blk_frozen HK25.out 2
 have yf3 := blk_frozen HK25.out 3
 go_wp2_with (fail)
 refine bodyPost_ret (results_cell_row rfl _ _ g2 39 #[.int .i64 0, .int .i64 0, .int .i64 0, .int .i64 0] (0, 0) _ rfl (blk_put (blk_put (blk_put (blk_put HK25.out 0 _ rfl) 1 _ rfl) 2 _ rfl) 3 _ rfl) Try.underlying39 rfl (by kernel_rfl)) rfl ?_
 exact ⟨rfl, below_set (below_set (below_set (below_set HB5.out HGEg2.out) HGEg2.out) HGEg2.out) HGEg2.out⟩
set_option maxHeartbeats 1000000 in
set_option maxRecDepth 100000 in
theorem ratY (k : Nat) (W H : Int) (A : Option Addr) (c : Nat) (l : List S39) (x y : Int) (w : World) (hC : Kd.C k39 w A l.length l) (hc : l.length ≤ c) (hr : spec_RasOk.f k W H l = some true) (hW : 1 ≤ W ∧ W ≤ 6) (hH : 1 ≤ H ∧ H ≤ 6) (hx : 0 ≤ x ∧ x < W) (hy : ¬ (0 ≤ y ∧ y < H)) :
  Calls Try.prog 36 #[.agg #[.int .i64 W, .int .i64 H, .slice A l.length c], .int .i64 x, .int .i64 y] w fun e w' => e = .returned (.agg #[.int .i64 0, .int .i64 0, .int .i64 0, .int .i64 0]) ∧ Below w.heap.size w w' := by
 have HC := Aside0.mk hC
 have HR := Aside0.mk hr
 have hu36 := Try.underlying36
 have hu39 := Try.underlying39
 clear hC hr
 have e1 : IntKind.i64.wrap (W - 1) = W - 1 := by rw [i64_w]; unfold wrap64; omega
 have e2 : IntKind.i64.wrap (H - 1) = H - 1 := by rw [i64_w]; unfold wrap64; omega
 have HX := Aside0.mk (in_true (x := x) (a := 0) (b := W - 1) (by omega))
 have HY := Aside0.mk (in_false (x := y) (a := 0) (b := H - 1) (by omega))
 clear hx hy
 go_enter Try.func36, Try.ntmps36
 go_wp2_with (first | ((with_reducible refine gate_dst (N := 3) rfl ?_); refine box_event rfl (N := 3) rfl (cs := #[.int .i64 W, .int .i64 H, .slice A l.length c]) (t := 36) (by first | (go_simp; done) | (go_simp; rfl)) ?_; intro g1 hg_ W1 hk_ hb_; have HKg1 := Aside0.mk hk_; have HBW1 := Aside0.mk (below_then (Below.refl w.heap.size w) (Below.refl w.heap.size w).size hb_); have HGEg1 : Aside0 (w.heap.size ≤ g1) := ⟨by rw [hg_]; exact (Below.refl w.heap.size w).size⟩; clear hk_ hb_ hg_) | ((with_reducible refine gate_dst (N := 6) rfl ?_); refine box_event rfl (N := 6) rfl (cs := #[.int .i64 0, .int .i64 0, .int .i64 0, .int .i64 0]) (t := 39) (by first | (go_simp; done) | (go_simp; rfl)) ?_; intro g2 hg_ W2 hk_ hb_; have HKg2 := Aside0.mk hk_; have HBW2 := Aside0.mk (below_then HBW1.out HBW1.out.size hb_); have HGEg2 : Aside0 (w.heap.size ≤ g2) := ⟨by rw [hg_]; exact HBW1.out.size⟩; replace HKg1 := Aside0.mk (blk_below HKg1.out hb_); clear hk_ hb_ hg_; have zr0 := blk_cell HKg1.out 0; have zr1 := blk_cell HKg1.out 1; have zr2 := blk_cell HKg1.out 2; simp only [List.getElem?_toArray, List.getElem?_cons_zero, List.getElem?_cons_succ] at zr0 zr1 zr2))
 refine (spec_RasOk.calls k W H A c l true _ (Kd.C_below HC.out HBW2.out) hc HR.out).mono ?_
 rintro e w4 ⟨rfl, hb4⟩
 clear zr0 zr1 zr2
 have HB4 := Aside0.mk (below_then HBW2.out HBW2.out.size hb4)
 have HK14 := Aside0.mk (blk_below HKg1.out hb4)
 have HK24 := Aside0.mk (blk_below HKg2.out hb4)
 clear hb4
 have zr0 := blk_cell HK14.out 0
 have zr1 := blk_cell HK14.out 1
 have zr2 := blk_cell HK14.out 2
 simp only [List.getElem?_toArray, List.getElem?_cons_zero, List.getElem?_cons_succ] at zr0 zr1 zr2
 have y0 := blk_cell HK24.out 0
 have y1 := blk_cell HK24.out 1
 have y2 := blk_cell HK24.out 2
 have y3 := blk_cell HK24.out 3
 simp only [List.getElem?_toArray, List.getElem?_cons_zero, List.getElem?_cons_succ] at y0 y1 y2 y3
 have yf0 := blk_frozen HK24.out 0
 have yf1 := blk_frozen HK24.out 1
 have yf2 := blk_frozen HK24.out 2
 have yf3 := blk_frozen HK24.out 3
 go_wp2_with (fail)
 refine (spec_l1In.calls x 0 (W - 1) true _ HX.out).mono ?_
 rintro e w' ⟨rfl, ⟨nd, rfl⟩⟩
 clear zr0 zr1 zr2 y0 y1 y2 y3 yf0 yf1 yf2 yf3
 have HB5 := Aside0.mk (pw_below_drewN HB4.out nd)
 have HK15 := Aside0.mk (blk_drewN HK14.out nd)
 have HK25 := Aside0.mk (blk_drewN HK24.out nd)
 generalize w4.drewN nd = w5 at HB5 HK15 HK25 ⊢
 have zr0 := blk_cell HK15.out 0
 have zr1 := blk_cell HK15.out 1
 have zr2 := blk_cell HK15.out 2
 simp only [List.getElem?_toArray, List.getElem?_cons_zero, List.getElem?_cons_succ] at zr0 zr1 zr2
 have y0 := blk_cell HK25.out 0
 have y1 := blk_cell HK25.out 1
 have y2 := blk_cell HK25.out 2
 have y3 := blk_cell HK25.out 3
 simp only [List.getElem?_toArray, List.getElem?_cons_zero, List.getElem?_cons_succ] at y0 y1 y2 y3
 have yf0 := blk_frozen HK25.out 0
 have yf1 := blk_frozen HK25.out 1
 have yf2 := blk_frozen HK25.out 2
 have yf3 := blk_frozen HK25.out 3
 go_wp2_with (fail)
 refine (spec_l1In.calls y 0 (H - 1) false _ HY.out).mono ?_
 rintro e w' ⟨rfl, ⟨nd, rfl⟩⟩
 clear zr0 zr1 zr2 y0 y1 y2 y3 yf0 yf1 yf2 yf3
 have HB6 := Aside0.mk (pw_below_drewN HB5.out nd)
 have HK16 := Aside0.mk (blk_drewN HK15.out nd)
 have HK26 := Aside0.mk (blk_drewN HK25.out nd)
 generalize w5.drewN nd = w6 at HB6 HK16 HK26 ⊢
 have zr0 := blk_cell HK16.out 0
 have zr1 := blk_cell HK16.out 1
 have zr2 := blk_cell HK16.out 2
 simp only [List.getElem?_toArray, List.getElem?_cons_zero, List.getElem?_cons_succ] at zr0 zr1 zr2
 have y0 := blk_cell HK26.out 0
 have y1 := blk_cell HK26.out 1
 have y2 := blk_cell HK26.out 2
 have y3 := blk_cell HK26.out 3
 simp only [List.getElem?_toArray, List.getElem?_cons_zero, List.getElem?_cons_succ] at y0 y1 y2 y3
 have yf0 := blk_frozen HK26.out 0
 have yf1 := blk_frozen HK26.out 1
 have yf2 := blk_frozen HK26.out 2
 have yf3 := blk_frozen HK26.out 3
 go_wp2_with (fail)
 refine bodyPost_ret (results_cell_row rfl _ _ g2 39 #[.int .i64 0, .int .i64 0, .int .i64 0, .int .i64 0] (0, 0) _ rfl (blk_put (blk_put (blk_put (blk_put HK26.out 0 _ rfl) 1 _ rfl) 2 _ rfl) 3 _ rfl) Try.underlying39 rfl (by kernel_rfl)) rfl ?_
 exact ⟨rfl, below_set (below_set (below_set (below_set HB6.out HGEg2.out) HGEg2.out) HGEg2.out) HGEg2.out⟩
set_option maxHeartbeats 1000000 in
set_option maxRecDepth 100000 in
theorem ratIn (k : Nat) (W H : Int) (A : Option Addr) (c : Nat) (l : List S39) (x y : Int) (w : World) (hC : Kd.C k39 w A l.length l) (hc : l.length ≤ c) (hr : spec_RasOk.f k W H l = some true) (hW : 1 ≤ W ∧ W ≤ 6) (hH : 1 ≤ H ∧ H ≤ 6) (hn : (l.length : Int) = W * H) (hx : 0 ≤ x ∧ x < W) (hy : 0 ≤ y ∧ y < H) :
  Calls Try.prog 36 #[.agg #[.int .i64 W, .int .i64 H, .slice A l.length c], .int .i64 x, .int .i64 y] w fun e w' => e = .returned (.agg #[.int .i64 (rd_T39 l (y * W + x)).f0, .int .i64 (rd_T39 l (y * W + x)).f1, .int .i64 (rd_T39 l (y * W + x)).f2, .int .i64 (rd_T39 l (y * W + x)).f3]) ∧ Below w.heap.size w w' := by
 have HC := Aside0.mk hC
 have HR := Aside0.mk hr
 have hu36 := Try.underlying36
 have hu39 := Try.underlying39
 clear hC hr
 have e1 : IntKind.i64.wrap (W - 1) = W - 1 := by rw [i64_w]; unfold wrap64; omega
 have e2 : IntKind.i64.wrap (H - 1) = H - 1 := by rw [i64_w]; unfold wrap64; omega
 have HX := Aside0.mk (in_true (x := x) (a := 0) (b := W - 1) (by omega))
 have HY := Aside0.mk (in_true (x := y) (a := 0) (b := H - 1) (by omega))
 obtain ⟨p1, p2, p3⟩ := ratB hW hH hx.1 hx.2 hy.1 hy.2
 obtain ⟨ad, rfl, g0, g1, g2, g3⟩ := at_T39 HC.out (y * W + x) (by omega) (by omega)
 have HCL := Aside0.mk (And.intro g0 (And.intro g1 (And.intro g2 g3)))
 have e3 : IntKind.i64.wrap (y * W) = y * W := by rw [i64_w]; unfold wrap64; omega
 have e4 : IntKind.i64.wrap (y * W + x) = y * W + x := by rw [i64_w]; unfold wrap64; omega
 have hi0 : 0 ≤ y * W + x := by omega
 have hi1 : y * W + x < (l.length : Int) := by omega
 clear g0 g1 g2 g3 hn p3
 generalize rd_T39 l (y * W + x) = p at HCL
 go_enter Try.func36, Try.ntmps36
 go_wp2_with (first | ((with_reducible refine gate_dst (N := 3) rfl ?_); refine box_event rfl (N := 3) rfl (cs := #[.int .i64 W, .int .i64 H, .slice (some ad) l.length c]) (t := 36) (by first | (go_simp; done) | (go_simp; rfl)) ?_; intro g1 hg_ W1 hk_ hb_; have HKg1 := Aside0.mk hk_; have HBW1 := Aside0.mk (below_then (Below.refl w.heap.size w) (Below.refl w.heap.size w).size hb_); have HGEg1 : Aside0 (w.heap.size ≤ g1) := ⟨by rw [hg_]; exact (Below.refl w.heap.size w).size⟩; clear hk_ hb_ hg_) | ((with_reducible refine gate_dst (N := 6) rfl ?_); refine box_event rfl (N := 6) rfl (cs := #[.int .i64 0, .int .i64 0, .int .i64 0, .int .i64 0]) (t := 39) (by first | (go_simp; done) | (go_simp; rfl)) ?_; intro g2 hg_ W2 hk_ hb_; have HKg2 := Aside0.mk hk_; have HBW2 := Aside0.mk (below_then HBW1.out HBW1.out.size hb_); have HGEg2 : Aside0 (w.heap.size ≤ g2) := ⟨by rw [hg_]; exact HBW1.out.size⟩; replace HKg1 := Aside0.mk (blk_below HKg1.out hb_); clear hk_ hb_ hg_; have zr0 := blk_cell HKg1.out 0; have zr1 := blk_cell HKg1.out 1; have zr2 := blk_cell HKg1.out 2; simp only [List.getElem?_toArray, List.getElem?_cons_zero, List.getElem?_cons_succ] at zr0 zr1 zr2))
 refine (spec_RasOk.calls k W H (some ad) c l true _ (Kd.C_below HC.out HBW2.out) hc HR.out).mono ?_
 rintro e w4 ⟨rfl, hb4⟩
 clear zr0 zr1 zr2
 have HB4 := Aside0.mk (below_then HBW2.out HBW2.out.size hb4)
 have HK14 := Aside0.mk (blk_below HKg1.out hb4)
 have HK24 := Aside0.mk (blk_below HKg2.out hb4)
 clear hb4
 have zr0 := blk_cell HK14.out 0
 have zr1 := blk_cell HK14.out 1
 have zr2 := blk_cell HK14.out 2
 simp only [List.getElem?_toArray, List.getElem?_cons_zero, List.getElem?_cons_succ] at zr0 zr1 zr2
 have y0 := blk_cell HK24.out 0
 have y1 := blk_cell HK24.out 1
 have y2 := blk_cell HK24.out 2
 have y3 := blk_cell HK24.out 3
 simp only [List.getElem?_toArray, List.getElem?_cons_zero, List.getElem?_cons_succ] at y0 y1 y2 y3
 have yf0 := blk_frozen HK24.out 0
 have yf1 := blk_frozen HK24.out 1
 have yf2 := blk_frozen HK24.out 2
 have yf3 := blk_frozen HK24.out 3
 go_wp2_with (fail)
 refine (spec_l1In.calls x 0 (W - 1) true _ HX.out).mono ?_
 rintro e w' ⟨rfl, ⟨nd, rfl⟩⟩
 clear zr0 zr1 zr2 y0 y1 y2 y3 yf0 yf1 yf2 yf3
 have HB5 := Aside0.mk (pw_below_drewN HB4.out nd)
 have HK15 := Aside0.mk (blk_drewN HK14.out nd)
 have HK25 := Aside0.mk (blk_drewN HK24.out nd)
 generalize w4.drewN nd = w5 at HB5 HK15 HK25 ⊢
 have zr0 := blk_cell HK15.out 0
 have zr1 := blk_cell HK15.out 1
 have zr2 := blk_cell HK15.out 2
 simp only [List.getElem?_toArray, List.getElem?_cons_zero, List.getElem?_cons_succ] at zr0 zr1 zr2
 have y0 := blk_cell HK25.out 0
 have y1 := blk_cell HK25.out 1
 have y2 := blk_cell HK25.out 2
 have y3 := blk_cell HK25.out 3
 simp only [List.getElem?_toArray, List.getElem?_cons_zero, List.getElem?_cons_succ] at y0 y1 y2 y3
 have yf0 := blk_frozen HK25.out 0
 have yf1 := blk_frozen HK25.out 1
 have yf2 := blk_frozen HK25.out 2
 have yf3 := blk_frozen HK25.out 3
 go_wp2_with (fail)
 refine (spec_l1In.calls y 0 (H - 1) true _ HY.out).mono ?_
 rintro e w' ⟨rfl, ⟨nd, rfl⟩⟩
 clear zr0 zr1 zr2 y0 y1 y2 y3 yf0 yf1 yf2 yf3
 have HB6 := Aside0.mk (pw_below_drewN HB5.out nd)
 have HK16 := Aside0.mk (blk_drewN HK15.out nd)
 have HK26 := Aside0.mk (blk_drewN HK25.out nd)
 generalize w5.drewN nd = w6 at HB6 HK16 HK26 ⊢
 have zr0 := blk_cell HK16.out 0
 have zr1 := blk_cell HK16.out 1
 have zr2 := blk_cell HK16.out 2
 simp only [List.getElem?_toArray, List.getElem?_cons_zero, List.getElem?_cons_succ] at zr0 zr1 zr2
 have y0 := blk_cell HK26.out 0
 have y1 := blk_cell HK26.out 1
 have y2 := blk_cell HK26.out 2
 have y3 := blk_cell HK26.out 3
 simp only [List.getElem?_toArray, List.getElem?_cons_zero, List.getElem?_cons_succ] at y0 y1 y2 y3
 have yf0 := blk_frozen HK26.out 0
 have yf1 := blk_frozen HK26.out 1
 have yf2 := blk_frozen HK26.out 2
 have yf3 := blk_frozen HK26.out 3
 obtain ⟨k0, k1, k2, k3⟩ := HCL.out
 replace k0 := (HB6.out.cell (World.block_lt_of_cell? w _ k0)).trans k0
 replace k1 := (HB6.out.cell (World.block_lt_of_cell? w _ k1)).trans k1
 replace k2 := (HB6.out.cell (World.block_lt_of_cell? w _ k2)).trans k2
 replace k3 := (HB6.out.cell (World.block_lt_of_cell? w _ k3)).trans k3
 go_wp2_with (fail)
 refine bodyPost_ret (results_cell_row rfl _ _ g2 39 #[.int .i64 p.f0, .int .i64 p.f1, .int .i64 p.f2, .int .i64 p.f3] (0, 0) _ rfl (blk_put (blk_put (blk_put (blk_put HK26.out 0 _ rfl) 1 _ rfl) 2 _ rfl) 3 _ rfl) Try.underlying39 rfl (by kernel_rfl)) rfl ?_
 exact ⟨rfl, below_set (below_set (below_set (below_set HB6.out HGEg2.out) HGEg2.out) HGEg2.out) HGEg2.out⟩
theorem spec_RasAt.calls (k : Nat) (a0_0 : Int) (a0_1 : Int) (A0_2 : Option Addr) (c0_2 : Nat) (l0_2 : List (S39)) (a1 : Int) (a2 : Int) (r1 : Int) (r2 : Int) (r3 : Int) (r4 : Int) (w : World) (hr0_2 : Kd.C k39 w A0_2 l0_2.length l0_2) (hc0_2 : l0_2.length ≤ c0_2) (h : spec_RasAt.f k a0_0 a0_1 l0_2 a1 a2 = some (r1, r2, r3, r4)) :
  Calls Try.prog 36 #[.agg #[.int .i64 a0_0, .int .i64 a0_1, .slice A0_2 l0_2.length c0_2], .int .i64 a1, .int .i64 a2] w fun e w' => e = .returned (.agg #[.int .i64 r1, .int .i64 r2, .int .i64 r3, .int .i64 r4]) ∧ Below w.heap.size w w' := by
 unfold spec_RasAt.f at h
 obtain ⟨t, ht, h⟩ := Option.bind_eq_some_iff.mp h
 cases t with
 | false =>
  rw [if_neg (by decide)] at h
  simp only [Option.some.injEq, Prod.mk.injEq] at h
  obtain ⟨rfl, rfl, rfl, rfl⟩ := h
  exact ratBad k a0_0 a0_1 A0_2 c0_2 l0_2 a1 a2 w hr0_2 hc0_2 ht
 | true =>
  rw [if_pos rfl] at h
  by_cases hh : (1 ≤ a0_0 ∧ a0_0 ≤ 6) ∧ (1 ≤ a0_1 ∧ a0_1 ≤ 6) ∧ (l0_2.length : Int) = a0_0 * a0_1
  ·rw [if_pos hh] at h
   by_cases hi : 0 ≤ a1 ∧ a1 < a0_0 ∧ 0 ≤ a2 ∧ a2 < a0_1
   ·rw [if_pos hi] at h
    simp only [Option.some.injEq, Prod.mk.injEq] at h
    obtain ⟨rfl, rfl, rfl, rfl⟩ := h
    exact ratIn k a0_0 a0_1 A0_2 c0_2 l0_2 a1 a2 w hr0_2 hc0_2 ht hh.1 hh.2.1 hh.2.2 ⟨hi.1, hi.2.1⟩ hi.2.2
   ·rw [if_neg hi] at h
    simp only [Option.some.injEq, Prod.mk.injEq] at h
    obtain ⟨rfl, rfl, rfl, rfl⟩ := h
    by_cases hx : 0 ≤ a1 ∧ a1 < a0_0
    ·exact ratY k a0_0 a0_1 A0_2 c0_2 l0_2 a1 a2 w hr0_2 hc0_2 ht hh.1 hh.2.1 hx (by omega)
    ·exact ratX k a0_0 a0_1 A0_2 c0_2 l0_2 a1 a2 w hr0_2 hc0_2 ht hh.1 hh.2.1 hx
  ·rw [if_neg hh] at h; cases h

end Go.Proofs.Ytmkiajoanblkbaa.X
