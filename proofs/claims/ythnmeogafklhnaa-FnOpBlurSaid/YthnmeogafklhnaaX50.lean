/- What functions of the program come to, each with its proof. No condition but what each theorem states. -/
import Derived.Test.YthnmeogafklhnaaX0
namespace Go.Proofs.Ythnmeogafklhnaa.X
open Go.RowKit Go.Proofs.YthnmeogafklhnaaW.PrintWords Go.Proofs.YthnmeogafklhnaaW.PrintLast Go.Proofs.YthnmeogafklhnaaW.PrintMore Go.Proofs.Ythnmeogafklhnaa.Hyb
attribute [local go_sem] max2_int min2_int max_two min_two max_three min_three max_four min_four
set_option linter.unusedVariables false
set_option linter.unusedSimpArgs false

/-! ### impl_pixOf: function 54 -/
theorem row_info : ∃ i, Try.prog.info? 38 = some i ∧ i.size = 4 := by
 obtain ⟨i, hi, h⟩ := Option.map_eq_some_iff.1 info38
 simp only [Prod.mk.injEq] at h
 exact ⟨i, hi, h.2.1⟩
set_option maxHeartbeats 8000000 in
set_option maxRecDepth 100000 in
theorem row_calls (A : Option Addr) (n c : Nat) (y W : Int) (w : World) (lo hi : Int) (hlo : y * W = lo) (hhi : (y + 1) * W = hi) (y0 : 0 ≤ y) (y1 : y ≤ 100) (l0 : 0 ≤ lo) (l1 : lo < hi) (l2 : hi ≤ n) (hb : hi ≤ 1000000) (hc : n ≤ c) :
  Calls Try.prog 64 #[.slice A n c, .int .i64 y, .int .i64 W] w fun e w' => e = .returned (.slice (A.map (·.add (lo.toNat * 4))) (hi.toNat - lo.toNat) (c - lo.toNat)) ∧ w = w' := by
 obtain ⟨i, hi', hsz⟩ := row_info
 have hcut := cut_mid (P := Try.prog) 68 38 .i64 .i64 Try.underlying68 hi' 4 hsz A n c lo hi l0 (by omega) l2 hc
 rw [if_neg (show ¬ c = lo.toNat by omega)] at hcut
 clear hi' hsz
 have hw1 : IntKind.i64.wrap (y * W) = lo := by rw [hlo, i64_w]; unfold wrap64; omega
 have hw2 : IntKind.i64.wrap ((y + 1) * W) = hi := by rw [hhi, i64_w]; unfold wrap64; omega
 clear hlo hhi
 go_enter Try.func64, Try.ntmps64
 go_wp2
 go_ret
 exact ⟨rfl, rfl⟩
theorem place (W H : Int) (x y : Int) (n : Nat) (hw1 : 1 ≤ W) (hw : W ≤ 6) (hh : H ≤ 6) (hn : (n : Int) = W * H) (x0 : 0 ≤ x) (x1 : x < W) (y0 : 0 ≤ y) (y1 : y < H) :
  0 ≤ y * W ∧ y * W < (y + 1) * W ∧ (y + 1) * W ≤ n ∧ (y + 1) * W = y * W + W ∧ (y + 1) * W ≤ 36 ∧ (n : Int) ≤ 36 := by
 have h1 : y = 0 ∨ y = 1 ∨ y = 2 ∨ y = 3 ∨ y = 4 ∨ y = 5 := by omega
 have h2 : H = 1 ∨ H = 2 ∨ H = 3 ∨ H = 4 ∨ H = 5 ∨ H = 6 := by omega
 rw [hn]
 rcases h1 with rfl | rfl | rfl | rfl | rfl | rfl <;> rcases h2 with rfl | rfl | rfl | rfl | rfl | rfl <;> omega
def impl_pixOf.f (W H : Int) (l : List S38) (x y : Int) : Option (Int × Int × Int × Int) :=
 if 1 ≤ W ∧ W ≤ 6 ∧ H ≤ 6 ∧ (l.length : Int) = W * H ∧ 0 ≤ x ∧ x < W ∧ 0 ≤ y ∧ y < H then some ((rd_T38 l (y * W + x)).f0, (rd_T38 l (y * W + x)).f1, (rd_T38 l (y * W + x)).f2, (rd_T38 l (y * W + x)).f3) else none
set_option maxHeartbeats 8000000 in
set_option maxRecDepth 100000 in
theorem impl_pixOf.calls (a0_0 : Int) (a0_1 : Int) (aB : Option Addr) (aA : Nat) (l0_2 : List (S38)) (a1 : Int) (a2 : Int) (r1 : Int) (r2 : Int) (r3 : Int) (r4 : Int) (w : World) (hr0_2 : Kd.C k38 w aB l0_2.length l0_2) (aD : l0_2.length ≤ aA) (h : impl_pixOf.f a0_0 a0_1 l0_2 a1 a2 = some (r1, r2, r3, r4)) :
  Calls Try.prog 54 #[.agg #[.int .i64 a0_0, .int .i64 a0_1, .slice aB l0_2.length aA], .int .i64 a1, .int .i64 a2] w fun e w' => e = .returned (.agg #[.int .i64 r1, .int .i64 r2, .int .i64 r3, .int .i64 r4]) ∧ Below w.heap.size w w' := by
 unfold impl_pixOf.f at h
 split at h
 case isFalse => cases h
 rename_i hh
 obtain ⟨h1, h2, h3, h4, h5, h6, h7, h8⟩ := hh
 obtain ⟨p1, p2, p3, p4, p5, p6⟩ := place a0_0 a0_1 a1 a2 _ h1 h2 h3 h4 h5 h6 h7 h8
 have hu25 := Try.underlying25
 have hu38 := Try.underlying38
 obtain ⟨lo, hlo⟩ : ∃ lo, a2 * a0_0 = lo := ⟨_, rfl⟩
 rw [hlo] at p1 p2 p4 h
 obtain ⟨ad, rfl, g0, g1, g2, g3⟩ := at_T38 hr0_2 (lo + a1) (by omega) (by omega)
 simp only [Option.some.injEq, Prod.mk.injEq] at h
 obtain ⟨rfl, rfl, rfl, rfl⟩ := h
 have HC := Aside0.mk hr0_2
 have HLO := Aside0.mk hlo
 have HCL := Aside0.mk (And.intro g0 (And.intro g1 (And.intro g2 g3)))
 clear hlo h4 g0 g1 g2 g3 hr0_2
 have e1 : ad.add ((lo + a1).toNat * 4) = ((ad.add (lo.toNat * 4)).add (a1.toNat * 4)) := by rw [add_add]; congr 1; omega
 rw [e1] at HCL
 have HE := Aside0.mk e1
 clear e1
 generalize rd_T38 l0_2 (lo + a1) = px at HCL
 generalize hlen : l0_2.length = n at *
 clear hlen
 go_enter Try.func54, Try.ntmps54
 go_wp2_with (first | ((with_reducible refine gate_dst (N := 3) rfl ?_); refine box_event rfl (N := 3) rfl (cs := #[.int .i64 a0_0, .int .i64 a0_1, .slice (some ad) n aA]) (t := 25) oS ?_; intro g1 hg1 W1 hk1 hB1; have HK1 := Aside0.mk hk1; have aE := Aside0.mk hB1; have HG1 := Aside0.mk hg1; clear hk1 hB1 hg1) | ((with_reducible refine gate_dst (N := 6) rfl ?_); refine box_event rfl (N := 6) rfl (cs := #[.int .i64 0, .int .i64 0, .int .i64 0, .int .i64 0]) (t := 38) oS ?_; intro g2 hg2 W2 hk2 hB2; have HK2 := Aside0.mk hk2; have aC := Aside0.mk (below_then aE.out aE.out.size hB2); have HK12 := Aside0.mk (blk_below HK1.out hB2); have HGE : Aside0 (w.heap.size ≤ g2) := ⟨(by rw [hg2]; exact aE.out.size)⟩; clear hk2 hB2 hg2; have aF := blk_cell HK12.out 0; have aG := blk_cell HK12.out 2; simp only [List.getElem?_toArray, List.getElem?_cons_zero, List.getElem?_cons_succ] at aF aG))
 refine (row_calls (some ad) n aA a2 a0_0 _ lo ((a2 + 1) * a0_0) HLO.out rfl h7 (by omega) p1 (by omega) p3 (by omega) aD).mono ?_
 rintro e w1 ⟨rfl, rfl⟩
 have hl : ((a2 + 1) * a0_0).toNat - lo.toNat = a0_0.toNat := by omega
 rw [hl]
 have hi0 : a1 < (a0_0.toNat : Int) := by omega
 obtain ⟨k0, k1, k2, k3⟩ := HCL.out
 replace k0 := (aC.out.cell (World.block_lt_of_cell? w _ k0)).trans k0
 replace k1 := (aC.out.cell (World.block_lt_of_cell? w _ k1)).trans k1
 replace k2 := (aC.out.cell (World.block_lt_of_cell? w _ k2)).trans k2
 replace k3 := (aC.out.cell (World.block_lt_of_cell? w _ k3)).trans k3
 have y0 := blk_cell HK2.out 0
 have y1 := blk_cell HK2.out 1
 have y2 := blk_cell HK2.out 2
 have y3 := blk_cell HK2.out 3
 simp only [List.getElem?_toArray, List.getElem?_cons_zero, List.getElem?_cons_succ] at y0 y1 y2 y3
 have f0 := blk_frozen HK2.out 0
 have f1 := blk_frozen HK2.out 1
 have f2 := blk_frozen HK2.out 2
 have f3 := blk_frozen HK2.out 3
 clear hl p1 p2 p3 p4 p5 p6 aF aG
 go_wp2_with (fail)
 refine bodyPost_ret (results_cell_row rfl _ _ g2 38 #[.int .i64 px.f0, .int .i64 px.f1, .int .i64 px.f2, .int .i64 px.f3] (0, 0) _ rfl (blk_put (blk_put (blk_put (blk_put HK2.out 0 _ rfl) 1 _ rfl) 2 _ rfl) 3 _ rfl) Try.underlying38 rfl oK) rfl ?_
 exact ⟨rfl, below_set (below_set (below_set (below_set aC.out HGE.out) HGE.out) HGE.out) HGE.out⟩

end Go.Proofs.Ythnmeogafklhnaa.X
