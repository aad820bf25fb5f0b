/- Functions of the given program as plain Lean functions, and for each the proof that the machine's call comes to what its function says. No condition but what each theorem states. Written by a program of this session. -/
import Derived.Test.YthnmeogafklhnaaX0
import Derived.Test.YthnmeogafklhnaaX3
import Derived.Test.YthnmeogafklhnaaX4
import Derived.Test.YthnmeogafklhnaaX6
namespace Go.Proofs.Ythnmeogafklhnaa.X
open Go.RowKit Go.Proofs.YthnmeogafklhnaaW.PrintWords Go.Proofs.YthnmeogafklhnaaW.PrintLast Go.Proofs.YthnmeogafklhnaaW.PrintMore Go.Proofs.Ythnmeogafklhnaa.Hyb
attribute [local go_sem] max2_int min2_int max_two min_two max_three min_three max_four min_four   -- for this text's walks alone
set_option linter.unusedVariables false
set_option linter.unusedSimpArgs false

/-! ### spec_l20Op: function 46 -/
def spec_l20Op.j0 : Nat → Int → List Int → Int → Int → Int → Int → Int → Int → Option (Int × Int × Int × Int × Int × Int)
 | 0, _, _, _, _, _, _, _, _ => none
 | k + 1, x1, x1000, x1001, x199000, x199001, x199002, x199003, x199004 => (spec_l20Rd_odd.f k x1000 x1001 x1).bind fun bt217 => (if bt217.1 = true then ((spec_l20Rd_pick.f k x1000 bt217.2 4).bind fun bt219 => (if bt219.1 = 0 then ((some (([0, 9] : List Int) : List Int)).bind fun y221 => ((spec_l20Rd_pick.f k x1000 bt219.2 2).bind fun bt224 => (if 0 ≤ bt224.1 then (if bt224.1 < (y221.length : Int) then (some (rd y221 bt224.1, x199001, x199002, x199003, x199004, bt224.2)) else (none)) else (none)))) else (if bt219.1 = 1 then ((some (([(-1), 256] : List Int) : List Int)).bind fun y227 => ((spec_l20Rd_pick.f k x1000 bt219.2 2).bind fun bt230 => (if 0 ≤ bt230.1 then (if bt230.1 < (y227.length : Int) then (some (x199000, rd y227 bt230.1, x199002, x199003, x199004, bt230.2)) else (none)) else (none)))) else (if bt219.1 = 2 then ((some (([(-1), 256] : List Int) : List Int)).bind fun y233 => ((spec_l20Rd_pick.f k x1000 bt219.2 2).bind fun bt236 => (if 0 ≤ bt236.1 then (if bt236.1 < (y233.length : Int) then (some (x199000, x199001, x199002, rd y233 bt236.1, x199004, bt236.2)) else (none)) else (none)))) else ((some (([1, 7] : List Int) : List Int)).bind fun y239 => ((spec_l20Rd_pick.f k x1000 bt219.2 2).bind fun bt242 => (if 0 ≤ bt242.1 then (if bt242.1 < (y239.length : Int) then (some (x199000, x199001, x199002, x199003, rd y239 bt242.1, bt242.2)) else (none)) else (none)))))))) else (some (x199000, x199001, x199002, x199003, x199004, bt217.2)))
def spec_l20Op.f (k : Nat) (s0_0 : List Int) (s0_1 : Int) (a1 : Int) : Option (Int × Int × Int × Int × Int × Int) := (spec_l20Rd_pick.f k s0_0 s0_1 8).bind fun bt196 => (if (wrap64 (1 + bt196.1)) = 1 then ((spec_l20Rd_pick.f k s0_0 bt196.2 3).bind fun bt199 => ((spec_l20Rd_pick.f k s0_0 bt199.2 3).bind fun bt201 => ((spec_l20Rd_pick.f k s0_0 bt201.2 4).bind fun bt203 => ((spec_l20Rd_pick.f k s0_0 bt203.2 4).bind fun bt205 => (spec_l20Op.j0 k a1 s0_0 bt205.2 1 bt199.1 bt201.1 (wrap64 (1 + bt203.1)) (wrap64 (1 + bt205.1))))))) else (if (wrap64 (1 + bt196.1)) = 7 then ((spec_l20Rd_pick.f k s0_0 bt196.2 6).bind fun bt207 => ((spec_l20Rd_pick.f k s0_0 bt207.2 6).bind fun bt209 => (spec_l20Op.j0 k a1 s0_0 bt209.2 7 (wrap64 (1 + bt207.1)) (wrap64 (1 + bt209.1)) 0 0))) else (if (wrap64 (1 + bt196.1)) = 8 then ((spec_l20Rd_pick.f k s0_0 bt196.2 256).bind fun bt211 => ((spec_l20Rd_pick.f k s0_0 bt211.2 256).bind fun bt213 => ((spec_l20Rd_pick.f k s0_0 bt213.2 256).bind fun bt215 => (spec_l20Op.j0 k a1 s0_0 bt215.2 8 bt211.1 bt213.1 bt215.1 0)))) else (spec_l20Op.j0 k a1 s0_0 bt196.2 (wrap64 (1 + bt196.1)) 0 0 0 0))))
theorem spec_l20Op.mono_l : ∀ k, (∀ y0 y1 y2 y3 y4 y5 y6 y7, LeO (spec_l20Op.j0 k y0 y1 y2 y3 y4 y5 y6 y7) (spec_l20Op.j0 (k + 1) y0 y1 y2 y3 y4 y5 y6 y7))
 | 0 => (fun _ _ _ _ _ _ _ _ r h => nomatch (show none = some r from h))
 | k + 1 => by
  have ih0 := spec_l20Op.mono_l k
  ·intro y0 y1 y2 y3 y4 y5 y6 y7
   unfold spec_l20Op.j0
   repeat' first
   | (with_reducible exact ih0 _ _ _ _ _ _ _ _)
   | (with_reducible exact spec_l20Rd_odd.mono _ _ _ _)
   | (with_reducible exact spec_l20Rd_pick.mono _ _ _ _)
   | (with_reducible exact LeO.refl _)
   | (with_reducible exact LeO.none _)
   | (with_reducible refine LeO.ite ?_ ?_)
   | (with_reducible refine LeO.bind ?_ (fun _ => ?_))
   | exact ih0 _ _ _ _ _ _ _ _
   | exact spec_l20Rd_odd.mono _ _ _ _
   | exact spec_l20Rd_pick.mono _ _ _ _
   | exact LeO.none _
   | refine LeO.ite ?_ ?_
   | refine LeO.bind ?_ (fun _ => ?_)
theorem spec_l20Op.mono : ∀ a0 a1 a2 k, LeO (spec_l20Op.f k a0 a1 a2) (spec_l20Op.f (k + 1) a0 a1 a2) := by
 intro a0 a1 a2 k
 have ih0 := spec_l20Op.mono_l k
 unfold spec_l20Op.f
 repeat' first
   | (with_reducible exact ih0 _ _ _ _ _ _ _ _)
   | (with_reducible exact spec_l20Rd_odd.mono _ _ _ _)
   | (with_reducible exact spec_l20Rd_pick.mono _ _ _ _)
   | (with_reducible exact LeO.refl _)
   | (with_reducible exact LeO.none _)
   | (with_reducible refine LeO.ite ?_ ?_)
   | (with_reducible refine LeO.bind ?_ (fun _ => ?_))
   | exact ih0 _ _ _ _ _ _ _ _
   | exact spec_l20Rd_odd.mono _ _ _ _
   | exact spec_l20Rd_pick.mono _ _ _ _
   | exact LeO.none _
   | refine LeO.ite ?_ ?_
   | refine LeO.bind ?_ (fun _ => ?_)
set_option maxHeartbeats 8000000 in
set_option maxRecDepth 100000 in
theorem spec_l20Op.calls (k : Nat) (g : Nat) (s0_0 : List Int) (s0_1 : Int) (a1 : Int) (r1 : Int) (r2 : Int) (r3 : Int) (r4 : Int) (r5 : Int) (r6 : Int) (w0 w : World) (hI : IsS72 w0 w g s0_0 s0_1) (hB : Below w0.heap.size w0 w) (h : spec_l20Op.f k s0_0 s0_1 a1 = some (r1, r2, r3, r4, r5, r6)) :
  Calls Try.prog 46 #[.pointer (some ⟨g, 0, none⟩), .int .i64 a1] w fun e w' => e = .returned (.agg #[.int .i64 r1, .int .i64 r2, .int .i64 r3, .int .i64 r4, .int .i64 r5]) ∧ IsS72 w0 w' g s0_0 r6 ∧ Below w0.heap.size w0 w' ∧ KeepBut w w' g none := by
 have hu27 := Try.underlying27
 have HI0 := Aside0.mk hI
 have HK := Aside0.mk (KeepBut.refl w g none)
 have HL := Aside0.mk hB.size
 clear hI
 have HW0 := Aside0.mk hB.size
 have HB := Aside0.mk hB
 clear hB
 have H : ((spec_l20Rd_pick.f k s0_0 s0_1 8).bind fun bt196 => (if (wrap64 (1 + bt196.1)) = 1 then ((spec_l20Rd_pick.f k s0_0 bt196.2 3).bind fun bt199 => ((spec_l20Rd_pick.f k s0_0 bt199.2 3).bind fun bt201 => ((spec_l20Rd_pick.f k s0_0 bt201.2 4).bind fun bt203 => ((spec_l20Rd_pick.f k s0_0 bt203.2 4).bind fun bt205 => (spec_l20Op.j0 k a1 s0_0 bt205.2 1 bt199.1 bt201.1 (wrap64 (1 + bt203.1)) (wrap64 (1 + bt205.1))))))) else (if (wrap64 (1 + bt196.1)) = 7 then ((spec_l20Rd_pick.f k s0_0 bt196.2 6).bind fun bt207 => ((spec_l20Rd_pick.f k s0_0 bt207.2 6).bind fun bt209 => (spec_l20Op.j0 k a1 s0_0 bt209.2 7 (wrap64 (1 + bt207.1)) (wrap64 (1 + bt209.1)) 0 0))) else (if (wrap64 (1 + bt196.1)) = 8 then ((spec_l20Rd_pick.f k s0_0 bt196.2 256).bind fun bt211 => ((spec_l20Rd_pick.f k s0_0 bt211.2 256).bind fun bt213 => ((spec_l20Rd_pick.f k s0_0 bt213.2 256).bind fun bt215 => (spec_l20Op.j0 k a1 s0_0 bt215.2 8 bt211.1 bt213.1 bt215.1 0)))) else (spec_l20Op.j0 k a1 s0_0 bt196.2 (wrap64 (1 + bt196.1)) 0 0 0 0))))) = some (r1, r2, r3, r4, r5, r6) := h
 clear h
 replace H := Option.bind_eq_some_iff.mp H
 obtain ⟨⟨t196, t197⟩, A30, H⟩ := H
 (try dsimp only at H)
 have A3 := Aside0.mk A30
 clear A30
 have HC4 := Aside0.mk H
 clear H
 go_enter Try.func46, Try.ntmps46
 go_upto_block 0 with (first | ((with_reducible refine gate_dst (N := 4) rfl ?_); refine box_event ?hg (N := 4) ?hd (cs := #[.int .i64 0, .int .i64 0, .int .i64 0, .int .i64 0, .int .i64 0]) (t := 27) ?hr ?_; (case hd => rfl); (case hg => rfl); (case hr => first | (go_simp; done) | (go_simp; rfl)); intro gb195 hg w5 hbox hb; have n_ := o2_ (IsS72.below (oI72 HI0) hb) (o2_ (KeepBut.trans (oE HK) (KeepBut.of_below hb g none) (.inl rfl)) (o2_ (below_step (oH HB (IsS72.ge HI0.out)) hb) (o2_ (hbox) (o2_ ((by rw [hg]; exact (keep_size (w := w) (g := g) (row := none) (oE HK)) : w.heap.size ≤ gb195)) (o2_ ((Nat.le_trans HW0.out (by rw [hg]; exact (keep_size (w := w) (g := g) (row := none) (oE HK)) : w.heap.size ≤ gb195) : w0.heap.size ≤ gb195)) (o2_ ((by rw [hg]; exact Nat.ne_of_lt (IsS72.lt (show IsS72 w0 _ g s0_0 s0_1 from oI72 HI0)) : g ≠ gb195)) (o1_ ((by rw [hg]; exact Nat.ne_of_gt (IsS72.lt (show IsS72 w0 _ g s0_0 s0_1 from oI72 HI0)) : gb195 ≠ g))))))))); clear HI0 HK HB; obtain ⟨HI0, HK, HB, BK195, GW195, GE195, NB0_195, NB195_0⟩ := n_; clear hb hbox hg) | ((with_reducible refine gate_callee (f := 56) rfl ?_); refine goesL_ (some 7) rfl rfl Try.func56 oK rfl #[.pointer (some ⟨g, 0, none⟩), .int .i64 8] rfl oA ?_; (with_reducible refine (spec_l20Rd_pick.calls k g s0_0 s0_1 8 t196 t197 w0 _ ?side1 ?side2 A3.out).mono ?_); (case side1 => exact oI72 HI0); (case side2 => exact oH HB (IsS72.ge HI0.out)); rintro e w6 ⟨rfl, hi, hb, hk⟩; refine ⟨_, rfl, ?_⟩; have n_ := o2_ (oJ hk BK195 NB195_0) (o2_ (KeepBut.trans (oE HK) hk (.inl rfl)) (o2_ (hb) (o1_ (hi)))); clear BK195 HK HB HI0; obtain ⟨BK195, HK, HB, HI0⟩ := n_; (try clear hb); (try clear hb2); (try clear hk); (try clear hi)) | ((with_reducible refine gate_dst (N := 5) rfl ?_); refine box_event ?hg (N := 5) ?hd (cs := #[.int .i64 0, .int .i64 0, .int .i64 0, .int .i64 0, .int .i64 0]) (t := 27) ?hr ?_; (case hd => rfl); (case hg => rfl); (case hr => first | (go_simp; done) | (go_simp; rfl)); intro gb198 hg w7 hbox hb; have n_ := o2_ (IsS72.below (oI72 HI0) hb) (o2_ (blk_below (oP BK195) hb) (o2_ (KeepBut.trans (oE HK) (KeepBut.of_below hb g none) (.inl rfl)) (o2_ (below_step (oH HB (IsS72.ge HI0.out)) hb) (o2_ (hbox) (o2_ ((by rw [hg]; exact (keep_size (w := w) (g := g) (row := none) (oE HK)) : w.heap.size ≤ gb198)) (o2_ ((Nat.le_trans HW0.out (by rw [hg]; exact (keep_size (w := w) (g := g) (row := none) (oE HK)) : w.heap.size ≤ gb198) : w0.heap.size ≤ gb198)) (o2_ ((oL hg (blk_lt (oP BK195)))) (o2_ ((oN hg (blk_lt (oP BK195)))) (o2_ ((by rw [hg]; exact Nat.ne_of_lt (IsS72.lt (show IsS72 w0 _ g s0_0 t197 from oI72 HI0)) : g ≠ gb198)) (o1_ ((by rw [hg]; exact Nat.ne_of_gt (IsS72.lt (show IsS72 w0 _ g s0_0 t197 from oI72 HI0)) : gb198 ≠ g)))))))))))); clear HI0 BK195 HK HB; obtain ⟨HI0, BK195, HK, HB, BK198, GW198, GE198, NB195_198, NB198_195, NB0_198, NB198_0⟩ := n_; clear hb hbox hg; have hnb8 := NB198_195.out; have hnc8 := NB195_198.out; have hnb9 := NB198_0.out; have hnc9 := NB0_198.out; have hcz10_0 : w7.cell? ⟨gb198, 0, none⟩ = some (.int .i64 0) := (blk_cell BK198.out 0).trans rfl; have hcz10_1 : w7.cell? ⟨gb198, 1, none⟩ = some (.int .i64 0) := (blk_cell BK198.out 1).trans rfl; have hcz10_2 : w7.cell? ⟨gb198, 2, none⟩ = some (.int .i64 0) := (blk_cell BK198.out 2).trans rfl; have hcz10_3 : w7.cell? ⟨gb198, 3, none⟩ = some (.int .i64 0) := (blk_cell BK198.out 3).trans rfl; have hcz10_4 : w7.cell? ⟨gb198, 4, none⟩ = some (.int .i64 0) := (blk_cell BK198.out 4).trans rfl; have hfz10_0 := blk_frozen BK198.out 0; have hfz10_1 := blk_frozen BK198.out 1; have hfz10_2 := blk_frozen BK198.out 2; have hfz10_3 := blk_frozen BK198.out 3; have hfz10_4 := blk_frozen BK198.out 4))
 (try simp only [Act.put, List.setIfInBounds_toArray, List.set_cons_zero, List.set_cons_succ])
 go_cut [] (fun wc => ∃ (kq : Nat) (x1001_3 : Int) (x199000_3 : Int) (x199001_3 : Int) (x199002_3 : Int) (x199003_3 : Int) (x199004_3 : Int), Aside0 (spec_l20Op.j0 kq a1 s0_0 x1001_3 x199000_3 x199001_3 x199002_3 x199003_3 x199004_3 = some (r1, r2, r3, r4, r5, r6)) ∧ Aside0 (kq ≤ k) ∧ Aside0 (wc.heap[gb195]? = some (.cells #[.int .i64 0, .int .i64 0, .int .i64 0, .int .i64 0, .int .i64 0] 27 (0, 0))) ∧ Aside0 (wc.heap[gb198]? = some (.cells #[.int .i64 x199000_3, .int .i64 x199001_3, .int .i64 x199002_3, .int .i64 x199003_3, .int .i64 x199004_3] 27 (0, 0))) ∧ Aside0 (IsS72 w0 wc g s0_0 x1001_3) ∧ Aside0 (KeepBut w wc g none) ∧ Aside0 (Below w0.heap.size w0 wc))
 case first =>
  have H := HC4.out
  clear HC4
  by_cases c11 : (wrap64 (1 + t196)) = 1
  ·rw [if_pos c11] at H
   have c11b0 : ((wrap64 (1 + t196)) == 1) = true := beq_iff_eq.mpr c11
   have c11b1 : ((wrap64 (1 + t196)) != 1) = false := bne_eq_false_iff_eq.mpr c11
   clear c11
   (first | rw [c11b0] | (simp only [i64_w, i32_w]; rw [c11b0]) | skip)
   replace H := Option.bind_eq_some_iff.mp H
   obtain ⟨⟨t199, t200⟩, A120, H⟩ := H
   (try dsimp only at H)
   have A12 := Aside0.mk A120
   clear A120
   replace H := Option.bind_eq_some_iff.mp H
   obtain ⟨⟨t201, t202⟩, A130, H⟩ := H
   (try dsimp only at H)
   have A13 := Aside0.mk A130
   clear A130
   replace H := Option.bind_eq_some_iff.mp H
   obtain ⟨⟨t203, t204⟩, A140, H⟩ := H
   (try dsimp only at H)
   have A14 := Aside0.mk A140
   clear A140
   replace H := Option.bind_eq_some_iff.mp H
   obtain ⟨⟨t205, t206⟩, A150, H⟩ := H
   (try dsimp only at H)
   have A15 := Aside0.mk A150
   clear A150
   have H' := Aside0.mk H
   clear H
   go_wp2_with (first | ((with_reducible refine gate_callee (f := 56) rfl ?_); refine goesL_ (some 15) rfl rfl Try.func56 oK rfl #[.pointer (some ⟨g, 0, none⟩), .int .i64 3] rfl oA ?_; (with_reducible refine (spec_l20Rd_pick.calls k g s0_0 t197 3 t199 t200 w0 _ ?side1 ?side2 A12.out).mono ?_); (case side1 => exact oI72 HI0); (case side2 => exact oH HB (IsS72.ge HI0.out)); rintro e w16 ⟨rfl, hi, hb, hk⟩; refine ⟨_, rfl, ?_⟩; have n_ := o2_ (oJ hk BK195 NB195_0) (o2_ (KeepBut.blk hk (g' := gb198) (o := .cells #[.int .i64 (wrap64 (1 + t196)), .int .i64 0, .int .i64 0, .int .i64 0, .int .i64 0] 27 (0, 0)) (blk_put (blk_put (blk_put (blk_put (blk_put BK198.out 0 _ rfl) 1 _ rfl) 2 _ rfl) 3 _ rfl) 4 _ rfl) NB198_0.out (by simp)) (o2_ (KeepBut.trans (oE HK) hk (.inl rfl)) (o2_ (hb) (o1_ (hi))))); clear BK195 BK198 HK HB HI0; obtain ⟨BK195, BK198, HK, HB, HI0⟩ := n_; (try clear hb); (try clear hb2); (try clear hk); (try clear hi)) | ((with_reducible refine gate_callee (f := 56) rfl ?_); refine goesL_ (some 17) rfl rfl Try.func56 oK rfl #[.pointer (some ⟨g, 0, none⟩), .int .i64 3] rfl oA ?_; (with_reducible refine (spec_l20Rd_pick.calls k g s0_0 t200 3 t201 t202 w0 _ ?side1 ?side2 A13.out).mono ?_); (case side1 => exact oI72 HI0); (case side2 => exact oH HB (IsS72.ge HI0.out)); rintro e w17 ⟨rfl, hi, hb, hk⟩; refine ⟨_, rfl, ?_⟩; have n_ := o2_ (oJ hk BK195 NB195_0) (o2_ (oJ hk BK198 NB198_0) (o2_ (KeepBut.trans (oE HK) hk (.inl rfl)) (o2_ (hb) (o1_ (hi))))); clear BK195 BK198 HK HB HI0; obtain ⟨BK195, BK198, HK, HB, HI0⟩ := n_; (try clear hb); (try clear hb2); (try clear hk); (try clear hi)) | ((with_reducible refine gate_callee (f := 56) rfl ?_); refine goesL_ (some 19) rfl rfl Try.func56 oK rfl #[.pointer (some ⟨g, 0, none⟩), .int .i64 4] rfl oA ?_; (with_reducible refine (spec_l20Rd_pick.calls k g s0_0 t202 4 t203 t204 w0 _ ?side1 ?side2 A14.out).mono ?_); (case side1 => exact oI72 HI0); (case side2 => exact oH HB (IsS72.ge HI0.out)); rintro e w18 ⟨rfl, hi, hb, hk⟩; refine ⟨_, rfl, ?_⟩; have n_ := o2_ (oJ hk BK195 NB195_0) (o2_ (oJ hk BK198 NB198_0) (o2_ (KeepBut.trans (oE HK) hk (.inl rfl)) (o2_ (hb) (o1_ (hi))))); clear BK195 BK198 HK HB HI0; obtain ⟨BK195, BK198, HK, HB, HI0⟩ := n_; (try clear hb); (try clear hb2); (try clear hk); (try clear hi)) | ((with_reducible refine gate_callee (f := 56) rfl ?_); refine goesL_ (some 22) rfl rfl Try.func56 oK rfl #[.pointer (some ⟨g, 0, none⟩), .int .i64 4] rfl oA ?_; (with_reducible refine (spec_l20Rd_pick.calls k g s0_0 t204 4 t205 t206 w0 _ ?side1 ?side2 A15.out).mono ?_); (case side1 => exact oI72 HI0); (case side2 => exact oH HB (IsS72.ge HI0.out)); rintro e w19 ⟨rfl, hi, hb, hk⟩; refine ⟨_, rfl, ?_⟩; have n_ := o2_ (oJ hk BK195 NB195_0) (o2_ (oJ hk BK198 NB198_0) (o2_ (KeepBut.trans (oE HK) hk (.inl rfl)) (o2_ (hb) (o1_ (hi))))); clear BK195 BK198 HK HB HI0; obtain ⟨BK195, BK198, HK, HB, HI0⟩ := n_; (try clear hb); (try clear hb2); (try clear hk); (try clear hi); have hnb20 := NB198_195.out; have hnc20 := NB195_198.out; have hnb21 := NB198_0.out; have hnc21 := NB0_198.out; have hcz22_0 : w19.cell? ⟨gb198, 0, none⟩ = some (.int .i64 (wrap64 (1 + t196))) := (blk_cell BK198.out 0).trans rfl; have hcz22_1 : w19.cell? ⟨gb198, 1, none⟩ = some (.int .i64 0) := (blk_cell BK198.out 1).trans rfl; have hcz22_2 : w19.cell? ⟨gb198, 2, none⟩ = some (.int .i64 0) := (blk_cell BK198.out 2).trans rfl; have hcz22_3 : w19.cell? ⟨gb198, 3, none⟩ = some (.int .i64 0) := (blk_cell BK198.out 3).trans rfl; have hcz22_4 : w19.cell? ⟨gb198, 4, none⟩ = some (.int .i64 0) := (blk_cell BK198.out 4).trans rfl; have hfz22_0 := blk_frozen BK198.out 0; have hfz22_1 := blk_frozen BK198.out 1; have hfz22_2 := blk_frozen BK198.out 2; have hfz22_3 := blk_frozen BK198.out 3; have hfz22_4 := blk_frozen BK198.out 4))
   go_meet
   case rel => exact ⟨_, (t206), (1), (t199), (t201), (wrap64 (1 + t203)), (wrap64 (1 + t205)), H', ⟨(by first | omega | exact Nat.le_refl _)⟩, ⟨(oP BK195)⟩, ⟨(blk_put (blk_put (blk_put (blk_put (blk_put BK198.out 0 _ rfl) 1 _ rfl) 2 _ rfl) 3 _ rfl) 4 _ rfl)⟩, ⟨(oI72 HI0)⟩, ⟨(oE HK)⟩, ⟨(oH HB (IsS72.ge HI0.out))⟩⟩
  ·rw [if_neg c11] at H
   have c11b0 : ((wrap64 (1 + t196)) == 1) = false := beq_eq_false_iff_ne.mpr c11
   have c11b1 : ((wrap64 (1 + t196)) != 1) = true := bne_iff_ne.mpr c11
   (first | rw [c11b0] | (simp only [i64_w, i32_w]; rw [c11b0]) | skip)
   by_cases c23 : (wrap64 (1 + t196)) = 7
   ·rw [if_pos c23] at H
    have c23b0 : ((wrap64 (1 + t196)) == 7) = true := beq_iff_eq.mpr c23
    have c23b1 : ((wrap64 (1 + t196)) != 7) = false := bne_eq_false_iff_eq.mpr c23
    clear c23
    replace H := Option.bind_eq_some_iff.mp H
    obtain ⟨⟨t207, t208⟩, A240, H⟩ := H
    (try dsimp only at H)
    have A24 := Aside0.mk A240
    clear A240
    replace H := Option.bind_eq_some_iff.mp H
    obtain ⟨⟨t209, t210⟩, A250, H⟩ := H
    (try dsimp only at H)
    have A25 := Aside0.mk A250
    clear A250
    have H' := Aside0.mk H
    clear H
    go_wp2_with (first | ((with_reducible refine gate_callee (f := 56) rfl ?_); refine goesL_ (some 28) rfl rfl Try.func56 oK rfl #[.pointer (some ⟨g, 0, none⟩), .int .i64 6] rfl oA ?_; (with_reducible refine (spec_l20Rd_pick.calls k g s0_0 t197 6 t207 t208 w0 _ ?side1 ?side2 A24.out).mono ?_); (case side1 => exact oI72 HI0); (case side2 => exact oH HB (IsS72.ge HI0.out)); rintro e w26 ⟨rfl, hi, hb, hk⟩; refine ⟨_, rfl, ?_⟩; have n_ := o2_ (oJ hk BK195 NB195_0) (o2_ (KeepBut.blk hk (g' := gb198) (o := .cells #[.int .i64 (wrap64 (1 + t196)), .int .i64 0, .int .i64 0, .int .i64 0, .int .i64 0] 27 (0, 0)) (blk_put (blk_put (blk_put (blk_put (blk_put BK198.out 0 _ rfl) 1 _ rfl) 2 _ rfl) 3 _ rfl) 4 _ rfl) NB198_0.out (by simp)) (o2_ (KeepBut.trans (oE HK) hk (.inl rfl)) (o2_ (hb) (o1_ (hi))))); clear BK195 BK198 HK HB HI0; obtain ⟨BK195, BK198, HK, HB, HI0⟩ := n_; (try clear hb); (try clear hb2); (try clear hk); (try clear hi)) | ((with_reducible refine gate_callee (f := 56) rfl ?_); refine goesL_ (some 31) rfl rfl Try.func56 oK rfl #[.pointer (some ⟨g, 0, none⟩), .int .i64 6] rfl oA ?_; (with_reducible refine (spec_l20Rd_pick.calls k g s0_0 t208 6 t209 t210 w0 _ ?side1 ?side2 A25.out).mono ?_); (case side1 => exact oI72 HI0); (case side2 => exact oH HB (IsS72.ge HI0.out)); rintro e w27 ⟨rfl, hi, hb, hk⟩; refine ⟨_, rfl, ?_⟩; have n_ := o2_ (oJ hk BK195 NB195_0) (o2_ (oJ hk BK198 NB198_0) (o2_ (KeepBut.trans (oE HK) hk (.inl rfl)) (o2_ (hb) (o1_ (hi))))); clear BK195 BK198 HK HB HI0; obtain ⟨BK195, BK198, HK, HB, HI0⟩ := n_; (try clear hb); (try clear hb2); (try clear hk); (try clear hi); have hnb28 := NB198_195.out; have hnc28 := NB195_198.out; have hnb29 := NB198_0.out; have hnc29 := NB0_198.out; have hcz30_0 : w27.cell? ⟨gb198, 0, none⟩ = some (.int .i64 (wrap64 (1 + t196))) := (blk_cell BK198.out 0).trans rfl; have hcz30_1 : w27.cell? ⟨gb198, 1, none⟩ = some (.int .i64 0) := (blk_cell BK198.out 1).trans rfl; have hcz30_2 : w27.cell? ⟨gb198, 2, none⟩ = some (.int .i64 0) := (blk_cell BK198.out 2).trans rfl; have hcz30_3 : w27.cell? ⟨gb198, 3, none⟩ = some (.int .i64 0) := (blk_cell BK198.out 3).trans rfl; have hcz30_4 : w27.cell? ⟨gb198, 4, none⟩ = some (.int .i64 0) := (blk_cell BK198.out 4).trans rfl; have hfz30_0 := blk_frozen BK198.out 0; have hfz30_1 := blk_frozen BK198.out 1; have hfz30_2 := blk_frozen BK198.out 2; have hfz30_3 := blk_frozen BK198.out 3; have hfz30_4 := blk_frozen BK198.out 4))
    go_meet
    case rel => exact ⟨_, (t210), (7), (wrap64 (1 + t207)), (wrap64 (1 + t209)), (0), (0), H', ⟨(by first | omega | exact Nat.le_refl _)⟩, ⟨(oP BK195)⟩, ⟨(blk_put (blk_put (blk_put (blk_put (blk_put BK198.out 0 _ rfl) 1 _ rfl) 2 _ rfl) 3 _ rfl) 4 _ rfl)⟩, ⟨(oI72 HI0)⟩, ⟨(oE HK)⟩, ⟨(oH HB (IsS72.ge HI0.out))⟩⟩
   ·rw [if_neg c23] at H
    have c23b0 : ((wrap64 (1 + t196)) == 7) = false := beq_eq_false_iff_ne.mpr c23
    have c23b1 : ((wrap64 (1 + t196)) != 7) = true := bne_iff_ne.mpr c23
    by_cases c31 : (wrap64 (1 + t196)) = 8
    ·rw [if_pos c31] at H
     have c31b0 : ((wrap64 (1 + t196)) == 8) = true := beq_iff_eq.mpr c31
     have c31b1 : ((wrap64 (1 + t196)) != 8) = false := bne_eq_false_iff_eq.mpr c31
     clear c31
     replace H := Option.bind_eq_some_iff.mp H
     obtain ⟨⟨t211, t212⟩, A320, H⟩ := H
     (try dsimp only at H)
     have A32 := Aside0.mk A320
     clear A320
     replace H := Option.bind_eq_some_iff.mp H
     obtain ⟨⟨t213, t214⟩, A330, H⟩ := H
     (try dsimp only at H)
     have A33 := Aside0.mk A330
     clear A330
     replace H := Option.bind_eq_some_iff.mp H
     obtain ⟨⟨t215, t216⟩, A340, H⟩ := H
     (try dsimp only at H)
     have A34 := Aside0.mk A340
     clear A340
     have H' := Aside0.mk H
     clear H
     go_wp2_with (first | ((with_reducible refine gate_callee (f := 56) rfl ?_); refine goesL_ (some 37) rfl rfl Try.func56 oK rfl #[.pointer (some ⟨g, 0, none⟩), .int .i64 256] rfl oA ?_; (with_reducible refine (spec_l20Rd_pick.calls k g s0_0 t197 256 t211 t212 w0 _ ?side1 ?side2 A32.out).mono ?_); (case side1 => exact oI72 HI0); (case side2 => exact oH HB (IsS72.ge HI0.out)); rintro e w35 ⟨rfl, hi, hb, hk⟩; refine ⟨_, rfl, ?_⟩; have n_ := o2_ (oJ hk BK195 NB195_0) (o2_ (KeepBut.blk hk (g' := gb198) (o := .cells #[.int .i64 (wrap64 (1 + t196)), .int .i64 0, .int .i64 0, .int .i64 0, .int .i64 0] 27 (0, 0)) (blk_put (blk_put (blk_put (blk_put (blk_put BK198.out 0 _ rfl) 1 _ rfl) 2 _ rfl) 3 _ rfl) 4 _ rfl) NB198_0.out (by simp)) (o2_ (KeepBut.trans (oE HK) hk (.inl rfl)) (o2_ (hb) (o1_ (hi))))); clear BK195 BK198 HK HB HI0; obtain ⟨BK195, BK198, HK, HB, HI0⟩ := n_; (try clear hb); (try clear hb2); (try clear hk); (try clear hi)) | ((with_reducible refine gate_callee (f := 56) rfl ?_); refine goesL_ (some 39) rfl rfl Try.func56 oK rfl #[.pointer (some ⟨g, 0, none⟩), .int .i64 256] rfl oA ?_; (with_reducible refine (spec_l20Rd_pick.calls k g s0_0 t212 256 t213 t214 w0 _ ?side1 ?side2 A33.out).mono ?_); (case side1 => exact oI72 HI0); (case side2 => exact oH HB (IsS72.ge HI0.out)); rintro e w36 ⟨rfl, hi, hb, hk⟩; refine ⟨_, rfl, ?_⟩; have n_ := o2_ (oJ hk BK195 NB195_0) (o2_ (oJ hk BK198 NB198_0) (o2_ (KeepBut.trans (oE HK) hk (.inl rfl)) (o2_ (hb) (o1_ (hi))))); clear BK195 BK198 HK HB HI0; obtain ⟨BK195, BK198, HK, HB, HI0⟩ := n_; (try clear hb); (try clear hb2); (try clear hk); (try clear hi)) | ((with_reducible refine gate_callee (f := 56) rfl ?_); refine goesL_ (some 41) rfl rfl Try.func56 oK rfl #[.pointer (some ⟨g, 0, none⟩), .int .i64 256] rfl oA ?_; (with_reducible refine (spec_l20Rd_pick.calls k g s0_0 t214 256 t215 t216 w0 _ ?side1 ?side2 A34.out).mono ?_); (case side1 => exact oI72 HI0); (case side2 => exact oH HB (IsS72.ge HI0.out)); rintro e w37 ⟨rfl, hi, hb, hk⟩; refine ⟨_, rfl, ?_⟩; have n_ := o2_ (oJ hk BK195 NB195_0) (o2_ (oJ hk BK198 NB198_0) (o2_ (KeepBut.trans (oE HK) hk (.inl rfl)) (o2_ (hb) (o1_ (hi))))); clear BK195 BK198 HK HB HI0; obtain ⟨BK195, BK198, HK, HB, HI0⟩ := n_; (try clear hb); (try clear hb2); (try clear hk); (try clear hi); have hnb38 := NB198_195.out; have hnc38 := NB195_198.out; have hnb39 := NB198_0.out; have hnc39 := NB0_198.out; have hcz40_0 : w37.cell? ⟨gb198, 0, none⟩ = some (.int .i64 (wrap64 (1 + t196))) := (blk_cell BK198.out 0).trans rfl; have hcz40_1 : w37.cell? ⟨gb198, 1, none⟩ = some (.int .i64 0) := (blk_cell BK198.out 1).trans rfl; have hcz40_2 : w37.cell? ⟨gb198, 2, none⟩ = some (.int .i64 0) := (blk_cell BK198.out 2).trans rfl; have hcz40_3 : w37.cell? ⟨gb198, 3, none⟩ = some (.int .i64 0) := (blk_cell BK198.out 3).trans rfl; have hcz40_4 : w37.cell? ⟨gb198, 4, none⟩ = some (.int .i64 0) := (blk_cell BK198.out 4).trans rfl; have hfz40_0 := blk_frozen BK198.out 0; have hfz40_1 := blk_frozen BK198.out 1; have hfz40_2 := blk_frozen BK198.out 2; have hfz40_3 := blk_frozen BK198.out 3; have hfz40_4 := blk_frozen BK198.out 4))
     go_meet
     case rel => exact ⟨_, (t216), (8), (t211), (t213), (t215), (0), H', ⟨(by first | omega | exact Nat.le_refl _)⟩, ⟨(oP BK195)⟩, ⟨(blk_put (blk_put (blk_put (blk_put (blk_put BK198.out 0 _ rfl) 1 _ rfl) 2 _ rfl) 3 _ rfl) 4 _ rfl)⟩, ⟨(oI72 HI0)⟩, ⟨(oE HK)⟩, ⟨(oH HB (IsS72.ge HI0.out))⟩⟩
    ·rw [if_neg c31] at H
     have c31b0 : ((wrap64 (1 + t196)) == 8) = false := beq_eq_false_iff_ne.mpr c31
     have c31b1 : ((wrap64 (1 + t196)) != 8) = true := bne_iff_ne.mpr c31
     have H' := Aside0.mk H
     clear H
     go_wp2
     go_meet
     case rel => exact ⟨_, (t197), (wrap64 (1 + t196)), (0), (0), (0), (0), H', ⟨(by first | omega | exact Nat.le_refl _)⟩, ⟨(oP BK195)⟩, ⟨(blk_put (blk_put (blk_put (blk_put (blk_put BK198.out 0 _ rfl) 1 _ rfl) 2 _ rfl) 3 _ rfl) 4 _ rfl)⟩, ⟨(oI72 HI0)⟩, ⟨(oE HK)⟩, ⟨(oH HB (IsS72.ge HI0.out))⟩⟩
 case rest =>
  clear HC4
  try clear c1
  try clear c2
  try clear p2
  try clear c3
  try clear c4
  try clear c5
  try clear p6
  try clear c8
  try clear c9
  try clear c11
  try clear c11b0
  try clear c11b1
  try clear c20
  try clear c21
  try clear c23
  try clear c23b0
  try clear c23b1
  try clear c28
  try clear c29
  try clear c31
  try clear c31b0
  try clear c31b1
  try clear c38
  try clear c39
  try clear hcz10_0
  try clear hcz10_1
  try clear hcz10_2
  try clear hcz10_3
  try clear hcz10_4
  try clear hcz22_0
  try clear hcz22_1
  try clear hcz22_2
  try clear hcz22_3
  try clear hcz22_4
  try clear hcz30_0
  try clear hcz30_1
  try clear hcz30_2
  try clear hcz30_3
  try clear hcz30_4
  try clear hcz40_0
  try clear hcz40_1
  try clear hcz40_2
  try clear hcz40_3
  try clear hcz40_4
  try clear hfz10_0
  try clear hfz10_1
  try clear hfz10_2
  try clear hfz10_3
  try clear hfz10_4
  try clear hfz22_0
  try clear hfz22_1
  try clear hfz22_2
  try clear hfz22_3
  try clear hfz22_4
  try clear hfz30_0
  try clear hfz30_1
  try clear hfz30_2
  try clear hfz30_3
  try clear hfz30_4
  try clear hfz40_0
  try clear hfz40_1
  try clear hfz40_2
  try clear hfz40_3
  try clear hfz40_4
  obtain ⟨kq, x1001_3, x199000_3, x199001_3, x199002_3, x199003_3, x199004_3, HA, HJ3, BK195, BK198, HI0, HK, HB⟩ := hcut
  cases kq with
  | zero => exact nomatch (show none = some _ from HA.out)
  | succ kj3 =>
   have H := HA.out
   clear HA
   simp only [spec_l20Op.j0] at H
   replace H := Option.bind_eq_some_iff.mp H
   obtain ⟨⟨t217, t218⟩, A410, H⟩ := H
   (try dsimp only at H)
   have A41 := Aside0.mk A410
   clear A410
   by_cases c42 : t217 = true
   ·subst c42
    rw [if_pos rfl] at H
    replace H := Option.bind_eq_some_iff.mp H
    obtain ⟨⟨t219, t220⟩, A430, H⟩ := H
    (try dsimp only at H)
    have A43 := Aside0.mk A430
    clear A430
    by_cases c44 : t219 = 0
    ·rw [if_pos c44] at H
     have c44b0 : (t219 == 0) = true := beq_iff_eq.mpr c44
     have c44b1 : (t219 != 0) = false := bne_eq_false_iff_eq.mpr c44
     clear c44
     obtain ⟨y221, hy221⟩ : ∃ y_ : List Int, y_ = (([0, 9] : List Int)) := ⟨_, rfl⟩
     replace H : ((spec_l20Rd_pick.f kj3 s0_0 t220 2).bind fun bt224 => (if 0 ≤ bt224.1 then (if bt224.1 < (y221.length : Int) then (some (rd y221 bt224.1, x199001_3, x199002_3, x199003_3, x199004_3, bt224.2)) else (none)) else (none))) = some (r1, r2, r3, r4, r5, r6) := by first | (rw [hy221]; with_reducible exact H) | (have H2_ := (Option.bind_some _ _).symm.trans H; rw [hy221]; with_reducible exact H2_) | (have H2_ := (Option.bind_some _ _).symm.trans H; with_reducible exact H2_) | with_reducible exact H | (rw [hy221]; exact H) | exact H
     have Ny221 := Aside0.mk hy221
     clear hy221
     replace H := Option.bind_eq_some_iff.mp H
     obtain ⟨⟨t224, t225⟩, A450, H⟩ := H
     (try dsimp only at H)
     have A45 := Aside0.mk A450
     clear A450
     by_cases c46 : 0 ≤ t224
     ·rw [if_pos c46] at H
      have c46b0 : decide (0 ≤ t224) = true := decide_eq_true c46
      clear c46
      by_cases c47 : t224 < (y221.length : Int)
      ·rw [if_pos c47] at H
       have c47b0 : decide (t224 < (y221.length : Int)) = true := decide_eq_true c47
       clear c47
       simp only [Option.some.injEq, Prod.mk.injEq] at H
       obtain ⟨rfl, rfl, rfl, rfl, rfl, rfl⟩ := H
       go_wp2_with (first | ((with_reducible refine gate_callee (f := 67) rfl ?_); refine goesL_ (some 45) rfl rfl Try.func67 oK rfl #[.pointer (some ⟨g, 0, none⟩), .int .i64 a1] rfl oA ?_; (with_reducible refine (spec_l20Rd_odd.calls kj3 g s0_0 x1001_3 a1 true t218 w0 _ ?side1 ?side2 A41.out).mono ?_); (case side1 => exact oI72 HI0); (case side2 => exact oH HB (IsS72.ge HI0.out)); rintro e w48 ⟨rfl, hi, hb, hk⟩; refine ⟨_, rfl, ?_⟩; have n_ := o2_ (oJ hk BK195 NB195_0) (o2_ (oJ hk BK198 NB198_0) (o2_ (KeepBut.trans (oE HK) hk (.inl rfl)) (o2_ (hb) (o1_ (hi))))); clear BK195 BK198 HK HB HI0; obtain ⟨BK195, BK198, HK, HB, HI0⟩ := n_; (try clear hb); (try clear hb2); (try clear hk); (try clear hi)) | ((with_reducible refine gate_callee (f := 56) rfl ?_); refine goesL_ (some 47) rfl rfl Try.func56 oK rfl #[.pointer (some ⟨g, 0, none⟩), .int .i64 4] rfl oA ?_; (with_reducible refine (spec_l20Rd_pick.calls kj3 g s0_0 t218 4 t219 t220 w0 _ ?side1 ?side2 A43.out).mono ?_); (case side1 => exact oI72 HI0); (case side2 => exact oH HB (IsS72.ge HI0.out)); rintro e w49 ⟨rfl, hi, hb, hk⟩; refine ⟨_, rfl, ?_⟩; have n_ := o2_ (oJ hk BK195 NB195_0) (o2_ (oJ hk BK198 NB198_0) (o2_ (KeepBut.trans (oE HK) hk (.inl rfl)) (o2_ (hb) (o1_ (hi))))); clear BK195 BK198 HK HB HI0; obtain ⟨BK195, BK198, HK, HB, HI0⟩ := n_; (try clear hb); (try clear hb2); (try clear hk); (try clear hi)) | ((with_reducible refine gate_dst (N := 56) rfl ?_); refine Kd.R_lit (Kd.int .i64) _ 3 ?hg (N := 56) ?hd (xs := ([0, 9] : List Int)) (inner := [.int .i64 0, .int .i64 9]) (ok := fun _ => True) (okp := fun _ => True) ?hr ?hp (fun _ hk => hk) trivial (Below.refl _ _) (Nat.le_refl _) (by simp) ?_; (case hd => rfl); (case hg => rfl); (case hr => first | (go_simp; done) | (go_simp; rfl)); (case hp => exact (Reps.one (show Kd.M (Kd.int .i64) _ _ _ 0 [.int .i64 0] from rfl) (Reps.one (show Kd.M (Kd.int .i64) _ _ _ 9 [.int .i64 9] from rfl) (Reps.none _ _)))); intro v222 w50 ho51 hb hg_ hnew_; clear hg_ hnew_; (first | rw [← Ny221.out] at ho51 | (simp only [Int.reduceToNat] at ho51; rw [← Ny221.out] at ho51)); have n_ := o2_ (Kd.R_lower ho51 (keep_size (w := w) (g := g) (row := none) (oE HK))) (o2_ (blk_below (oP BK195) hb) (o2_ (blk_below (oP BK198) hb) (o2_ (IsS72.below (oI72 HI0) hb) (o2_ (KeepBut.trans (oE HK) (KeepBut.of_below hb g none) (.inl rfl)) (o1_ (below_step (oH HB (IsS72.ge HI0.out)) hb)))))); clear BK195 BK198 HI0 HK HB; obtain ⟨HO223, BK195, BK198, HI0, HK, HB⟩ := n_; clear hb ho51) | ((with_reducible refine gate_callee (f := 56) rfl ?_); refine goesL_ (some 58) rfl rfl Try.func56 oK rfl #[.pointer (some ⟨g, 0, none⟩), .int .i64 2] rfl oA ?_; (with_reducible refine (spec_l20Rd_pick.calls kj3 g s0_0 t220 2 t224 t225 w0 _ ?side1 ?side2 A45.out).mono ?_); (case side1 => exact oI72 HI0); (case side2 => exact oH HB (IsS72.ge HI0.out)); rintro e w52 ⟨rfl, hi, hb, hk⟩; refine ⟨_, rfl, ?_⟩; have n_ := o2_ (oJ hk BK195 NB195_0) (o2_ (oJ hk BK198 NB198_0) (o2_ (Kd.R_mono (Kd.R_keep (IsS72.apart (show IsS72 w0 _ g s0_0 t220 from oI72 HI0) (oR HO223) oD) hk (fun _ h => h.2)) (fun _ h => h.1)) (o2_ (KeepBut.trans (oE HK) hk (.inl rfl)) (o2_ (hb) (o1_ (hi)))))); clear BK195 BK198 HO223 HK HB HI0; obtain ⟨BK195, BK198, HO223, HK, HB, HI0⟩ := n_; (try clear hb); (try clear hb2); (try clear hk); (try clear hi); obtain ⟨Ao53, co53, eo53⟩ := Kd.R_slice HO223.out; subst eo53; have p226 : 0 ≤ (t224 : Int) := of_decide_eq_true oM; have q226 : t224 < (y221.length : Int) := of_decide_eq_true oM; obtain ⟨ad226, e226, hx226_0⟩ := Kd.at_int (Kd.R_reads' HO223.out).2.2 t224 p226 q226; cases e226; replace p226 := eq_true p226; replace q226 := eq_true q226; have hnb54 := NB198_195.out; have hnc54 := NB195_198.out; have hnb55 := NB198_0.out; have hnc55 := NB0_198.out; have hcz56_0 : w52.cell? ⟨gb198, 0, none⟩ = some (.int .i64 x199000_3) := (blk_cell BK198.out 0).trans rfl; have hcz56_1 : w52.cell? ⟨gb198, 1, none⟩ = some (.int .i64 x199001_3) := (blk_cell BK198.out 1).trans rfl; have hcz56_2 : w52.cell? ⟨gb198, 2, none⟩ = some (.int .i64 x199002_3) := (blk_cell BK198.out 2).trans rfl; have hcz56_3 : w52.cell? ⟨gb198, 3, none⟩ = some (.int .i64 x199003_3) := (blk_cell BK198.out 3).trans rfl; have hcz56_4 : w52.cell? ⟨gb198, 4, none⟩ = some (.int .i64 x199004_3) := (blk_cell BK198.out 4).trans rfl; have hfz56_0 := blk_frozen BK198.out 0; have hfz56_1 := blk_frozen BK198.out 1; have hfz56_2 := blk_frozen BK198.out 2; have hfz56_3 := blk_frozen BK198.out 3; have hfz56_4 := blk_frozen BK198.out 4; have hnb57 := NB195_0.out; have hnc57 := NB0_195.out; have hcz58_0 : w52.cell? ⟨gb195, 0, none⟩ = some (.int .i64 0) := (blk_cell BK195.out 0).trans rfl; have hcz58_1 : w52.cell? ⟨gb195, 1, none⟩ = some (.int .i64 0) := (blk_cell BK195.out 1).trans rfl; have hcz58_2 : w52.cell? ⟨gb195, 2, none⟩ = some (.int .i64 0) := (blk_cell BK195.out 2).trans rfl; have hcz58_3 : w52.cell? ⟨gb195, 3, none⟩ = some (.int .i64 0) := (blk_cell BK195.out 3).trans rfl; have hcz58_4 : w52.cell? ⟨gb195, 4, none⟩ = some (.int .i64 0) := (blk_cell BK195.out 4).trans rfl; have hfz58_0 := blk_frozen BK195.out 0; have hfz58_1 := blk_frozen BK195.out 1; have hfz58_2 := blk_frozen BK195.out 2; have hfz58_3 := blk_frozen BK195.out 3; have hfz58_4 := blk_frozen BK195.out 4))
       refine bodyPost_ret (results_cell_row rfl _ _ gb195 27 #[.int .i64 (rd y221 t224), .int .i64 x199001_3, .int .i64 x199002_3, .int .i64 x199003_3, .int .i64 x199004_3] (0, 0) _ rfl (by (with_reducible repeat (first | refine blk_drewN ?_ _ | refine blk_drew ?_ | refine blk_alloc ?_ _)); refine blk_put (cs := #[.int .i64 (rd y221 t224), .int .i64 x199001_3, .int .i64 x199002_3, .int .i64 x199003_3, .int .i64 0]) ?_ 4 _ rfl; (with_reducible repeat (first | refine blk_drewN ?_ _ | refine blk_drew ?_ | refine blk_alloc ?_ _)); refine blk_put (cs := #[.int .i64 (rd y221 t224), .int .i64 x199001_3, .int .i64 x199002_3, .int .i64 0, .int .i64 0]) ?_ 3 _ rfl; (with_reducible repeat (first | refine blk_drewN ?_ _ | refine blk_drew ?_ | refine blk_alloc ?_ _)); refine blk_put (cs := #[.int .i64 (rd y221 t224), .int .i64 x199001_3, .int .i64 0, .int .i64 0, .int .i64 0]) ?_ 2 _ rfl; (with_reducible repeat (first | refine blk_drewN ?_ _ | refine blk_drew ?_ | refine blk_alloc ?_ _)); refine blk_put (cs := #[.int .i64 (rd y221 t224), .int .i64 0, .int .i64 0, .int .i64 0, .int .i64 0]) ?_ 1 _ rfl; (with_reducible repeat (first | refine blk_drewN ?_ _ | refine blk_drew ?_ | refine blk_alloc ?_ _)); refine blk_put (cs := #[.int .i64 0, .int .i64 0, .int .i64 0, .int .i64 0, .int .i64 0]) ?_ 0 _ rfl; (with_reducible repeat (first | refine blk_drewN ?_ _ | refine blk_drew ?_ | refine blk_alloc ?_ _)); refine blk_far ?_ NB195_198.out _; (with_reducible repeat (first | refine blk_drewN ?_ _ | refine blk_drew ?_ | refine blk_alloc ?_ _)); exact BK195.out) Try.underlying27 rfl oK) rfl ?_
       exact ⟨by first | rfl | (simp [errW_none, errW_some] <;> rfl) | (simp [*, errW_none, errW_some] <;> rfl), oI72 HI0, oH HB (IsS72.ge HI0.out), oE HK⟩
      ·rw [if_neg c47] at H
       exact absurd H (by simp)
     ·rw [if_neg c46] at H
      exact absurd H (by simp)
    ·rw [if_neg c44] at H
     have c44b0 : (t219 == 0) = false := beq_eq_false_iff_ne.mpr c44
     have c44b1 : (t219 != 0) = true := bne_iff_ne.mpr c44
     by_cases c59 : t219 = 1
     ·rw [if_pos c59] at H
      have c59b0 : (t219 == 1) = true := beq_iff_eq.mpr c59
      have c59b1 : (t219 != 1) = false := bne_eq_false_iff_eq.mpr c59
      clear c59
      obtain ⟨y227, hy227⟩ : ∃ y_ : List Int, y_ = (([(-1), 256] : List Int)) := ⟨_, rfl⟩
      replace H : ((spec_l20Rd_pick.f kj3 s0_0 t220 2).bind fun bt230 => (if 0 ≤ bt230.1 then (if bt230.1 < (y227.length : Int) then (some (x199000_3, rd y227 bt230.1, x199002_3, x199003_3, x199004_3, bt230.2)) else (none)) else (none))) = some (r1, r2, r3, r4, r5, r6) := by first | (rw [hy227]; with_reducible exact H) | (have H2_ := (Option.bind_some _ _).symm.trans H; rw [hy227]; with_reducible exact H2_) | (have H2_ := (Option.bind_some _ _).symm.trans H; with_reducible exact H2_) | with_reducible exact H | (rw [hy227]; exact H) | exact H
      have Ny227 := Aside0.mk hy227
      clear hy227
      replace H := Option.bind_eq_some_iff.mp H
      obtain ⟨⟨t230, t231⟩, A600, H⟩ := H
      (try dsimp only at H)
      have A60 := Aside0.mk A600
      clear A600
      by_cases c61 : 0 ≤ t230
      ·rw [if_pos c61] at H
       have c61b0 : decide (0 ≤ t230) = true := decide_eq_true c61
       clear c61
       by_cases c62 : t230 < (y227.length : Int)
       ·rw [if_pos c62] at H
        have c62b0 : decide (t230 < (y227.length : Int)) = true := decide_eq_true c62
        clear c62
        simp only [Option.some.injEq, Prod.mk.injEq] at H
        obtain ⟨rfl, rfl, rfl, rfl, rfl, rfl⟩ := H
        go_wp2_with (first | ((with_reducible refine gate_callee (f := 67) rfl ?_); refine goesL_ (some 45) rfl rfl Try.func67 oK rfl #[.pointer (some ⟨g, 0, none⟩), .int .i64 a1] rfl oA ?_; (with_reducible refine (spec_l20Rd_odd.calls kj3 g s0_0 x1001_3 a1 true t218 w0 _ ?side1 ?side2 A41.out).mono ?_); (case side1 => exact oI72 HI0); (case side2 => exact oH HB (IsS72.ge HI0.out)); rintro e w63 ⟨rfl, hi, hb, hk⟩; refine ⟨_, rfl, ?_⟩; have n_ := o2_ (oJ hk BK195 NB195_0) (o2_ (oJ hk BK198 NB198_0) (o2_ (KeepBut.trans (oE HK) hk (.inl rfl)) (o2_ (hb) (o1_ (hi))))); clear BK195 BK198 HK HB HI0; obtain ⟨BK195, BK198, HK, HB, HI0⟩ := n_; (try clear hb); (try clear hb2); (try clear hk); (try clear hi)) | ((with_reducible refine gate_callee (f := 56) rfl ?_); refine goesL_ (some 47) rfl rfl Try.func56 oK rfl #[.pointer (some ⟨g, 0, none⟩), .int .i64 4] rfl oA ?_; (with_reducible refine (spec_l20Rd_pick.calls kj3 g s0_0 t218 4 t219 t220 w0 _ ?side1 ?side2 A43.out).mono ?_); (case side1 => exact oI72 HI0); (case side2 => exact oH HB (IsS72.ge HI0.out)); rintro e w64 ⟨rfl, hi, hb, hk⟩; refine ⟨_, rfl, ?_⟩; have n_ := o2_ (oJ hk BK195 NB195_0) (o2_ (oJ hk BK198 NB198_0) (o2_ (KeepBut.trans (oE HK) hk (.inl rfl)) (o2_ (hb) (o1_ (hi))))); clear BK195 BK198 HK HB HI0; obtain ⟨BK195, BK198, HK, HB, HI0⟩ := n_; (try clear hb); (try clear hb2); (try clear hk); (try clear hi)) | ((with_reducible refine gate_dst (N := 64) rfl ?_); refine Kd.R_lit (Kd.int .i64) _ 3 ?hg (N := 64) ?hd (xs := ([(-1), 256] : List Int)) (inner := [.int .i64 (-1), .int .i64 256]) (ok := fun _ => True) (okp := fun _ => True) ?hr ?hp (fun _ hk => hk) trivial (Below.refl _ _) (Nat.le_refl _) (by simp) ?_; (case hd => rfl); (case hg => rfl); (case hr => first | (go_simp; done) | (go_simp; rfl)); (case hp => exact (Reps.one (show Kd.M (Kd.int .i64) _ _ _ (-1) [.int .i64 (-1)] from rfl) (Reps.one (show Kd.M (Kd.int .i64) _ _ _ 256 [.int .i64 256] from rfl) (Reps.none _ _)))); intro v228 w65 ho66 hb hg_ hnew_; clear hg_ hnew_; (first | rw [← Ny227.out] at ho66 | (simp only [Int.reduceToNat] at ho66; rw [← Ny227.out] at ho66)); have n_ := o2_ (Kd.R_lower ho66 (keep_size (w := w) (g := g) (row := none) (oE HK))) (o2_ (blk_below (oP BK195) hb) (o2_ (blk_below (oP BK198) hb) (o2_ (IsS72.below (oI72 HI0) hb) (o2_ (KeepBut.trans (oE HK) (KeepBut.of_below hb g none) (.inl rfl)) (o1_ (below_step (oH HB (IsS72.ge HI0.out)) hb)))))); clear BK195 BK198 HI0 HK HB; obtain ⟨HO229, BK195, BK198, HI0, HK, HB⟩ := n_; clear hb ho66) | ((with_reducible refine gate_callee (f := 56) rfl ?_); refine goesL_ (some 66) rfl rfl Try.func56 oK rfl #[.pointer (some ⟨g, 0, none⟩), .int .i64 2] rfl oA ?_; (with_reducible refine (spec_l20Rd_pick.calls kj3 g s0_0 t220 2 t230 t231 w0 _ ?side1 ?side2 A60.out).mono ?_); (case side1 => exact oI72 HI0); (case side2 => exact oH HB (IsS72.ge HI0.out)); rintro e w67 ⟨rfl, hi, hb, hk⟩; refine ⟨_, rfl, ?_⟩; have n_ := o2_ (oJ hk BK195 NB195_0) (o2_ (oJ hk BK198 NB198_0) (o2_ (Kd.R_mono (Kd.R_keep (IsS72.apart (show IsS72 w0 _ g s0_0 t220 from oI72 HI0) (oR HO229) oD) hk (fun _ h => h.2)) (fun _ h => h.1)) (o2_ (KeepBut.trans (oE HK) hk (.inl rfl)) (o2_ (hb) (o1_ (hi)))))); clear BK195 BK198 HO229 HK HB HI0; obtain ⟨BK195, BK198, HO229, HK, HB, HI0⟩ := n_; (try clear hb); (try clear hb2); (try clear hk); (try clear hi); obtain ⟨Ao68, co68, eo68⟩ := Kd.R_slice HO229.out; subst eo68; have p232 : 0 ≤ (t230 : Int) := of_decide_eq_true oM; have q232 : t230 < (y227.length : Int) := of_decide_eq_true oM; obtain ⟨ad232, e232, hx232_0⟩ := Kd.at_int (Kd.R_reads' HO229.out).2.2 t230 p232 q232; cases e232; replace p232 := eq_true p232; replace q232 := eq_true q232; have hnb69 := NB198_195.out; have hnc69 := NB195_198.out; have hnb70 := NB198_0.out; have hnc70 := NB0_198.out; have hcz71_0 : w67.cell? ⟨gb198, 0, none⟩ = some (.int .i64 x199000_3) := (blk_cell BK198.out 0).trans rfl; have hcz71_1 : w67.cell? ⟨gb198, 1, none⟩ = some (.int .i64 x199001_3) := (blk_cell BK198.out 1).trans rfl; have hcz71_2 : w67.cell? ⟨gb198, 2, none⟩ = some (.int .i64 x199002_3) := (blk_cell BK198.out 2).trans rfl; have hcz71_3 : w67.cell? ⟨gb198, 3, none⟩ = some (.int .i64 x199003_3) := (blk_cell BK198.out 3).trans rfl; have hcz71_4 : w67.cell? ⟨gb198, 4, none⟩ = some (.int .i64 x199004_3) := (blk_cell BK198.out 4).trans rfl; have hfz71_0 := blk_frozen BK198.out 0; have hfz71_1 := blk_frozen BK198.out 1; have hfz71_2 := blk_frozen BK198.out 2; have hfz71_3 := blk_frozen BK198.out 3; have hfz71_4 := blk_frozen BK198.out 4; have hnb72 := NB195_0.out; have hnc72 := NB0_195.out; have hcz73_0 : w67.cell? ⟨gb195, 0, none⟩ = some (.int .i64 0) := (blk_cell BK195.out 0).trans rfl; have hcz73_1 : w67.cell? ⟨gb195, 1, none⟩ = some (.int .i64 0) := (blk_cell BK195.out 1).trans rfl; have hcz73_2 : w67.cell? ⟨gb195, 2, none⟩ = some (.int .i64 0) := (blk_cell BK195.out 2).trans rfl; have hcz73_3 : w67.cell? ⟨gb195, 3, none⟩ = some (.int .i64 0) := (blk_cell BK195.out 3).trans rfl; have hcz73_4 : w67.cell? ⟨gb195, 4, none⟩ = some (.int .i64 0) := (blk_cell BK195.out 4).trans rfl; have hfz73_0 := blk_frozen BK195.out 0; have hfz73_1 := blk_frozen BK195.out 1; have hfz73_2 := blk_frozen BK195.out 2; have hfz73_3 := blk_frozen BK195.out 3; have hfz73_4 := blk_frozen BK195.out 4))
        refine bodyPost_ret (results_cell_row rfl _ _ gb195 27 #[.int .i64 x199000_3, .int .i64 (rd y227 t230), .int .i64 x199002_3, .int .i64 x199003_3, .int .i64 x199004_3] (0, 0) _ rfl (by (with_reducible repeat (first | refine blk_drewN ?_ _ | refine blk_drew ?_ | refine blk_alloc ?_ _)); refine blk_put (cs := #[.int .i64 x199000_3, .int .i64 (rd y227 t230), .int .i64 x199002_3, .int .i64 x199003_3, .int .i64 0]) ?_ 4 _ rfl; (with_reducible repeat (first | refine blk_drewN ?_ _ | refine blk_drew ?_ | refine blk_alloc ?_ _)); refine blk_put (cs := #[.int .i64 x199000_3, .int .i64 (rd y227 t230), .int .i64 x199002_3, .int .i64 0, .int .i64 0]) ?_ 3 _ rfl; (with_reducible repeat (first | refine blk_drewN ?_ _ | refine blk_drew ?_ | refine blk_alloc ?_ _)); refine blk_put (cs := #[.int .i64 x199000_3, .int .i64 (rd y227 t230), .int .i64 0, .int .i64 0, .int .i64 0]) ?_ 2 _ rfl; (with_reducible repeat (first | refine blk_drewN ?_ _ | refine blk_drew ?_ | refine blk_alloc ?_ _)); refine blk_put (cs := #[.int .i64 x199000_3, .int .i64 0, .int .i64 0, .int .i64 0, .int .i64 0]) ?_ 1 _ rfl; (with_reducible repeat (first | refine blk_drewN ?_ _ | refine blk_drew ?_ | refine blk_alloc ?_ _)); refine blk_put (cs := #[.int .i64 0, .int .i64 0, .int .i64 0, .int .i64 0, .int .i64 0]) ?_ 0 _ rfl; (with_reducible repeat (first | refine blk_drewN ?_ _ | refine blk_drew ?_ | refine blk_alloc ?_ _)); refine blk_far ?_ NB195_198.out _; (with_reducible repeat (first | refine blk_drewN ?_ _ | refine blk_drew ?_ | refine blk_alloc ?_ _)); exact BK195.out) Try.underlying27 rfl oK) rfl ?_
        exact ⟨by first | rfl | (simp [errW_none, errW_some] <;> rfl) | (simp [*, errW_none, errW_some] <;> rfl), oI72 HI0, oH HB (IsS72.ge HI0.out), oE HK⟩
       ·rw [if_neg c62] at H
        exact absurd H (by simp)
      ·rw [if_neg c61] at H
       exact absurd H (by simp)
     ·rw [if_neg c59] at H
      have c59b0 : (t219 == 1) = false := beq_eq_false_iff_ne.mpr c59
      have c59b1 : (t219 != 1) = true := bne_iff_ne.mpr c59
      by_cases c74 : t219 = 2
      ·rw [if_pos c74] at H
       have c74b0 : (t219 == 2) = true := beq_iff_eq.mpr c74
       have c74b1 : (t219 != 2) = false := bne_eq_false_iff_eq.mpr c74
       clear c74
       obtain ⟨y233, hy233⟩ : ∃ y_ : List Int, y_ = (([(-1), 256] : List Int)) := ⟨_, rfl⟩
       replace H : ((spec_l20Rd_pick.f kj3 s0_0 t220 2).bind fun bt236 => (if 0 ≤ bt236.1 then (if bt236.1 < (y233.length : Int) then (some (x199000_3, x199001_3, x199002_3, rd y233 bt236.1, x199004_3, bt236.2)) else (none)) else (none))) = some (r1, r2, r3, r4, r5, r6) := by first | (rw [hy233]; with_reducible exact H) | (have H2_ := (Option.bind_some _ _).symm.trans H; rw [hy233]; with_reducible exact H2_) | (have H2_ := (Option.bind_some _ _).symm.trans H; with_reducible exact H2_) | with_reducible exact H | (rw [hy233]; exact H) | exact H
       have Ny233 := Aside0.mk hy233
       clear hy233
       replace H := Option.bind_eq_some_iff.mp H
       obtain ⟨⟨t236, t237⟩, A750, H⟩ := H
       (try dsimp only at H)
       have A75 := Aside0.mk A750
       clear A750
       by_cases c76 : 0 ≤ t236
       ·rw [if_pos c76] at H
        have c76b0 : decide (0 ≤ t236) = true := decide_eq_true c76
        clear c76
        by_cases c77 : t236 < (y233.length : Int)
        ·rw [if_pos c77] at H
         have c77b0 : decide (t236 < (y233.length : Int)) = true := decide_eq_true c77
         clear c77
         simp only [Option.some.injEq, Prod.mk.injEq] at H
         obtain ⟨rfl, rfl, rfl, rfl, rfl, rfl⟩ := H
         go_wp2_with (first | ((with_reducible refine gate_callee (f := 67) rfl ?_); refine goesL_ (some 45) rfl rfl Try.func67 oK rfl #[.pointer (some ⟨g, 0, none⟩), .int .i64 a1] rfl oA ?_; (with_reducible refine (spec_l20Rd_odd.calls kj3 g s0_0 x1001_3 a1 true t218 w0 _ ?side1 ?side2 A41.out).mono ?_); (case side1 => exact oI72 HI0); (case side2 => exact oH HB (IsS72.ge HI0.out)); rintro e w78 ⟨rfl, hi, hb, hk⟩; refine ⟨_, rfl, ?_⟩; have n_ := o2_ (oJ hk BK195 NB195_0) (o2_ (oJ hk BK198 NB198_0) (o2_ (KeepBut.trans (oE HK) hk (.inl rfl)) (o2_ (hb) (o1_ (hi))))); clear BK195 BK198 HK HB HI0; obtain ⟨BK195, BK198, HK, HB, HI0⟩ := n_; (try clear hb); (try clear hb2); (try clear hk); (try clear hi)) | ((with_reducible refine gate_callee (f := 56) rfl ?_); refine goesL_ (some 47) rfl rfl Try.func56 oK rfl #[.pointer (some ⟨g, 0, none⟩), .int .i64 4] rfl oA ?_; (with_reducible refine (spec_l20Rd_pick.calls kj3 g s0_0 t218 4 t219 t220 w0 _ ?side1 ?side2 A43.out).mono ?_); (case side1 => exact oI72 HI0); (case side2 => exact oH HB (IsS72.ge HI0.out)); rintro e w79 ⟨rfl, hi, hb, hk⟩; refine ⟨_, rfl, ?_⟩; have n_ := o2_ (oJ hk BK195 NB195_0) (o2_ (oJ hk BK198 NB198_0) (o2_ (KeepBut.trans (oE HK) hk (.inl rfl)) (o2_ (hb) (o1_ (hi))))); clear BK195 BK198 HK HB HI0; obtain ⟨BK195, BK198, HK, HB, HI0⟩ := n_; (try clear hb); (try clear hb2); (try clear hk); (try clear hi)) | ((with_reducible refine gate_dst (N := 72) rfl ?_); refine Kd.R_lit (Kd.int .i64) _ 3 ?hg (N := 72) ?hd (xs := ([(-1), 256] : List Int)) (inner := [.int .i64 (-1), .int .i64 256]) (ok := fun _ => True) (okp := fun _ => True) ?hr ?hp (fun _ hk => hk) trivial (Below.refl _ _) (Nat.le_refl _) (by simp) ?_; (case hd => rfl); (case hg => rfl); (case hr => first | (go_simp; done) | (go_simp; rfl)); (case hp => exact (Reps.one (show Kd.M (Kd.int .i64) _ _ _ (-1) [.int .i64 (-1)] from rfl) (Reps.one (show Kd.M (Kd.int .i64) _ _ _ 256 [.int .i64 256] from rfl) (Reps.none _ _)))); intro v234 w80 ho81 hb hg_ hnew_; clear hg_ hnew_; (first | rw [← Ny233.out] at ho81 | (simp only [Int.reduceToNat] at ho81; rw [← Ny233.out] at ho81)); have n_ := o2_ (Kd.R_lower ho81 (keep_size (w := w) (g := g) (row := none) (oE HK))) (o2_ (blk_below (oP BK195) hb) (o2_ (blk_below (oP BK198) hb) (o2_ (IsS72.below (oI72 HI0) hb) (o2_ (KeepBut.trans (oE HK) (KeepBut.of_below hb g none) (.inl rfl)) (o1_ (below_step (oH HB (IsS72.ge HI0.out)) hb)))))); clear BK195 BK198 HI0 HK HB; obtain ⟨HO235, BK195, BK198, HI0, HK, HB⟩ := n_; clear hb ho81) | ((with_reducible refine gate_callee (f := 56) rfl ?_); refine goesL_ (some 74) rfl rfl Try.func56 oK rfl #[.pointer (some ⟨g, 0, none⟩), .int .i64 2] rfl oA ?_; (with_reducible refine (spec_l20Rd_pick.calls kj3 g s0_0 t220 2 t236 t237 w0 _ ?side1 ?side2 A75.out).mono ?_); (case side1 => exact oI72 HI0); (case side2 => exact oH HB (IsS72.ge HI0.out)); rintro e w82 ⟨rfl, hi, hb, hk⟩; refine ⟨_, rfl, ?_⟩; have n_ := o2_ (oJ hk BK195 NB195_0) (o2_ (oJ hk BK198 NB198_0) (o2_ (Kd.R_mono (Kd.R_keep (IsS72.apart (show IsS72 w0 _ g s0_0 t220 from oI72 HI0) (oR HO235) oD) hk (fun _ h => h.2)) (fun _ h => h.1)) (o2_ (KeepBut.trans (oE HK) hk (.inl rfl)) (o2_ (hb) (o1_ (hi)))))); clear BK195 BK198 HO235 HK HB HI0; obtain ⟨BK195, BK198, HO235, HK, HB, HI0⟩ := n_; (try clear hb); (try clear hb2); (try clear hk); (try clear hi); obtain ⟨Ao83, co83, eo83⟩ := Kd.R_slice HO235.out; subst eo83; have p238 : 0 ≤ (t236 : Int) := of_decide_eq_true oM; have q238 : t236 < (y233.length : Int) := of_decide_eq_true oM; obtain ⟨ad238, e238, hx238_0⟩ := Kd.at_int (Kd.R_reads' HO235.out).2.2 t236 p238 q238; cases e238; replace p238 := eq_true p238; replace q238 := eq_true q238; have hnb84 := NB198_195.out; have hnc84 := NB195_198.out; have hnb85 := NB198_0.out; have hnc85 := NB0_198.out; have hcz86_0 : w82.cell? ⟨gb198, 0, none⟩ = some (.int .i64 x199000_3) := (blk_cell BK198.out 0).trans rfl; have hcz86_1 : w82.cell? ⟨gb198, 1, none⟩ = some (.int .i64 x199001_3) := (blk_cell BK198.out 1).trans rfl; have hcz86_2 : w82.cell? ⟨gb198, 2, none⟩ = some (.int .i64 x199002_3) := (blk_cell BK198.out 2).trans rfl; have hcz86_3 : w82.cell? ⟨gb198, 3, none⟩ = some (.int .i64 x199003_3) := (blk_cell BK198.out 3).trans rfl; have hcz86_4 : w82.cell? ⟨gb198, 4, none⟩ = some (.int .i64 x199004_3) := (blk_cell BK198.out 4).trans rfl; have hfz86_0 := blk_frozen BK198.out 0; have hfz86_1 := blk_frozen BK198.out 1; have hfz86_2 := blk_frozen BK198.out 2; have hfz86_3 := blk_frozen BK198.out 3; have hfz86_4 := blk_frozen BK198.out 4; have hnb87 := NB195_0.out; have hnc87 := NB0_195.out; have hcz88_0 : w82.cell? ⟨gb195, 0, none⟩ = some (.int .i64 0) := (blk_cell BK195.out 0).trans rfl; have hcz88_1 : w82.cell? ⟨gb195, 1, none⟩ = some (.int .i64 0) := (blk_cell BK195.out 1).trans rfl; have hcz88_2 : w82.cell? ⟨gb195, 2, none⟩ = some (.int .i64 0) := (blk_cell BK195.out 2).trans rfl; have hcz88_3 : w82.cell? ⟨gb195, 3, none⟩ = some (.int .i64 0) := (blk_cell BK195.out 3).trans rfl; have hcz88_4 : w82.cell? ⟨gb195, 4, none⟩ = some (.int .i64 0) := (blk_cell BK195.out 4).trans rfl; have hfz88_0 := blk_frozen BK195.out 0; have hfz88_1 := blk_frozen BK195.out 1; have hfz88_2 := blk_frozen BK195.out 2; have hfz88_3 := blk_frozen BK195.out 3; have hfz88_4 := blk_frozen BK195.out 4))
         refine bodyPost_ret (results_cell_row rfl _ _ gb195 27 #[.int .i64 x199000_3, .int .i64 x199001_3, .int .i64 x199002_3, .int .i64 (rd y233 t236), .int .i64 x199004_3] (0, 0) _ rfl (by (with_reducible repeat (first | refine blk_drewN ?_ _ | refine blk_drew ?_ | refine blk_alloc ?_ _)); refine blk_put (cs := #[.int .i64 x199000_3, .int .i64 x199001_3, .int .i64 x199002_3, .int .i64 (rd y233 t236), .int .i64 0]) ?_ 4 _ rfl; (with_reducible repeat (first | refine blk_drewN ?_ _ | refine blk_drew ?_ | refine blk_alloc ?_ _)); refine blk_put (cs := #[.int .i64 x199000_3, .int .i64 x199001_3, .int .i64 x199002_3, .int .i64 0, .int .i64 0]) ?_ 3 _ rfl; (with_reducible repeat (first | refine blk_drewN ?_ _ | refine blk_drew ?_ | refine blk_alloc ?_ _)); refine blk_put (cs := #[.int .i64 x199000_3, .int .i64 x199001_3, .int .i64 0, .int .i64 0, .int .i64 0]) ?_ 2 _ rfl; (with_reducible repeat (first | refine blk_drewN ?_ _ | refine blk_drew ?_ | refine blk_alloc ?_ _)); refine blk_put (cs := #[.int .i64 x199000_3, .int .i64 0, .int .i64 0, .int .i64 0, .int .i64 0]) ?_ 1 _ rfl; (with_reducible repeat (first | refine blk_drewN ?_ _ | refine blk_drew ?_ | refine blk_alloc ?_ _)); refine blk_put (cs := #[.int .i64 0, .int .i64 0, .int .i64 0, .int .i64 0, .int .i64 0]) ?_ 0 _ rfl; (with_reducible repeat (first | refine blk_drewN ?_ _ | refine blk_drew ?_ | refine blk_alloc ?_ _)); refine blk_far ?_ NB195_198.out _; (with_reducible repeat (first | refine blk_drewN ?_ _ | refine blk_drew ?_ | refine blk_alloc ?_ _)); exact BK195.out) Try.underlying27 rfl oK) rfl ?_
         exact ⟨by first | rfl | (simp [errW_none, errW_some] <;> rfl) | (simp [*, errW_none, errW_some] <;> rfl), oI72 HI0, oH HB (IsS72.ge HI0.out), oE HK⟩
        ·rw [if_neg c77] at H
         exact absurd H (by simp)
       ·rw [if_neg c76] at H
        exact absurd H (by simp)
      ·rw [if_neg c74] at H
       have c74b0 : (t219 == 2) = false := beq_eq_false_iff_ne.mpr c74
       have c74b1 : (t219 != 2) = true := bne_iff_ne.mpr c74
       obtain ⟨y239, hy239⟩ : ∃ y_ : List Int, y_ = (([1, 7] : List Int)) := ⟨_, rfl⟩
       replace H : ((spec_l20Rd_pick.f kj3 s0_0 t220 2).bind fun bt242 => (if 0 ≤ bt242.1 then (if bt242.1 < (y239.length : Int) then (some (x199000_3, x199001_3, x199002_3, x199003_3, rd y239 bt242.1, bt242.2)) else (none)) else (none))) = some (r1, r2, r3, r4, r5, r6) := by first | (rw [hy239]; with_reducible exact H) | (have H2_ := (Option.bind_some _ _).symm.trans H; rw [hy239]; with_reducible exact H2_) | (have H2_ := (Option.bind_some _ _).symm.trans H; with_reducible exact H2_) | with_reducible exact H | (rw [hy239]; exact H) | exact H
       have Ny239 := Aside0.mk hy239
       clear hy239
       replace H := Option.bind_eq_some_iff.mp H
       obtain ⟨⟨t242, t243⟩, A890, H⟩ := H
       (try dsimp only at H)
       have A89 := Aside0.mk A890
       clear A890
       by_cases c90 : 0 ≤ t242
       ·rw [if_pos c90] at H
        have c90b0 : decide (0 ≤ t242) = true := decide_eq_true c90
        clear c90
        by_cases c91 : t242 < (y239.length : Int)
        ·rw [if_pos c91] at H
         have c91b0 : decide (t242 < (y239.length : Int)) = true := decide_eq_true c91
         clear c91
         simp only [Option.some.injEq, Prod.mk.injEq] at H
         obtain ⟨rfl, rfl, rfl, rfl, rfl, rfl⟩ := H
         go_wp2_with (first | ((with_reducible refine gate_callee (f := 67) rfl ?_); refine goesL_ (some 45) rfl rfl Try.func67 oK rfl #[.pointer (some ⟨g, 0, none⟩), .int .i64 a1] rfl oA ?_; (with_reducible refine (spec_l20Rd_odd.calls kj3 g s0_0 x1001_3 a1 true t218 w0 _ ?side1 ?side2 A41.out).mono ?_); (case side1 => exact oI72 HI0); (case side2 => exact oH HB (IsS72.ge HI0.out)); rintro e w92 ⟨rfl, hi, hb, hk⟩; refine ⟨_, rfl, ?_⟩; have n_ := o2_ (oJ hk BK195 NB195_0) (o2_ (oJ hk BK198 NB198_0) (o2_ (KeepBut.trans (oE HK) hk (.inl rfl)) (o2_ (hb) (o1_ (hi))))); clear BK195 BK198 HK HB HI0; obtain ⟨BK195, BK198, HK, HB, HI0⟩ := n_; (try clear hb); (try clear hb2); (try clear hk); (try clear hi)) | ((with_reducible refine gate_callee (f := 56) rfl ?_); refine goesL_ (some 47) rfl rfl Try.func56 oK rfl #[.pointer (some ⟨g, 0, none⟩), .int .i64 4] rfl oA ?_; (with_reducible refine (spec_l20Rd_pick.calls kj3 g s0_0 t218 4 t219 t220 w0 _ ?side1 ?side2 A43.out).mono ?_); (case side1 => exact oI72 HI0); (case side2 => exact oH HB (IsS72.ge HI0.out)); rintro e w93 ⟨rfl, hi, hb, hk⟩; refine ⟨_, rfl, ?_⟩; have n_ := o2_ (oJ hk BK195 NB195_0) (o2_ (oJ hk BK198 NB198_0) (o2_ (KeepBut.trans (oE HK) hk (.inl rfl)) (o2_ (hb) (o1_ (hi))))); clear BK195 BK198 HK HB HI0; obtain ⟨BK195, BK198, HK, HB, HI0⟩ := n_; (try clear hb); (try clear hb2); (try clear hk); (try clear hi)) | ((with_reducible refine gate_dst (N := 48) rfl ?_); refine Kd.R_lit (Kd.int .i64) _ 3 ?hg (N := 48) ?hd (xs := ([1, 7] : List Int)) (inner := [.int .i64 1, .int .i64 7]) (ok := fun _ => True) (okp := fun _ => True) ?hr ?hp (fun _ hk => hk) trivial (Below.refl _ _) (Nat.le_refl _) (by simp) ?_; (case hd => rfl); (case hg => rfl); (case hr => first | (go_simp; done) | (go_simp; rfl)); (case hp => exact (Reps.one (show Kd.M (Kd.int .i64) _ _ _ 1 [.int .i64 1] from rfl) (Reps.one (show Kd.M (Kd.int .i64) _ _ _ 7 [.int .i64 7] from rfl) (Reps.none _ _)))); intro v240 w94 ho95 hb hg_ hnew_; clear hg_ hnew_; (first | rw [← Ny239.out] at ho95 | (simp only [Int.reduceToNat] at ho95; rw [← Ny239.out] at ho95)); have n_ := o2_ (Kd.R_lower ho95 (keep_size (w := w) (g := g) (row := none) (oE HK))) (o2_ (blk_below (oP BK195) hb) (o2_ (blk_below (oP BK198) hb) (o2_ (IsS72.below (oI72 HI0) hb) (o2_ (KeepBut.trans (oE HK) (KeepBut.of_below hb g none) (.inl rfl)) (o1_ (below_step (oH HB (IsS72.ge HI0.out)) hb)))))); clear BK195 BK198 HI0 HK HB; obtain ⟨HO241, BK195, BK198, HI0, HK, HB⟩ := n_; clear hb ho95) | ((with_reducible refine gate_callee (f := 56) rfl ?_); refine goesL_ (some 50) rfl rfl Try.func56 oK rfl #[.pointer (some ⟨g, 0, none⟩), .int .i64 2] rfl oA ?_; (with_reducible refine (spec_l20Rd_pick.calls kj3 g s0_0 t220 2 t242 t243 w0 _ ?side1 ?side2 A89.out).mono ?_); (case side1 => exact oI72 HI0); (case side2 => exact oH HB (IsS72.ge HI0.out)); rintro e w96 ⟨rfl, hi, hb, hk⟩; refine ⟨_, rfl, ?_⟩; have n_ := o2_ (oJ hk BK195 NB195_0) (o2_ (oJ hk BK198 NB198_0) (o2_ (Kd.R_mono (Kd.R_keep (IsS72.apart (show IsS72 w0 _ g s0_0 t220 from oI72 HI0) (oR HO241) oD) hk (fun _ h => h.2)) (fun _ h => h.1)) (o2_ (KeepBut.trans (oE HK) hk (.inl rfl)) (o2_ (hb) (o1_ (hi)))))); clear BK195 BK198 HO241 HK HB HI0; obtain ⟨BK195, BK198, HO241, HK, HB, HI0⟩ := n_; (try clear hb); (try clear hb2); (try clear hk); (try clear hi); obtain ⟨Ao97, co97, eo97⟩ := Kd.R_slice HO241.out; subst eo97; have p244 : 0 ≤ (t242 : Int) := of_decide_eq_true oM; have q244 : t242 < (y239.length : Int) := of_decide_eq_true oM; obtain ⟨ad244, e244, hx244_0⟩ := Kd.at_int (Kd.R_reads' HO241.out).2.2 t242 p244 q244; cases e244; replace p244 := eq_true p244; replace q244 := eq_true q244; have hnb98 := NB198_195.out; have hnc98 := NB195_198.out; have hnb99 := NB198_0.out; have hnc99 := NB0_198.out; have hcz100_0 : w96.cell? ⟨gb198, 0, none⟩ = some (.int .i64 x199000_3) := (blk_cell BK198.out 0).trans rfl; have hcz100_1 : w96.cell? ⟨gb198, 1, none⟩ = some (.int .i64 x199001_3) := (blk_cell BK198.out 1).trans rfl; have hcz100_2 : w96.cell? ⟨gb198, 2, none⟩ = some (.int .i64 x199002_3) := (blk_cell BK198.out 2).trans rfl; have hcz100_3 : w96.cell? ⟨gb198, 3, none⟩ = some (.int .i64 x199003_3) := (blk_cell BK198.out 3).trans rfl; have hcz100_4 : w96.cell? ⟨gb198, 4, none⟩ = some (.int .i64 x199004_3) := (blk_cell BK198.out 4).trans rfl; have hfz100_0 := blk_frozen BK198.out 0; have hfz100_1 := blk_frozen BK198.out 1; have hfz100_2 := blk_frozen BK198.out 2; have hfz100_3 := blk_frozen BK198.out 3; have hfz100_4 := blk_frozen BK198.out 4; have hnb101 := NB195_0.out; have hnc101 := NB0_195.out; have hcz102_0 : w96.cell? ⟨gb195, 0, none⟩ = some (.int .i64 0) := (blk_cell BK195.out 0).trans rfl; have hcz102_1 : w96.cell? ⟨gb195, 1, none⟩ = some (.int .i64 0) := (blk_cell BK195.out 1).trans rfl; have hcz102_2 : w96.cell? ⟨gb195, 2, none⟩ = some (.int .i64 0) := (blk_cell BK195.out 2).trans rfl; have hcz102_3 : w96.cell? ⟨gb195, 3, none⟩ = some (.int .i64 0) := (blk_cell BK195.out 3).trans rfl; have hcz102_4 : w96.cell? ⟨gb195, 4, none⟩ = some (.int .i64 0) := (blk_cell BK195.out 4).trans rfl; have hfz102_0 := blk_frozen BK195.out 0; have hfz102_1 := blk_frozen BK195.out 1; have hfz102_2 := blk_frozen BK195.out 2; have hfz102_3 := blk_frozen BK195.out 3; have hfz102_4 := blk_frozen BK195.out 4))
         refine bodyPost_ret (results_cell_row rfl _ _ gb195 27 #[.int .i64 x199000_3, .int .i64 x199001_3, .int .i64 x199002_3, .int .i64 x199003_3, .int .i64 (rd y239 t242)] (0, 0) _ rfl (by (with_reducible repeat (first | refine blk_drewN ?_ _ | refine blk_drew ?_ | refine blk_alloc ?_ _)); refine blk_put (cs := #[.int .i64 x199000_3, .int .i64 x199001_3, .int .i64 x199002_3, .int .i64 x199003_3, .int .i64 0]) ?_ 4 _ rfl; (with_reducible repeat (first | refine blk_drewN ?_ _ | refine blk_drew ?_ | refine blk_alloc ?_ _)); refine blk_put (cs := #[.int .i64 x199000_3, .int .i64 x199001_3, .int .i64 x199002_3, .int .i64 0, .int .i64 0]) ?_ 3 _ rfl; (with_reducible repeat (first | refine blk_drewN ?_ _ | refine blk_drew ?_ | refine blk_alloc ?_ _)); refine blk_put (cs := #[.int .i64 x199000_3, .int .i64 x199001_3, .int .i64 0, .int .i64 0, .int .i64 0]) ?_ 2 _ rfl; (with_reducible repeat (first | refine blk_drewN ?_ _ | refine blk_drew ?_ | refine blk_alloc ?_ _)); refine blk_put (cs := #[.int .i64 x199000_3, .int .i64 0, .int .i64 0, .int .i64 0, .int .i64 0]) ?_ 1 _ rfl; (with_reducible repeat (first | refine blk_drewN ?_ _ | refine blk_drew ?_ | refine blk_alloc ?_ _)); refine blk_put (cs := #[.int .i64 0, .int .i64 0, .int .i64 0, .int .i64 0, .int .i64 0]) ?_ 0 _ rfl; (with_reducible repeat (first | refine blk_drewN ?_ _ | refine blk_drew ?_ | refine blk_alloc ?_ _)); refine blk_far ?_ NB195_198.out _; (with_reducible repeat (first | refine blk_drewN ?_ _ | refine blk_drew ?_ | refine blk_alloc ?_ _)); exact BK195.out) Try.underlying27 rfl oK) rfl ?_
         exact ⟨by first | rfl | (simp [errW_none, errW_some] <;> rfl) | (simp [*, errW_none, errW_some] <;> rfl), oI72 HI0, oH HB (IsS72.ge HI0.out), oE HK⟩
        ·rw [if_neg c91] at H
         exact absurd H (by simp)
       ·rw [if_neg c90] at H
        exact absurd H (by simp)
   ·replace c42 := Bool.eq_false_iff.mpr c42
    subst c42
    rw [if_neg (show ¬ (false = true) by decide)] at H
    simp only [Option.some.injEq, Prod.mk.injEq] at H
    obtain ⟨rfl, rfl, rfl, rfl, rfl, rfl⟩ := H
    go_wp2_with (first | ((with_reducible refine gate_callee (f := 67) rfl ?_); refine goesL_ (some 45) rfl rfl Try.func67 oK rfl #[.pointer (some ⟨g, 0, none⟩), .int .i64 a1] rfl oA ?_; (with_reducible refine (spec_l20Rd_odd.calls kj3 g s0_0 x1001_3 a1 false t218 w0 _ ?side1 ?side2 A41.out).mono ?_); (case side1 => exact oI72 HI0); (case side2 => exact oH HB (IsS72.ge HI0.out)); rintro e w103 ⟨rfl, hi, hb, hk⟩; refine ⟨_, rfl, ?_⟩; have n_ := o2_ (oJ hk BK195 NB195_0) (o2_ (oJ hk BK198 NB198_0) (o2_ (KeepBut.trans (oE HK) hk (.inl rfl)) (o2_ (hb) (o1_ (hi))))); clear BK195 BK198 HK HB HI0; obtain ⟨BK195, BK198, HK, HB, HI0⟩ := n_; (try clear hb); (try clear hb2); (try clear hk); (try clear hi); have hnb104 := NB198_195.out; have hnc104 := NB195_198.out; have hnb105 := NB198_0.out; have hnc105 := NB0_198.out; have hcz106_0 : w103.cell? ⟨gb198, 0, none⟩ = some (.int .i64 x199000_3) := (blk_cell BK198.out 0).trans rfl; have hcz106_1 : w103.cell? ⟨gb198, 1, none⟩ = some (.int .i64 x199001_3) := (blk_cell BK198.out 1).trans rfl; have hcz106_2 : w103.cell? ⟨gb198, 2, none⟩ = some (.int .i64 x199002_3) := (blk_cell BK198.out 2).trans rfl; have hcz106_3 : w103.cell? ⟨gb198, 3, none⟩ = some (.int .i64 x199003_3) := (blk_cell BK198.out 3).trans rfl; have hcz106_4 : w103.cell? ⟨gb198, 4, none⟩ = some (.int .i64 x199004_3) := (blk_cell BK198.out 4).trans rfl; have hfz106_0 := blk_frozen BK198.out 0; have hfz106_1 := blk_frozen BK198.out 1; have hfz106_2 := blk_frozen BK198.out 2; have hfz106_3 := blk_frozen BK198.out 3; have hfz106_4 := blk_frozen BK198.out 4; have hnb107 := NB195_0.out; have hnc107 := NB0_195.out; have hcz108_0 : w103.cell? ⟨gb195, 0, none⟩ = some (.int .i64 0) := (blk_cell BK195.out 0).trans rfl; have hcz108_1 : w103.cell? ⟨gb195, 1, none⟩ = some (.int .i64 0) := (blk_cell BK195.out 1).trans rfl; have hcz108_2 : w103.cell? ⟨gb195, 2, none⟩ = some (.int .i64 0) := (blk_cell BK195.out 2).trans rfl; have hcz108_3 : w103.cell? ⟨gb195, 3, none⟩ = some (.int .i64 0) := (blk_cell BK195.out 3).trans rfl; have hcz108_4 : w103.cell? ⟨gb195, 4, none⟩ = some (.int .i64 0) := (blk_cell BK195.out 4).trans rfl; have hfz108_0 := blk_frozen BK195.out 0; have hfz108_1 := blk_frozen BK195.out 1; have hfz108_2 := blk_frozen BK195.out 2; have hfz108_3 := blk_frozen BK195.out 3; have hfz108_4 := blk_frozen BK195.out 4))
    refine bodyPost_ret (results_cell_row rfl _ _ gb195 27 #[.int .i64 x199000_3, .int .i64 x199001_3, .int .i64 x199002_3, .int .i64 x199003_3, .int .i64 x199004_3] (0, 0) _ rfl (blk_put (blk_put (blk_put (blk_put (blk_put BK195.out 0 _ rfl) 1 _ rfl) 2 _ rfl) 3 _ rfl) 4 _ rfl) Try.underlying27 rfl oK) rfl ?_
    exact ⟨by first | rfl | (simp [errW_none, errW_some] <;> rfl) | (simp [*, errW_none, errW_some] <;> rfl), oI72 HI0, oH HB (IsS72.ge HI0.out), oE HK⟩

end Go.Proofs.Ythnmeogafklhnaa.X
