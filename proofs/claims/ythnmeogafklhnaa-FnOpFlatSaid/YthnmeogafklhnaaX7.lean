/- Functions of the given program as plain Lean functions, and for each the proof that the machine's call comes to what its function says. No condition but what each theorem states. Written by a program of this session. -/
import Derived.Test.YthnmeogafklhnaaX0
import Derived.Test.YthnmeogafklhnaaX3
import Derived.Test.YthnmeogafklhnaaX4
import Derived.Test.YthnmeogafklhnaaX5
import Derived.Test.YthnmeogafklhnaaX6
namespace Go.Proofs.Ythnmeogafklhnaa.X
open Go.RowKit Go.Proofs.YthnmeogafklhnaaW.PrintWords Go.Proofs.YthnmeogafklhnaaW.PrintLast Go.Proofs.YthnmeogafklhnaaW.PrintMore Go.Proofs.Ythnmeogafklhnaa.Hyb
attribute [local go_sem] max2_int min2_int max_two min_two max_three min_three max_four min_four   -- for this text's walks alone
set_option linter.unusedVariables false
set_option linter.unusedSimpArgs false

/-! ### spec_l20Ras: function 45 -/
def spec_l20Ras.l0 : Nat → Int → Int → List Int → Int → Int → Int → List (S38) → Int → Int → Int → Int → Option (Int × Int × (List (S38)) × Int)
 | 0, _, _, _, _, _, _, _, _, _, _, _ => none
 | k + 1, x1, x7, x1000, x1001, x148000, x148001, x148002, x154000, x154001, x154002, x154003 => if x7 < (wrap64 (x148000 * x148001)) then ((spec_l20Rd_pick.f k x1000 x1001 3).bind fun bt154 => (if bt154.1 > 0 then ((spec_l20Pix.f k x1000 bt154.2).bind fun bt156 => (if x148002.length < 4398046511104 then (spec_l20Ras.l0 k x1 (wrap64 (x7 + 1)) x1000 bt156.2.2.2.2 x148000 x148001 (x148002 ++ [(⟨bt156.1, bt156.2.1, bt156.2.2.1, bt156.2.2.2.1⟩ : S38)]) bt156.1 bt156.2.1 bt156.2.2.1 bt156.2.2.2.1) else (none))) else (if x148002.length < 4398046511104 then (spec_l20Ras.l0 k x1 (wrap64 (x7 + 1)) x1000 bt154.2 x148000 x148001 (x148002 ++ [(⟨x154000, x154001, x154002, x154003⟩ : S38)]) x154000 x154001 x154002 x154003) else (none)))) else ((spec_l20Rd_odd.f k x1000 x1001 x1).bind fun bt167 => (if bt167.1 = true then ((spec_l20Rd_pick.f k x1000 bt167.2 4).bind fun bt169 => (if bt169.1 = 0 then ((some (([0, (-1), 7, wrap64 (x148000 + 1)] : List Int) : List Int)).bind fun y171 => ((spec_l20Rd_pick.f k x1000 bt169.2 4).bind fun bt174 => (if 0 ≤ bt174.1 then (if bt174.1 < (y171.length : Int) then (some (rd y171 bt174.1, x148001, x148002, bt174.2)) else (none)) else (none)))) else (if bt169.1 = 1 then ((some (([0, 7] : List Int) : List Int)).bind fun y177 => ((spec_l20Rd_pick.f k x1000 bt169.2 2).bind fun bt180 => (if 0 ≤ bt180.1 then (if bt180.1 < (y177.length : Int) then (some (x148000, rd y177 bt180.1, x148002, bt180.2)) else (none)) else (none)))) else (if bt169.1 = 2 then (if 1 ≤ (x148002.length : Int) then (some (x148000, x148001, (x148002.drop (1 : Int).toNat), bt169.2)) else (none)) else ((spec_l20Rd_pick.f k x1000 bt169.2 (x148002.length : Int)).bind fun bt186 => ((some (([(-1), 256] : List Int) : List Int)).bind fun y188 => ((spec_l20Rd_pick.f k x1000 bt186.2 2).bind fun bt191 => (if 0 ≤ bt191.1 then (if bt191.1 < (y188.length : Int) then (if 0 ≤ bt186.1 then (if bt186.1 < (x148002.length : Int) then (some (x148000, x148001, (x148002.set (bt186.1 : Int).toNat (⟨(rd_T38 x148002 bt186.1).f0, rd y188 bt191.1, (rd_T38 x148002 bt186.1).f2, (rd_T38 x148002 bt186.1).f3⟩ : S38)), bt191.2)) else (none)) else (none)) else (none)) else (none))))))))) else (some (x148000, x148001, x148002, bt167.2))))
def spec_l20Ras.f (k : Nat) (s0_0 : List Int) (s0_1 : Int) (a1 : Int) : Option (Int × Int × (List (S38)) × Int) := (spec_l20Rd_pick.f k s0_0 s0_1 6).bind fun bt143 => ((spec_l20Rd_pick.f k s0_0 bt143.2 6).bind fun bt145 => ((spec_l20Pix.f k s0_0 bt145.2).bind fun bt148 => (spec_l20Ras.l0 k a1 0 s0_0 bt148.2.2.2.2 (wrap64 (1 + bt143.1)) (wrap64 (1 + bt145.1)) ([] : List (S38)) bt148.1 bt148.2.1 bt148.2.2.1 bt148.2.2.2.1)))
theorem spec_l20Ras.mono_l : ∀ k, (∀ y0 y1 y2 y3 y4 y5 y6 y7 y8 y9 y10, LeO (spec_l20Ras.l0 k y0 y1 y2 y3 y4 y5 y6 y7 y8 y9 y10) (spec_l20Ras.l0 (k + 1) y0 y1 y2 y3 y4 y5 y6 y7 y8 y9 y10))
 | 0 => (fun _ _ _ _ _ _ _ _ _ _ _ r h => nomatch (show none = some r from h))
 | k + 1 => by
  have ih0 := spec_l20Ras.mono_l k
  ·intro y0 y1 y2 y3 y4 y5 y6 y7 y8 y9 y10
   unfold spec_l20Ras.l0
   repeat' first
   | (with_reducible exact ih0 _ _ _ _ _ _ _ _ _ _ _)
   | (with_reducible exact spec_l20Pix.mono _ _ _)
   | (with_reducible exact spec_l20Rd_odd.mono _ _ _ _)
   | (with_reducible exact spec_l20Rd_pick.mono _ _ _ _)
   | (with_reducible exact LeO.refl _)
   | (with_reducible exact LeO.none _)
   | (with_reducible refine LeO.ite ?_ ?_)
   | (with_reducible refine LeO.bind ?_ (fun _ => ?_))
   | exact ih0 _ _ _ _ _ _ _ _ _ _ _
   | exact spec_l20Pix.mono _ _ _
   | exact spec_l20Rd_odd.mono _ _ _ _
   | exact spec_l20Rd_pick.mono _ _ _ _
   | exact LeO.none _
   | refine LeO.ite ?_ ?_
   | refine LeO.bind ?_ (fun _ => ?_)
theorem spec_l20Ras.mono : ∀ a0 a1 a2 k, LeO (spec_l20Ras.f k a0 a1 a2) (spec_l20Ras.f (k + 1) a0 a1 a2) := by
 intro a0 a1 a2 k
 have ih0 := spec_l20Ras.mono_l k
 unfold spec_l20Ras.f
 repeat' first
   | (with_reducible exact ih0 _ _ _ _ _ _ _ _ _ _ _)
   | (with_reducible exact spec_l20Pix.mono _ _ _)
   | (with_reducible exact spec_l20Rd_odd.mono _ _ _ _)
   | (with_reducible exact spec_l20Rd_pick.mono _ _ _ _)
   | (with_reducible exact LeO.refl _)
   | (with_reducible exact LeO.none _)
   | (with_reducible refine LeO.ite ?_ ?_)
   | (with_reducible refine LeO.bind ?_ (fun _ => ?_))
   | exact ih0 _ _ _ _ _ _ _ _ _ _ _
   | exact spec_l20Pix.mono _ _ _
   | exact spec_l20Rd_odd.mono _ _ _ _
   | exact spec_l20Rd_pick.mono _ _ _ _
   | exact LeO.none _
   | refine LeO.ite ?_ ?_
   | refine LeO.bind ?_ (fun _ => ?_)
def spec_l20Ras.T11 : Bool × List (List Nat × List Nat) := (true, [([], []), ([0], [0]), ([], []), ([], []), ([3], [3]), ([4], [4]), ([2, 5], [2, 5]), ([], []), ([], []), ([8, 6], [8]), ([7, 9], [7, 9]), ([10], [10]), ([1, 6, 0, 1, 2, 3, 4, 5, 6, 7, 8, 9, 10, 11], [1, 6]), ([12, 0, 1, 2, 3, 4, 5, 6, 7, 8, 9, 10, 11], [12]), ([13, 11, 9, 0, 1, 2, 3, 4, 5, 6, 7, 8, 9, 10, 11], [11, 13])])
def spec_l20Ras.B11 : List Nat := [0, 1, 0, 0, 8, 24, 60, 0, 0, 380, 1020, 2044, 4095, 8191, 16383]
theorem spec_l20Ras.tab11 : rtab .any (opsOf Try.f45 11) = spec_l20Ras.T11 := by kernel_rfl
theorem spec_l20Ras.bits11 : waitsOk spec_l20Ras.T11.2 spec_l20Ras.B11 = true := by kernel_rfl
def spec_l20Ras.T13 : Bool × List (List Nat × List Nat) := (true, [([], []), ([0], [0]), ([1], [1]), ([2], [2]), ([], []), ([4], [4]), ([3, 5], [3, 5]), ([6], [6]), ([0, 1, 2, 3, 4, 5, 6, 7], []), ([8, 7, 5, 0, 1, 2, 3, 4, 5, 6, 7], [7, 8])])
def spec_l20Ras.B13 : List Nat := [0, 1, 3, 7, 0, 16, 63, 127, 255, 511]
theorem spec_l20Ras.tab13 : rtab .any (opsOf Try.f45 13) = spec_l20Ras.T13 := by kernel_rfl
theorem spec_l20Ras.bits13 : waitsOk spec_l20Ras.T13.2 spec_l20Ras.B13 = true := by kernel_rfl
set_option maxHeartbeats 8000000 in
set_option maxRecDepth 100000 in
theorem spec_l20Ras.calls (k : Nat) (g : Nat) (s0_0 : List Int) (s0_1 : Int) (a1 : Int) (r1 : Int) (r2 : Int) (r3 : List (S38)) (r4 : Int) (w0 w : World) (hI : IsS72 w0 w g s0_0 s0_1) (hB : Below w0.heap.size w0 w) (h : spec_l20Ras.f k s0_0 s0_1 a1 = some (r1, r2, r3, r4)) :
  Calls Try.prog 45 #[.pointer (some ⟨g, 0, none⟩), .int .i64 a1] w fun e w' => ∃ v2_ : Value, e = .returned (.agg #[.int .i64 r1, .int .i64 r2, v2_]) ∧ Kd.Q k38 38 w' w.heap.size (fun _ => True) v2_ r3 ∧ IsS72 w0 w' g s0_0 r4 ∧ Below w0.heap.size w0 w' ∧ KeepBut w w' g none := by
 have hu25 := Try.underlying25
 have hu38 := Try.underlying38
 have HI0 := Aside0.mk hI
 have HK := Aside0.mk (KeepBut.refl w g none)
 have HL := Aside0.mk hB.size
 clear hI
 have HW0 := Aside0.mk hB.size
 have HB := Aside0.mk hB
 clear hB
 have H : ((spec_l20Rd_pick.f k s0_0 s0_1 6).bind fun bt143 => ((spec_l20Rd_pick.f k s0_0 bt143.2 6).bind fun bt145 => ((spec_l20Pix.f k s0_0 bt145.2).bind fun bt148 => (spec_l20Ras.l0 k a1 0 s0_0 bt148.2.2.2.2 (wrap64 (1 + bt143.1)) (wrap64 (1 + bt145.1)) ([] : List (S38)) bt148.1 bt148.2.1 bt148.2.2.1 bt148.2.2.2.1)))) = some (r1, r2, r3, r4) := h
 clear h
 replace H := Option.bind_eq_some_iff.mp H
 obtain ⟨⟨t143, t144⟩, A30, H⟩ := H
 (try dsimp only at H)
 have A3 := Aside0.mk A30
 clear A30
 replace H := Option.bind_eq_some_iff.mp H
 obtain ⟨⟨t145, t146⟩, A40, H⟩ := H
 (try dsimp only at H)
 have A4 := Aside0.mk A40
 clear A40
 replace H := Option.bind_eq_some_iff.mp H
 obtain ⟨⟨t148, t149, t150, t151, t152⟩, A50, H⟩ := H
 (try dsimp only at H)
 have A5 := Aside0.mk A50
 clear A50
 have H' := Aside0.mk H
 clear H
 go_enter Try.func45, Try.ntmps45
 go_wp2_with (first | ((with_reducible refine gate_dst (N := 4) rfl ?_); refine box_event ?hg (N := 4) ?hd (cs := #[.int .i64 0, .int .i64 0, .slice none 0 0]) (t := 25) ?hr ?_; (case hd => rfl); (case hg => rfl); (case hr => first | (go_simp; done) | (go_simp; rfl)); intro gb142 hg w6 hbox hb; have n_ := o2_ (IsS72.below (oI72 HI0) hb) (o2_ (KeepBut.trans (oE HK) (KeepBut.of_below hb g none) (.inl rfl)) (o2_ (below_step (oH HB (IsS72.ge HI0.out)) hb) (o2_ (hbox) (o2_ ((by rw [hg]; exact (keep_size (w := w) (g := g) (row := none) (oE HK)) : w.heap.size ≤ gb142)) (o2_ ((Nat.le_trans HW0.out (by rw [hg]; exact (keep_size (w := w) (g := g) (row := none) (oE HK)) : w.heap.size ≤ gb142) : w0.heap.size ≤ gb142)) (o2_ ((by rw [hg]; exact Nat.ne_of_lt (IsS72.lt (show IsS72 w0 _ g s0_0 s0_1 from oI72 HI0)) : g ≠ gb142)) (o1_ ((by rw [hg]; exact Nat.ne_of_gt (IsS72.lt (show IsS72 w0 _ g s0_0 s0_1 from oI72 HI0)) : gb142 ≠ g))))))))); clear HI0 HK HB; obtain ⟨HI0, HK, HB, BK142, GW142, GE142, NB0_142, NB142_0⟩ := n_; clear hb hbox hg) | ((with_reducible refine gate_callee (f := 56) rfl ?_); refine goesL_ (some 9) rfl rfl Try.func56 oK rfl #[.pointer (some ⟨g, 0, none⟩), .int .i64 6] rfl oA ?_; (with_reducible refine (spec_l20Rd_pick.calls k g s0_0 s0_1 6 t143 t144 w0 _ ?side1 ?side2 A3.out).mono ?_); (case side1 => exact oI72 HI0); (case side2 => exact oH HB (IsS72.ge HI0.out)); rintro e w7 ⟨rfl, hi, hb, hk⟩; refine ⟨_, rfl, ?_⟩; have n_ := o2_ (oJ hk BK142 NB142_0) (o2_ (KeepBut.trans (oE HK) hk (.inl rfl)) (o2_ (hb) (o1_ (hi)))); clear BK142 HK HB HI0; obtain ⟨BK142, HK, HB, HI0⟩ := n_; (try clear hb); (try clear hb2); (try clear hk); (try clear hi)) | ((with_reducible refine gate_callee (f := 56) rfl ?_); refine goesL_ (some 12) rfl rfl Try.func56 oK rfl #[.pointer (some ⟨g, 0, none⟩), .int .i64 6] rfl oA ?_; (with_reducible refine (spec_l20Rd_pick.calls k g s0_0 t144 6 t145 t146 w0 _ ?side1 ?side2 A4.out).mono ?_); (case side1 => exact oI72 HI0); (case side2 => exact oH HB (IsS72.ge HI0.out)); rintro e w8 ⟨rfl, hi, hb, hk⟩; refine ⟨_, rfl, ?_⟩; have n_ := o2_ (oJ hk BK142 NB142_0) (o2_ (KeepBut.trans (oE HK) hk (.inl rfl)) (o2_ (hb) (o1_ (hi)))); clear BK142 HK HB HI0; obtain ⟨BK142, HK, HB, HI0⟩ := n_; (try clear hb); (try clear hb2); (try clear hk); (try clear hi)) | ((with_reducible refine gate_dst (N := 5) rfl ?_); refine box_event ?hg (N := 5) ?hd (cs := #[.int .i64 0, .int .i64 0, .slice none 0 0]) (t := 25) ?hr ?_; (case hd => rfl); (case hg => rfl); (case hr => first | (go_simp; done) | (go_simp; rfl)); intro gb147 hg w9 hbox hb; have n_ := o2_ (IsS72.below (oI72 HI0) hb) (o2_ (blk_below (oP BK142) hb) (o2_ (KeepBut.trans (oE HK) (KeepBut.of_below hb g none) (.inl rfl)) (o2_ (below_step (oH HB (IsS72.ge HI0.out)) hb) (o2_ (hbox) (o2_ ((by rw [hg]; exact (keep_size (w := w) (g := g) (row := none) (oE HK)) : w.heap.size ≤ gb147)) (o2_ ((Nat.le_trans HW0.out (by rw [hg]; exact (keep_size (w := w) (g := g) (row := none) (oE HK)) : w.heap.size ≤ gb147) : w0.heap.size ≤ gb147)) (o2_ ((oL hg (blk_lt (oP BK142)))) (o2_ ((oN hg (blk_lt (oP BK142)))) (o2_ ((by rw [hg]; exact Nat.ne_of_lt (IsS72.lt (show IsS72 w0 _ g s0_0 t146 from oI72 HI0)) : g ≠ gb147)) (o1_ ((by rw [hg]; exact Nat.ne_of_gt (IsS72.lt (show IsS72 w0 _ g s0_0 t146 from oI72 HI0)) : gb147 ≠ g)))))))))))); clear HI0 BK142 HK HB; obtain ⟨HI0, BK142, HK, HB, BK147, GW147, GE147, NB142_147, NB147_142, NB0_147, NB147_0⟩ := n_; clear hb hbox hg; have hnb10 := NB147_142.out; have hnc10 := NB142_147.out; have hnb11 := NB147_0.out; have hnc11 := NB0_147.out; have hcz12_0 : w9.cell? ⟨gb147, 0, none⟩ = some (.int .i64 0) := (blk_cell BK147.out 0).trans rfl; have hcz12_1 : w9.cell? ⟨gb147, 1, none⟩ = some (.int .i64 0) := (blk_cell BK147.out 1).trans rfl; have hcz12_2 : w9.cell? ⟨gb147, 2, none⟩ = some (.slice none 0 0) := (blk_cell BK147.out 2).trans rfl; have hfz12_0 := blk_frozen BK147.out 0; have hfz12_1 := blk_frozen BK147.out 1; have hfz12_2 := blk_frozen BK147.out 2) | ((with_reducible refine gate_callee (f := 55) rfl ?_); refine goesL_ (some 16) rfl rfl Try.func55 oK rfl #[.pointer (some ⟨g, 0, none⟩)] rfl oA ?_; (with_reducible refine (spec_l20Pix.calls k g s0_0 t146 t148 t149 t150 t151 t152 w0 _ ?side1 ?side2 A5.out).mono ?_); (case side1 => exact oI72 HI0); (case side2 => exact oH HB (IsS72.ge HI0.out)); rintro e w13 ⟨rfl, hi, hb, hk⟩; refine ⟨_, rfl, ?_⟩; have n_ := o2_ (oJ hk BK142 NB142_0) (o2_ (KeepBut.blk hk (g' := gb147) (o := .cells #[.int .i64 (wrap64 (1 + t143)), .int .i64 (wrap64 (1 + t145)), .slice none 0 0] 25 (0, 0)) (blk_put (blk_put (blk_put BK147.out 0 _ rfl) 1 _ rfl) 2 _ rfl) NB147_0.out (by simp)) (o2_ (KeepBut.trans (oE HK) hk (.inl rfl)) (o2_ (hb) (o1_ (hi))))); clear BK142 BK147 HK HB HI0; obtain ⟨BK142, BK147, HK, HB, HI0⟩ := n_; (try clear hb); (try clear hb2); (try clear hk); (try clear hi)) | ((with_reducible refine gate_dst (N := 6) rfl ?_); refine box_event ?hg (N := 6) ?hd (cs := #[.int .i64 0, .int .i64 0, .int .i64 0, .int .i64 0]) (t := 38) ?hr ?_; (case hd => rfl); (case hg => rfl); (case hr => first | (go_simp; done) | (go_simp; rfl)); intro gb153 hg w14 hbox hb; have n_ := o2_ (IsS72.below (oI72 HI0) hb) (o2_ (blk_below (oP BK142) hb) (o2_ (blk_below (oP BK147) hb) (o2_ (KeepBut.trans (oE HK) (KeepBut.of_below hb g none) (.inl rfl)) (o2_ (below_step (oH HB (IsS72.ge HI0.out)) hb) (o2_ (hbox) (o2_ ((by rw [hg]; exact (keep_size (w := w) (g := g) (row := none) (oE HK)) : w.heap.size ≤ gb153)) (o2_ ((Nat.le_trans HW0.out (by rw [hg]; exact (keep_size (w := w) (g := g) (row := none) (oE HK)) : w.heap.size ≤ gb153) : w0.heap.size ≤ gb153)) (o2_ ((oL hg (blk_lt (oP BK142)))) (o2_ ((oN hg (blk_lt (oP BK142)))) (o2_ ((oL hg (blk_lt (oP BK147)))) (o2_ ((oN hg (blk_lt (oP BK147)))) (o2_ ((by rw [hg]; exact Nat.ne_of_lt (IsS72.lt (show IsS72 w0 _ g s0_0 t152 from oI72 HI0)) : g ≠ gb153)) (o1_ ((by rw [hg]; exact Nat.ne_of_gt (IsS72.lt (show IsS72 w0 _ g s0_0 t152 from oI72 HI0)) : gb153 ≠ g))))))))))))))); clear HI0 BK142 BK147 HK HB; obtain ⟨HI0, BK142, BK147, HK, HB, BK153, GW153, GE153, NB142_153, NB153_142, NB147_153, NB153_147, NB0_153, NB153_0⟩ := n_; clear hb hbox hg; have hnb15 := NB153_142.out; have hnc15 := NB142_153.out; have hnb16 := NB153_147.out; have hnc16 := NB147_153.out; have hnb17 := NB153_0.out; have hnc17 := NB0_153.out; have hcz18_0 : w14.cell? ⟨gb153, 0, none⟩ = some (.int .i64 0) := (blk_cell BK153.out 0).trans rfl; have hcz18_1 : w14.cell? ⟨gb153, 1, none⟩ = some (.int .i64 0) := (blk_cell BK153.out 1).trans rfl; have hcz18_2 : w14.cell? ⟨gb153, 2, none⟩ = some (.int .i64 0) := (blk_cell BK153.out 2).trans rfl; have hcz18_3 : w14.cell? ⟨gb153, 3, none⟩ = some (.int .i64 0) := (blk_cell BK153.out 3).trans rfl; have hfz18_0 := blk_frozen BK153.out 0; have hfz18_1 := blk_frozen BK153.out 1; have hfz18_2 := blk_frozen BK153.out 2; have hfz18_3 := blk_frozen BK153.out 3))
 go_loopg [7] k (fun kq v7 w' => ∃ (x7_1 : Int) (x1001_1 : Int) (x148002_1 : List (S38)) (x154000_1 : Int) (x154001_1 : Int) (x154002_1 : Int) (x154003_1 : Int) (u148002 : Value), v7 = .int .i64 x7_1 ∧ Aside0 (spec_l20Ras.l0 kq a1 x7_1 s0_0 x1001_1 (wrap64 (1 + t143)) (wrap64 (1 + t145)) x148002_1 x154000_1 x154001_1 x154002_1 x154003_1 = some (r1, r2, r3, r4)) ∧ Aside0 (kq ≤ k) ∧ Aside0 (Kd.Q k38 38 w' w.heap.size (fun k_ => k_ ≠ gb153) u148002 x148002_1) ∧ Aside0 (w'.heap[gb142]? = some (.cells #[.int .i64 0, .int .i64 0, (.slice none 0 0)] 25 (0, 0))) ∧ Aside0 (w'.heap[gb147]? = some (.cells #[.int .i64 (wrap64 (1 + t143)), .int .i64 (wrap64 (1 + t145)), u148002] 25 (0, 0))) ∧ Aside0 (w'.heap[gb153]? = some (.cells #[.int .i64 x154000_1, .int .i64 x154001_1, .int .i64 x154002_1, .int .i64 x154003_1] 38 (0, 0))) ∧ Aside0 (IsS72 w0 w' g s0_0 x1001_1) ∧ Aside0 (KeepBut w w' g none) ∧ Aside0 (Below w0.heap.size w0 w'))
 case atStart => exact ⟨(0), (t152), (([] : List (S38))), (t148), (t149), (t150), (t151), (.slice none 0 0), (by first | rfl | (simp; done) | (simp [*]; done)), H', ⟨Nat.le_refl _⟩, ⟨Kd.Q_of_R oZ⟩, ⟨(oP BK142)⟩, ⟨(oP BK147)⟩, ⟨(blk_put (blk_put (blk_put (blk_put BK153.out 0 _ rfl) 1 _ rfl) 2 _ rfl) 3 _ rfl)⟩, ⟨(oI72 HI0)⟩, ⟨(oE HK)⟩, ⟨(oH HB (IsS72.ge HI0.out))⟩⟩
 case round =>
  clear H'
  try clear c1
  try clear p2
  try clear c4
  try clear c5
  try clear p6
  try clear c10
  try clear c11
  try clear c15
  try clear c16
  try clear c17
  try clear hcz12_0
  try clear hcz12_1
  try clear hcz12_2
  try clear hcz18_0
  try clear hcz18_1
  try clear hcz18_2
  try clear hcz18_3
  try clear hfz12_0
  try clear hfz12_1
  try clear hfz12_2
  try clear hfz18_0
  try clear hfz18_1
  try clear hfz18_2
  try clear hfz18_3
  obtain ⟨x7_1, x1001_1, x148002_1, x154000_1, x154001_1, x154002_1, x154003_1, u148002, rfl, HA, HK1, HO_148002, BK142, BK147, BK153, HI0, HK, HB⟩ := hrel
  cases gk with
  | zero => exact nomatch (show none = some _ from HA.out)
  | succ k1 =>
   have H := HA.out
   clear HA
   simp only [spec_l20Ras.l0] at H
   by_cases c19 : x7_1 < (wrap64 ((wrap64 (1 + t143)) * (wrap64 (1 + t145))))
   ·rw [if_pos c19] at H
    have c19b0 : decide (x7_1 < (wrap64 ((wrap64 (1 + t143)) * (wrap64 (1 + t145))))) = true := decide_eq_true c19
    clear c19
    replace H := Option.bind_eq_some_iff.mp H
    obtain ⟨⟨t154, t155⟩, A200, H⟩ := H
    (try dsimp only at H)
    have A20 := Aside0.mk A200
    clear A200
    by_cases c21 : t154 > 0
    ·rw [if_pos c21] at H
     have c21b0 : decide (0 < t154) = true := decide_eq_true c21
     clear c21
     replace H := Option.bind_eq_some_iff.mp H
     obtain ⟨⟨t156, t157, t158, t159, t160⟩, A220, H⟩ := H
     (try dsimp only at H)
     have A22 := Aside0.mk A220
     clear A220
     by_cases c23 : x148002_1.length < 4398046511104
     ·rw [if_pos c23] at H
      have LMc23 := Aside0.mk c23
      clear c23
      obtain ⟨y161, hy161⟩ : ∃ y_ : List (S38), y_ = (x148002_1 ++ [(⟨t156, t157, t158, t159⟩ : S38)]) := ⟨_, rfl⟩
      replace H : (spec_l20Ras.l0 k1 a1 (wrap64 (x7_1 + 1)) s0_0 t160 (wrap64 (1 + t143)) (wrap64 (1 + t145)) y161 t156 t157 t158 t159) = some (r1, r2, r3, r4) := by first | (rw [hy161]; with_reducible exact H) | (have H2_ := (Option.bind_some _ _).symm.trans H; rw [hy161]; with_reducible exact H2_) | (have H2_ := (Option.bind_some _ _).symm.trans H; with_reducible exact H2_) | with_reducible exact H | (rw [hy161]; exact H) | exact H
      have Ny161 := Aside0.mk hy161
      clear hy161
      have H' := Aside0.mk H
      clear H
      have hnb24 := NB147_142.out
      have hnc24 := NB142_147.out
      have hnb25 := NB147_153.out
      have hnc25 := NB153_147.out
      have hnb26 := NB147_0.out
      have hnc26 := NB0_147.out
      have hcz27_0 : wr.cell? ⟨gb147, 0, none⟩ = some (.int .i64 (wrap64 (1 + t143))) := (blk_cell BK147.out 0).trans rfl
      have hcz27_1 : wr.cell? ⟨gb147, 1, none⟩ = some (.int .i64 (wrap64 (1 + t145))) := (blk_cell BK147.out 1).trans rfl
      have hcz27_2 : wr.cell? ⟨gb147, 2, none⟩ = some (u148002) := (blk_cell BK147.out 2).trans rfl
      have hfz27_0 := blk_frozen BK147.out 0
      have hfz27_1 := blk_frozen BK147.out 1
      have hfz27_2 := blk_frozen BK147.out 2
      go_wp2_with (first | ((with_reducible refine gate_callee (f := 56) rfl ?_); refine goesL_ (some 27) rfl rfl Try.func56 oK rfl #[.pointer (some ⟨g, 0, none⟩), .int .i64 3] rfl oA ?_; (with_reducible refine (spec_l20Rd_pick.calls k1 g s0_0 x1001_1 3 t154 t155 w0 _ ?side1 ?side2 A20.out).mono ?_); (case side1 => exact oI72 HI0); (case side2 => exact oH HB (IsS72.ge HI0.out)); rintro e w28 ⟨rfl, hi, hb, hk⟩; refine ⟨_, rfl, ?_⟩; have n_ := o2_ (Kd.Q_mono (Kd.Q_keep (IsS72.apartQ (show IsS72 w0 _ g s0_0 x1001_1 from oI72 HI0) (oQ HO_148002) oD) hk (fun _ h => h.2)) (fun _ h => h.1)) (o2_ (oJ hk BK142 NB142_0) (o2_ (oJ hk BK147 NB147_0) (o2_ (oJ hk BK153 NB153_0) (o2_ (KeepBut.trans (oE HK) hk (.inl rfl)) (o2_ (hb) (o1_ (hi))))))); clear HO_148002 BK142 BK147 BK153 HK HB HI0; obtain ⟨HO_148002, BK142, BK147, BK153, HK, HB, HI0⟩ := n_; (try clear hb); (try clear hb2); (try clear hk); (try clear hi)) | ((with_reducible refine gate_callee (f := 55) rfl ?_); refine goesL_ (some 30) rfl rfl Try.func55 oK rfl #[.pointer (some ⟨g, 0, none⟩)] rfl oA ?_; (with_reducible refine (spec_l20Pix.calls k1 g s0_0 t155 t156 t157 t158 t159 t160 w0 _ ?side1 ?side2 A22.out).mono ?_); (case side1 => exact oI72 HI0); (case side2 => exact oH HB (IsS72.ge HI0.out)); rintro e w29 ⟨rfl, hi, hb, hk⟩; refine ⟨_, rfl, ?_⟩; have n_ := o2_ (Kd.Q_mono (Kd.Q_keep (IsS72.apartQ (show IsS72 w0 _ g s0_0 t155 from oI72 HI0) (oQ HO_148002) oD) hk (fun _ h => h.2)) (fun _ h => h.1)) (o2_ (oJ hk BK142 NB142_0) (o2_ (oJ hk BK147 NB147_0) (o2_ (oJ hk BK153 NB153_0) (o2_ (KeepBut.trans (oE HK) hk (.inl rfl)) (o2_ (hb) (o1_ (hi))))))); clear HO_148002 BK142 BK147 BK153 HK HB HI0; obtain ⟨HO_148002, BK142, BK147, BK153, HK, HB, HI0⟩ := n_; (try clear hb); (try clear hb2); (try clear hk); (try clear hi); have hnb30 := NB153_142.out; have hnc30 := NB142_153.out; have hnb31 := NB153_0.out; have hnc31 := NB0_153.out; have hcz32_0 : w29.cell? ⟨gb153, 0, none⟩ = some (.int .i64 x154000_1) := (blk_cell BK153.out 0).trans rfl; have hcz32_1 : w29.cell? ⟨gb153, 1, none⟩ = some (.int .i64 x154001_1) := (blk_cell BK153.out 1).trans rfl; have hcz32_2 : w29.cell? ⟨gb153, 2, none⟩ = some (.int .i64 x154002_1) := (blk_cell BK153.out 2).trans rfl; have hcz32_3 : w29.cell? ⟨gb153, 3, none⟩ = some (.int .i64 x154003_1) := (blk_cell BK153.out 3).trans rfl; have hfz32_0 := blk_frozen BK153.out 0; have hfz32_1 := blk_frozen BK153.out 1; have hfz32_2 := blk_frozen BK153.out 2; have hfz32_3 := blk_frozen BK153.out 3; have hcz33_0 : w29.cell? ⟨gb147, 0, none⟩ = some (.int .i64 (wrap64 (1 + t143))) := (blk_cell BK147.out 0).trans rfl; have hcz33_1 : w29.cell? ⟨gb147, 1, none⟩ = some (.int .i64 (wrap64 (1 + t145))) := (blk_cell BK147.out 1).trans rfl; have hcz33_2 : w29.cell? ⟨gb147, 2, none⟩ = some (u148002) := (blk_cell BK147.out 2).trans rfl; have hfz33_0 := blk_frozen BK147.out 0; have hfz33_1 := blk_frozen BK147.out 1; have hfz33_2 := blk_frozen BK147.out 2) | ((with_reducible refine gate_builtin (b := .append) (xs := #[.tmp 32, .tmp 34]) rfl ?_); at_builtin; refine Kd.Q_append k38 w.heap.size rfl (.tmp 32) (.tmp 34) 23 38 (.agg #[(.int .i64 0), (.int .i64 0), (.int .i64 0), (.int .i64 0)]) 32 rfl Try.underlying23 info38 rfl oD (by omega) u148002 x148002_1 (⟨t156, t157, t158, t159⟩ : S38) [.int .i64 t156, .int .i64 t157, .int .i64 t158, .int .i64 t159] (fun k_ => k_ ≠ gb153) (fun _ => False) rfl (by first | (go_simp; done) | (go_simp; rfl)) ?aP (fun _ hk => hk.elim) ?aF ?aO (Below.refl _ _) ?aS ?aL ?_; (case aP => exact k38_mkM _ _ _ (⟨t156, t157, t158, t159⟩ : S38)); (case aF => exact (fun k_ hk => Kd.freshB (g := gb153) (o := .cells #[.int .i64 t156, .int .i64 t157, .int .i64 t158, .int .i64 t159] 38 (0, 0)) (blk_put (blk_put (blk_put (blk_put BK153.out 0 _ rfl) 1 _ rfl) 2 _ rfl) 3 _ rfl) k_ hk)); (case aO => exact (by (with_reducible repeat (first | apply Kd.Q_alloc | apply Kd.Q_drewN | apply Kd.Q_drew)); exact Kd.Q_mono (Kd.Q_far (p := ⟨gb153, 3, none⟩) (Kd.Q_far (p := ⟨gb153, 2, none⟩) (Kd.Q_far (p := ⟨gb153, 1, none⟩) (Kd.Q_far (p := ⟨gb153, 0, none⟩) (Kd.Q_mono HO_148002.out (fun k_ hk => (⟨hk, hk⟩ : _ ∧ k_ ≠ gb153))) (fun _ hk => hk.2) (.int .i64 t156)) (fun _ hk => hk.2) (.int .i64 t157)) (fun _ hk => hk.2) (.int .i64 t158)) (fun _ hk => hk.2) (.int .i64 t159)) (fun _ hk => hk.1))); (case aS => exact (keep_size (w := w) (g := g) (row := none) (oE HK))); (case aL => have := LMc23.out; omega); intro v162 w34 ho hb hg hat; rw [← Ny161.out] at ho; have n_ := o2_ (blk_grown (oP BK142) hg (Kd.Q_ne HO_148002.out BK142.out oD)) (o2_ (blk_grown (oP BK147) hg (Kd.Q_ne HO_148002.out BK147.out oD)) (o2_ (blk_grown (g := gb153) (o := .cells #[.int .i64 t156, .int .i64 t157, .int .i64 t158, .int .i64 t159] 38 (0, 0)) (blk_put (blk_put (blk_put (blk_put BK153.out 0 _ rfl) 1 _ rfl) 2 _ rfl) 3 _ rfl) hg (Kd.Q_away HO_148002.out (fun _ hk => hk))) (o2_ (IsS72.grownF HI0.out (oI72 HI0) hg (IsS72.own_neQ HI0.out HO_148002.out oD)) (o2_ (below_weaken (oH HB (IsS72.ge HI0.out)) HL.out hb) (o2_ (KeepBut.trans (oE HK) (KeepBut.of_grown hg g) (Kd.Q_base2 HO_148002.out)) (o1_ (ho))))))); clear BK142 BK147 BK153 HI0 HB HK HO_148002; obtain ⟨BK142, BK147, BK153, HI0, HB, HK, HO163⟩ := n_; clear ho hb hg hat; obtain ⟨Ao35, co35, eo35, _⟩ := Kd.Q_slice HO163.out; subst eo35; have hcz36_0 : w34.cell? ⟨gb147, 0, none⟩ = some (.int .i64 (wrap64 (1 + t143))) := (blk_cell BK147.out 0).trans rfl; have hcz36_1 : w34.cell? ⟨gb147, 1, none⟩ = some (.int .i64 (wrap64 (1 + t145))) := (blk_cell BK147.out 1).trans rfl; have hcz36_2 : w34.cell? ⟨gb147, 2, none⟩ = some (u148002) := (blk_cell BK147.out 2).trans rfl; have hfz36_0 := blk_frozen BK147.out 0; have hfz36_1 := blk_frozen BK147.out 1; have hfz36_2 := blk_frozen BK147.out 2))
      go_roundg k1
      case measure => have := HK1.out; omega
      case rel => exact ⟨(wrap64 (x7_1 + 1)), (t160), (y161), (t156), (t157), (t158), (t159), (.slice Ao35 y161.length co35), (by first | rfl | (simp; done) | (simp [*]; done)), H', ⟨(by have := HK1.out; omega)⟩, ⟨(by (with_reducible repeat (first | apply Kd.Q_alloc | apply Kd.Q_drewN | apply Kd.Q_drew)); exact Kd.Q_mono (Kd.Q_far (p := ⟨gb147, 2, none⟩) (Kd.Q_types HO163.out BK147.out oD) (fun _ hk => hk.2) (.slice Ao35 y161.length co35)) (fun _ hk => hk.1))⟩, ⟨(oP BK142)⟩, ⟨(blk_put BK147.out 2 _ rfl)⟩, ⟨(oP BK153)⟩, ⟨(oI72 HI0)⟩, ⟨(oE HK)⟩, ⟨(oH HB (IsS72.ge HI0.out))⟩⟩
     ·rw [if_neg c23] at H
      exact absurd H (by simp)
    ·rw [if_neg c21] at H
     have c21b0 : decide (0 < t154) = false := decide_eq_false c21
     clear c21
     by_cases c37 : x148002_1.length < 4398046511104
     ·rw [if_pos c37] at H
      have LMc37 := Aside0.mk c37
      clear c37
      obtain ⟨y164, hy164⟩ : ∃ y_ : List (S38), y_ = (x148002_1 ++ [(⟨x154000_1, x154001_1, x154002_1, x154003_1⟩ : S38)]) := ⟨_, rfl⟩
      replace H : (spec_l20Ras.l0 k1 a1 (wrap64 (x7_1 + 1)) s0_0 t155 (wrap64 (1 + t143)) (wrap64 (1 + t145)) y164 x154000_1 x154001_1 x154002_1 x154003_1) = some (r1, r2, r3, r4) := by first | (rw [hy164]; with_reducible exact H) | (have H2_ := (Option.bind_some _ _).symm.trans H; rw [hy164]; with_reducible exact H2_) | (have H2_ := (Option.bind_some _ _).symm.trans H; with_reducible exact H2_) | with_reducible exact H | (rw [hy164]; exact H) | exact H
      have Ny164 := Aside0.mk hy164
      clear hy164
      have H' := Aside0.mk H
      clear H
      have hnb38 := NB147_142.out
      have hnc38 := NB142_147.out
      have hnb39 := NB147_153.out
      have hnc39 := NB153_147.out
      have hnb40 := NB147_0.out
      have hnc40 := NB0_147.out
      have hcz41_0 : wr.cell? ⟨gb147, 0, none⟩ = some (.int .i64 (wrap64 (1 + t143))) := (blk_cell BK147.out 0).trans rfl
      have hcz41_1 : wr.cell? ⟨gb147, 1, none⟩ = some (.int .i64 (wrap64 (1 + t145))) := (blk_cell BK147.out 1).trans rfl
      have hcz41_2 : wr.cell? ⟨gb147, 2, none⟩ = some (u148002) := (blk_cell BK147.out 2).trans rfl
      have hfz41_0 := blk_frozen BK147.out 0
      have hfz41_1 := blk_frozen BK147.out 1
      have hfz41_2 := blk_frozen BK147.out 2
      go_wp2_with (first | ((with_reducible refine gate_callee (f := 56) rfl ?_); refine goesL_ (some 27) rfl rfl Try.func56 oK rfl #[.pointer (some ⟨g, 0, none⟩), .int .i64 3] rfl oA ?_; (with_reducible refine (spec_l20Rd_pick.calls k1 g s0_0 x1001_1 3 t154 t155 w0 _ ?side1 ?side2 A20.out).mono ?_); (case side1 => exact oI72 HI0); (case side2 => exact oH HB (IsS72.ge HI0.out)); rintro e w42 ⟨rfl, hi, hb, hk⟩; refine ⟨_, rfl, ?_⟩; have n_ := o2_ (Kd.Q_mono (Kd.Q_keep (IsS72.apartQ (show IsS72 w0 _ g s0_0 x1001_1 from oI72 HI0) (oQ HO_148002) oD) hk (fun _ h => h.2)) (fun _ h => h.1)) (o2_ (oJ hk BK142 NB142_0) (o2_ (oJ hk BK147 NB147_0) (o2_ (oJ hk BK153 NB153_0) (o2_ (KeepBut.trans (oE HK) hk (.inl rfl)) (o2_ (hb) (o1_ (hi))))))); clear HO_148002 BK142 BK147 BK153 HK HB HI0; obtain ⟨HO_148002, BK142, BK147, BK153, HK, HB, HI0⟩ := n_; (try clear hb); (try clear hb2); (try clear hk); (try clear hi); have hcz43_0 : w42.cell? ⟨gb147, 0, none⟩ = some (.int .i64 (wrap64 (1 + t143))) := (blk_cell BK147.out 0).trans rfl; have hcz43_1 : w42.cell? ⟨gb147, 1, none⟩ = some (.int .i64 (wrap64 (1 + t145))) := (blk_cell BK147.out 1).trans rfl; have hcz43_2 : w42.cell? ⟨gb147, 2, none⟩ = some (u148002) := (blk_cell BK147.out 2).trans rfl; have hfz43_0 := blk_frozen BK147.out 0; have hfz43_1 := blk_frozen BK147.out 1; have hfz43_2 := blk_frozen BK147.out 2; have hnb44 := NB153_142.out; have hnc44 := NB142_153.out; have hnb45 := NB153_0.out; have hnc45 := NB0_153.out; have hcz46_0 : w42.cell? ⟨gb153, 0, none⟩ = some (.int .i64 x154000_1) := (blk_cell BK153.out 0).trans rfl; have hcz46_1 : w42.cell? ⟨gb153, 1, none⟩ = some (.int .i64 x154001_1) := (blk_cell BK153.out 1).trans rfl; have hcz46_2 : w42.cell? ⟨gb153, 2, none⟩ = some (.int .i64 x154002_1) := (blk_cell BK153.out 2).trans rfl; have hcz46_3 : w42.cell? ⟨gb153, 3, none⟩ = some (.int .i64 x154003_1) := (blk_cell BK153.out 3).trans rfl; have hfz46_0 := blk_frozen BK153.out 0; have hfz46_1 := blk_frozen BK153.out 1; have hfz46_2 := blk_frozen BK153.out 2; have hfz46_3 := blk_frozen BK153.out 3) | ((with_reducible refine gate_builtin (b := .append) (xs := #[.tmp 32, .tmp 34]) rfl ?_); at_builtin; refine Kd.Q_append k38 w.heap.size rfl (.tmp 32) (.tmp 34) 23 38 (.agg #[(.int .i64 0), (.int .i64 0), (.int .i64 0), (.int .i64 0)]) 32 rfl Try.underlying23 info38 rfl oD (by omega) u148002 x148002_1 (⟨x154000_1, x154001_1, x154002_1, x154003_1⟩ : S38) [.int .i64 x154000_1, .int .i64 x154001_1, .int .i64 x154002_1, .int .i64 x154003_1] (fun k_ => k_ ≠ gb153) (fun _ => False) rfl rfl ?aP (fun _ hk => hk.elim) ?aF ?aO (Below.refl _ _) ?aS ?aL ?_; (case aP => exact k38_mkM _ _ _ (⟨x154000_1, x154001_1, x154002_1, x154003_1⟩ : S38)); (case aF => exact (fun k_ hk => Kd.freshB (oP BK153) k_ hk)); (case aO => exact (oQ HO_148002)); (case aS => exact (keep_size (w := w) (g := g) (row := none) (oE HK))); (case aL => have := LMc37.out; omega); intro v165 w47 ho hb hg hat; rw [← Ny164.out] at ho; have n_ := o2_ (blk_grown (oP BK142) hg (Kd.Q_ne HO_148002.out BK142.out oD)) (o2_ (blk_grown (oP BK147) hg (Kd.Q_ne HO_148002.out BK147.out oD)) (o2_ (blk_grown (oP BK153) hg (Kd.Q_away HO_148002.out (fun _ hk => hk))) (o2_ (IsS72.grownF HI0.out (oI72 HI0) hg (IsS72.own_neQ HI0.out HO_148002.out oD)) (o2_ (below_weaken (oH HB (IsS72.ge HI0.out)) HL.out hb) (o2_ (KeepBut.trans (oE HK) (KeepBut.of_grown hg g) (Kd.Q_base2 HO_148002.out)) (o1_ (ho))))))); clear BK142 BK147 BK153 HI0 HB HK HO_148002; obtain ⟨BK142, BK147, BK153, HI0, HB, HK, HO166⟩ := n_; clear ho hb hg hat; obtain ⟨Ao48, co48, eo48, _⟩ := Kd.Q_slice HO166.out; subst eo48; have hcz49_0 : w47.cell? ⟨gb147, 0, none⟩ = some (.int .i64 (wrap64 (1 + t143))) := (blk_cell BK147.out 0).trans rfl; have hcz49_1 : w47.cell? ⟨gb147, 1, none⟩ = some (.int .i64 (wrap64 (1 + t145))) := (blk_cell BK147.out 1).trans rfl; have hcz49_2 : w47.cell? ⟨gb147, 2, none⟩ = some (u148002) := (blk_cell BK147.out 2).trans rfl; have hfz49_0 := blk_frozen BK147.out 0; have hfz49_1 := blk_frozen BK147.out 1; have hfz49_2 := blk_frozen BK147.out 2))
      go_roundg k1
      case measure => have := HK1.out; omega
      case rel => exact ⟨(wrap64 (x7_1 + 1)), (t155), (y164), (x154000_1), (x154001_1), (x154002_1), (x154003_1), (.slice Ao48 y164.length co48), (by first | rfl | (simp; done) | (simp [*]; done)), H', ⟨(by have := HK1.out; omega)⟩, ⟨(by (with_reducible repeat (first | apply Kd.Q_alloc | apply Kd.Q_drewN | apply Kd.Q_drew)); exact Kd.Q_mono (Kd.Q_far (p := ⟨gb147, 2, none⟩) (Kd.Q_types HO166.out BK147.out oD) (fun _ hk => hk.2) (.slice Ao48 y164.length co48)) (fun _ hk => hk.1))⟩, ⟨(oP BK142)⟩, ⟨(blk_put BK147.out 2 _ rfl)⟩, ⟨(oP BK153)⟩, ⟨(oI72 HI0)⟩, ⟨(oE HK)⟩, ⟨(oH HB (IsS72.ge HI0.out))⟩⟩
     ·rw [if_neg c37] at H
      exact absurd H (by simp)
   ·rw [if_neg c19] at H
    have c19b0 : decide (x7_1 < (wrap64 ((wrap64 (1 + t143)) * (wrap64 (1 + t145))))) = false := decide_eq_false c19
    clear c19
    replace H := Option.bind_eq_some_iff.mp H
    obtain ⟨⟨t167, t168⟩, A500, H⟩ := H
    (try dsimp only at H)
    have A50 := Aside0.mk A500
    clear A500
    by_cases c51 : t167 = true
    ·subst c51
     rw [if_pos rfl] at H
     replace H := Option.bind_eq_some_iff.mp H
     obtain ⟨⟨t169, t170⟩, A520, H⟩ := H
     (try dsimp only at H)
     have A52 := Aside0.mk A520
     clear A520
     by_cases c53 : t169 = 0
     ·rw [if_pos c53] at H
      have c53b0 : (t169 == 0) = true := beq_iff_eq.mpr c53
      have c53b1 : (t169 != 0) = false := bne_eq_false_iff_eq.mpr c53
      clear c53
      obtain ⟨y171, hy171⟩ : ∃ y_ : List Int, y_ = (([0, (-1), 7, wrap64 ((wrap64 (1 + t143)) + 1)] : List Int)) := ⟨_, rfl⟩
      replace H : ((spec_l20Rd_pick.f k1 s0_0 t170 4).bind fun bt174 => (if 0 ≤ bt174.1 then (if bt174.1 < (y171.length : Int) then (some (rd y171 bt174.1, (wrap64 (1 + t145)), x148002_1, bt174.2)) else (none)) else (none))) = some (r1, r2, r3, r4) := by first | (rw [hy171]; with_reducible exact H) | (have H2_ := (Option.bind_some _ _).symm.trans H; rw [hy171]; with_reducible exact H2_) | (have H2_ := (Option.bind_some _ _).symm.trans H; with_reducible exact H2_) | with_reducible exact H | (rw [hy171]; exact H) | exact H
      have Ny171 := Aside0.mk hy171
      clear hy171
      replace H := Option.bind_eq_some_iff.mp H
      obtain ⟨⟨t174, t175⟩, A540, H⟩ := H
      (try dsimp only at H)
      have A54 := Aside0.mk A540
      clear A540
      by_cases c55 : 0 ≤ t174
      ·rw [if_pos c55] at H
       have c55b0 : decide (0 ≤ t174) = true := decide_eq_true c55
       clear c55
       by_cases c56 : t174 < (y171.length : Int)
       ·rw [if_pos c56] at H
        have c56b0 : decide (t174 < (y171.length : Int)) = true := decide_eq_true c56
        clear c56
        simp only [Option.some.injEq, Prod.mk.injEq] at H
        obtain ⟨rfl, rfl, rfl, rfl⟩ := H
        have hnb57 := NB147_142.out
        have hnc57 := NB142_147.out
        have hnb58 := NB147_153.out
        have hnc58 := NB153_147.out
        have hnb59 := NB147_0.out
        have hnc59 := NB0_147.out
        have hcz60_0 : wr.cell? ⟨gb147, 0, none⟩ = some (.int .i64 (wrap64 (1 + t143))) := (blk_cell BK147.out 0).trans rfl
        have hcz60_1 : wr.cell? ⟨gb147, 1, none⟩ = some (.int .i64 (wrap64 (1 + t145))) := (blk_cell BK147.out 1).trans rfl
        have hcz60_2 : wr.cell? ⟨gb147, 2, none⟩ = some (u148002) := (blk_cell BK147.out 2).trans rfl
        have hfz60_0 := blk_frozen BK147.out 0
        have hfz60_1 := blk_frozen BK147.out 1
        have hfz60_2 := blk_frozen BK147.out 2
        try go_wp2_with (first | ((with_reducible refine gate_callee (f := 67) rfl ?_); refine goesL_ (some 39) rfl rfl Try.func67 oK rfl #[.pointer (some ⟨g, 0, none⟩), .int .i64 a1] rfl oA ?_; (with_reducible refine (spec_l20Rd_odd.calls k1 g s0_0 x1001_1 a1 true t168 w0 _ ?side1 ?side2 A50.out).mono ?_); (case side1 => exact oI72 HI0); (case side2 => exact oH HB (IsS72.ge HI0.out)); rintro e w61 ⟨rfl, hi, hb, hk⟩; refine ⟨_, rfl, ?_⟩; have n_ := o2_ (Kd.Q_mono (Kd.Q_keep (IsS72.apartQ (show IsS72 w0 _ g s0_0 x1001_1 from oI72 HI0) (oQ HO_148002) oD) hk (fun _ h => h.2)) (fun _ h => h.1)) (o2_ (oJ hk BK142 NB142_0) (o2_ (oJ hk BK147 NB147_0) (o2_ (oJ hk BK153 NB153_0) (o2_ (KeepBut.trans (oE HK) hk (.inl rfl)) (o2_ (hb) (o1_ (hi))))))); clear HO_148002 BK142 BK147 BK153 HK HB HI0; obtain ⟨HO_148002, BK142, BK147, BK153, HK, HB, HI0⟩ := n_; (try clear hb); (try clear hb2); (try clear hk); (try clear hi)) | ((with_reducible refine gate_callee (f := 56) rfl ?_); refine goesL_ (some 41) rfl rfl Try.func56 oK rfl #[.pointer (some ⟨g, 0, none⟩), .int .i64 4] rfl oA ?_; (with_reducible refine (spec_l20Rd_pick.calls k1 g s0_0 t168 4 t169 t170 w0 _ ?side1 ?side2 A52.out).mono ?_); (case side1 => exact oI72 HI0); (case side2 => exact oH HB (IsS72.ge HI0.out)); rintro e w62 ⟨rfl, hi, hb, hk⟩; refine ⟨_, rfl, ?_⟩; have n_ := o2_ (Kd.Q_mono (Kd.Q_keep (IsS72.apartQ (show IsS72 w0 _ g s0_0 t168 from oI72 HI0) (oQ HO_148002) oD) hk (fun _ h => h.2)) (fun _ h => h.1)) (o2_ (oJ hk BK142 NB142_0) (o2_ (oJ hk BK147 NB147_0) (o2_ (oJ hk BK153 NB153_0) (o2_ (KeepBut.trans (oE HK) hk (.inl rfl)) (o2_ (hb) (o1_ (hi))))))); clear HO_148002 BK142 BK147 BK153 HK HB HI0; obtain ⟨HO_148002, BK142, BK147, BK153, HK, HB, HI0⟩ := n_; (try clear hb); (try clear hb2); (try clear hk); (try clear hi)))
        have pi176 : (0 ≤ (t174 : Int)) = True := eq_true (of_decide_eq_true oM)
        have qi176 : (t174 < (y171.length : Int)) = True := eq_true (of_decide_eq_true oM)
        have n_ := o2_ (Kd.Q_drew HO_148002.out) (o2_ (blk_drew BK142.out) (o2_ (blk_drew BK147.out) (o2_ (blk_drew BK153.out) (o2_ (IsS72.drew HI0.out) (o2_ (keep_drew HK.out) (o1_ (below_drew1 HB.out)))))))
        clear HO_148002 BK142 BK147 BK153 HI0 HK HB
        obtain ⟨HO_148002, BK142, BK147, BK153, HI0, HK, HB⟩ := n_
        refine start_ (n := 10) (S := fun w' => w'.cell? ⟨gb147, 0, none⟩ = some (.int .i64 (wrap64 (1 + t143))) ∧ w'.cell? ⟨gb147, 1, none⟩ = some (.int .i64 (wrap64 (1 + t145))) ∧ w'.cell? ⟨gb147, 2, none⟩ = some (u148002)) (ds := [9]) #[false, false, false, false, false, false, false, false, false, false] oK rfl rfl ⟨(blk_cell BK147.out 0).trans rfl, (blk_cell BK147.out 1).trans rfl, (blk_cell BK147.out 2).trans rfl⟩ (fun hHeld => ?_); refine with_tabW spec_l20Ras.tab13 spec_l20Ras.bits13 (fun HT_ HW_ => ?_)
        generalize w62.drew = w63 at HO_148002 BK142 BK147 BK153 HI0 HK HB hHeld ⊢
        refine pure_ (i := 0) (N := some 58) (v := ?_) (a' := ?_) #[true, false, false, false, false, false, false, false, false, false] rfl rfl (any_of HT_.out oK) (fun _ _ _ h => h) (Or.inl ⟨by rfl, ?_⟩) ?_ ?_
        rotate_left
        ·intro w'
         go_simp
         with_reducible rfl
        rotate_left
        ·simp only [Act.put, List.setIfInBounds_toArray, List.set_cons_zero, List.set_cons_succ, i64_w, i32_w]
         rfl
        refine pure_ (i := 4) (N := some 62) (v := ?_) (a' := ?_) #[true, false, false, false, true, false, false, false, false, false] rfl rfl (any_of HT_.out oK) (fun _ _ _ h => h) (Or.inl ⟨by rfl, ?_⟩) ?_ ?_
        rotate_left
        ·intro w'
         go_simp
         with_reducible rfl
        rotate_left
        ·simp only [Act.put, List.setIfInBounds_toArray, List.set_cons_zero, List.set_cons_succ, i64_w, i32_w]
         rfl
        refine take_ (i := 1) (N := some 59) (v := ?_) (a' := ?_) #[true, true, false, false, true, false, false, false, false, false] rfl rfl (take_ofW HT_.out HW_.out oK) (fun _ _ _ h => h) (Or.inl ⟨by rfl, ?_⟩) hHeld ?_ ?_
        rotate_left
        ·rintro w' ⟨s0, s1, s2⟩
         go_simp
         with_reducible rfl
        rotate_left
        ·simp only [Act.put, List.setIfInBounds_toArray, List.set_cons_zero, List.set_cons_succ, i64_w, i32_w]
         rfl
        refine pure_ (i := 2) (N := some 60) (v := ?_) (a' := ?_) #[true, true, true, false, true, false, false, false, false, false] rfl rfl (any_of HT_.out oK) (fun _ _ _ h => h) (Or.inl ⟨by rfl, ?_⟩) ?_ ?_
        rotate_left
        ·intro w'
         go_simp
         with_reducible rfl
        rotate_left
        ·simp only [Act.put, List.setIfInBounds_toArray, List.set_cons_zero, List.set_cons_succ, i64_w, i32_w]
         rfl
        refine join_ (σ := Value × Addr) 4 #[true, true, true, true, true, true, false, false, false, false] (fun s_ => [(61, s_.1), (63, .int .i64 t174)]) (fun s_ w' => (w'.cell? ⟨gb147, 0, none⟩ = some (.int .i64 (wrap64 (1 + t143))) ∧ w'.cell? ⟨gb147, 1, none⟩ = some (.int .i64 (wrap64 (1 + t145))) ∧ w'.cell? ⟨gb147, 2, none⟩ = some (u148002)) ∧ (Kd.R (Kd.int .i64) 3 w' w.heap.size (fun _ => True) s_.1 y171) ∧ (Kd.Q k38 38 w' w.heap.size (fun k_ => k_ ≠ gb153) u148002 x148002_1) ∧ (∃ c_, (s_.1 : Value) = .slice (some s_.2) y171.length c_) ∧ (w'.heap[gb142]? = some (.cells #[.int .i64 0, .int .i64 0, .slice none 0 0] 25 (0, 0))) ∧ (w'.heap[gb147]? = some (.cells #[.int .i64 (wrap64 (1 + t143)), .int .i64 (wrap64 (1 + t145)), u148002] 25 (0, 0))) ∧ (w'.heap[gb153]? = some (.cells #[.int .i64 x154000_1, .int .i64 x154001_1, .int .i64 x154002_1, .int .i64 x154003_1] 38 (0, 0))) ∧ (IsS72 w0 w' g s0_0 t175) ∧ (KeepBut w w' g none) ∧ (Below w0.heap.size w0 w')) ?_ ?_
        rotate_left
        ·intro hCont
         refine two_ (i := 3) (j := 5) (Ni := some 61) (Nj := some 63) #[true, true, true, true, true, false, false, false, false, false] #[true, true, true, false, true, true, false, false, false, false] rfl rfl rfl rfl (two_of HT_.out oK) oD oD (fun K hK => ?_) (fun K hK => ?_)
         ·skip
          refine Kd.R_lit_step (Kd.int .i64) _ 3 ?hg (N := 61) ?hd (xs := ([0, (-1), 7, wrap64 ((wrap64 (1 + t143)) + 1)] : List Int)) (inner := [.int .i64 0, .int .i64 (-1), .int .i64 7, .int .i64 (wrap64 ((wrap64 (1 + t143)) + 1))]) (ok := fun _ => True) (okp := fun _ => True) ?hr ?hp (fun _ hk => hk) trivial (Below.refl _ _) (Nat.le_refl _) (by simp) ?_; (case hd => rfl); (case hg => rfl); (case hr => first | (go_simp; done) | (go_simp; rfl)); (case hp => exact (Reps.one (show Kd.M (Kd.int .i64) _ _ _ 0 [.int .i64 0] from rfl) (Reps.one (show Kd.M (Kd.int .i64) _ _ _ (-1) [.int .i64 (-1)] from rfl) (Reps.one (show Kd.M (Kd.int .i64) _ _ _ 7 [.int .i64 7] from rfl) (Reps.one (show Kd.M (Kd.int .i64) _ _ _ (wrap64 ((wrap64 (1 + t143)) + 1)) [.int .i64 (wrap64 ((wrap64 (1 + t143)) + 1))] from rfl) (Reps.none _ _))))))
          intro v172 w64 ho65 hb hg_ hnew_
          clear hg_ hnew_
          (first | rw [← Ny171.out] at ho65 | (simp only [Int.reduceToNat] at ho65; rw [← Ny171.out] at ho65))
          have n_ := o2_ (Kd.Q_below (oQ HO_148002) hb) (o2_ (Kd.R_lower ho65 (keep_size (w := w) (g := g) (row := none) (oE HK))) (o2_ (blk_below (oP BK142) hb) (o2_ (blk_below (oP BK147) hb) (o2_ (blk_below (oP BK153) hb) (o2_ (IsS72.below (oI72 HI0) hb) (o2_ (KeepBut.trans (oE HK) (KeepBut.of_below hb g none) (.inl rfl)) (o1_ (below_step (oH HB (IsS72.ge HI0.out)) hb))))))))
          clear HO_148002 BK142 BK147 BK153 HI0 HK HB
          obtain ⟨HO_148002, HO173, BK142, BK147, BK153, HI0, HK, HB⟩ := n_
          clear hb ho65
          obtain ⟨Ao66, co66, eo66⟩ := Kd.R_slice HO173.out
          subst eo66
          obtain ⟨ado66, fo66, _⟩ := Kd.at_int (Kd.R_reads' HO173.out).2.2 0 oD (by rw [Ny171.out]; simp)
          cases fo66
          refine hK.out _ _ ⟨(blk_cell BK147.out 0).trans rfl, (blk_cell BK147.out 1).trans rfl, (blk_cell BK147.out 2).trans rfl⟩ (fun hHeld => ?_)
          clear hK K
          refine norm_ (a' := ?_) ?_ ?_
          rotate_left
          ·show Act.put _ (some 61) _ = _
           simp only [Act.put, List.setIfInBounds_toArray, List.set_cons_zero, List.set_cons_succ, i64_w, i32_w]
           rfl
          refine one_ (i := 5) (N := some 63) #[true, true, true, true, true, true, false, false, false, false] rfl rfl (one_of HT_.out oK) oD (fun K hK => ?_)
          refine goes_ Try.func56 oK rfl #[.pointer (some ⟨g, 0, none⟩), .int .i64 4] (by rfl) rfl rfl oA ?_
          with_reducible refine (spec_l20Rd_pick.calls k1 g s0_0 t170 4 t174 t175 w0 _ ?side1 ?side2 A54.out).mono ?_
          (case side1 => exact oI72 HI0)
          (case side2 => exact oH HB (IsS72.ge HI0.out))
          rintro e w67 ⟨rfl, hi, hb, hk⟩
          refine ⟨_, rfl, ?_⟩
          have n_ := o2_ (Kd.Q_mono (Kd.Q_keep (IsS72.apartQ (show IsS72 w0 _ g s0_0 t170 from oI72 HI0) (oQ HO_148002) oD) hk (fun _ h => h.2)) (fun _ h => h.1)) (o2_ (oJ hk BK142 NB142_0) (o2_ (oJ hk BK147 NB147_0) (o2_ (oJ hk BK153 NB153_0) (o2_ (Kd.R_mono (Kd.R_keep (IsS72.apart (show IsS72 w0 _ g s0_0 t170 from oI72 HI0) (oR HO173) oD) hk (fun _ h => h.2)) (fun _ h => h.1)) (o2_ (KeepBut.trans (oE HK) hk (.inl rfl)) (o2_ (hb) (o1_ (hi))))))))
          clear HO_148002 BK142 BK147 BK153 HO173 HK HB HI0
          obtain ⟨HO_148002, BK142, BK147, BK153, HO173, HK, HB, HI0⟩ := n_
          (try clear hb)
          (try clear hb2)
          (try clear hk)
          (try clear hi)
          refine hK.out _ _ ⟨(blk_cell BK147.out 0).trans rfl, (blk_cell BK147.out 1).trans rfl, (blk_cell BK147.out 2).trans rfl⟩ (fun hHeld => ?_)
          clear hK K
          refine norm_ (a' := ?_) ?_ ?_
          rotate_left
          ·show Act.put _ (some 63) _ = _
           simp only [Act.put, List.setIfInBounds_toArray, List.set_cons_zero, List.set_cons_succ, i64_w, i32_w]
           rfl
          exact norm_ (by simp only [putAll, Act.put, List.setIfInBounds_toArray, List.set_cons_zero, List.set_cons_succ]) (hCont (.slice (some ado66) y171.length co66, ado66) _ ⟨hHeld, (oR HO173), (oQ HO_148002), ⟨_, rfl⟩, (oP BK142), (oP BK147), (oP BK153), (oI72 HI0), (oE HK), (oH HB (IsS72.ge HI0.out))⟩)
         ·skip
          refine goes_ Try.func56 oK rfl #[.pointer (some ⟨g, 0, none⟩), .int .i64 4] (by rfl) rfl rfl oA ?_
          with_reducible refine (spec_l20Rd_pick.calls k1 g s0_0 t170 4 t174 t175 w0 _ ?side1 ?side2 A54.out).mono ?_
          (case side1 => exact oI72 HI0)
          (case side2 => exact oH HB (IsS72.ge HI0.out))
          rintro e w64 ⟨rfl, hi, hb, hk⟩
          refine ⟨_, rfl, ?_⟩
          have n_ := o2_ (Kd.Q_mono (Kd.Q_keep (IsS72.apartQ (show IsS72 w0 _ g s0_0 t170 from oI72 HI0) (oQ HO_148002) oD) hk (fun _ h => h.2)) (fun _ h => h.1)) (o2_ (oJ hk BK142 NB142_0) (o2_ (oJ hk BK147 NB147_0) (o2_ (oJ hk BK153 NB153_0) (o2_ (KeepBut.trans (oE HK) hk (.inl rfl)) (o2_ (hb) (o1_ (hi)))))))
          clear HO_148002 BK142 BK147 BK153 HK HB HI0
          obtain ⟨HO_148002, BK142, BK147, BK153, HK, HB, HI0⟩ := n_
          (try clear hb)
          (try clear hb2)
          (try clear hk)
          (try clear hi)
          refine hK.out _ _ ⟨(blk_cell BK147.out 0).trans rfl, (blk_cell BK147.out 1).trans rfl, (blk_cell BK147.out 2).trans rfl⟩ (fun hHeld => ?_)
          clear hK K
          refine norm_ (a' := ?_) ?_ ?_
          rotate_left
          ·show Act.put _ (some 63) _ = _
           simp only [Act.put, List.setIfInBounds_toArray, List.set_cons_zero, List.set_cons_succ, i64_w, i32_w]
           rfl
          refine one_ (i := 3) (N := some 61) #[true, true, true, true, true, true, false, false, false, false] rfl rfl (one_of HT_.out oK) oD (fun K hK => ?_)
          refine Kd.R_lit_step (Kd.int .i64) _ 3 ?hg (N := 61) ?hd (xs := ([0, (-1), 7, wrap64 ((wrap64 (1 + t143)) + 1)] : List Int)) (inner := [.int .i64 0, .int .i64 (-1), .int .i64 7, .int .i64 (wrap64 ((wrap64 (1 + t143)) + 1))]) (ok := fun _ => True) (okp := fun _ => True) ?hr ?hp (fun _ hk => hk) trivial (Below.refl _ _) (Nat.le_refl _) (by simp) ?_; (case hd => rfl); (case hg => rfl); (case hr => first | (go_simp; done) | (go_simp; rfl)); (case hp => exact (Reps.one (show Kd.M (Kd.int .i64) _ _ _ 0 [.int .i64 0] from rfl) (Reps.one (show Kd.M (Kd.int .i64) _ _ _ (-1) [.int .i64 (-1)] from rfl) (Reps.one (show Kd.M (Kd.int .i64) _ _ _ 7 [.int .i64 7] from rfl) (Reps.one (show Kd.M (Kd.int .i64) _ _ _ (wrap64 ((wrap64 (1 + t143)) + 1)) [.int .i64 (wrap64 ((wrap64 (1 + t143)) + 1))] from rfl) (Reps.none _ _))))))
          intro v172 w65 ho66 hb hg_ hnew_
          clear hg_ hnew_
          (first | rw [← Ny171.out] at ho66 | (simp only [Int.reduceToNat] at ho66; rw [← Ny171.out] at ho66))
          have n_ := o2_ (Kd.Q_below (oQ HO_148002) hb) (o2_ (Kd.R_lower ho66 (keep_size (w := w) (g := g) (row := none) (oE HK))) (o2_ (blk_below (oP BK142) hb) (o2_ (blk_below (oP BK147) hb) (o2_ (blk_below (oP BK153) hb) (o2_ (IsS72.below (oI72 HI0) hb) (o2_ (KeepBut.trans (oE HK) (KeepBut.of_below hb g none) (.inl rfl)) (o1_ (below_step (oH HB (IsS72.ge HI0.out)) hb))))))))
          clear HO_148002 BK142 BK147 BK153 HI0 HK HB
          obtain ⟨HO_148002, HO173, BK142, BK147, BK153, HI0, HK, HB⟩ := n_
          clear hb ho66
          obtain ⟨Ao67, co67, eo67⟩ := Kd.R_slice HO173.out
          subst eo67
          obtain ⟨ado67, fo67, _⟩ := Kd.at_int (Kd.R_reads' HO173.out).2.2 0 oD (by rw [Ny171.out]; simp)
          cases fo67
          refine hK.out _ _ ⟨(blk_cell BK147.out 0).trans rfl, (blk_cell BK147.out 1).trans rfl, (blk_cell BK147.out 2).trans rfl⟩ (fun hHeld => ?_)
          clear hK K
          refine norm_ (a' := ?_) ?_ ?_
          rotate_left
          ·show Act.put _ (some 61) _ = _
           simp only [Act.put, List.setIfInBounds_toArray, List.set_cons_zero, List.set_cons_succ, i64_w, i32_w]
           rfl
          exact norm_ (by simp only [putAll, Act.put, List.setIfInBounds_toArray, List.set_cons_zero, List.set_cons_succ]) (hCont (.slice (some ado67) y171.length co67, ado67) _ ⟨hHeld, (oR HO173), (oQ HO_148002), ⟨_, rfl⟩, (oP BK142), (oP BK147), (oP BK153), (oI72 HI0), (oE HK), (oH HB (IsS72.ge HI0.out))⟩)
        rintro ⟨v172, adz_v172⟩ w68 ⟨hS_, h0_, h1_, h2_, h3_, h4_, h5_, h6_, h7_, h8_⟩
        have n0_ : Aside0 (Kd.R (Kd.int .i64) 3 w68 w.heap.size (fun _ => True) v172 y171) := ⟨h0_⟩
        have n1_ : Aside0 (Kd.Q k38 38 w68 w.heap.size (fun k_ => k_ ≠ gb153) u148002 x148002_1) := ⟨h1_⟩
        have n2_ : Aside0 (∃ c_, (v172 : Value) = .slice (some adz_v172) y171.length c_) := ⟨h2_⟩
        have n3_ : Aside0 (w68.heap[gb142]? = some (.cells #[.int .i64 0, .int .i64 0, .slice none 0 0] 25 (0, 0))) := ⟨h3_⟩
        have n4_ : Aside0 (w68.heap[gb147]? = some (.cells #[.int .i64 (wrap64 (1 + t143)), .int .i64 (wrap64 (1 + t145)), u148002] 25 (0, 0))) := ⟨h4_⟩
        have n5_ : Aside0 (w68.heap[gb153]? = some (.cells #[.int .i64 x154000_1, .int .i64 x154001_1, .int .i64 x154002_1, .int .i64 x154003_1] 38 (0, 0))) := ⟨h5_⟩
        have n6_ : Aside0 (IsS72 w0 w68 g s0_0 t175) := ⟨h6_⟩
        have n7_ : Aside0 (KeepBut w w68 g none) := ⟨h7_⟩
        have n8_ : Aside0 (Below w0.heap.size w0 w68) := ⟨h8_⟩
        clear HO_148002
        clear BK142
        clear BK147
        clear BK153
        clear HI0
        clear HK
        clear HB
        clear h0_ h1_ h2_ h3_ h4_ h5_ h6_ h7_ h8_
        have HO173 := n0_
        have HO_148002 := n1_
        have HA_HO173 := n2_
        have BK142 := n3_
        have BK147 := n4_
        have BK153 := n5_
        have HI0 := n6_
        have HK := n7_
        have HB := n8_
        clear n0_ n1_ n2_ n3_ n4_ n5_ n6_ n7_ n8_
        have hHeld : w68.cell? ⟨gb147, 0, none⟩ = some (.int .i64 (wrap64 (1 + t143))) ∧ w68.cell? ⟨gb147, 1, none⟩ = some (.int .i64 (wrap64 (1 + t145))) ∧ w68.cell? ⟨gb147, 2, none⟩ = some (u148002) := hS_
        obtain ⟨co69, eo69⟩ := HA_HO173.out
        clear HA_HO173
        subst eo69
        refine norm_ (a' := ?_) ?_ ?_
        rotate_left
        ·simp only [putAll, Act.put, List.setIfInBounds_toArray, List.set_cons_zero, List.set_cons_succ]
         rfl
        refine pure_ (i := 6) (N := some 64) (v := ?_) (a' := ?_) #[true, true, true, true, true, true, true, false, false, false] rfl rfl (any_of HT_.out oK) (fun _ _ _ h => h) (Or.inl ⟨by rfl, ?_⟩) ?_ ?_
        rotate_left
        ·intro w'
         go_simp
         with_reducible rfl
        rotate_left
        ·simp only [Act.put, List.setIfInBounds_toArray, List.set_cons_zero, List.set_cons_succ, i64_w, i32_w]
         rfl
        refine one_ (i := 7) (N := some 65) #[true, true, true, true, true, true, true, true, false, false] rfl rfl (one_of HT_.out oK) oD (fun K hK => ?_)
        (have p176 : 0 ≤ (t174 : Int) := of_decide_eq_true oM; have q176 : t174 < (y171.length : Int) := of_decide_eq_true oM; obtain ⟨ad176, e176, hx176_0⟩ := Kd.at_int (Kd.R_reads' HO173.out).2.2 t174 p176 q176; obtain rfl : adz_v172 = ad176 := (by injection e176))
        refine value_ (w1 := ?_) (v := ?_) (by rfl) rfl ?_ ?_
        rotate_left 2
        ·go_simp
         constructor
         ·rfl
         ·rfl
        clear hx176_0
        refine hK.out _ _ ⟨(blk_cell BK147.out 0).trans rfl, (blk_cell BK147.out 1).trans rfl, (blk_cell BK147.out 2).trans rfl⟩ (fun hHeld => ?_)
        clear hK K
        refine norm_ (a' := ?_) ?_ ?_
        rotate_left
        ·show Act.put _ (some 65) _ = _
         simp only [Act.put, List.setIfInBounds_toArray, List.set_cons_zero, List.set_cons_succ, i64_w, i32_w]
         rfl
        refine pure_ (i := 8) (N := some 66) (v := ?_) (a' := ?_) #[true, true, true, true, true, true, true, true, true, false] rfl rfl (any_of HT_.out oK) (fun _ _ _ h => h) (Or.inl ⟨by rfl, ?_⟩) ?_ ?_
        rotate_left
        ·intro w'
         go_simp
         with_reducible rfl
        rotate_left
        ·simp only [Act.put, List.setIfInBounds_toArray, List.set_cons_zero, List.set_cons_succ, i64_w, i32_w]
         rfl
        refine last_ (i := 9) (N := none) #[true, true, true, true, true, true, true, true, true, true] rfl rfl (one_of HT_.out oK) oD (fun K hK => ?_)
        have hs70 : w68.cell? ⟨gb147, 0, none⟩ = some (.int .i64 (wrap64 (1 + t143))) := (blk_cell BK147.out 0).trans rfl
        have hfs70 := blk_frozen BK147.out 0
        have hns70_0 := NB142_147.out
        have hns70_2 := NB153_147.out
        have hms70_0 := NB147_142.out
        have hms70_2 := NB147_153.out
        refine skip_ (w1 := ?_) (by rfl) rfl ?_ ?_
        rotate_left
        ·go_simp
         rfl
        refine hK.out _ _ ?_
        clear hK K
        refine done_ (done_of HT_.out oK) ?_
        have hcz71_0 : w68.cell? ⟨gb147, 0, none⟩ = some (.int .i64 (wrap64 (1 + t143))) := (blk_cell BK147.out 0).trans rfl
        have hcz71_1 : w68.cell? ⟨gb147, 1, none⟩ = some (.int .i64 (wrap64 (1 + t145))) := (blk_cell BK147.out 1).trans rfl
        have hcz71_2 : w68.cell? ⟨gb147, 2, none⟩ = some (u148002) := (blk_cell BK147.out 2).trans rfl
        have hfz71_0 := blk_frozen BK147.out 0
        have hfz71_1 := blk_frozen BK147.out 1
        have hfz71_2 := blk_frozen BK147.out 2
        have hnb72 := NB142_153.out
        have hnc72 := NB153_142.out
        have hnb73 := NB142_0.out
        have hnc73 := NB0_142.out
        have hcz74_0 : w68.cell? ⟨gb142, 0, none⟩ = some (.int .i64 0) := (blk_cell BK142.out 0).trans rfl
        have hcz74_1 : w68.cell? ⟨gb142, 1, none⟩ = some (.int .i64 0) := (blk_cell BK142.out 1).trans rfl
        have hcz74_2 : w68.cell? ⟨gb142, 2, none⟩ = some (.slice none 0 0) := (blk_cell BK142.out 2).trans rfl
        have hfz74_0 := blk_frozen BK142.out 0
        have hfz74_1 := blk_frozen BK142.out 1
        have hfz74_2 := blk_frozen BK142.out 2
        obtain ⟨Ao75, co75, eo75, _⟩ := Kd.Q_slice HO_148002.out
        subst eo75
        try go_wp2
        refine bodyPost_ret (results_cell_row rfl _ _ gb142 25 #[.int .i64 (rd y171 t174), .int .i64 (wrap64 (1 + t145)), .slice Ao75 x148002_1.length co75] (0, 0) _ rfl (by (with_reducible repeat (first | refine blk_drewN ?_ _ | refine blk_drew ?_ | refine blk_alloc ?_ _)); refine blk_put (cs := #[.int .i64 (rd y171 t174), .int .i64 (wrap64 (1 + t145)), .slice none 0 0]) ?_ 2 _ rfl; (with_reducible repeat (first | refine blk_drewN ?_ _ | refine blk_drew ?_ | refine blk_alloc ?_ _)); refine blk_put (cs := #[.int .i64 (rd y171 t174), .int .i64 0, .slice none 0 0]) ?_ 1 _ rfl; (with_reducible repeat (first | refine blk_drewN ?_ _ | refine blk_drew ?_ | refine blk_alloc ?_ _)); refine blk_put (cs := #[.int .i64 0, .int .i64 0, .slice none 0 0]) ?_ 0 _ rfl; (with_reducible repeat (first | refine blk_drewN ?_ _ | refine blk_drew ?_ | refine blk_alloc ?_ _)); refine blk_far ?_ NB142_147.out _; (with_reducible repeat (first | refine blk_drewN ?_ _ | refine blk_drew ?_ | refine blk_alloc ?_ _)); exact BK142.out) Try.underlying25 rfl oK) rfl ?_
        exact ⟨_, by first | rfl | (simp [errW_none, errW_some] <;> rfl) | (simp [*, errW_none, errW_some] <;> rfl), by (with_reducible repeat (first | apply Kd.Q_alloc | apply Kd.Q_drewN | apply Kd.Q_drew)); exact Kd.Q_mono (Kd.Q_far (p := ⟨gb142, 2, none⟩) (Kd.Q_far (p := ⟨gb142, 1, none⟩) (Kd.Q_far (p := ⟨gb142, 0, none⟩) (Kd.Q_far (p := ⟨gb147, 0, none⟩) (Kd.Q_types (Kd.Q_types HO_148002.out BK147.out oD) BK142.out oD) (fun _ hk => hk.1.2) (.int .i64 (rd y171 t174))) (fun _ hk => hk.2) (.int .i64 (rd y171 t174))) (fun _ hk => hk.2) (.int .i64 (wrap64 (1 + t145)))) (fun _ hk => hk.2) (.slice Ao75 x148002_1.length co75)) (fun _ hk => trivial), oI72 HI0, oH HB (IsS72.ge HI0.out), oE HK⟩
       ·rw [if_neg c56] at H
        exact absurd H (by simp)
      ·rw [if_neg c55] at H
       exact absurd H (by simp)
     ·rw [if_neg c53] at H
      have c53b0 : (t169 == 0) = false := beq_eq_false_iff_ne.mpr c53
      have c53b1 : (t169 != 0) = true := bne_iff_ne.mpr c53
      by_cases c76 : t169 = 1
      ·rw [if_pos c76] at H
       have c76b0 : (t169 == 1) = true := beq_iff_eq.mpr c76
       have c76b1 : (t169 != 1) = false := bne_eq_false_iff_eq.mpr c76
       clear c76
       obtain ⟨y177, hy177⟩ : ∃ y_ : List Int, y_ = (([0, 7] : List Int)) := ⟨_, rfl⟩
       replace H : ((spec_l20Rd_pick.f k1 s0_0 t170 2).bind fun bt180 => (if 0 ≤ bt180.1 then (if bt180.1 < (y177.length : Int) then (some ((wrap64 (1 + t143)), rd y177 bt180.1, x148002_1, bt180.2)) else (none)) else (none))) = some (r1, r2, r3, r4) := by first | (rw [hy177]; with_reducible exact H) | (have H2_ := (Option.bind_some _ _).symm.trans H; rw [hy177]; with_reducible exact H2_) | (have H2_ := (Option.bind_some _ _).symm.trans H; with_reducible exact H2_) | with_reducible exact H | (rw [hy177]; exact H) | exact H
       have Ny177 := Aside0.mk hy177
       clear hy177
       replace H := Option.bind_eq_some_iff.mp H
       obtain ⟨⟨t180, t181⟩, A770, H⟩ := H
       (try dsimp only at H)
       have A77 := Aside0.mk A770
       clear A770
       by_cases c78 : 0 ≤ t180
       ·rw [if_pos c78] at H
        have c78b0 : decide (0 ≤ t180) = true := decide_eq_true c78
        clear c78
        by_cases c79 : t180 < (y177.length : Int)
        ·rw [if_pos c79] at H
         have c79b0 : decide (t180 < (y177.length : Int)) = true := decide_eq_true c79
         clear c79
         simp only [Option.some.injEq, Prod.mk.injEq] at H
         obtain ⟨rfl, rfl, rfl, rfl⟩ := H
         have hnb80 := NB147_142.out
         have hnc80 := NB142_147.out
         have hnb81 := NB147_153.out
         have hnc81 := NB153_147.out
         have hnb82 := NB147_0.out
         have hnc82 := NB0_147.out
         have hcz83_0 : wr.cell? ⟨gb147, 0, none⟩ = some (.int .i64 (wrap64 (1 + t143))) := (blk_cell BK147.out 0).trans rfl
         have hcz83_1 : wr.cell? ⟨gb147, 1, none⟩ = some (.int .i64 (wrap64 (1 + t145))) := (blk_cell BK147.out 1).trans rfl
         have hcz83_2 : wr.cell? ⟨gb147, 2, none⟩ = some (u148002) := (blk_cell BK147.out 2).trans rfl
         have hfz83_0 := blk_frozen BK147.out 0
         have hfz83_1 := blk_frozen BK147.out 1
         have hfz83_2 := blk_frozen BK147.out 2
         go_wp2_with (first | ((with_reducible refine gate_callee (f := 67) rfl ?_); refine goesL_ (some 39) rfl rfl Try.func67 oK rfl #[.pointer (some ⟨g, 0, none⟩), .int .i64 a1] rfl oA ?_; (with_reducible refine (spec_l20Rd_odd.calls k1 g s0_0 x1001_1 a1 true t168 w0 _ ?side1 ?side2 A50.out).mono ?_); (case side1 => exact oI72 HI0); (case side2 => exact oH HB (IsS72.ge HI0.out)); rintro e w84 ⟨rfl, hi, hb, hk⟩; refine ⟨_, rfl, ?_⟩; have n_ := o2_ (Kd.Q_mono (Kd.Q_keep (IsS72.apartQ (show IsS72 w0 _ g s0_0 x1001_1 from oI72 HI0) (oQ HO_148002) oD) hk (fun _ h => h.2)) (fun _ h => h.1)) (o2_ (oJ hk BK142 NB142_0) (o2_ (oJ hk BK147 NB147_0) (o2_ (oJ hk BK153 NB153_0) (o2_ (KeepBut.trans (oE HK) hk (.inl rfl)) (o2_ (hb) (o1_ (hi))))))); clear HO_148002 BK142 BK147 BK153 HK HB HI0; obtain ⟨HO_148002, BK142, BK147, BK153, HK, HB, HI0⟩ := n_; (try clear hb); (try clear hb2); (try clear hk); (try clear hi)) | ((with_reducible refine gate_callee (f := 56) rfl ?_); refine goesL_ (some 41) rfl rfl Try.func56 oK rfl #[.pointer (some ⟨g, 0, none⟩), .int .i64 4] rfl oA ?_; (with_reducible refine (spec_l20Rd_pick.calls k1 g s0_0 t168 4 t169 t170 w0 _ ?side1 ?side2 A52.out).mono ?_); (case side1 => exact oI72 HI0); (case side2 => exact oH HB (IsS72.ge HI0.out)); rintro e w85 ⟨rfl, hi, hb, hk⟩; refine ⟨_, rfl, ?_⟩; have n_ := o2_ (Kd.Q_mono (Kd.Q_keep (IsS72.apartQ (show IsS72 w0 _ g s0_0 t168 from oI72 HI0) (oQ HO_148002) oD) hk (fun _ h => h.2)) (fun _ h => h.1)) (o2_ (oJ hk BK142 NB142_0) (o2_ (oJ hk BK147 NB147_0) (o2_ (oJ hk BK153 NB153_0) (o2_ (KeepBut.trans (oE HK) hk (.inl rfl)) (o2_ (hb) (o1_ (hi))))))); clear HO_148002 BK142 BK147 BK153 HK HB HI0; obtain ⟨HO_148002, BK142, BK147, BK153, HK, HB, HI0⟩ := n_; (try clear hb); (try clear hb2); (try clear hk); (try clear hi)) | ((with_reducible refine gate_dst (N := 69) rfl ?_); refine Kd.R_lit (Kd.int .i64) _ 3 ?hg (N := 69) ?hd (xs := ([0, 7] : List Int)) (inner := [.int .i64 0, .int .i64 7]) (ok := fun _ => True) (okp := fun _ => True) ?hr ?hp (fun _ hk => hk) trivial (Below.refl _ _) (Nat.le_refl _) (by simp) ?_; (case hd => rfl); (case hg => rfl); (case hr => first | (go_simp; done) | (go_simp; rfl)); (case hp => exact (Reps.one (show Kd.M (Kd.int .i64) _ _ _ 0 [.int .i64 0] from rfl) (Reps.one (show Kd.M (Kd.int .i64) _ _ _ 7 [.int .i64 7] from rfl) (Reps.none _ _)))); intro v178 w86 ho87 hb hg_ hnew_; clear hg_ hnew_; (first | rw [← Ny177.out] at ho87 | (simp only [Int.reduceToNat] at ho87; rw [← Ny177.out] at ho87)); have n_ := o2_ (Kd.Q_below (oQ HO_148002) hb) (o2_ (Kd.R_lower ho87 (keep_size (w := w) (g := g) (row := none) (oE HK))) (o2_ (blk_below (oP BK142) hb) (o2_ (blk_below (oP BK147) hb) (o2_ (blk_below (oP BK153) hb) (o2_ (IsS72.below (oI72 HI0) hb) (o2_ (KeepBut.trans (oE HK) (KeepBut.of_below hb g none) (.inl rfl)) (o1_ (below_step (oH HB (IsS72.ge HI0.out)) hb)))))))); clear HO_148002 BK142 BK147 BK153 HI0 HK HB; obtain ⟨HO_148002, HO179, BK142, BK147, BK153, HI0, HK, HB⟩ := n_; clear hb ho87) | ((with_reducible refine gate_callee (f := 56) rfl ?_); refine goesL_ (some 71) rfl rfl Try.func56 oK rfl #[.pointer (some ⟨g, 0, none⟩), .int .i64 2] rfl oA ?_; (with_reducible refine (spec_l20Rd_pick.calls k1 g s0_0 t170 2 t180 t181 w0 _ ?side1 ?side2 A77.out).mono ?_); (case side1 => exact oI72 HI0); (case side2 => exact oH HB (IsS72.ge HI0.out)); rintro e w88 ⟨rfl, hi, hb, hk⟩; refine ⟨_, rfl, ?_⟩; have n_ := o2_ (Kd.Q_mono (Kd.Q_keep (IsS72.apartQ (show IsS72 w0 _ g s0_0 t170 from oI72 HI0) (oQ HO_148002) oD) hk (fun _ h => h.2)) (fun _ h => h.1)) (o2_ (oJ hk BK142 NB142_0) (o2_ (oJ hk BK147 NB147_0) (o2_ (oJ hk BK153 NB153_0) (o2_ (Kd.R_mono (Kd.R_keep (IsS72.apart (show IsS72 w0 _ g s0_0 t170 from oI72 HI0) (oR HO179) oD) hk (fun _ h => h.2)) (fun _ h => h.1)) (o2_ (KeepBut.trans (oE HK) hk (.inl rfl)) (o2_ (hb) (o1_ (hi)))))))); clear HO_148002 BK142 BK147 BK153 HO179 HK HB HI0; obtain ⟨HO_148002, BK142, BK147, BK153, HO179, HK, HB, HI0⟩ := n_; (try clear hb); (try clear hb2); (try clear hk); (try clear hi); obtain ⟨Ao89, co89, eo89⟩ := Kd.R_slice HO179.out; subst eo89; have p182 : 0 ≤ (t180 : Int) := of_decide_eq_true oM; have q182 : t180 < (y177.length : Int) := of_decide_eq_true oM; obtain ⟨ad182, e182, hx182_0⟩ := Kd.at_int (Kd.R_reads' HO179.out).2.2 t180 p182 q182; cases e182; replace p182 := eq_true p182; replace q182 := eq_true q182; have hcz90_0 : w88.cell? ⟨gb147, 0, none⟩ = some (.int .i64 (wrap64 (1 + t143))) := (blk_cell BK147.out 0).trans rfl; have hcz90_1 : w88.cell? ⟨gb147, 1, none⟩ = some (.int .i64 (wrap64 (1 + t145))) := (blk_cell BK147.out 1).trans rfl; have hcz90_2 : w88.cell? ⟨gb147, 2, none⟩ = some (u148002) := (blk_cell BK147.out 2).trans rfl; have hfz90_0 := blk_frozen BK147.out 0; have hfz90_1 := blk_frozen BK147.out 1; have hfz90_2 := blk_frozen BK147.out 2; have hnb91 := NB142_153.out; have hnc91 := NB153_142.out; have hnb92 := NB142_0.out; have hnc92 := NB0_142.out; have hcz93_0 : w88.cell? ⟨gb142, 0, none⟩ = some (.int .i64 0) := (blk_cell BK142.out 0).trans rfl; have hcz93_1 : w88.cell? ⟨gb142, 1, none⟩ = some (.int .i64 0) := (blk_cell BK142.out 1).trans rfl; have hcz93_2 : w88.cell? ⟨gb142, 2, none⟩ = some (.slice none 0 0) := (blk_cell BK142.out 2).trans rfl; have hfz93_0 := blk_frozen BK142.out 0; have hfz93_1 := blk_frozen BK142.out 1; have hfz93_2 := blk_frozen BK142.out 2; obtain ⟨Ao94, co94, eo94, _⟩ := Kd.Q_slice HO_148002.out; subst eo94))
         refine bodyPost_ret (results_cell_row rfl _ _ gb142 25 #[.int .i64 (wrap64 (1 + t143)), .int .i64 (rd y177 t180), .slice Ao94 x148002_1.length co94] (0, 0) _ rfl (by (with_reducible repeat (first | refine blk_drewN ?_ _ | refine blk_drew ?_ | refine blk_alloc ?_ _)); refine blk_put (cs := #[.int .i64 (wrap64 (1 + t143)), .int .i64 (rd y177 t180), .slice none 0 0]) ?_ 2 _ rfl; (with_reducible repeat (first | refine blk_drewN ?_ _ | refine blk_drew ?_ | refine blk_alloc ?_ _)); refine blk_put (cs := #[.int .i64 (wrap64 (1 + t143)), .int .i64 0, .slice none 0 0]) ?_ 1 _ rfl; (with_reducible repeat (first | refine blk_drewN ?_ _ | refine blk_drew ?_ | refine blk_alloc ?_ _)); refine blk_put (cs := #[.int .i64 0, .int .i64 0, .slice none 0 0]) ?_ 0 _ rfl; (with_reducible repeat (first | refine blk_drewN ?_ _ | refine blk_drew ?_ | refine blk_alloc ?_ _)); refine blk_far ?_ NB142_147.out _; (with_reducible repeat (first | refine blk_drewN ?_ _ | refine blk_drew ?_ | refine blk_alloc ?_ _)); exact BK142.out) Try.underlying25 rfl oK) rfl ?_
         exact ⟨_, by first | rfl | (simp [errW_none, errW_some] <;> rfl) | (simp [*, errW_none, errW_some] <;> rfl), by (with_reducible repeat (first | apply Kd.Q_alloc | apply Kd.Q_drewN | apply Kd.Q_drew)); exact Kd.Q_mono (Kd.Q_far (p := ⟨gb142, 2, none⟩) (Kd.Q_far (p := ⟨gb142, 1, none⟩) (Kd.Q_far (p := ⟨gb142, 0, none⟩) (Kd.Q_far (p := ⟨gb147, 1, none⟩) (Kd.Q_types (Kd.Q_types HO_148002.out BK147.out oD) BK142.out oD) (fun _ hk => hk.1.2) (.int .i64 (rd y177 t180))) (fun _ hk => hk.2) (.int .i64 (wrap64 (1 + t143)))) (fun _ hk => hk.2) (.int .i64 (rd y177 t180))) (fun _ hk => hk.2) (.slice Ao94 x148002_1.length co94)) (fun _ hk => trivial), oI72 HI0, oH HB (IsS72.ge HI0.out), oE HK⟩
        ·rw [if_neg c79] at H
         exact absurd H (by simp)
       ·rw [if_neg c78] at H
        exact absurd H (by simp)
      ·rw [if_neg c76] at H
       have c76b0 : (t169 == 1) = false := beq_eq_false_iff_ne.mpr c76
       have c76b1 : (t169 != 1) = true := bne_iff_ne.mpr c76
       by_cases c95 : t169 = 2
       ·rw [if_pos c95] at H
        have c95b0 : (t169 == 2) = true := beq_iff_eq.mpr c95
        have c95b1 : (t169 != 2) = false := bne_eq_false_iff_eq.mpr c95
        clear c95
        by_cases c96 : 1 ≤ (x148002_1.length : Int)
        ·rw [if_pos c96] at H
         have c96b0 := eq_true c96
         have c96b1 : decide (1 ≤ (x148002_1.length : Int)) = true := decide_eq_true c96
         clear c96
         obtain ⟨y183, hy183⟩ : ∃ y_ : List (S38), y_ = (x148002_1.drop (1 : Int).toNat) := ⟨_, rfl⟩
         replace H : (some ((wrap64 (1 + t143)), (wrap64 (1 + t145)), y183, t170)) = some (r1, r2, r3, r4) := by first | (rw [hy183]; with_reducible exact H) | (have H2_ := (Option.bind_some _ _).symm.trans H; rw [hy183]; with_reducible exact H2_) | (have H2_ := (Option.bind_some _ _).symm.trans H; with_reducible exact H2_) | with_reducible exact H | (rw [hy183]; exact H) | exact H
         have Ny183 := Aside0.mk hy183
         clear hy183
         simp only [Option.some.injEq, Prod.mk.injEq] at H
         obtain ⟨rfl, rfl, rfl, rfl⟩ := H
         have hnb97 := NB147_142.out
         have hnc97 := NB142_147.out
         have hnb98 := NB147_153.out
         have hnc98 := NB153_147.out
         have hnb99 := NB147_0.out
         have hnc99 := NB0_147.out
         have hcz100_0 : wr.cell? ⟨gb147, 0, none⟩ = some (.int .i64 (wrap64 (1 + t143))) := (blk_cell BK147.out 0).trans rfl
         have hcz100_1 : wr.cell? ⟨gb147, 1, none⟩ = some (.int .i64 (wrap64 (1 + t145))) := (blk_cell BK147.out 1).trans rfl
         have hcz100_2 : wr.cell? ⟨gb147, 2, none⟩ = some (u148002) := (blk_cell BK147.out 2).trans rfl
         have hfz100_0 := blk_frozen BK147.out 0
         have hfz100_1 := blk_frozen BK147.out 1
         have hfz100_2 := blk_frozen BK147.out 2
         go_wp2_with (first | ((with_reducible refine gate_callee (f := 67) rfl ?_); refine goesL_ (some 39) rfl rfl Try.func67 oK rfl #[.pointer (some ⟨g, 0, none⟩), .int .i64 a1] rfl oA ?_; (with_reducible refine (spec_l20Rd_odd.calls k1 g s0_0 x1001_1 a1 true t168 w0 _ ?side1 ?side2 A50.out).mono ?_); (case side1 => exact oI72 HI0); (case side2 => exact oH HB (IsS72.ge HI0.out)); rintro e w101 ⟨rfl, hi, hb, hk⟩; refine ⟨_, rfl, ?_⟩; have n_ := o2_ (Kd.Q_mono (Kd.Q_keep (IsS72.apartQ (show IsS72 w0 _ g s0_0 x1001_1 from oI72 HI0) (oQ HO_148002) oD) hk (fun _ h => h.2)) (fun _ h => h.1)) (o2_ (oJ hk BK142 NB142_0) (o2_ (oJ hk BK147 NB147_0) (o2_ (oJ hk BK153 NB153_0) (o2_ (KeepBut.trans (oE HK) hk (.inl rfl)) (o2_ (hb) (o1_ (hi))))))); clear HO_148002 BK142 BK147 BK153 HK HB HI0; obtain ⟨HO_148002, BK142, BK147, BK153, HK, HB, HI0⟩ := n_; (try clear hb); (try clear hb2); (try clear hk); (try clear hi)) | ((with_reducible refine gate_callee (f := 56) rfl ?_); refine goesL_ (some 41) rfl rfl Try.func56 oK rfl #[.pointer (some ⟨g, 0, none⟩), .int .i64 4] rfl oA ?_; (with_reducible refine (spec_l20Rd_pick.calls k1 g s0_0 t168 4 t169 t170 w0 _ ?side1 ?side2 A52.out).mono ?_); (case side1 => exact oI72 HI0); (case side2 => exact oH HB (IsS72.ge HI0.out)); rintro e w102 ⟨rfl, hi, hb, hk⟩; refine ⟨_, rfl, ?_⟩; have n_ := o2_ (Kd.Q_mono (Kd.Q_keep (IsS72.apartQ (show IsS72 w0 _ g s0_0 t168 from oI72 HI0) (oQ HO_148002) oD) hk (fun _ h => h.2)) (fun _ h => h.1)) (o2_ (oJ hk BK142 NB142_0) (o2_ (oJ hk BK147 NB147_0) (o2_ (oJ hk BK153 NB153_0) (o2_ (KeepBut.trans (oE HK) hk (.inl rfl)) (o2_ (hb) (o1_ (hi))))))); clear HO_148002 BK142 BK147 BK153 HK HB HI0; obtain ⟨HO_148002, BK142, BK147, BK153, HK, HB, HI0⟩ := n_; (try clear hb); (try clear hb2); (try clear hk); (try clear hi); have hcz103_0 : w102.cell? ⟨gb147, 0, none⟩ = some (.int .i64 (wrap64 (1 + t143))) := (blk_cell BK147.out 0).trans rfl; have hcz103_1 : w102.cell? ⟨gb147, 1, none⟩ = some (.int .i64 (wrap64 (1 + t145))) := (blk_cell BK147.out 1).trans rfl; have hcz103_2 : w102.cell? ⟨gb147, 2, none⟩ = some (u148002) := (blk_cell BK147.out 2).trans rfl; have hfz103_0 := blk_frozen BK147.out 0; have hfz103_1 := blk_frozen BK147.out 1; have hfz103_2 := blk_frozen BK147.out 2; obtain ⟨Ao104, co104, eo104, _⟩ := Kd.Q_slice HO_148002.out; subst eo104; have q105 : (1 : Int) ≤ ((x148002_1.length : Int) : Int) := of_decide_eq_true oM; obtain ⟨i0105, hi0105, _, hsz105, _⟩ := info_parts info38; have hcut105 := cut_from (P := Try.prog) 23 38 .i64 Try.underlying23 hi0105 4 hsz105 Ao104 x148002_1.length co104 1 (by omega) q105; have hr105 := Kd.Q_drop (k := (1 : Int).toNat) HO_148002.out (by omega); obtain ⟨A105, hA105⟩ : ∃ A1, A1 = (if co104 = (1 : Int).toNat then Ao104 else (Ao104 : Option Addr).map (·.add ((1 : Int).toNat * 4))) := ⟨_, rfl⟩; obtain ⟨c105, hc105⟩ : ∃ c1, c1 = co104 - (1 : Int).toNat := ⟨_, rfl⟩; have hy105 : y183.length = x148002_1.length - (1 : Int).toNat := (by rw [Ny183.out, List.length_drop]); rw [← Ny183.out] at hr105; rw [← hy105, ← hA105, ← hc105] at hcut105; replace hr105 : Kd.Q k38 38 w102 w.heap.size (fun k_ => k_ ≠ gb153) (.slice A105 y183.length c105) y183 := (by rw [hA105, hc105, hy105]; exact hr105); have HE105 : Aside0 ((Value.slice A105 y183.length c105).ownBlock = (.slice Ao104 x148002_1.length co104 : Value).ownBlock) := ⟨(by rw [hA105]; split <;> (cases (Ao104 : Option Addr) <;> rfl))⟩; clear hy105 hi0105 hsz105 HO_148002 hA105 hc105; have HO185 := Aside0.mk hr105; clear hr105; replace q105 := eq_true q105; have hnb106 := NB142_153.out; have hnc106 := NB153_142.out; have hnb107 := NB142_0.out; have hnc107 := NB0_142.out; have hcz108_0 : w102.cell? ⟨gb142, 0, none⟩ = some (.int .i64 0) := (blk_cell BK142.out 0).trans rfl; have hcz108_1 : w102.cell? ⟨gb142, 1, none⟩ = some (.int .i64 0) := (blk_cell BK142.out 1).trans rfl; have hcz108_2 : w102.cell? ⟨gb142, 2, none⟩ = some (.slice none 0 0) := (blk_cell BK142.out 2).trans rfl; have hfz108_0 := blk_frozen BK142.out 0; have hfz108_1 := blk_frozen BK142.out 1; have hfz108_2 := blk_frozen BK142.out 2))
         refine bodyPost_ret (results_cell_row rfl _ _ gb142 25 #[.int .i64 (wrap64 (1 + t143)), .int .i64 (wrap64 (1 + t145)), .slice A105 y183.length c105] (0, 0) _ rfl (by (with_reducible repeat (first | refine blk_drewN ?_ _ | refine blk_drew ?_ | refine blk_alloc ?_ _)); refine blk_put (cs := #[.int .i64 (wrap64 (1 + t143)), .int .i64 (wrap64 (1 + t145)), .slice none 0 0]) ?_ 2 _ rfl; (with_reducible repeat (first | refine blk_drewN ?_ _ | refine blk_drew ?_ | refine blk_alloc ?_ _)); refine blk_put (cs := #[.int .i64 (wrap64 (1 + t143)), .int .i64 0, .slice none 0 0]) ?_ 1 _ rfl; (with_reducible repeat (first | refine blk_drewN ?_ _ | refine blk_drew ?_ | refine blk_alloc ?_ _)); refine blk_put (cs := #[.int .i64 0, .int .i64 0, .slice none 0 0]) ?_ 0 _ rfl; (with_reducible repeat (first | refine blk_drewN ?_ _ | refine blk_drew ?_ | refine blk_alloc ?_ _)); refine blk_far ?_ NB142_147.out _; (with_reducible repeat (first | refine blk_drewN ?_ _ | refine blk_drew ?_ | refine blk_alloc ?_ _)); exact BK142.out) Try.underlying25 rfl oK) rfl ?_
         exact ⟨_, by first | rfl | (simp [errW_none, errW_some] <;> rfl) | (simp [*, errW_none, errW_some] <;> rfl), by (with_reducible repeat (first | apply Kd.Q_alloc | apply Kd.Q_drewN | apply Kd.Q_drew)); exact Kd.Q_mono (Kd.Q_far (p := ⟨gb142, 2, none⟩) (Kd.Q_far (p := ⟨gb142, 1, none⟩) (Kd.Q_far (p := ⟨gb142, 0, none⟩) (Kd.Q_far (p := ⟨gb147, 2, none⟩) (Kd.Q_types (Kd.Q_types HO185.out BK147.out oD) BK142.out oD) (fun _ hk => hk.1.2) (.slice A105 y183.length c105)) (fun _ hk => hk.2) (.int .i64 (wrap64 (1 + t143)))) (fun _ hk => hk.2) (.int .i64 (wrap64 (1 + t145)))) (fun _ hk => hk.2) (.slice A105 y183.length c105)) (fun _ hk => trivial), oI72 HI0, oH HB (IsS72.ge HI0.out), oE HK⟩
        ·rw [if_neg c96] at H
         exact absurd H (by simp)
       ·rw [if_neg c95] at H
        have c95b0 : (t169 == 2) = false := beq_eq_false_iff_ne.mpr c95
        have c95b1 : (t169 != 2) = true := bne_iff_ne.mpr c95
        replace H := Option.bind_eq_some_iff.mp H
        obtain ⟨⟨t186, t187⟩, A1090, H⟩ := H
        (try dsimp only at H)
        have A109 := Aside0.mk A1090
        clear A1090
        obtain ⟨y188, hy188⟩ : ∃ y_ : List Int, y_ = (([(-1), 256] : List Int)) := ⟨_, rfl⟩
        replace H : ((spec_l20Rd_pick.f k1 s0_0 t187 2).bind fun bt191 => (if 0 ≤ bt191.1 then (if bt191.1 < (y188.length : Int) then (if 0 ≤ t186 then (if t186 < (x148002_1.length : Int) then (some ((wrap64 (1 + t143)), (wrap64 (1 + t145)), (x148002_1.set (t186 : Int).toNat (⟨(rd_T38 x148002_1 t186).f0, rd y188 bt191.1, (rd_T38 x148002_1 t186).f2, (rd_T38 x148002_1 t186).f3⟩ : S38)), bt191.2)) else (none)) else (none)) else (none)) else (none))) = some (r1, r2, r3, r4) := by first | (rw [hy188]; with_reducible exact H) | (have H2_ := (Option.bind_some _ _).symm.trans H; rw [hy188]; with_reducible exact H2_) | (have H2_ := (Option.bind_some _ _).symm.trans H; with_reducible exact H2_) | with_reducible exact H | (rw [hy188]; exact H) | exact H
        have Ny188 := Aside0.mk hy188
        clear hy188
        replace H := Option.bind_eq_some_iff.mp H
        obtain ⟨⟨t191, t192⟩, A1100, H⟩ := H
        (try dsimp only at H)
        have A110 := Aside0.mk A1100
        clear A1100
        by_cases c111 : 0 ≤ t191
        ·rw [if_pos c111] at H
         have c111b0 : decide (0 ≤ t191) = true := decide_eq_true c111
         clear c111
         by_cases c112 : t191 < (y188.length : Int)
         ·rw [if_pos c112] at H
          have c112b0 : decide (t191 < (y188.length : Int)) = true := decide_eq_true c112
          clear c112
          by_cases c113 : 0 ≤ t186
          ·rw [if_pos c113] at H
           have c113b0 : decide (0 ≤ t186) = true := decide_eq_true c113
           clear c113
           by_cases c114 : t186 < (x148002_1.length : Int)
           ·rw [if_pos c114] at H
            have c114b0 : decide (t186 < (x148002_1.length : Int)) = true := decide_eq_true c114
            clear c114
            obtain ⟨y194, hy194⟩ : ∃ y_ : List (S38), y_ = (x148002_1.set (t186 : Int).toNat (⟨(rd_T38 x148002_1 t186).f0, rd y188 t191, (rd_T38 x148002_1 t186).f2, (rd_T38 x148002_1 t186).f3⟩ : S38)) := ⟨_, rfl⟩
            replace H : (some ((wrap64 (1 + t143)), (wrap64 (1 + t145)), y194, t192)) = some (r1, r2, r3, r4) := by first | (rw [hy194]; with_reducible exact H) | (have H2_ := (Option.bind_some _ _).symm.trans H; rw [hy194]; with_reducible exact H2_) | (have H2_ := (Option.bind_some _ _).symm.trans H; with_reducible exact H2_) | with_reducible exact H | (rw [hy194]; exact H) | exact H
            have Ny194 := Aside0.mk hy194
            clear hy194
            simp only [Option.some.injEq, Prod.mk.injEq] at H
            obtain ⟨rfl, rfl, rfl, rfl⟩ := H
            have hnb116 := NB147_142.out
            have hnc116 := NB142_147.out
            have hnb117 := NB147_153.out
            have hnc117 := NB153_147.out
            have hnb118 := NB147_0.out
            have hnc118 := NB0_147.out
            have hcz119_0 : wr.cell? ⟨gb147, 0, none⟩ = some (.int .i64 (wrap64 (1 + t143))) := (blk_cell BK147.out 0).trans rfl
            have hcz119_1 : wr.cell? ⟨gb147, 1, none⟩ = some (.int .i64 (wrap64 (1 + t145))) := (blk_cell BK147.out 1).trans rfl
            have hcz119_2 : wr.cell? ⟨gb147, 2, none⟩ = some (u148002) := (blk_cell BK147.out 2).trans rfl
            have hfz119_0 := blk_frozen BK147.out 0
            have hfz119_1 := blk_frozen BK147.out 1
            have hfz119_2 := blk_frozen BK147.out 2
            try go_wp2_with (first | ((with_reducible refine gate_callee (f := 67) rfl ?_); refine goesL_ (some 39) rfl rfl Try.func67 oK rfl #[.pointer (some ⟨g, 0, none⟩), .int .i64 a1] rfl oA ?_; (with_reducible refine (spec_l20Rd_odd.calls k1 g s0_0 x1001_1 a1 true t168 w0 _ ?side1 ?side2 A50.out).mono ?_); (case side1 => exact oI72 HI0); (case side2 => exact oH HB (IsS72.ge HI0.out)); rintro e w120 ⟨rfl, hi, hb, hk⟩; refine ⟨_, rfl, ?_⟩; have n_ := o2_ (Kd.Q_mono (Kd.Q_keep (IsS72.apartQ (show IsS72 w0 _ g s0_0 x1001_1 from oI72 HI0) (oQ HO_148002) oD) hk (fun _ h => h.2)) (fun _ h => h.1)) (o2_ (oJ hk BK142 NB142_0) (o2_ (oJ hk BK147 NB147_0) (o2_ (oJ hk BK153 NB153_0) (o2_ (KeepBut.trans (oE HK) hk (.inl rfl)) (o2_ (hb) (o1_ (hi))))))); clear HO_148002 BK142 BK147 BK153 HK HB HI0; obtain ⟨HO_148002, BK142, BK147, BK153, HK, HB, HI0⟩ := n_; (try clear hb); (try clear hb2); (try clear hk); (try clear hi)) | ((with_reducible refine gate_callee (f := 56) rfl ?_); refine goesL_ (some 41) rfl rfl Try.func56 oK rfl #[.pointer (some ⟨g, 0, none⟩), .int .i64 4] rfl oA ?_; (with_reducible refine (spec_l20Rd_pick.calls k1 g s0_0 t168 4 t169 t170 w0 _ ?side1 ?side2 A52.out).mono ?_); (case side1 => exact oI72 HI0); (case side2 => exact oH HB (IsS72.ge HI0.out)); rintro e w121 ⟨rfl, hi, hb, hk⟩; refine ⟨_, rfl, ?_⟩; have n_ := o2_ (Kd.Q_mono (Kd.Q_keep (IsS72.apartQ (show IsS72 w0 _ g s0_0 t168 from oI72 HI0) (oQ HO_148002) oD) hk (fun _ h => h.2)) (fun _ h => h.1)) (o2_ (oJ hk BK142 NB142_0) (o2_ (oJ hk BK147 NB147_0) (o2_ (oJ hk BK153 NB153_0) (o2_ (KeepBut.trans (oE HK) hk (.inl rfl)) (o2_ (hb) (o1_ (hi))))))); clear HO_148002 BK142 BK147 BK153 HK HB HI0; obtain ⟨HO_148002, BK142, BK147, BK153, HK, HB, HI0⟩ := n_; (try clear hb); (try clear hb2); (try clear hk); (try clear hi)))
            have pi193 : (0 ≤ (t191 : Int)) = True := eq_true (of_decide_eq_true oM)
            have qi193 : (t191 < (y188.length : Int)) = True := eq_true (of_decide_eq_true oM)
            have n_ := o2_ (Kd.Q_drew HO_148002.out) (o2_ (blk_drew BK142.out) (o2_ (blk_drew BK147.out) (o2_ (blk_drew BK153.out) (o2_ (IsS72.drew HI0.out) (o2_ (keep_drew HK.out) (o1_ (below_drew1 HB.out)))))))
            clear HO_148002 BK142 BK147 BK153 HI0 HK HB
            obtain ⟨HO_148002, BK142, BK147, BK153, HI0, HK, HB⟩ := n_
            obtain ⟨Ao123, co123, eo123, _⟩ := Kd.Q_slice HO_148002.out
            (first | subst eo123 | (injection eo123 with f1_ f2_ f3_; have f4_ := f1_.symm; have f5_ := f3_.symm; clear f1_ f2_ f3_; subst f4_; subst f5_))
            refine start_ (n := 15) (S := fun w' => w'.cell? ⟨gb147, 0, none⟩ = some (.int .i64 (wrap64 (1 + t143))) ∧ w'.cell? ⟨gb147, 1, none⟩ = some (.int .i64 (wrap64 (1 + t145))) ∧ w'.cell? ⟨gb147, 2, none⟩ = some (.slice Ao123 x148002_1.length co123)) (ds := [14]) #[false, false, false, false, false, false, false, false, false, false, false, false, false, false, false] oK rfl rfl ⟨(blk_cell BK147.out 0).trans rfl, (blk_cell BK147.out 1).trans rfl, (blk_cell BK147.out 2).trans rfl⟩ (fun hHeld => ?_); refine with_tabW spec_l20Ras.tab11 spec_l20Ras.bits11 (fun HT_ HW_ => ?_)
            generalize w121.drew = w122 at HO_148002 BK142 BK147 BK153 HI0 HK HB hHeld ⊢
            refine pure_ (i := 0) (N := some 42) (v := ?_) (a' := ?_) #[true, false, false, false, false, false, false, false, false, false, false, false, false, false, false] rfl rfl (any_of HT_.out oK) (fun _ _ _ h => h) (Or.inl ⟨by rfl, ?_⟩) ?_ ?_
            rotate_left
            ·intro w'
             go_simp
             with_reducible rfl
            rotate_left
            ·simp only [Act.put, List.setIfInBounds_toArray, List.set_cons_zero, List.set_cons_succ, i64_w, i32_w]
             rfl
            refine pure_ (i := 2) (N := some 44) (v := ?_) (a' := ?_) #[true, false, true, false, false, false, false, false, false, false, false, false, false, false, false] rfl rfl (any_of HT_.out oK) (fun _ _ _ h => h) (Or.inl ⟨by rfl, ?_⟩) ?_ ?_
            rotate_left
            ·intro w'
             go_simp
             with_reducible rfl
            rotate_left
            ·simp only [Act.put, List.setIfInBounds_toArray, List.set_cons_zero, List.set_cons_succ, i64_w, i32_w]
             rfl
            refine pure_ (i := 3) (N := some 45) (v := ?_) (a' := ?_) #[true, false, true, true, false, false, false, false, false, false, false, false, false, false, false] rfl rfl (any_of HT_.out oK) (fun _ _ _ h => h) (Or.inl ⟨by rfl, ?_⟩) ?_ ?_
            rotate_left
            ·intro w'
             go_simp
             with_reducible rfl
            rotate_left
            ·simp only [Act.put, List.setIfInBounds_toArray, List.set_cons_zero, List.set_cons_succ, i64_w, i32_w]
             rfl
            refine pure_ (i := 8) (N := some 50) (v := ?_) (a' := ?_) #[true, false, true, true, false, false, false, false, true, false, false, false, false, false, false] rfl rfl (any_of HT_.out oK) (fun _ _ _ h => h) (Or.inl ⟨by rfl, ?_⟩) ?_ ?_
            rotate_left
            ·intro w'
             go_simp
             with_reducible rfl
            rotate_left
            ·simp only [Act.put, List.setIfInBounds_toArray, List.set_cons_zero, List.set_cons_succ, i64_w, i32_w]
             rfl
            refine take_ (i := 1) (N := some 43) (v := ?_) (a' := ?_) #[true, true, true, true, false, false, false, false, true, false, false, false, false, false, false] rfl rfl (take_ofW HT_.out HW_.out oK) (fun _ _ _ h => h) (Or.inl ⟨by rfl, ?_⟩) hHeld ?_ ?_
            rotate_left
            ·rintro w' ⟨s0, s1, s2⟩
             go_simp
             with_reducible rfl
            rotate_left
            ·simp only [Act.put, List.setIfInBounds_toArray, List.set_cons_zero, List.set_cons_succ, i64_w, i32_w]
             rfl
            refine take_ (i := 4) (N := some 46) (v := ?_) (a' := ?_) #[true, true, true, true, true, false, false, false, true, false, false, false, false, false, false] rfl rfl (take_ofW HT_.out HW_.out oK) (fun _ _ _ h => h) (Or.inl ⟨by rfl, ?_⟩) hHeld ?_ ?_
            rotate_left
            ·rintro w' ⟨s0, s1, s2⟩
             go_simp
             with_reducible rfl
            rotate_left
            ·simp only [Act.put, List.setIfInBounds_toArray, List.set_cons_zero, List.set_cons_succ, i64_w, i32_w]
             rfl
            refine pure_ (i := 5) (N := some 47) (v := ?_) (a' := ?_) #[true, true, true, true, true, true, false, false, true, false, false, false, false, false, false] rfl rfl (any_of HT_.out oK) (fun _ _ _ h => h) (Or.inl ⟨by rfl, ?_⟩) ?_ ?_
            rotate_left
            ·intro w'
             go_simp
             with_reducible rfl
            rotate_left
            ·simp only [Act.put, List.setIfInBounds_toArray, List.set_cons_zero, List.set_cons_succ, i64_w, i32_w]
             rfl
            refine join_ (σ := Value × Addr) 5 #[true, true, true, true, true, true, true, true, true, true, false, false, false, false, false] (fun s_ => [(48, .int .i64 t186), (49, s_.1), (51, .int .i64 t191)]) (fun s_ w' => (w'.cell? ⟨gb147, 0, none⟩ = some (.int .i64 (wrap64 (1 + t143))) ∧ w'.cell? ⟨gb147, 1, none⟩ = some (.int .i64 (wrap64 (1 + t145))) ∧ w'.cell? ⟨gb147, 2, none⟩ = some (.slice Ao123 x148002_1.length co123)) ∧ (Kd.R (Kd.int .i64) 3 w' w.heap.size (fun _ => True) s_.1 y188) ∧ (Kd.Q k38 38 w' w.heap.size (fun k_ => k_ ≠ gb153) (.slice Ao123 x148002_1.length co123) x148002_1) ∧ (∃ c_, (s_.1 : Value) = .slice (some s_.2) y188.length c_) ∧ (w'.heap[gb142]? = some (.cells #[.int .i64 0, .int .i64 0, .slice none 0 0] 25 (0, 0))) ∧ (w'.heap[gb147]? = some (.cells #[.int .i64 (wrap64 (1 + t143)), .int .i64 (wrap64 (1 + t145)), .slice Ao123 x148002_1.length co123] 25 (0, 0))) ∧ (w'.heap[gb153]? = some (.cells #[.int .i64 x154000_1, .int .i64 x154001_1, .int .i64 x154002_1, .int .i64 x154003_1] 38 (0, 0))) ∧ (IsS72 w0 w' g s0_0 t192) ∧ (KeepBut w w' g none) ∧ (Below w0.heap.size w0 w')) ?_ ?_
            rotate_left
            ·intro hCont
             refine two_ (i := 6) (j := 7) (Ni := some 48) (Nj := some 49) #[true, true, true, true, true, true, true, false, true, false, false, false, false, false, false] #[true, true, true, true, true, true, false, true, true, false, false, false, false, false, false] rfl rfl rfl rfl (two_of HT_.out oK) oD oD (fun K hK => ?_) (fun K hK => ?_)
             ·skip
              refine goes_ Try.func56 oK rfl #[.pointer (some ⟨g, 0, none⟩), .int .i64 (x148002_1.length : Int)] (by rfl) rfl rfl oA ?_
              with_reducible refine (spec_l20Rd_pick.calls k1 g s0_0 t170 (x148002_1.length : Int) t186 t187 w0 _ ?side1 ?side2 A109.out).mono ?_
              (case side1 => exact oI72 HI0)
              (case side2 => exact oH HB (IsS72.ge HI0.out))
              rintro e w124 ⟨rfl, hi, hb, hk⟩
              refine ⟨_, rfl, ?_⟩
              have n_ := o2_ (Kd.Q_mono (Kd.Q_keep (IsS72.apartQ (show IsS72 w0 _ g s0_0 t170 from oI72 HI0) (oQ HO_148002) oD) hk (fun _ h => h.2)) (fun _ h => h.1)) (o2_ (oJ hk BK142 NB142_0) (o2_ (oJ hk BK147 NB147_0) (o2_ (oJ hk BK153 NB153_0) (o2_ (KeepBut.trans (oE HK) hk (.inl rfl)) (o2_ (hb) (o1_ (hi)))))))
              clear HO_148002 BK142 BK147 BK153 HK HB HI0
              obtain ⟨HO_148002, BK142, BK147, BK153, HK, HB, HI0⟩ := n_
              (try clear hb)
              (try clear hb2)
              (try clear hk)
              (try clear hi)
              refine hK.out _ _ ⟨(blk_cell BK147.out 0).trans rfl, (blk_cell BK147.out 1).trans rfl, (blk_cell BK147.out 2).trans rfl⟩ (fun hHeld => ?_)
              clear hK K
              refine norm_ (a' := ?_) ?_ ?_
              rotate_left
              ·show Act.put _ (some 48) _ = _
               simp only [Act.put, List.setIfInBounds_toArray, List.set_cons_zero, List.set_cons_succ, i64_w, i32_w]
               rfl
              refine two_ (i := 7) (j := 9) (Ni := some 49) (Nj := some 51) #[true, true, true, true, true, true, true, true, true, false, false, false, false, false, false] #[true, true, true, true, true, true, true, false, true, true, false, false, false, false, false] rfl rfl rfl rfl (two_of HT_.out oK) oD oD (fun K hK => ?_) (fun K hK => ?_)
              ·skip
               refine Kd.R_lit_step (Kd.int .i64) _ 3 ?hg (N := 49) ?hd (xs := ([(-1), 256] : List Int)) (inner := [.int .i64 (-1), .int .i64 256]) (ok := fun _ => True) (okp := fun _ => True) ?hr ?hp (fun _ hk => hk) trivial (Below.refl _ _) (Nat.le_refl _) (by simp) ?_; (case hd => rfl); (case hg => rfl); (case hr => first | (go_simp; done) | (go_simp; rfl)); (case hp => exact (Reps.one (show Kd.M (Kd.int .i64) _ _ _ (-1) [.int .i64 (-1)] from rfl) (Reps.one (show Kd.M (Kd.int .i64) _ _ _ 256 [.int .i64 256] from rfl) (Reps.none _ _))))
               intro v189 w125 ho126 hb hg_ hnew_
               clear hg_ hnew_
               (first | rw [← Ny188.out] at ho126 | (simp only [Int.reduceToNat] at ho126; rw [← Ny188.out] at ho126))
               have n_ := o2_ (Kd.Q_below (oQ HO_148002) hb) (o2_ (Kd.R_lower ho126 (keep_size (w := w) (g := g) (row := none) (oE HK))) (o2_ (blk_below (oP BK142) hb) (o2_ (blk_below (oP BK147) hb) (o2_ (blk_below (oP BK153) hb) (o2_ (IsS72.below (oI72 HI0) hb) (o2_ (KeepBut.trans (oE HK) (KeepBut.of_below hb g none) (.inl rfl)) (o1_ (below_step (oH HB (IsS72.ge HI0.out)) hb))))))))
               clear HO_148002 BK142 BK147 BK153 HI0 HK HB
               obtain ⟨HO_148002, HO190, BK142, BK147, BK153, HI0, HK, HB⟩ := n_
               clear hb ho126
               obtain ⟨Ao127, co127, eo127⟩ := Kd.R_slice HO190.out
               subst eo127
               obtain ⟨ado127, fo127, _⟩ := Kd.at_int (Kd.R_reads' HO190.out).2.2 0 oD (by rw [Ny188.out]; simp)
               cases fo127
               refine hK.out _ _ ⟨(blk_cell BK147.out 0).trans rfl, (blk_cell BK147.out 1).trans rfl, (blk_cell BK147.out 2).trans rfl⟩ (fun hHeld => ?_)
               clear hK K
               refine norm_ (a' := ?_) ?_ ?_
               rotate_left
               ·show Act.put _ (some 49) _ = _
                simp only [Act.put, List.setIfInBounds_toArray, List.set_cons_zero, List.set_cons_succ, i64_w, i32_w]
                rfl
               refine one_ (i := 9) (N := some 51) #[true, true, true, true, true, true, true, true, true, true, false, false, false, false, false] rfl rfl (one_of HT_.out oK) oD (fun K hK => ?_)
               refine goes_ Try.func56 oK rfl #[.pointer (some ⟨g, 0, none⟩), .int .i64 2] (by rfl) rfl rfl oA ?_
               with_reducible refine (spec_l20Rd_pick.calls k1 g s0_0 t187 2 t191 t192 w0 _ ?side1 ?side2 A110.out).mono ?_
               (case side1 => exact oI72 HI0)
               (case side2 => exact oH HB (IsS72.ge HI0.out))
               rintro e w128 ⟨rfl, hi, hb, hk⟩
               refine ⟨_, rfl, ?_⟩
               have n_ := o2_ (Kd.Q_mono (Kd.Q_keep (IsS72.apartQ (show IsS72 w0 _ g s0_0 t187 from oI72 HI0) (oQ HO_148002) oD) hk (fun _ h => h.2)) (fun _ h => h.1)) (o2_ (oJ hk BK142 NB142_0) (o2_ (oJ hk BK147 NB147_0) (o2_ (oJ hk BK153 NB153_0) (o2_ (Kd.R_mono (Kd.R_keep (IsS72.apart (show IsS72 w0 _ g s0_0 t187 from oI72 HI0) (oR HO190) oD) hk (fun _ h => h.2)) (fun _ h => h.1)) (o2_ (KeepBut.trans (oE HK) hk (.inl rfl)) (o2_ (hb) (o1_ (hi))))))))
               clear HO_148002 BK142 BK147 BK153 HO190 HK HB HI0
               obtain ⟨HO_148002, BK142, BK147, BK153, HO190, HK, HB, HI0⟩ := n_
               (try clear hb)
               (try clear hb2)
               (try clear hk)
               (try clear hi)
               refine hK.out _ _ ⟨(blk_cell BK147.out 0).trans rfl, (blk_cell BK147.out 1).trans rfl, (blk_cell BK147.out 2).trans rfl⟩ (fun hHeld => ?_)
               clear hK K
               refine norm_ (a' := ?_) ?_ ?_
               rotate_left
               ·show Act.put _ (some 51) _ = _
                simp only [Act.put, List.setIfInBounds_toArray, List.set_cons_zero, List.set_cons_succ, i64_w, i32_w]
                rfl
               exact norm_ (by simp only [putAll, Act.put, List.setIfInBounds_toArray, List.set_cons_zero, List.set_cons_succ]) (hCont (.slice (some ado127) y188.length co127, ado127) _ ⟨hHeld, (oR HO190), (oQ HO_148002), ⟨_, rfl⟩, (oP BK142), (oP BK147), (oP BK153), (oI72 HI0), (oE HK), (oH HB (IsS72.ge HI0.out))⟩)
              ·skip
               refine goes_ Try.func56 oK rfl #[.pointer (some ⟨g, 0, none⟩), .int .i64 2] (by rfl) rfl rfl oA ?_
               with_reducible refine (spec_l20Rd_pick.calls k1 g s0_0 t187 2 t191 t192 w0 _ ?side1 ?side2 A110.out).mono ?_
               (case side1 => exact oI72 HI0)
               (case side2 => exact oH HB (IsS72.ge HI0.out))
               rintro e w125 ⟨rfl, hi, hb, hk⟩
               refine ⟨_, rfl, ?_⟩
               have n_ := o2_ (Kd.Q_mono (Kd.Q_keep (IsS72.apartQ (show IsS72 w0 _ g s0_0 t187 from oI72 HI0) (oQ HO_148002) oD) hk (fun _ h => h.2)) (fun _ h => h.1)) (o2_ (oJ hk BK142 NB142_0) (o2_ (oJ hk BK147 NB147_0) (o2_ (oJ hk BK153 NB153_0) (o2_ (KeepBut.trans (oE HK) hk (.inl rfl)) (o2_ (hb) (o1_ (hi)))))))
               clear HO_148002 BK142 BK147 BK153 HK HB HI0
               obtain ⟨HO_148002, BK142, BK147, BK153, HK, HB, HI0⟩ := n_
               (try clear hb)
               (try clear hb2)
               (try clear hk)
               (try clear hi)
               refine hK.out _ _ ⟨(blk_cell BK147.out 0).trans rfl, (blk_cell BK147.out 1).trans rfl, (blk_cell BK147.out 2).trans rfl⟩ (fun hHeld => ?_)
               clear hK K
               refine norm_ (a' := ?_) ?_ ?_
               rotate_left
               ·show Act.put _ (some 51) _ = _
                simp only [Act.put, List.setIfInBounds_toArray, List.set_cons_zero, List.set_cons_succ, i64_w, i32_w]
                rfl
               refine one_ (i := 7) (N := some 49) #[true, true, true, true, true, true, true, true, true, true, false, false, false, false, false] rfl rfl (one_of HT_.out oK) oD (fun K hK => ?_)
               refine Kd.R_lit_step (Kd.int .i64) _ 3 ?hg (N := 49) ?hd (xs := ([(-1), 256] : List Int)) (inner := [.int .i64 (-1), .int .i64 256]) (ok := fun _ => True) (okp := fun _ => True) ?hr ?hp (fun _ hk => hk) trivial (Below.refl _ _) (Nat.le_refl _) (by simp) ?_; (case hd => rfl); (case hg => rfl); (case hr => first | (go_simp; done) | (go_simp; rfl)); (case hp => exact (Reps.one (show Kd.M (Kd.int .i64) _ _ _ (-1) [.int .i64 (-1)] from rfl) (Reps.one (show Kd.M (Kd.int .i64) _ _ _ 256 [.int .i64 256] from rfl) (Reps.none _ _))))
               intro v189 w126 ho127 hb hg_ hnew_
               clear hg_ hnew_
               (first | rw [← Ny188.out] at ho127 | (simp only [Int.reduceToNat] at ho127; rw [← Ny188.out] at ho127))
               have n_ := o2_ (Kd.Q_below (oQ HO_148002) hb) (o2_ (Kd.R_lower ho127 (keep_size (w := w) (g := g) (row := none) (oE HK))) (o2_ (blk_below (oP BK142) hb) (o2_ (blk_below (oP BK147) hb) (o2_ (blk_below (oP BK153) hb) (o2_ (IsS72.below (oI72 HI0) hb) (o2_ (KeepBut.trans (oE HK) (KeepBut.of_below hb g none) (.inl rfl)) (o1_ (below_step (oH HB (IsS72.ge HI0.out)) hb))))))))
               clear HO_148002 BK142 BK147 BK153 HI0 HK HB
               obtain ⟨HO_148002, HO190, BK142, BK147, BK153, HI0, HK, HB⟩ := n_
               clear hb ho127
               obtain ⟨Ao128, co128, eo128⟩ := Kd.R_slice HO190.out
               subst eo128
               obtain ⟨ado128, fo128, _⟩ := Kd.at_int (Kd.R_reads' HO190.out).2.2 0 oD (by rw [Ny188.out]; simp)
               cases fo128
               refine hK.out _ _ ⟨(blk_cell BK147.out 0).trans rfl, (blk_cell BK147.out 1).trans rfl, (blk_cell BK147.out 2).trans rfl⟩ (fun hHeld => ?_)
               clear hK K
               refine norm_ (a' := ?_) ?_ ?_
               rotate_left
               ·show Act.put _ (some 49) _ = _
                simp only [Act.put, List.setIfInBounds_toArray, List.set_cons_zero, List.set_cons_succ, i64_w, i32_w]
                rfl
               exact norm_ (by simp only [putAll, Act.put, List.setIfInBounds_toArray, List.set_cons_zero, List.set_cons_succ]) (hCont (.slice (some ado128) y188.length co128, ado128) _ ⟨hHeld, (oR HO190), (oQ HO_148002), ⟨_, rfl⟩, (oP BK142), (oP BK147), (oP BK153), (oI72 HI0), (oE HK), (oH HB (IsS72.ge HI0.out))⟩)
             ·skip
              refine Kd.R_lit_step (Kd.int .i64) _ 3 ?hg (N := 49) ?hd (xs := ([(-1), 256] : List Int)) (inner := [.int .i64 (-1), .int .i64 256]) (ok := fun _ => True) (okp := fun _ => True) ?hr ?hp (fun _ hk => hk) trivial (Below.refl _ _) (Nat.le_refl _) (by simp) ?_; (case hd => rfl); (case hg => rfl); (case hr => first | (go_simp; done) | (go_simp; rfl)); (case hp => exact (Reps.one (show Kd.M (Kd.int .i64) _ _ _ (-1) [.int .i64 (-1)] from rfl) (Reps.one (show Kd.M (Kd.int .i64) _ _ _ 256 [.int .i64 256] from rfl) (Reps.none _ _))))
              intro v189 w124 ho125 hb hg_ hnew_
              clear hg_ hnew_
              (first | rw [← Ny188.out] at ho125 | (simp only [Int.reduceToNat] at ho125; rw [← Ny188.out] at ho125))
              have n_ := o2_ (Kd.Q_below (oQ HO_148002) hb) (o2_ (Kd.R_lower ho125 (keep_size (w := w) (g := g) (row := none) (oE HK))) (o2_ (blk_below (oP BK142) hb) (o2_ (blk_below (oP BK147) hb) (o2_ (blk_below (oP BK153) hb) (o2_ (IsS72.below (oI72 HI0) hb) (o2_ (KeepBut.trans (oE HK) (KeepBut.of_below hb g none) (.inl rfl)) (o1_ (below_step (oH HB (IsS72.ge HI0.out)) hb))))))))
              clear HO_148002 BK142 BK147 BK153 HI0 HK HB
              obtain ⟨HO_148002, HO190, BK142, BK147, BK153, HI0, HK, HB⟩ := n_
              clear hb ho125
              obtain ⟨Ao126, co126, eo126⟩ := Kd.R_slice HO190.out
              subst eo126
              obtain ⟨ado126, fo126, _⟩ := Kd.at_int (Kd.R_reads' HO190.out).2.2 0 oD (by rw [Ny188.out]; simp)
              cases fo126
              refine hK.out _ _ ⟨(blk_cell BK147.out 0).trans rfl, (blk_cell BK147.out 1).trans rfl, (blk_cell BK147.out 2).trans rfl⟩ (fun hHeld => ?_)
              clear hK K
              refine norm_ (a' := ?_) ?_ ?_
              rotate_left
              ·show Act.put _ (some 49) _ = _
               simp only [Act.put, List.setIfInBounds_toArray, List.set_cons_zero, List.set_cons_succ, i64_w, i32_w]
               rfl
              refine one_ (i := 6) (N := some 48) #[true, true, true, true, true, true, true, true, true, false, false, false, false, false, false] rfl rfl (one_of HT_.out oK) oD (fun K hK => ?_)
              refine goes_ Try.func56 oK rfl #[.pointer (some ⟨g, 0, none⟩), .int .i64 (x148002_1.length : Int)] (by rfl) rfl rfl oA ?_
              with_reducible refine (spec_l20Rd_pick.calls k1 g s0_0 t170 (x148002_1.length : Int) t186 t187 w0 _ ?side1 ?side2 A109.out).mono ?_
              (case side1 => exact oI72 HI0)
              (case side2 => exact oH HB (IsS72.ge HI0.out))
              rintro e w127 ⟨rfl, hi, hb, hk⟩
              refine ⟨_, rfl, ?_⟩
              have n_ := o2_ (Kd.Q_mono (Kd.Q_keep (IsS72.apartQ (show IsS72 w0 _ g s0_0 t170 from oI72 HI0) (oQ HO_148002) oD) hk (fun _ h => h.2)) (fun _ h => h.1)) (o2_ (oJ hk BK142 NB142_0) (o2_ (oJ hk BK147 NB147_0) (o2_ (oJ hk BK153 NB153_0) (o2_ (Kd.R_mono (Kd.R_keep (IsS72.apart (show IsS72 w0 _ g s0_0 t170 from oI72 HI0) (oR HO190) oD) hk (fun _ h => h.2)) (fun _ h => h.1)) (o2_ (KeepBut.trans (oE HK) hk (.inl rfl)) (o2_ (hb) (o1_ (hi))))))))
              clear HO_148002 BK142 BK147 BK153 HO190 HK HB HI0
              obtain ⟨HO_148002, BK142, BK147, BK153, HO190, HK, HB, HI0⟩ := n_
              (try clear hb)
              (try clear hb2)
              (try clear hk)
              (try clear hi)
              refine hK.out _ _ ⟨(blk_cell BK147.out 0).trans rfl, (blk_cell BK147.out 1).trans rfl, (blk_cell BK147.out 2).trans rfl⟩ (fun hHeld => ?_)
              clear hK K
              refine norm_ (a' := ?_) ?_ ?_
              rotate_left
              ·show Act.put _ (some 48) _ = _
               simp only [Act.put, List.setIfInBounds_toArray, List.set_cons_zero, List.set_cons_succ, i64_w, i32_w]
               rfl
              refine one_ (i := 9) (N := some 51) #[true, true, true, true, true, true, true, true, true, true, false, false, false, false, false] rfl rfl (one_of HT_.out oK) oD (fun K hK => ?_)
              refine goes_ Try.func56 oK rfl #[.pointer (some ⟨g, 0, none⟩), .int .i64 2] (by rfl) rfl rfl oA ?_
              with_reducible refine (spec_l20Rd_pick.calls k1 g s0_0 t187 2 t191 t192 w0 _ ?side1 ?side2 A110.out).mono ?_
              (case side1 => exact oI72 HI0)
              (case side2 => exact oH HB (IsS72.ge HI0.out))
              rintro e w128 ⟨rfl, hi, hb, hk⟩
              refine ⟨_, rfl, ?_⟩
              have n_ := o2_ (Kd.Q_mono (Kd.Q_keep (IsS72.apartQ (show IsS72 w0 _ g s0_0 t187 from oI72 HI0) (oQ HO_148002) oD) hk (fun _ h => h.2)) (fun _ h => h.1)) (o2_ (oJ hk BK142 NB142_0) (o2_ (oJ hk BK147 NB147_0) (o2_ (oJ hk BK153 NB153_0) (o2_ (Kd.R_mono (Kd.R_keep (IsS72.apart (show IsS72 w0 _ g s0_0 t187 from oI72 HI0) (oR HO190) oD) hk (fun _ h => h.2)) (fun _ h => h.1)) (o2_ (KeepBut.trans (oE HK) hk (.inl rfl)) (o2_ (hb) (o1_ (hi))))))))
              clear HO_148002 BK142 BK147 BK153 HO190 HK HB HI0
              obtain ⟨HO_148002, BK142, BK147, BK153, HO190, HK, HB, HI0⟩ := n_
              (try clear hb)
              (try clear hb2)
              (try clear hk)
              (try clear hi)
              refine hK.out _ _ ⟨(blk_cell BK147.out 0).trans rfl, (blk_cell BK147.out 1).trans rfl, (blk_cell BK147.out 2).trans rfl⟩ (fun hHeld => ?_)
              clear hK K
              refine norm_ (a' := ?_) ?_ ?_
              rotate_left
              ·show Act.put _ (some 51) _ = _
               simp only [Act.put, List.setIfInBounds_toArray, List.set_cons_zero, List.set_cons_succ, i64_w, i32_w]
               rfl
              exact norm_ (by simp only [putAll, Act.put, List.setIfInBounds_toArray, List.set_cons_zero, List.set_cons_succ]) (hCont (.slice (some ado126) y188.length co126, ado126) _ ⟨hHeld, (oR HO190), (oQ HO_148002), ⟨_, rfl⟩, (oP BK142), (oP BK147), (oP BK153), (oI72 HI0), (oE HK), (oH HB (IsS72.ge HI0.out))⟩)
            rintro ⟨v189, adz_v189⟩ w129 ⟨hS_, h0_, h1_, h2_, h3_, h4_, h5_, h6_, h7_, h8_⟩
            have n0_ : Aside0 (Kd.R (Kd.int .i64) 3 w129 w.heap.size (fun _ => True) v189 y188) := ⟨h0_⟩
            have n1_ : Aside0 (Kd.Q k38 38 w129 w.heap.size (fun k_ => k_ ≠ gb153) (.slice Ao123 x148002_1.length co123) x148002_1) := ⟨h1_⟩
            have n2_ : Aside0 (∃ c_, (v189 : Value) = .slice (some adz_v189) y188.length c_) := ⟨h2_⟩
            have n3_ : Aside0 (w129.heap[gb142]? = some (.cells #[.int .i64 0, .int .i64 0, .slice none 0 0] 25 (0, 0))) := ⟨h3_⟩
            have n4_ : Aside0 (w129.heap[gb147]? = some (.cells #[.int .i64 (wrap64 (1 + t143)), .int .i64 (wrap64 (1 + t145)), .slice Ao123 x148002_1.length co123] 25 (0, 0))) := ⟨h4_⟩
            have n5_ : Aside0 (w129.heap[gb153]? = some (.cells #[.int .i64 x154000_1, .int .i64 x154001_1, .int .i64 x154002_1, .int .i64 x154003_1] 38 (0, 0))) := ⟨h5_⟩
            have n6_ : Aside0 (IsS72 w0 w129 g s0_0 t192) := ⟨h6_⟩
            have n7_ : Aside0 (KeepBut w w129 g none) := ⟨h7_⟩
            have n8_ : Aside0 (Below w0.heap.size w0 w129) := ⟨h8_⟩
            clear HO_148002
            clear BK142
            clear BK147
            clear BK153
            clear HI0
            clear HK
            clear HB
            clear h0_ h1_ h2_ h3_ h4_ h5_ h6_ h7_ h8_
            have HO190 := n0_
            have HO_148002 := n1_
            have HA_HO190 := n2_
            have BK142 := n3_
            have BK147 := n4_
            have BK153 := n5_
            have HI0 := n6_
            have HK := n7_
            have HB := n8_
            clear n0_ n1_ n2_ n3_ n4_ n5_ n6_ n7_ n8_
            have hHeld : w129.cell? ⟨gb147, 0, none⟩ = some (.int .i64 (wrap64 (1 + t143))) ∧ w129.cell? ⟨gb147, 1, none⟩ = some (.int .i64 (wrap64 (1 + t145))) ∧ w129.cell? ⟨gb147, 2, none⟩ = some (.slice Ao123 x148002_1.length co123) := hS_
            obtain ⟨co130, eo130⟩ := HA_HO190.out
            clear HA_HO190
            subst eo130
            have p115 : 0 ≤ (t186 : Int) := of_decide_eq_true oM
            have q115 : (t186 : Int) < ((x148002_1.length : Int) : Int) := of_decide_eq_true oM
            obtain ⟨go115, oo115, co115, eo115, gb115, gl115, cl115, HG115⟩ := Kd.Q_form HO_148002.out (by omega)
            (first | cases eo115 | (injection eo115 with ea_ en_ ec_; (first | subst ea_ | (injection ea_ with ea_; subst ea_)); subst ec_; clear en_))
            have GB115 := Aside0.mk gb115
            have GG115 := Aside0.mk HG115
            clear gb115 gl115 HG115
            obtain ⟨ce115, hcl115, hM115, hcc115, hfr115⟩ := Kd.Q_elem HO_148002.out z38 (t186 : Int) p115 q115
            obtain rfl := k38_openM hM115
            have hx115_0 : World.cell? _ ⟨go115, oo115 + (t186 : Int).toNat * 4, none⟩ = some (.int .i64 ((rd_T38 x148002_1 t186).f0)) := hcc115 0 _ rfl
            have hx115_1 : World.cell? _ ⟨go115, oo115 + (t186 : Int).toNat * 4 + 1, none⟩ = some (.int .i64 ((rd_T38 x148002_1 t186).f1)) := hcc115 1 _ rfl
            have hx115_2 : World.cell? _ ⟨go115, oo115 + (t186 : Int).toNat * 4 + 2, none⟩ = some (.int .i64 ((rd_T38 x148002_1 t186).f2)) := hcc115 2 _ rfl
            have hx115_3 : World.cell? _ ⟨go115, oo115 + (t186 : Int).toNat * 4 + 3, none⟩ = some (.int .i64 ((rd_T38 x148002_1 t186).f3)) := hcc115 3 _ rfl
            have hf115_0 : World.frozen? _ ⟨go115, oo115 + (t186 : Int).toNat * 4, none⟩ = false := hfr115 0
            have hf115_1 : World.frozen? _ ⟨go115, oo115 + (t186 : Int).toNat * 4 + 1, none⟩ = false := hfr115 1
            have hf115_2 : World.frozen? _ ⟨go115, oo115 + (t186 : Int).toNat * 4 + 2, none⟩ = false := hfr115 2
            have hf115_3 : World.frozen? _ ⟨go115, oo115 + (t186 : Int).toNat * 4 + 3, none⟩ = false := hfr115 3
            clear hcl115 hcc115 hfr115 hM115
            replace p115 := eq_true p115
            replace q115 := eq_true q115
            have HN0_go115 := Aside0.mk (show g ≠ go115 from by have h_ := IsS72.own_neQ HI0.out HO_148002.out oD; intro e_; exact h_ (by rw [e_]; rfl))
            obtain ⟨ce131, hcl131, hM131, hcc131, hfr131⟩ := Kd.Q_elem HO_148002.out z38 (t186 : Int) (of_decide_eq_true oM) (by have h_ : (t186 : Int) < ((x148002_1.length : Int) : Int) := of_decide_eq_true oM; first | exact h_ | (have e_ := (Kd.Q_reads' HO_148002.out).1; omega) | simpa using h_)
            obtain rfl := k38_openM hM131
            have HP131 := (Kd.Q_seg HO_148002.out (t186 : Int) (of_decide_eq_true oM) (by have h_ : (t186 : Int) < ((x148002_1.length : Int) : Int) := of_decide_eq_true oM; first | exact h_ | (have e_ := (Kd.Q_reads' HO_148002.out).1; omega) | simpa using h_) (seg := [.int .i64 (rd y188 t191)]) (j := 1) hcl131 hcc131 (show 2 ≤ 4 from by decide) (x' := (⟨(rd_T38 x148002_1 t186).f0, rd y188 t191, (rd_T38 x148002_1 t186).f2, (rd_T38 x148002_1 t186).f3⟩ : S38)) (k38_mkM _ _ _ (⟨(rd_T38 x148002_1 t186).f0, rd y188 t191, (rd_T38 x148002_1 t186).f2, (rd_T38 x148002_1 t186).f3⟩ : S38) ) (fun _ hk => hk)).1
            rw [← Ny194.out] at HP131
            have HQ131 := Aside0.mk HP131
            clear hcl131 hcc131 hfr131 hM131 HP131
            refine norm_ (a' := ?_) ?_ ?_
            rotate_left
            ·simp only [putAll, Act.put, List.setIfInBounds_toArray, List.set_cons_zero, List.set_cons_succ]
             rfl
            refine pure_ (i := 10) (N := some 52) (v := ?_) (a' := ?_) #[true, true, true, true, true, true, true, true, true, true, true, false, false, false, false] rfl rfl (any_of HT_.out oK) (fun _ _ _ h => h) (Or.inl ⟨by rfl, ?_⟩) ?_ ?_
            rotate_left
            ·intro w'
             go_simp
             with_reducible rfl
            rotate_left
            ·simp only [Act.put, List.setIfInBounds_toArray, List.set_cons_zero, List.set_cons_succ, i64_w, i32_w]
             rfl
            refine one_ (i := 11) (N := some 53) #[true, true, true, true, true, true, true, true, true, true, true, true, false, false, false] rfl rfl (one_of HT_.out oK) oD (fun K hK => ?_)
            (have p193 : 0 ≤ (t191 : Int) := of_decide_eq_true oM; have q193 : t191 < (y188.length : Int) := of_decide_eq_true oM; obtain ⟨ad193, e193, hx193_0⟩ := Kd.at_int (Kd.R_reads' HO190.out).2.2 t191 p193 q193; obtain rfl : adz_v189 = ad193 := (by injection e193))
            refine value_ (w1 := ?_) (v := ?_) (by rfl) rfl ?_ ?_
            rotate_left 2
            ·go_simp
             constructor
             ·rfl
             ·rfl
            clear hx193_0
            refine hK.out _ _ ⟨(blk_cell BK147.out 0).trans rfl, (blk_cell BK147.out 1).trans rfl, (blk_cell BK147.out 2).trans rfl⟩ (fun hHeld => ?_)
            clear hK K
            refine norm_ (a' := ?_) ?_ ?_
            rotate_left
            ·show Act.put _ (some 53) _ = _
             simp only [Act.put, List.setIfInBounds_toArray, List.set_cons_zero, List.set_cons_succ, i64_w, i32_w]
             rfl
            refine pure_ (i := 12) (N := some 54) (v := ?_) (a' := ?_) #[true, true, true, true, true, true, true, true, true, true, true, true, true, false, false] rfl rfl (any_of HT_.out oK) (fun _ _ _ h => h) (Or.inl ⟨by rfl, ?_⟩) ?_ ?_
            rotate_left
            ·intro w'
             go_simp
             with_reducible rfl
            rotate_left
            ·simp only [Act.put, List.setIfInBounds_toArray, List.set_cons_zero, List.set_cons_succ, i64_w, i32_w]
             rfl
            refine pure_ (i := 13) (N := some 55) (v := ?_) (a' := ?_) #[true, true, true, true, true, true, true, true, true, true, true, true, true, true, false] rfl rfl (any_of HT_.out oK) (fun _ _ _ h => h) (Or.inl ⟨by rfl, ?_⟩) ?_ ?_
            rotate_left
            ·intro w'
             go_simp
             with_reducible rfl
            rotate_left
            ·simp only [Act.put, List.setIfInBounds_toArray, List.set_cons_zero, List.set_cons_succ, i64_w, i32_w]
             rfl
            refine last_ (i := 14) (N := none) #[true, true, true, true, true, true, true, true, true, true, true, true, true, true, true] rfl rfl (one_of HT_.out oK) oD (fun K hK => ?_)
            refine skip_ (w1 := ?_) (by rfl) rfl ?_ ?_
            rotate_left
            ·go_simp
             rfl
            refine hK.out _ _ ?_
            clear hK K
            refine done_ (done_of HT_.out oK) ?_
            have n0_ : Aside0 (Kd.Q k38 38 (w129.setCell ⟨go115, oo115 + (t186 : Int).toNat * 4 + 1, none⟩ (.int .i64 (rd y188 t191))) w.heap.size (fun k_ => k_ ≠ gb153) (.slice (some ⟨go115, oo115, none⟩) x148002_1.length co123) y194) := ⟨(oQ HQ131)⟩
            have n1_ : Aside0 (Kd.R (Kd.int .i64) 3 (w129.setCell ⟨go115, oo115 + (t186 : Int).toNat * 4 + 1, none⟩ (.int .i64 (rd y188 t191))) w.heap.size (fun _ => True) (.slice (some adz_v189) y188.length co130) y188) := ⟨(by (with_reducible repeat (first | apply Kd.R_alloc | apply Kd.R_drewN | apply Kd.R_drew)); exact Kd.R_mono (Kd.R_far (p := ⟨go115, oo115 + (t186 : Int).toNat * 4 + 1, none⟩) (Kd.R_types HO190.out GG115.out oD) (fun _ hk => hk.2) (.int .i64 (rd y188 t191))) (fun _ hk => trivial))⟩
            have n2_ : Aside0 ((w129.setCell ⟨go115, oo115 + (t186 : Int).toNat * 4 + 1, none⟩ (.int .i64 (rd y188 t191))).heap[gb142]? = some (.cells #[.int .i64 0, .int .i64 0, .slice none 0 0] 25 (0, 0))) := ⟨(by (with_reducible repeat (first | refine blk_drewN ?_ _ | refine blk_drew ?_ | refine blk_alloc ?_ _)); refine blk_far ?_ (by have h_ := Kd.Q_ne HO_148002.out BK142.out oD; intro e_; exact h_ (by rw [e_]; rfl)) _; (with_reducible repeat (first | refine blk_drewN ?_ _ | refine blk_drew ?_ | refine blk_alloc ?_ _)); exact BK142.out)⟩
            have n3_ : Aside0 ((w129.setCell ⟨go115, oo115 + (t186 : Int).toNat * 4 + 1, none⟩ (.int .i64 (rd y188 t191))).heap[gb147]? = some (.cells #[.int .i64 (wrap64 (1 + t143)), .int .i64 (wrap64 (1 + t145)), .slice (some ⟨go115, oo115, none⟩) x148002_1.length co123] 25 (0, 0))) := ⟨(by (with_reducible repeat (first | refine blk_drewN ?_ _ | refine blk_drew ?_ | refine blk_alloc ?_ _)); refine blk_far ?_ (by have h_ := Kd.Q_ne HO_148002.out BK147.out oD; intro e_; exact h_ (by rw [e_]; rfl)) _; (with_reducible repeat (first | refine blk_drewN ?_ _ | refine blk_drew ?_ | refine blk_alloc ?_ _)); exact BK147.out)⟩
            have n4_ : Aside0 ((w129.setCell ⟨go115, oo115 + (t186 : Int).toNat * 4 + 1, none⟩ (.int .i64 (rd y188 t191))).heap[gb153]? = some (.cells #[.int .i64 x154000_1, .int .i64 x154001_1, .int .i64 x154002_1, .int .i64 x154003_1] 38 (0, 0))) := ⟨(by (with_reducible repeat (first | refine blk_drewN ?_ _ | refine blk_drew ?_ | refine blk_alloc ?_ _)); refine blk_far ?_ (by have h_ := Kd.Q_away HO_148002.out (fun _ hk => hk); intro e_; exact h_ (by rw [e_]; rfl)) _; (with_reducible repeat (first | refine blk_drewN ?_ _ | refine blk_drew ?_ | refine blk_alloc ?_ _)); exact BK153.out)⟩
            have n5_ : Aside0 (IsS72 w0 (w129.setCell ⟨go115, oo115 + (t186 : Int).toNat * 4 + 1, none⟩ (.int .i64 (rd y188 t191))) g s0_0 t192) := ⟨(by repeat (first | (with_reducible first | exact HI0.out | apply IsS72.alloc | apply IsS72.drewN | apply IsS72.drew | apply IsS72.set_1 | refine IsS72.far ?_ HN0_go115.out _ | refine IsS72.far ?_ NB0_142.out _ | refine IsS72.far ?_ NB0_147.out _ | refine IsS72.far ?_ NB0_153.out _) | exact HI0.out))⟩
            have n6_ : Aside0 (KeepBut w (w129.setCell ⟨go115, oo115 + (t186 : Int).toNat * 4 + 1, none⟩ (.int .i64 (rd y188 t191))) g none) := ⟨(oE HK)⟩
            have n7_ : Aside0 (Below w0.heap.size w0 (w129.setCell ⟨go115, oo115 + (t186 : Int).toNat * 4 + 1, none⟩ (.int .i64 (rd y188 t191)))) := ⟨(by repeat (first | (with_reducible first | exact HB.out | apply below_alloc | apply pw_below_drewN | apply below_drew1 | refine below_set ?_ (Nat.le_trans HL.out GB115.out) | refine below_set ?_ (IsS72.ge HI0.out) | refine below_set ?_ GE142.out | refine below_set ?_ GE147.out | refine below_set ?_ GE153.out) | exact HB.out))⟩
            (try clear HO_148002)
            (try clear HO190)
            (try clear BK142)
            (try clear BK147)
            (try clear BK153)
            (try clear HI0)
            (try clear HK)
            (try clear HB)
            generalize (w129.setCell ⟨go115, oo115 + (t186 : Int).toNat * 4 + 1, none⟩ (.int .i64 (rd y188 t191))) = w132 at n0_ n1_ n2_ n3_ n4_ n5_ n6_ n7_ ⊢
            have HO_148002 := n0_
            have HO190 := n1_
            have BK142 := n2_
            have BK147 := n3_
            have BK153 := n4_
            have HI0 := n5_
            have HK := n6_
            have HB := n7_
            clear n0_ n1_ n2_ n3_ n4_ n5_ n6_ n7_
            have hcz133_0 : w132.cell? ⟨gb147, 0, none⟩ = some (.int .i64 (wrap64 (1 + t143))) := (blk_cell BK147.out 0).trans rfl
            have hcz133_1 : w132.cell? ⟨gb147, 1, none⟩ = some (.int .i64 (wrap64 (1 + t145))) := (blk_cell BK147.out 1).trans rfl
            have hcz133_2 : w132.cell? ⟨gb147, 2, none⟩ = some (.slice (some ⟨go115, oo115, none⟩) x148002_1.length co123) := (blk_cell BK147.out 2).trans rfl
            have hfz133_0 := blk_frozen BK147.out 0
            have hfz133_1 := blk_frozen BK147.out 1
            have hfz133_2 := blk_frozen BK147.out 2
            have hnb134 := NB142_153.out
            have hnc134 := NB153_142.out
            have hnb135 := NB142_0.out
            have hnc135 := NB0_142.out
            have hcz136_0 : w132.cell? ⟨gb142, 0, none⟩ = some (.int .i64 0) := (blk_cell BK142.out 0).trans rfl
            have hcz136_1 : w132.cell? ⟨gb142, 1, none⟩ = some (.int .i64 0) := (blk_cell BK142.out 1).trans rfl
            have hcz136_2 : w132.cell? ⟨gb142, 2, none⟩ = some (.slice none 0 0) := (blk_cell BK142.out 2).trans rfl
            have hfz136_0 := blk_frozen BK142.out 0
            have hfz136_1 := blk_frozen BK142.out 1
            have hfz136_2 := blk_frozen BK142.out 2
            try go_wp2
            refine bodyPost_ret (results_cell_row rfl _ _ gb142 25 #[.int .i64 (wrap64 (1 + t143)), .int .i64 (wrap64 (1 + t145)), .slice (some ⟨go115, oo115, none⟩) x148002_1.length co123] (0, 0) _ rfl (blk_put (blk_put (blk_put BK142.out 0 _ rfl) 1 _ rfl) 2 _ rfl) Try.underlying25 rfl oK) rfl ?_
            exact ⟨_, by first | rfl | (simp [errW_none, errW_some] <;> rfl) | (simp [*, errW_none, errW_some] <;> rfl), by (with_reducible repeat (first | apply Kd.Q_alloc | apply Kd.Q_drewN | apply Kd.Q_drew)); exact Kd.Q_mono (Kd.Q_far (p := ⟨gb142, 2, none⟩) (Kd.Q_far (p := ⟨gb142, 1, none⟩) (Kd.Q_far (p := ⟨gb142, 0, none⟩) (Kd.Q_types HO_148002.out BK142.out oD) (fun _ hk => hk.2) (.int .i64 (wrap64 (1 + t143)))) (fun _ hk => hk.2) (.int .i64 (wrap64 (1 + t145)))) (fun _ hk => hk.2) (.slice (some ⟨go115, oo115, none⟩) x148002_1.length co123)) (fun _ hk => trivial), oI72 HI0, oH HB (IsS72.ge HI0.out), oE HK⟩
           ·rw [if_neg c114] at H
            exact absurd H (by simp)
          ·rw [if_neg c113] at H
           exact absurd H (by simp)
         ·rw [if_neg c112] at H
          exact absurd H (by simp)
        ·rw [if_neg c111] at H
         exact absurd H (by simp)
    ·replace c51 := Bool.eq_false_iff.mpr c51
     subst c51
     rw [if_neg (show ¬ (false = true) by decide)] at H
     simp only [Option.some.injEq, Prod.mk.injEq] at H
     obtain ⟨rfl, rfl, rfl, rfl⟩ := H
     have hnb137 := NB147_142.out
     have hnc137 := NB142_147.out
     have hnb138 := NB147_153.out
     have hnc138 := NB153_147.out
     have hnb139 := NB147_0.out
     have hnc139 := NB0_147.out
     have hcz140_0 : wr.cell? ⟨gb147, 0, none⟩ = some (.int .i64 (wrap64 (1 + t143))) := (blk_cell BK147.out 0).trans rfl
     have hcz140_1 : wr.cell? ⟨gb147, 1, none⟩ = some (.int .i64 (wrap64 (1 + t145))) := (blk_cell BK147.out 1).trans rfl
     have hcz140_2 : wr.cell? ⟨gb147, 2, none⟩ = some (u148002) := (blk_cell BK147.out 2).trans rfl
     have hfz140_0 := blk_frozen BK147.out 0
     have hfz140_1 := blk_frozen BK147.out 1
     have hfz140_2 := blk_frozen BK147.out 2
     go_wp2_with (first | ((with_reducible refine gate_callee (f := 67) rfl ?_); refine goesL_ (some 39) rfl rfl Try.func67 oK rfl #[.pointer (some ⟨g, 0, none⟩), .int .i64 a1] rfl oA ?_; (with_reducible refine (spec_l20Rd_odd.calls k1 g s0_0 x1001_1 a1 false t168 w0 _ ?side1 ?side2 A50.out).mono ?_); (case side1 => exact oI72 HI0); (case side2 => exact oH HB (IsS72.ge HI0.out)); rintro e w141 ⟨rfl, hi, hb, hk⟩; refine ⟨_, rfl, ?_⟩; have n_ := o2_ (Kd.Q_mono (Kd.Q_keep (IsS72.apartQ (show IsS72 w0 _ g s0_0 x1001_1 from oI72 HI0) (oQ HO_148002) oD) hk (fun _ h => h.2)) (fun _ h => h.1)) (o2_ (oJ hk BK142 NB142_0) (o2_ (oJ hk BK147 NB147_0) (o2_ (KeepBut.trans (oE HK) hk (.inl rfl)) (o2_ (hb) (o1_ (hi)))))); clear HO_148002 BK142 BK147 HK HB HI0; obtain ⟨HO_148002, BK142, BK147, HK, HB, HI0⟩ := n_; (try clear hb); (try clear hb2); (try clear hk); (try clear hi); have hcz142_0 : w141.cell? ⟨gb147, 0, none⟩ = some (.int .i64 (wrap64 (1 + t143))) := (blk_cell BK147.out 0).trans rfl; have hcz142_1 : w141.cell? ⟨gb147, 1, none⟩ = some (.int .i64 (wrap64 (1 + t145))) := (blk_cell BK147.out 1).trans rfl; have hcz142_2 : w141.cell? ⟨gb147, 2, none⟩ = some (u148002) := (blk_cell BK147.out 2).trans rfl; have hfz142_0 := blk_frozen BK147.out 0; have hfz142_1 := blk_frozen BK147.out 1; have hfz142_2 := blk_frozen BK147.out 2; have hnb143 := NB142_153.out; have hnc143 := NB153_142.out; have hnb144 := NB142_0.out; have hnc144 := NB0_142.out; have hcz145_0 : w141.cell? ⟨gb142, 0, none⟩ = some (.int .i64 0) := (blk_cell BK142.out 0).trans rfl; have hcz145_1 : w141.cell? ⟨gb142, 1, none⟩ = some (.int .i64 0) := (blk_cell BK142.out 1).trans rfl; have hcz145_2 : w141.cell? ⟨gb142, 2, none⟩ = some (.slice none 0 0) := (blk_cell BK142.out 2).trans rfl; have hfz145_0 := blk_frozen BK142.out 0; have hfz145_1 := blk_frozen BK142.out 1; have hfz145_2 := blk_frozen BK142.out 2; obtain ⟨Ao146, co146, eo146, _⟩ := Kd.Q_slice HO_148002.out; subst eo146))
     refine bodyPost_ret (results_cell_row rfl _ _ gb142 25 #[.int .i64 (wrap64 (1 + t143)), .int .i64 (wrap64 (1 + t145)), .slice Ao146 x148002_1.length co146] (0, 0) _ rfl (blk_put (blk_put (blk_put BK142.out 0 _ rfl) 1 _ rfl) 2 _ rfl) Try.underlying25 rfl oK) rfl ?_
     exact ⟨_, by first | rfl | (simp [errW_none, errW_some] <;> rfl) | (simp [*, errW_none, errW_some] <;> rfl), by (with_reducible repeat (first | apply Kd.Q_alloc | apply Kd.Q_drewN | apply Kd.Q_drew)); exact Kd.Q_mono (Kd.Q_far (p := ⟨gb142, 2, none⟩) (Kd.Q_far (p := ⟨gb142, 1, none⟩) (Kd.Q_far (p := ⟨gb142, 0, none⟩) (Kd.Q_types HO_148002.out BK142.out oD) (fun _ hk => hk.2) (.int .i64 (wrap64 (1 + t143)))) (fun _ hk => hk.2) (.int .i64 (wrap64 (1 + t145)))) (fun _ hk => hk.2) (.slice Ao146 x148002_1.length co146)) (fun _ hk => trivial), oI72 HI0, oH HB (IsS72.ge HI0.out), oE HK⟩

end Go.Proofs.Ythnmeogafklhnaa.X
